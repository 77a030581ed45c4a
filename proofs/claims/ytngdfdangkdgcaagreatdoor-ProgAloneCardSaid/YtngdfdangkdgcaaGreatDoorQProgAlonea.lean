/- What the proof of ProgAlone needs, part 1: plain lemmas, and what each function does. -/
import Derived.WalkKit
import Derived.Deep.Draws
import Derived.Deep.LoopGhost
import Derived.Deep.MidRow
import Derived.Lib.FrozenHead
import Derived.Laws.IdiomStrings
import Derived.Laws.MakeOwn
import Derived.ProofKit
import Derived.OpenShut
import Derived.JoinedCond
import Derived.Carry
import Derived.KernelRfl
import Derived.Laws.Strings2
import Derived.Test.YtngdfdangkdgcaaGreatDoorProg
set_option linter.unusedVariables false
set_option linter.unusedSimpArgs false
set_option linter.unnecessarySimpa false
set_option maxRecDepth 100000
set_option maxHeartbeats 4000000
namespace Go
abbrev Value.iz(n:Int):Value:=.int .i64 n
abbrev Value.pz(b:Nat):Value:=.pointer (some ⟨b,0,none⟩)
abbrev sQ(b:Nat):Option Addr:=some ⟨b,0,none⟩
abbrev V0:Value:=Value.int .i64 0
abbrev V1:Value:=Value.slice none 0 0
abbrev V2:Value:=Value.bool false
abbrev V3:Value:=Value.pointer none
abbrev V4:Value:=Value.int .u64 0
abbrev V5:Value:=Value.int .u8 0
abbrev V6:Value:=Value.string ByteArray.empty
abbrev Ua:=@List.length_append
abbrev Ub:=@List.getElem?_eq_getElem
abbrev Uc:=@List.getElem?_eq_some_iff
abbrev Ud:=@List.mem_cons_self
abbrev Ue:=@List.mem_of_getElem?
abbrev Uf:=@Nat.zero_le
abbrev Ug:=@Nat.le_refl
abbrev Uh:=@List.mem_cons_of_mem
abbrev Ui:=@List.flatMap_cons
abbrev Uj:=@List.length_cons
abbrev Uk:=@Option.some.inj
abbrev Ul:=@List.length_take
abbrev Um:=@List.length_drop
abbrev Un:=@Nat.mod_eq_of_lt
abbrev Uo:=@List.append_assoc
abbrev Up:=@List.mem_cons
abbrev Uq:=@List.eq_nil_of_length_eq_zero
abbrev Ur:=@Bool.and_eq_true
abbrev Us:=@List.nil_append
abbrev Ut:=@Int.le_refl
abbrev Uu:=@List.take_of_length_le
abbrev Uv:=@Nat.mul_le_mul_right
abbrev Uw:=@Nat.le_trans
abbrev Ux:=@List.append_nil
abbrev Uy:=@List.map_cons
abbrev Uz:=@Nat.zero_add
abbrev Va:=@List.mem_map
abbrev Vb:=@List.getElem?_map
abbrev Vc:=@List.mem_append
abbrev Vd:=@List.length_set
abbrev Ve:=@Option.map_eq_some_iff
abbrev Vf:=@List.length_map
abbrev Vg:=@Nat.eq_of_beq_eq_true
abbrev Vh:=@List.set_cons_zero
abbrev Vi:=@List.mem_singleton
abbrev Vj:=@Nat.add_mul
abbrev Vk:=@List.take_add_one
abbrev Vl:=@List.mem_of_mem_take
abbrev Vm:=@Nat.pow_le_pow_right
abbrev Vn:=@Nat.min_eq_left
abbrev Vo:=@List.map_append
abbrev Vp:=@Int.not_lt
abbrev Vq:=@List.getElem?_eq_none
abbrev Vr:=@Option.some.injEq
abbrev Vs:=@List.set_cons_succ
abbrev Vt:=@Bool.false_ne_true
abbrev Vu:=@List.take_succ_cons
abbrev Vv:=@List.drop_eq_nil_of_le
abbrev Vw:=@Nat.mod_lt
abbrev Vx:=@List.drop_eq_getElem_cons
abbrev Vy:=@List.length_pos_iff
abbrev Vz:=@List.filter_cons
abbrev Wa:=@List.nodup_cons
abbrev Wb:=@Nat.eq_zero_or_pos
abbrev Wc:=@List.countP_le_length
abbrev Wd:=@Int.le_trans
abbrev We:=@List.mem_iff_getElem?
abbrev Wg:=@List.drop_succ_cons
abbrev Wh:=@List.getElem?_append_left
abbrev Wi:=@Bool.not_eq_true'
abbrev Wj:=@Option.isSome_iff_exists
abbrev Wk:=@Nat.le_of_ble_eq_true
abbrev Wl:=@List.length_filter_le
abbrev Wm:=@Nat.mul_comm
abbrev Wo:=@List.cons_append
abbrev Wp:=@List.getElem?_set_self
abbrev Wq:=@Nat.two_pow_pos
abbrev Wr:=@List.countP_cons
abbrev Ws:=@Nat.add_zero
abbrev Wt:=@List.getElem?_append_right
abbrev Wu:=@Nat.xor_lt_two_pow
abbrev Wv:=@List.mem_of_mem_drop
abbrev Ww:=@Option.map_some
abbrev Wx:=@List.all_eq_true
abbrev Wy:=@Nat.add_comm
abbrev Wz:=@Nat.lt_succ_self
abbrev Xa:=@List.take_length
abbrev Xb:=@List.mem_or_eq_of_mem_set
abbrev Xc:=@Classical.byContradiction
abbrev Xd:=@List.size_toArray
abbrev Xe:=@List.mem_of_mem_erase
abbrev Xf:=@List.length_erase_of_mem
abbrev Xg:=@List.drop_zero
abbrev Xh:=@Nat.lt_of_le_of_lt
abbrev Xi:=@Bool.false_eq_true
abbrev Xj:=@List.getElem?_cons_zero
abbrev Xk:=@List.mem_flatMap
abbrev Xl:=@List.map_toArray
abbrev Xm:=@List.eraseIdx_cons_succ
abbrev Xn:=@List.take_zero
abbrev Xo:=@List.findIdx_le_length
abbrev Xp:=@List.flatMap_append
abbrev Xq:=@List.countP_pos_iff
abbrev Xr:=@List.length_nil
abbrev Xs:=@List.take_append_drop
abbrev Xt:=@Nat.lt_of_lt_of_le
abbrev Xu:=@Nat.blt_eq
abbrev Xv:=@Nat.sub_self
abbrev Xw:=@List.take_append_of_le_length
abbrev Xx:=@Nat.add_sub_cancel_left
abbrev Xy:=@List.mem_filter
abbrev Xz:=@List.drop_of_length_le
abbrev Za:=@Nat.pow_add
abbrev Zb:=@List.not_mem_nil
abbrev Zc:=@Int.fdiv_eq_ediv_of_nonneg
abbrev Zd:=@List.length_eraseIdx_of_lt
abbrev Ze:=@List.append_ne_nil_of_right_ne_nil
abbrev Zf:=@List.length_replicate
abbrev Zg:=@List.length_singleton
abbrev Zh:=@List.eraseIdx_sublist
abbrev Zi:=@List.set_eq_take_append_cons_drop
abbrev Zj:=@List.findIdx?_eq_some_iff_getElem
abbrev Zk:=@Nat.lt_or_ge
abbrev Zl:=@Bool.or_eq_false_iff
abbrev Zm:=@List.map_set
abbrev Zn:=@List.findIdx_cons
abbrev Zo:=@Int.toNat_of_nonneg
abbrev Zp:=@List.replicate_succ
abbrev Zq:=@List.getElem_mem
abbrev Zr:=@List.getElem?_cons_succ
abbrev Zs:=@List.drop_append
abbrev Zt:=@List.take_append
abbrev Zu:=@List.getElem?_take
abbrev Zv:=@Nat.succ_mul
abbrev Zw:=@List.mem_replicate
abbrev Zx:=@Bool.eq_iff_iff
abbrev Zy:=@Nat.div_lt_iff_lt_mul
abbrev Zz:=@Int.toNat_natCast
abbrev Ka:=@List.ext_getElem?
abbrev Kb:=@List.getElem?_set
abbrev Kc:=@List.getD_eq_getElem?_getD
abbrev Kd:=@Int.tmod_eq_emod_of_nonneg
abbrev Ke:=@Nat.mul_le_mul
abbrev Kf:=@List.take_take
abbrev Kg:=@List.drop_left
abbrev Kh:=@List.take_left
abbrev Ki:=@List.nodup_nil
abbrev Kj:=@List.pairwise_append
abbrev Kk:=@Nat.add_right_cancel
abbrev Kl:=@Nat.blt
abbrev Km:=@List.drop_length
abbrev Kn:=@List.set_set
abbrev Ko:=@Bool.not_eq_true
theorem cI{p:Prop}(h:p:=by omega):p:=h
theorem gH{p:Prop}(h:p:=by dsimp only;omega):p:=h
theorem Cb{p:Prop}(h:p:=by(try dsimp only);omega):p:=h
theorem rD{p:Prop}(h:p:=by decide):p:=h
end Go
namespace Go
theorem gS{α0:Type}{a0:α0}{α1:Type}{a1:α1}:a0=a0∧a1=a1∧True:=⟨rfl,rfl,trivial⟩
theorem kK{α0:Type}{a0:α0}{α1:Type}{a1:α1}{α2:Type}{a2:α2}:a0=a0∧a1=a1∧a2=a2∧True:=⟨rfl,rfl,rfl,trivial⟩
theorem iA{α0:Type}{a0:α0}{α1:Type}{a1:α1}{α2:Type}{a2:α2}{α3:Type}{a3:α3}:a0=a0∧a1=a1∧a2=a2∧a3=a3∧True:=⟨rfl,rfl,rfl,rfl,trivial⟩
theorem pS{α0:Type}{a0:α0}{α1:Type}{a1:α1}{α2:Type}{a2:α2}{α3:Type}{a3:α3}{α4:Type}{a4:α4}:a0=a0∧a1=a1∧a2=a2∧a3=a3∧a4=a4∧True:=⟨rfl,rfl,rfl,rfl,rfl,trivial⟩
theorem kX{α0:Type}{a0:α0}{α1:Type}{a1:α1}{α2:Type}{a2:α2}{α3:Type}{a3:α3}{α4:Type}{a4:α4}{α5:Type}{a5:α5}:a0=a0∧a1=a1∧a2=a2∧a3=a3∧a4=a4∧a5=a5∧True:=⟨rfl,rfl,rfl,rfl,rfl,rfl,trivial⟩
theorem yQ{α0:Type}{a0:α0}{α1:Type}{a1:α1}{α2:Type}{a2:α2}{α3:Type}{a3:α3}{α4:Type}{a4:α4}{α5:Type}{a5:α5}{α6:Type}{a6:α6}:a0=a0∧a1=a1∧a2=a2∧a3=a3∧a4=a4∧a5=a5∧a6=a6∧True:=⟨rfl,rfl,rfl,rfl,rfl,rfl,rfl,trivial⟩
theorem IP{α0:Type}{a0:α0}{α1:Type}{a1:α1}{α2:Type}{a2:α2}{α3:Type}{a3:α3}{α4:Type}{a4:α4}{α5:Type}{a5:α5}{α6:Type}{a6:α6}{α7:Type}{a7:α7}:a0=a0∧a1=a1∧a2=a2∧a3=a3∧a4=a4∧a5=a5∧a6=a6∧a7=a7∧True:=⟨rfl,rfl,rfl,rfl,rfl,rfl,rfl,rfl,trivial⟩
end Go
namespace Go
theorem O0{p:Prop}(h:p:=by omega):p:=h
theorem O1{p:Prop}(h:p:=by kernel_rfl):p:=h
theorem O2{p:Prop}(h:p:=by decide):p:=h
theorem O3{p:Prop}(h:p:=by congr 1;rw[decide_eq_true_eq];omega):p:=h
theorem O4{p:Prop}(h:p:=by congr 1;rw[decide_eq_false_iff_not];omega):p:=h
theorem O5{p:Prop}(h:p:=by simp;omega):p:=h
theorem O6{p:Prop}(h:p:=by congr 1;rw[beq_eq_false_iff_ne];omega):p:=h
theorem O7{p:Prop}(h:p:=by simp):p:=h
theorem O8{p:Prop}(h:p:=by rw[wrap64 O0 O0];rfl):p:=h
theorem O9{p:Prop}(h:p:=by rw[wrap64 O0 O0];congr 1;omega):p:=h
theorem C8{p:Prop}(h:p:=by rw[wrap64 O0 O0];congr 1):p:=h
theorem C9{p:Prop}(h:p:=by unfold aP.Cc;omega):p:=h
theorem Ce{p:Prop}(h:p:=by rw[wrap64 O0 O0]):p:=h
theorem KM{p:Prop}(h:p:=by congr 1 <;> (rw[decide_eq_false_iff_not];omega)):p:=h
theorem HH{p:Prop}(h:p:=by congr 1;rw[beq_iff_eq];omega):p:=h
theorem yR{p:Prop}(h:p:=by assumption):p:=h
theorem KN{p:Prop}(h:p:=by congr 1;rw[beq_eq_false_iff_ne];exact h2):p:=h
theorem KO{p:Prop}(h:p:=by congr 1;rw[beq_eq_false_iff_ne];exact h1):p:=h
theorem Co{p:Prop}(h:p:=by simpa using h):p:=h
theorem DQ{p:Prop}(h:p:=by rw[<- mW];rfl):p:=h
theorem KP{p:Prop}(h:p:=by rw[zl,Un O0]):p:=h
theorem KQ{p:Prop}(h:p:=by congr 1;rw[beq_iff_eq];exact h2):p:=h
theorem KR{p:Prop}(h:p:=by congr 1;rw[beq_iff_eq];exact h1):p:=h
theorem KS{p:Prop}(h:p:=by congr 1;rw[wrap64 O0 O0];omega):p:=h
theorem KT{p:Prop}(h:p:=by rw[decide_eq_true_eq];exact hc):p:=h
theorem Np{p:Prop}(h:p:=by rw[Ua,Um,Cf];omega):p:=h
theorem GH{p:Prop}(h:p:=by dsimp only;omega):p:=h
theorem KU{p:Prop}(h:p:=by rw[Um];omega):p:=h
theorem Lt{p:Prop}(h:p:=by rw[um,UInt8.toNat_ofNat']):p:=h
theorem KV{p:Prop}(h:p:=by show s'.b.last<=_;omega):p:=h
theorem Nq{p:Prop}(h:p:=by congr 1;rw[beq_eq_false_iff_ne];exact h3):p:=h
theorem N9{p:Prop}(h:p:=by have:=(h.f 2).bU.elem gz hx 0 _ rfl;simpa using this):p:=h
theorem Lu{p:Prop}(h:p:=by rw[Ua];omega):p:=h
theorem Nr{p:Prop}(h:p:=by rw[decide_eq_false_iff_not];omega):p:=h
theorem ER{p:Prop}(h:p:=by simp[hx]):p:=h
theorem KW{p:Prop}(h:p:=by congr 1;simp;omega):p:=h
theorem Ns{p:Prop}(h:p:=by congr 1;rw[bne_iff_ne];exact h1):p:=h
theorem Nt{p:Prop}(h:p:=by congr 1;rw[beq_iff_eq];exact h3):p:=h
end Go
namespace Go.Hw
section
abbrev Hp:=Nat->Option Obj
abbrev aC:=Hp->Prop
def Hp.Cp(a b:Hp):Prop:=∀k,a k=none∨b k=none
def Hp.join(a b:Hp):Hp:=fun k=>(a k).or (b k)
def Hp.nil:Hp:=fun _=>none
theorem Hp.jF{a b:Hp}(h:Hp.Cp a b):Hp.Cp b a:=fun k=>(h k).symm
theorem Hp.join_comm{a b:Hp}(h:Hp.Cp a b):Hp.join a b=Hp.join b a:=by
 funext k;unfold Hp.join;rcases h k with h|h
 ·rw[h];cases b k <;> rfl
 ·rw[h];cases a k <;> rfl
theorem Hp.join_assoc(a b c:Hp):Hp.join (Hp.join a b) c=Hp.join a (Hp.join b c):=by
 funext k;unfold Hp.join;cases a k <;> rfl
theorem Hp.rE(a:Hp):Hp.join Hp.nil a=a:=by funext k;rfl
theorem Hp.join_none{a b:Hp}{k:Nat}:Hp.join a b k=none↔a k=none∧b k=none:=by
 unfold Hp.join;cases a k <;> simp
theorem Hp.pJ{a b c:Hp}:Hp.Cp a (Hp.join b c)↔Hp.Cp a b∧Hp.Cp a c:=by
 constructor
 ·intro h;exact⟨fun k=>(h k).imp id (fun h=>(Hp.join_none.1 h).1),fun k=>(h k).imp id (fun h=>(Hp.join_none.1 h).2)⟩
 ·rintro⟨h,g⟩ k;rcases h k with h|h
  ·exact .inl h
  ·exact(g k).imp id (fun g=>Hp.join_none.2 ⟨h,g⟩)
def emp:aC:=fun h=>h=Hp.nil
def star(P Q:aC):aC:=fun h=>∃a b,Hp.Cp a b∧h=Hp.join a b∧P a∧Q b
def all:List aC->aC
 |[]=>emp
 |P::l=>star P (all l)
def pt(b:Nat)(o:Obj):aC:=fun h=>h=fun k=>if k=b then some o else none
def ex{α:Type}(P:α->aC):aC:=fun h=>∃x,P x h
def lift(φ:Prop):aC:=fun h=>φ∧h=Hp.nil
theorem sq(P Q:aC):star P Q=star Q P:=by
 have aux:∀(P Q:aC) h,star P Q h->star Q P h:=by
  rintro P Q h ⟨a,b,hd,rfl,hp,hq⟩;exact⟨b,a,Hp.jF hd,Hp.join_comm hd,hq,hp⟩
 funext h;exact propext ⟨aux _ _ _,aux _ _ _⟩
theorem jl(P Q R:aC):star (star P Q) R=star P (star Q R):=by
 funext h;apply propext;constructor
 ·rintro⟨ab,c,hd,rfl,⟨a,b,hd',rfl,hp,hq⟩,hr⟩;have hd2:=Hp.pJ.1 (Hp.jF hd);exact⟨a,Hp.join b c,Hp.pJ.2 ⟨hd',Hp.jF hd2.1⟩,Hp.join_assoc a b c,hp,b,c,Hp.jF hd2.2,rfl,hq,hr⟩
 ·rintro⟨a,bc,hd,rfl,hp,b,c,hd',rfl,hq,hr⟩;have hd2:=Hp.pJ.1 hd;exact⟨Hp.join a b,c,Hp.jF (Hp.pJ.2 ⟨Hp.jF hd2.2,Hp.jF hd'⟩),(Hp.join_assoc a b c).symm,⟨a,b,hd2.1,rfl,hp,hq⟩,hr⟩
theorem uq(P Q R:aC):star P (star Q R)=star Q (star P R):=by
 rw[<- jl,sq P Q,jl]
theorem kr(P:aC):star emp P=P:=by
 funext h;apply propext;constructor
 ·rintro⟨a,b,_,rfl,ha,hp⟩;unfold emp at ha;subst ha;rw[Hp.rE];exact hp
 ·intro hp;exact⟨Hp.nil,h,fun _=>.inl rfl,(Hp.rE h).symm,rfl,hp⟩
instance:Std.Associative star:=⟨jl⟩
instance:Std.Commutative star:=⟨sq⟩
theorem vq(l m:List aC):all (l++m)=star (all l) (all m):=by
 induction l with
 |nil=>exact(kr _).symm
 |cons P l ih=>show star P (all (l++m))=_;rw[ih];exact(jl _ _ _).symm
def oD:Nat->List aC->List aC
 |0,l=>l
 |_+1,[]=>[]
 |k+1,P::l=>match oD k l with
  |[]=>[P]
  |Q::m=>Q::P::m
theorem yo(k:Nat):∀l,all (oD k l)=all l:=by
 induction k with
 |zero=>intro l;rfl
 |succ k ih=>
  intro l;cases l with
  |nil=>rfl
  |cons P l=>
   have:=ih l;simp only[oD];cases hb:oD k l with
   |nil=>rw[hb] at this;simp only[all] at this ⊢;rw[<- this]
   |cons Q m=>rw[hb] at this;simp only[all] at this ⊢;rw[<- this,uq]
structure St(w0:World)(l:List aC)(w:World):Prop where
 os:w.os=w0.os
 tape:w.tape=w0.tape
 output:w.output=w0.output
 size:w0.heap.size<=w.heap.size
 old:∀k,k<w0.heap.size->w.heap[k]?=w0.heap[k]?
 own:∃h:Hp,(∀k o,h k=some o->w.heap[k]?=some o∧w0.heap.size<=k)∧all l h
section
variable{w0 w w':World}{l m:List aC}{P Q:aC}
theorem St.init(w:World):St w [] w:=⟨rfl,rfl,rfl,Ug _,fun _ _=>rfl,Hp.nil,(fun _ _ h=>nomatch h),rfl⟩
theorem St.below(h:St w0 l w):RowKit.Below w0.heap.size w0 w:=⟨h.os,h.tape,h.output,h.size,h.old⟩
theorem St.eH(h:St w0 l w)(e:all l=all m):St w0 m w:=⟨h.os,h.tape,h.output,h.size,h.old,by rw[<- e];exact h.own⟩
theorem St.imp(h:St w0 l w)(e:∀p,all l p->all m p):St w0 m w:=
 ⟨h.os,h.tape,h.output,h.size,h.old,let ⟨p,a,b⟩:=h.own;⟨p,a,e p b⟩⟩
theorem St.f(k:Nat)(h:St w0 l w):St w0 (oD k l) w:=h.eH (yo k l).symm
theorem St.join(h:St w0 (all m::l) w):St w0 (m++l) w:=h.eH (vq m l).symm
theorem St.fold(m:List aC)(h:St w0 (m++l) w):St w0 (all m::l) w:=h.eH (vq m l)
theorem St.drop(h:St w0 (P::l) w):St w0 l w:=by
 obtain⟨p,hp,a,b,hd,rfl,_,hb⟩:=h.own;refine⟨h.os,h.tape,h.output,h.size,h.old,b,fun k o hk=>hp k o ?_,hb⟩;unfold Hp.join;rcases hd k with h|h
 ·rw[h];exact hk
 ·rw[hk] at h;cases h
theorem St.ex{α:Type}{P:α->aC}:St w0 (ex P::l) w↔∃x,St w0 (P x::l) w:=by
 constructor
 ·intro h;obtain⟨p,hp,a,b,hd,he,⟨x,hx⟩,hb⟩:=h.own;exact⟨x,h.os,h.tape,h.output,h.size,h.old,p,hp,a,b,hd,he,hx,hb⟩
 ·rintro⟨x,h⟩;obtain⟨p,hp,a,b,hd,he,hx,hb⟩:=h.own;exact⟨h.os,h.tape,h.output,h.size,h.old,p,hp,a,b,hd,he,⟨x,hx⟩,hb⟩
theorem St.lift{φ:Prop}:St w0 (lift φ::l) w↔φ∧St w0 l w:=by
 constructor
 ·intro h;obtain⟨p,hp,a,b,hd,he,⟨hφ,ha⟩,hb⟩:=h.own;exact⟨hφ,h.drop⟩
 ·rintro⟨hφ,h⟩;obtain⟨p,hp,hb⟩:=h.own;exact⟨h.os,h.tape,h.output,h.size,h.old,p,hp,Hp.nil,p,fun _=>.inl rfl,(Hp.rE p).symm,⟨hφ,rfl⟩,hb⟩
theorem St.mono(h:St w0 (P::l) w)(e:∀p,P p->Q p):St w0 (Q::l) w:=
 h.imp fun _ ⟨a,b,hd,he,hp,hb⟩=>⟨a,b,hd,he,e _ hp,hb⟩
theorem St.hd{b:Nat}{o:Obj}(h:St w0 (pt b o::l) w):w.heap[b]?=some o∧w0.heap.size<=b:=by
 obtain⟨p,hp,a,c,hd,he,ha,hb⟩:=h.own;refine hp b o ?_;rw[he];unfold Hp.join;unfold pt at ha;rw[ha];simp
theorem ut(k:Nat):∀(l:List aC) {P:aC},l[k]?=some P->oD k l=P::l.eraseIdx k:=by
 induction k with
 |zero=>intro l P h;cases l with|nil=>cases h|cons a l=>simp at h;subst h;rfl
 |succ k ih=>
  intro l P h;cases l with
  |nil=>cases h
  |cons a l=>simp only[oD];rw[ih l Co];rfl
theorem St.b(k:Nat){b:Nat}{o:Obj}(h:St w0 l w)(hk:l[k]?=some (pt b o):=by rfl):w.heap[b]?=some o:=
 (show St w0 (pt b o::l.eraseIdx k) w from(ut k l hk)▸h.f k).hd.1
theorem St.new(k:Nat){b:Nat}{o:Obj}(h:St w0 l w)(hk:l[k]?=some (pt b o):=by rfl):w0.heap.size<=b:=
 (show St w0 (pt b o::l.eraseIdx k) w from(ut k l hk)▸h.f k).hd.2
theorem St.Sh{b c:Nat}{o q:Obj}(h:St w0 (pt b o::pt c q::l) w):b≠c:=by
 rintro rfl;obtain⟨p,hp,a,r,hd,he,ha,s,t,hd',he',hs,ht⟩:=h.own;unfold pt at ha hs;subst he' ha hs;rcases hd b with h|h
 ·simp at h
 ·have:=(Hp.join_none.1 h).1;simp at this
theorem St.A4(h:St w0 l w){a:Addr}(ha:a.block<w0.heap.size):w.cell? a=w0.cell? a:=World.cell?_of_block (h.old _ ha)
theorem St.grow(h:St w0 l w)(ho:w'.os=w.os)(ht:w'.tape=w.tape)(hp:w'.output=w.output)(hs:w.heap.size<=w'.heap.size)
  (hb:∀k,k<w.heap.size->w'.heap[k]?=w.heap[k]?):St w0 l w':=by
 obtain⟨p,hq,hl⟩:=h.own;refine⟨ho.trans h.os,ht.trans h.tape,hp.trans h.output,Uw h.size hs,fun k hk=>(hb k (Xt hk h.size)).trans (h.old k hk),p,fun k o hk=>?_,hl⟩;have:=hq k o hk;exact⟨by rw[hb k (Array.getElem?_eq_some_iff.1 this.1).1];exact this.1,this.2⟩
theorem St.drew(h:St w0 l w):St w0 l w.drew:=h.grow rfl rfl rfl (Ug _) (fun _ _=>rfl)
theorem St.Lv(h:St w0 l w)(ho:w'.os=w.os)(ht:w'.tape=w.tape)(hp:w'.output=w.output)(hs:w.heap.size<=w'.heap.size)
  (hb:∀k,k<w.heap.size->w'.heap[k]?=w.heap[k]?) {g:Nat} {o:Obj} (hg:w.heap.size<=g) (hn:w'.heap[g]?=some o):St w0 (pt g o::l) w':=by
 have h':=h.grow ho ht hp hs hb;obtain⟨p,hq,hl⟩:=h.own
 have ES:p g=none:=by
  cases hc:p g with
  |none=>rfl
  |some o'=>exact absurd (Array.getElem?_eq_some_iff.1 (hq g o' hc).1).1 O0
 refine⟨h'.os,h'.tape,h'.output,h'.size,h'.old,Hp.join (fun k=>if k=g then some o else none) p,?_,(fun k=>if k=g then some o else none),p,?_,rfl,rfl,hl⟩
 ·intro k o' hk;unfold Hp.join at hk;by_cases e:k=g
  ·subst e;simp at hk;subst hk;exact⟨hn,Uw h.size hg⟩
  ·simp[e] at hk;have:=hq k o' hk;exact⟨by rw[hb k (Array.getElem?_eq_some_iff.1 this.1).1];exact this.1,this.2⟩
 ·intro k;by_cases e:k=g
  ·subst e;exact .inr ES
  ·exact .inl (by simp[e])
theorem St.alloc(h:St w0 l w)(o:Obj):St w0 (pt w.heap.size o::l) (w.alloc o):=
 h.Lv (w':=w.alloc o) rfl rfl rfl O7 (fun k hk=>RowKit.Below.heap_alloc w o k hk) (Ug _) (heap_alloc_new w o)
theorem St.put{b:Nat}{o o':Obj}(h:St w0 (pt b o::l) w)(ho:w'.os=w.os)(ht:w'.tape=w.tape)(hp:w'.output=w.output)(hs:w.heap.size=w'.heap.size)
  (hb:∀k,k≠b->w'.heap[k]?=w.heap[k]?) (hn:w'.heap[b]?=some o'):St w0 (pt b o'::l) w':=by
 have hnew:=h.hd.2;obtain⟨p,hq,a,c,hd,he,ha,hl⟩:=h.own;unfold pt at ha;subst ha
 have hcb:c b=none:=by
  rcases hd b with h|h
  ·simp at h
  ·exact h
 refine⟨ho.trans h.os,ht.trans h.tape,hp.trans h.output,hs▸h.size,fun k hk=>(hb k O0).trans (h.old k hk),Hp.join (fun k=>if k=b then some o' else none) c,?_,(fun k=>if k=b then some o' else none),c,?_,rfl,rfl,hl⟩
 ·intro k q hk;unfold Hp.join at hk;by_cases e:k=b
  ·subst e;simp at hk;subst hk;exact⟨hn,hnew⟩
  ·simp[e] at hk;have:=hq k q (by rw[he];unfold Hp.join;simp[e,hk])
   exact⟨by rw[hb k e];exact this.1,this.2⟩
 ·intro k;by_cases e:k=b
  ·subst e;exact .inr hcb
  ·exact .inl (by simp[e])
theorem St.Oa(k:Nat){b:Nat}{o o':Obj}(h:St w0 l w)(hk:l[k]?=some (pt b o))(ho:w'.os=w.os)(ht:w'.tape=w.tape)(hp:w'.output=w.output)(hs:w.heap.size=w'.heap.size)
  (hb:∀k,k≠b->w'.heap[k]?=w.heap[k]?) (hn:w'.heap[b]?=some o'):St w0 (l.set k (pt b o')) w':=by
 have h1:St w0 (pt b o::l.eraseIdx k) w:=(ut k l hk)▸h.f k;have h2:=h1.put ho ht hp hs hb hn
 have hlt:k<l.length:=by
  rcases Zk k l.length with h|h
  ·exact h
  ·rw[Vq h] at hk;cases hk
 have e:oD k (l.set k (pt b o'))=pt b o'::l.eraseIdx k:=by
  rw[ut k (l.set k (pt b o')) (P:=pt b o') (by simp[hlt]),List.eraseIdx_set_eq]
 refine h2.eH ?_;rw[<- e,yo]
end
end
section
abbrev Env:=Nat->Value
def upd(e:Env)(d:Nat)(v:Value):Env:=fun i=>bif Nat.beq i d then v else e i
def kY(e:Env):Option Nat->Value->Env
 |some d,v=>upd e d v
 |none,_=>e
def ev(e:Env):Operand->Value
 |.tmp t=>e t
 |.const v=>v
 |.global g=>.pz g
 |.func f=>.func (.func f) #[] #[]
theorem ui(e:Env)(d:Nat)(v:Value):upd e d v d=v:=by simp[upd]
theorem gj{e:Env}{d i:Nat}{v:Value}(h:i≠d):upd e d v i=e i:=by
 have:Nat.beq i d=false:=by
  cases hb:Nat.beq i d with
  |false=>rfl
  |true=>exact absurd (Vg hb) h
 unfold upd;rw[this];rfl
theorem rn{e:Env}{c d:Nat}{u v:Value}(h:c≠d):upd (upd e c u) d v=upd (upd e d v) c u:=by
 funext i;by_cases h1:i=c
 ·subst h1;rw[gj h,ui,ui]
 ·by_cases h2:i=d
  ·subst h2;rw[ui,gj h1,ui]
  ·rw[gj h2,gj h1,gj h1,gj h2]
theorem rp{e:Env}{d:Nat}{v:Value}(h:e d=v):upd e d v=e:=by
 funext i;by_cases h1:i=d
 ·subst h1;rw[ui,h]
 ·rw[gj h1]
structure Fits(n:Nat)(e:Env)(a:Act):Prop where
 defers:a.defers=[]
 size:a.tmps.size=n
 get:∀i,a.tmps.getD i undef=e i
theorem Fits.eval{n:Nat}{e:Env}{a:Act}(h:Fits n e a):a.eval=ev e:=by
 funext x;cases x with
 |tmp t=>exact h.get t
 |_=>rfl
def Da(n:Nat):Option Nat->Bool
 |some d=>Kl d n
 |none=>true
theorem Fits.put{n:Nat}{e:Env}{a:Act}(h:Fits n e a){d:Option Nat}(hd:Da n d=true)(v:Value):Fits n (kY e d v) (a.put d v):=by
 cases d with
 |none=>exact h
 |some d=>
  have hlt:d<n:=by simpa[Da,Xu] using hd
  refine⟨h.defers,by simp[Act.put,h.size],fun i=>?_⟩
  simp only[Act.put,kY];by_cases hi:i=d
  ·subst hi;rw[ui];simp[h.size,hlt]
  ·rw[gj hi,<- h.get i];simp[Array.getD_eq_getD_getElem?,Array.getElem?_setIfInBounds,Ne.symm hi]
abbrev Post:=Exit->Env->World->Prop
def IS(n:Nat)(Q:Post):Exit->Act->World->Prop:=fun x a w=>∃e,Fits n e a∧Q x e w
theorem rf{n:Nat}{Q Q':Post}(h:∀x e w,Q x e w->Q' x e w):∀x a w,IS n Q x a w->IS n Q' x a w:=
 fun x _ w ⟨e,f,q⟩=>⟨e,f,h x e w q⟩
def Cd(P:Program)(n:Nat)(c:Code)(Q:Post)(e:Env)(w:World):Prop:=∀a,Fits n e a->c.wp P (IS n Q) a w
def Rn(P:Program)(n:Nat)(ops:Array Oper)(Q:Post)(l:List Oper)(e:Env)(w:World):Prop:=∀a,Fits n e a->wpList P ops (IS n Q) l a w
def Ex(P:Program)(o:Oper)(e:Env)(w:World)(K:Env->World->Prop):Prop:=
 match (execOp (ev e) o).run P w with
 |.ok (.value v) w'=>K (kY e o.dst v) w'
 |.ok .skip w'=>K (kY e o.dst undef) w'
 |.ok (.enter f args) w'=>Calls P f args w' fun en w''=>∃v,en=.returned v∧K (kY e o.dst v) w''
 |_=>False
theorem Ex.mono{P:Program}{o:Oper}{e:Env}{w:World}{K K':Env->World->Prop}(h:Ex P o e w K)(hk:∀e w,K e w->K' e w):Ex P o e w K':=by
 unfold Ex at h ⊢;split at h
 ·exact hk _ _ h
 ·exact hk _ _ h
 ·exact h.mono fun _ _ ⟨v,a,b⟩=>⟨v,a,hk _ _ b⟩
 ·exact h.elim
theorem Ex.wp{P:Program}{n:Nat}{o:Oper}{e:Env}{w:World}{K:Env->World->Prop}{K':Act->World->Prop}{Q:Post}{a:Act}
  (h:Ex P o e w K) (hf:Fits n e a) (hd:Da n o.dst=true) (hk:∀e a w,Fits n e a->K e w->K' a w):o.wp P a w K' (IS n Q):=by
 unfold Oper.wp;rw[hf.eval];unfold Ex at h;split at h
 ·rename_i v w' hr;rw[hr];exact hk _ _ _ (hf.put hd _) h
 ·rename_i w' hr;rw[hr];exact hk _ _ _ (hf.put hd _) h
 ·rename_i f args w' hr
  rw[hr];refine h.mono ?_;rintro en w'' ⟨v,rfl,hv⟩;exact hk _ _ _ (hf.put hd _) hv
 ·exact h.elim
def gv(ops:Array Oper)(e:Env)(j:Nat):Option Bool:=
 match ((ops[j]?).bind (·.dst)) with
 |some d=>match e d with
  |.bool b=>some b
  |_=>none
 |none=>none
theorem kd{n:Nat}{ops:Array Oper}{e:Env}{a:Act}(hf:Fits n e a)(j:Nat):yielded ops a.tmps j=gv ops e j:=by
 unfold yielded gv;cases h:(ops[j]?).bind (·.dst) with
 |none=>simp
 |some d=>
  simp only[Option.bind_some];have:=hf.get d;rw[Array.getD_eq_getD_getElem?] at this;rw[<- this];cases a.tmps[d]? with
  |none=>simp[undef]
  |some v=>cases v <;> simp
section
variable{P:Program}{n:Nat}{ops:Array Oper}{Q:Post}{o:Oper}{rest:List Oper}{e:Env}{w:World}
theorem qv(h:Q .normal e w):Rn P n ops Q [] e w:=fun _ hf=>⟨e,hf,h⟩
theorem aF{d:Option Nat}{op:Op}{ty:TypeId}{pos:String}{af:Array Edge}(hd:Da n d=true)(h:Ex P ⟨d,op,ty,pos,af,none⟩ e w (fun e' w'=>Rn P n ops Q rest e' w')):
  Rn P n ops Q (⟨d,op,ty,pos,af,none⟩::rest) e w:=by
 intro a hf;unfold wpList;rw[if_pos (by simp[Region.wanted])]
 exact .inl (Ex.wp h hf hd (fun e a w hf hr=>hr a hf))
theorem Si{d:Option Nat}{op:Op}{ty:TypeId}{pos:String}{af:Array Edge}{j:Nat}{want:Bool}(hd:Da n d=true)(b:Bool)(hg:gv ops e j=some b)
  (h1:b=want->Ex P ⟨d,op,ty,pos,af,some (j,want)⟩ e w (fun e' w'=>Rn P n ops Q rest e' w')) (h2:b=!want->Rn P n ops Q rest (kY e d undef) w):
  Rn P n ops Q (⟨d,op,ty,pos,af,some (j,want)⟩::rest) e w:=by
 intro a hf;unfold wpList;have hy:=kd (ops:=ops) hf j;by_cases hb:b=want
 ·subst hb;rw[if_pos (by simp[Region.wanted,hy,hg])]
  exact .inl (Ex.wp (h1 rfl) hf hd (fun e a w hf hr=>hr a hf))
 ·rw[if_neg (by simp[Region.wanted,hy,hg,hb])]
  exact h2 (by cases b <;> cases want <;> simp_all) _ (hf.put hd _)
theorem Ob{d:Option Nat}{op:Op}{ty:TypeId}{pos:String}{af:Array Edge}{j:Nat}{want b:Bool}(hg:gv ops e j=some b)(hb:b=want)(h:Rn P n ops Q (⟨d,op,ty,pos,af,none⟩::rest) e w):
  Rn P n ops Q (⟨d,op,ty,pos,af,some (j,want)⟩::rest) e w:=by
 subst hb;intro a hf;have:=h a hf;unfold wpList at this ⊢;rw[if_pos (by simp[Region.wanted])] at this
 rw[if_pos (by simp[Region.wanted,kd (ops:=ops) hf j,hg])]
 exact this
theorem Oc{d:Option Nat}{op:Op}{ty:TypeId}{pos:String}{af:Array Edge}{j:Nat}{want b:Bool}(hg:gv ops e j=some b)(hb:b=!want)(hd:Da n d=true)(h2:Rn P n ops Q rest (kY e d undef) w):
  Rn P n ops Q (⟨d,op,ty,pos,af,some (j,want)⟩::rest) e w:=Si hd b hg (fun h=>by subst hb;cases want <;> cases h) (fun _=>h2)
theorem Lw{d:Option Nat}{op:Op}{ty:TypeId}{pos:String}{af:Array Edge}{j:Nat}{want:Bool}(hd:Da n d=true)(hg:gv ops e j=none)
  (h2:Rn P n ops Q rest (kY e d undef) w):
  Rn P n ops Q (⟨d,op,ty,pos,af,some (j,want)⟩::rest) e w:=by
 intro a hf;unfold wpList;rw[if_neg (by simp[Region.wanted,kd (ops:=ops) hf j,hg])]
 exact h2 _ (hf.put hd _)
end
section
variable{P:Program}{n:Nat}{Q:Post}{e:Env}{w:World}
theorem je{id:Nat}{l:List Oper}(h:Rn P n l.toArray Q l e w):Cd P n (.region id l.toArray false) Q e w:=
 fun a hf=>wp_region_lit (h a hf)
abbrev thn(next:Env->World->Prop)(Q:Post):Post
 |.normal,e,w=>next e w
 |x,e,w=>Q x e w
theorem qi{x y:Code}(h:Cd P n x (thn (fun e w=>Cd P n y Q e w) Q) e w):Cd P n (.seq x y) Q e w:=by
 intro a hf;refine wp_seq (wp_mono (h a hf) ?_);rintro ex a' w' ⟨e',hf',hq⟩;cases ex with
 |normal=>exact hq a' hf'
 |_=>exact⟨e',hf',hq⟩
abbrev QA(id:Nat)(Q:Post):Post
 |.exit id',e,w=>if id'=id then Q .normal e w else Q (.exit id') e w
 |x,e,w=>Q x e w
theorem yt{id:Nat}{c:Code}(h:Cd P n c (QA id Q) e w):Cd P n (.block id c) Q e w:=by
 intro a hf;refine wp_block (wp_mono (h a hf) ?_);rintro ex a' w' ⟨e',hf',hq⟩;cases ex with
 |exit id'=>
  simp only[QA,Exit.inBlock] at hq ⊢;split
  ·rename_i h;rw[if_pos h] at hq;exact⟨e',hf',hq⟩
  ·rename_i h;rw[if_neg h] at hq;exact⟨e',hf',hq⟩
 |_=>exact⟨e',hf',hq⟩
theorem qo{c:Operand}{x y:Code}(b:Bool)(hb:ev e c=.bool b)(h1:b=true->Cd P n x Q e w)(h2:b=false->Cd P n y Q e w):Cd P n (.cond c x y) Q e w:=by
 intro a hf;refine wp_cond_split (t:=b) (by rw[hf.eval];exact hb) (fun h=>h1 h a hf) (fun h=>h2 h a hf)
theorem j6{c:Operand}{x y:Code}(hb:ev e c=.bool true)(h:Cd P n x Q e w):Cd P n (.cond c x y) Q e w:=qo true hb (fun _=>h) (fun h=>by cases h)
theorem qt{c:Operand}{x y:Code}(hb:ev e c=.bool false)(h:Cd P n y Q e w):Cd P n (.cond c x y) Q e w:=qo false hb (fun h=>by cases h) (fun _=>h)
theorem qk(h:Q .ret e w):Cd P n .ret Q e w:=fun _ hf=>wp_ret ⟨e,hf,h⟩
theorem qa(h:Q .normal e w):Cd P n .skip Q e w:=fun _ hf=>wp_skip ⟨e,hf,h⟩
theorem ju{id:Nat}(h:Q (.exit id) e w):Cd P n (.exit id) Q e w:=fun _ hf=>wp_exit ⟨e,hf,h⟩
theorem Cd.mono{c:Code}{Q':Post}(h:Cd P n c Q e w)(hq:∀x e w,Q x e w->Q' x e w):Cd P n c Q' e w:=
 fun a hf=>wp_mono (h a hf) (rf hq)
def sets(e:Env):List (Nat×Value)->Env
 |[]=>e
 |(i,v)::l=>upd (sets e l) i v
def holds(e:Env):List (Nat×Value)->Prop
 |[]=>True
 |(i,v)::l=>e i=v∧holds e l
theorem mI{e:Env}:∀{l:List (Nat×Value)},holds e l->sets e l=e
 |[],_=>rfl
 |(i,v)::l,h=>by unfold sets;rw[mI h.2];exact rp h.1
theorem jy{Γ:Type}{c:Code}(s:Γ->List (Nat×Value))(φ:Γ->World->Prop)(μ:Γ->Nat)(γ:Γ)(hs:holds e (s γ))(hφ:φ γ w)
  (round:∀γ w e,φ γ w->Cd P n c (thn (fun e' w'=>∃γ',holds e' (s γ')∧φ γ' w'∧μ γ'<μ γ) Q) (sets e (s γ)) w):Cd P n (.loop c) Q e w:=by
 intro a hf;refine wp_loop_ghost (fun m a w=>∃γ e,μ γ=m∧Fits n e a∧holds e (s γ)∧φ γ w) (μ γ) ⟨γ,e,rfl,hf,hs,hφ⟩ ?_;rintro m a w ⟨γ,e,rfl,hf,hs,hφ⟩;have:=round γ w e hφ a (by rw[mI hs];exact hf)
 refine wp_mono this ?_;rintro ex a' w' ⟨e',hf',hq⟩;cases ex with
 |normal=>
  obtain⟨γ',h1,h2,h3⟩:=hq;exact⟨μ γ',h3,γ',e',rfl,hf',h1,h2⟩
 |_=>exact⟨e',hf',hq⟩
theorem qf{Γ:Type}{x y:Code}(s:Γ->List (Nat×Value))(φ:Γ->World->Prop)(h:Cd P n x (thn (fun e' w'=>∃γ,holds e' (s γ)∧φ γ w') Q) e w)
  (k:∀γ w e,φ γ w->Cd P n y Q (sets e (s γ)) w):Cd P n (.seq x y) Q e w:=by
 refine qi (h.mono ?_);intro ex e' w' hq;cases ex with
 |normal=>
  obtain⟨γ,h1,h2⟩:=hq;have:=k γ w' e' h2;rw[mI h1] at this;exact this
 |_=>exact hq
end
def bP(P:Program)(f:FuncId)(args:List Value)(w:World)(φ:Value->World->Prop):Prop:=
 Calls P f args.toArray w fun en w'=>∃v,en=.returned v∧φ v w'
theorem bP.mono{P:Program}{f:FuncId}{args:List Value}{w:World}{φ ψ:Value->World->Prop}(h:bP P f args w φ)(hk:∀v w,φ v w->ψ v w):bP P f args w ψ:=
 Calls.mono h fun _ _ ⟨v,a,b⟩=>⟨v,a,hk _ _ b⟩
def rF:List Value->Value
 |[v]=>v
 |vs=>.tuple vs.toArray
def KX(P:Program)(e:Env)(w:World):List ResultVar->(List Value->Prop)->Prop
 |[],k=>k []
 |.tmp t::rs,k=>KX P e w rs fun vs=>k (e t::vs)
 |.cell a t::rs,k=>∃v,(do loadVar t (<- asAddr (e a)):Sem Value).run P w=.ok v w∧KX P e w rs fun vs=>k (v::vs)
def bq(P:Program)(rs:List ResultVar)(φ:Value->World->Prop):Post
 |.normal,e,w=>KX P e w rs fun vs=>φ (rF vs) w
 |.ret,e,w=>KX P e w rs fun vs=>φ (rF vs) w
 |_,_,_=>False
def ET(l:List Value):Env:=fun i=>l.getD i undef
def DR(e:Env):ResultVar->Sem Value
 |.tmp t=>pure (e t)
 |.cell x t=>do loadVar t (<- asAddr (e x))
theorem Lx{P:Program}{φ:Value->World->Prop}{e:Env}{w:World}(h:φ (.tuple #[]) w):bq P [] φ .ret e w:=h
theorem uN{P:Program}{φ:Value->World->Prop}{e:Env}{w:World}(h:φ (.tuple #[]) w):bq P [] φ .normal e w:=h
theorem bQ{P:Program}{φ:Value->World->Prop}{e:Env}{w:World}{a:Tmp}(h:φ (e a) w):bq P [.tmp a] φ .ret e w:=h
theorem jQ{P:Program}{φ:Value->World->Prop}{e:Env}{w:World}{a b:Tmp}(h:φ (.tuple [e a,e b].toArray) w):bq P [.tmp a,.tmp b] φ .ret e w:=h
theorem KY{P:Program}{φ:Value->World->Prop}{e:Env}{w:World}{a b c:Tmp}(h:φ (.tuple [e a,e b,e c].toArray) w):bq P [.tmp a,.tmp b,.tmp c] φ .ret e w:=h
theorem Ly{P:Program}{φ:Value->World->Prop}{e:Env}{w:World}{a:Tmp}{t:TypeId}{v:Value}(hv:(do loadVar t (<- asAddr (e a)):Sem Value).run P w=.ok v w)(h:φ v w):bq P [.cell a t] φ .ret e w:=⟨v,hv,h⟩
theorem nz{P:Program}{e:Env}{w:World}:∀{rs:List ResultVar} {k:List Value->Prop},KX P e w rs k->
  ∃vs:List Value,(rs.mapM (DR e):Sem (List Value)).run P w=.ok vs w∧k vs
 |[],k,h=>⟨[],by simp[List.mapM_nil],h⟩
 |.tmp t::rs,k,h=>by
  obtain⟨vs,h1,h2⟩:=nz (rs:=rs) h;exact⟨e t::vs,by simp[List.mapM_cons,DR,h1],h2⟩
 |.cell x t::rs,k,h=>by
  obtain⟨v,h0,h⟩:=h;obtain⟨vs,h1,h2⟩:=nz (rs:=rs) h;refine⟨v::vs,?_,h2⟩;rw[List.mapM_cons,Sem.run_bind,show(DR e (.cell x t)).run P w=.ok v w from h0];simp[h1]
theorem enter{P:Program}{f:FuncId}{fn:Func}{c:Code}{n:Nat}{rs:List ResultVar}{args:List Value}{w:World}{φ:Value->World->Prop}
  (hf:P.funcs[f]?=some fn) (hb:fn.body=some c) (hr:fn.results=rs.toArray) (hn:fn.ntmps=n) (hl:Nat.ble args.length n=true)
  (h:Cd P n c (bq P rs φ) (ET args) w):bP P f args w φ:=by
 subst hn;refine calls_of_wp hf hb ?_;have hl':args.length<=fn.ntmps:=Wk hl;refine wp_mono (h _ ⟨rfl,by simp;omega,fun i=>?_⟩) ?_
 ·unfold ET;simp only[Array.getD_eq_getD_getElem?,Kc];by_cases hi:i<args.length
  ·simp[Array.getElem?_append,hi]
  ·simp only[Array.getElem?_append,Xd,hi,if_false];by_cases hi2:i-args.length<fn.ntmps-args.length
   ·simp[hi2,Vq (Nat.le_of_not_lt hi)]
   ·simp[hi2,Vq (Nat.le_of_not_lt hi)]
 ·rintro ex a w' ⟨e,hfit,hq⟩
  have key:KX P e w' rs (fun vs=>φ (rF vs) w')->a.defers=[]∧∃v,(results fn a.tmps).run P w'=.ok v w'∧∃u,Ending.returned v=.returned u∧φ u w':=by
   intro hq;obtain⟨vs,h1,h2⟩:=nz hq;refine⟨hfit.defers,rF vs,?_,_,rfl,h2⟩;have hx:∀(g:ResultVar->Sem Value),(∀x,g x=DR e x)->List.mapM g rs=List.mapM (DR e) rs:=fun g hg=>by rw[funext hg]
   unfold results;rw[hr,List.mapM_toArray,hx _ (fun x=>by cases x <;> simp only[DR,hfit.get])]
   simp[h1];cases vs with
   |nil=>rfl
   |cons v vs=>
    cases vs with
    |nil=>rfl
    |cons u vs=>simp[rF]
  cases ex with
  |normal=>exact key hq
  |ret=>exact key hq
  |_=>exact hq.elim
attribute [irreducible] Rn Cd Ex bP
theorem en{P:Program}{f:FuncId}{fn:Func}{c:Code}{n:Nat}{rs:List ResultVar}{args:List Value}{w:World}{φ:Value->World->Prop}(hf:P.funcs[f]?=some fn)(hr:fn.results=rs.toArray)(hn:fn.ntmps=n)(h:Cd P n c (bq P rs φ) (ET args) w)(hb:fn.body=some c:=by rfl)(hl:Nat.ble args.length n=true:=by rfl):bP P f args w φ:=enter hf hb hr hn hl h
end
section
theorem execOp_congr{ρ ρ':Operand->Value}{o:Oper}(h:∀x∈o.op.operands,ρ x=ρ' x):execOp ρ o=execOp ρ' o:=by
 obtain⟨d,op,ty,pos,af,g⟩:=o;have hmap:∀l:Array Operand,(∀x∈l,ρ x=ρ' x)->l.map ρ=l.map ρ':=fun l hl=>Array.map_congr_left hl
 have hpar:∀l:Array (Nat×Operand),(∀x∈(l.toList.map (·.2)).toArray,ρ x=ρ' x)->l.map (fun(i,x)=>(i,ρ x))=l.map (fun(i,x)=>(i,ρ' x)):=by
  intro l hl;refine Array.map_congr_left ?_;rintro⟨i,x⟩ hx;simp only[Prod.mk.injEq,true_and];exact hl x (by simp;exact⟨i,hx⟩)
 have EU:∀l:Option Operand,(∀x∈l.toArray,ρ x=ρ' x)->l.map ρ=l.map ρ':=by
  intro l hl;cases l with
  |none=>rfl
  |some x=>simp[hl x O7]
 cases op <;> simp only[Op.operands] at h
 case alloc=>rfl
 case ready=>rfl
 case waits=>rfl
 case build t ps=>simp only[execOp];rw[hpar ps h]
 case buildSlice t n ps=>simp only[execOp];rw[hpar ps h]
 case makeFunc fn a b=>simp only[execOp];rw[hmap a (fun x hx=>h x ER),hmap b (fun x hx=>h x ER)]
 case makeMap t r=>simp only[execOp];rw[EU r h]
 case slice t x l hi m=>
  simp only[execOp];rw[h x O7,EU l (fun y hy=>h y (by simp at hy ⊢;simp[hy])),EU hi (fun y hy=>h y (by simp at hy ⊢;simp[hy])),EU m (fun y hy=>h y (by simp at hy ⊢;simp[hy]))]
 case call c=>
  obtain⟨cl,args,tys⟩:=c;cases cl <;> simp only[execOp,resolve,Call.operands] at h ⊢
  ·rw[hmap args (fun x hx=>h x ER),h _ O7]
  ·rw[hmap args (fun x hx=>h x ER),h _ O7]
  ·rw[hmap args (fun x hx=>h x ER)]
 case go c=>
  obtain⟨cl,args,tys⟩:=c;cases cl <;> simp only[execOp,resolve,Call.operands] at h ⊢
  ·rw[hmap args (fun x hx=>h x ER),h _ O7]
  ·rw[hmap args (fun x hx=>h x ER),h _ O7]
  ·rw[hmap args (fun x hx=>h x ER)]
 case defer c=>
  obtain⟨cl,args,tys⟩:=c;cases cl <;> simp only[execOp,resolve,Call.operands] at h ⊢
  ·rw[hmap args (fun x hx=>h x ER),h _ O7]
  ·rw[hmap args (fun x hx=>h x ER),h _ O7]
  ·rw[hmap args (fun x hx=>h x ER)]
 case select cs b=>
  simp only[execOp]
  have:cs.mapM (fun s=>do pure ({ chan:=ρ s.chan,send:=s.send.map ρ,zero:=<- zeroValue s.elem }:CommCase):SelectCase->Sem CommCase)
    = cs.mapM (fun s=>do pure ({ chan:=ρ' s.chan,send:=s.send.map ρ',zero:=<- zeroValue s.elem }:CommCase):SelectCase->Sem CommCase):=by
   have key:∀l:List SelectCase,(∀s∈l,s∈cs)->l.mapM (fun s=>do pure ({ chan:=ρ s.chan,send:=s.send.map ρ,zero:=<- zeroValue s.elem }:CommCase):SelectCase->Sem CommCase)
     = l.mapM (fun s=>do pure ({ chan:=ρ' s.chan,send:=s.send.map ρ',zero:=<- zeroValue s.elem }:CommCase):SelectCase->Sem CommCase):=by
    intro l;induction l with
    |nil=>intro _;simp only[List.mapM_nil]
    |cons s l ih=>
     intro hl;have h1:ρ s.chan=ρ' s.chan:=h _ (by simp only[Array.mem_flatMap];exact⟨s,hl s O7,by simp⟩)
     have h2:s.send.map ρ=s.send.map ρ':=EU _ (fun x hx=>h _ (by simp only[Array.mem_flatMap];exact⟨s,hl s O7,by simp[Array.mem_append,hx]⟩))
     simp only[List.mapM_cons,h1,h2,ih (fun t ht=>hl t (by simp[ht]))]
   rw[<- Array.toArray_toList (xs:=cs),List.mapM_toArray,List.mapM_toArray,key cs.toList (fun s hs=>by simpa using hs)]
  rw[this]
 all_goals (simp at h;simp[execOp,h])
def xS(ops:Array Oper)(todo:List Nat)(i:Nat):Bool:=
 match ops.toList[i]? with
 |some o=>o.after.toList.all fun e=>!Region.binds .any e||!todo.contains e.on
 |none=>false
theorem dK(ops:Array Oper)(i:Nat):ops.toList[i]?=ops[i]?:=by simp
def Wn(P:Program)(ops:Array Oper)(i:Nat)(e:Env)(w:World)(K:Env->World->Prop):Prop:=
 match ops[i]? with
 |some o=>(Region.wanted o (gv ops e)=true->Ex P o e w K)∧(Region.wanted o (gv ops e)=false->K (kY e o.dst undef) w)
 |none=>False
def Any(P:Program)(ops:Array Oper)(J:List Nat->World->Prop)(Q:Env->World->Prop):Nat->List Nat->Env->World->Prop
 |0,_,e,w=>Q e w
 |k+1,todo,e,w=>∀i,i∈todo->xS ops todo i=true->Wn P ops i e w fun e' w'=>J (todo.erase i) w'∧Any P ops J Q k (todo.erase i) e' w'
def EV(n:Nat):List Oper->Nat->Bool
 |[],_=>true
 |o::l,i=>o.after.toList.all (fun e=>Kl e.on i)&&Da n o.dst&&EV n l (i+1)
def fwd(n:Nat)(ops:Array Oper):Bool:=EV n ops.toList 0
theorem A5{n:Nat}:∀{l:List Oper} {k i:Nat} {o:Oper},EV n l k=true->l[i]?=some o->(o.after.toList.all (fun e=>Kl e.on (k+i))&&Da n o.dst)=true
 |[],_,_,_,_,h=>by simp at h
 |a::l,k,0,o,hf,h=>by
  simp only[Xj,Vr] at h;subst h;simp only[EV,Ur] at hf;simp only[Ws,Ur];exact hf.1
 |a::l,k,i+1,o,hf,h=>by
  simp only[EV,Ur] at hf;have:=A5 (i:=i) hf.2 Co;rw[show k+(i+1)=k+1+i by omega]
  exact this
theorem n9{n:Nat}{ops:Array Oper}(h:fwd n ops=true){i:Nat}{o:Oper}(ho:ops[i]?=some o):(∀e∈o.after,e.on<i)∧Da n o.dst=true:=by
 have:=A5 (i:=i) h (by rw[dK];exact ho)
 simp only[Uz,Ur,Wx] at this;exact⟨fun e he=>by simpa[Xu] using this.1 e (by simpa using he),this.2⟩
def pK(rk:List Nat)(m i:Nat)(e:Edge):Bool:=Kl e.on m&&(match e.ground with
 |.gcOnly _=>Kl (rk.getD e.on 0) (rk.getD i 0)
 |.textOnly _=>Kl e.on i
 |_=>Kl e.on i&&Kl (rk.getD e.on 0) (rk.getD i 0))
def A6(n m:Nat)(rk:List Nat):List Oper->Nat->Bool
 |[],_=>true
 |o::l,i=>o.after.toList.all (pK rk m i)&&Da n o.dst&&A6 n m rk l (i+1)
def IT(rk:List Nat)(n:Nat)(ops:Array Oper):Bool:=A6 n ops.toList.length rk ops.toList 0
theorem yS{n m:Nat}{rk:List Nat}:∀{l:List Oper} {k i:Nat} {o:Oper},A6 n m rk l k=true->l[i]?=some o->(o.after.toList.all (pK rk m (k+i))&&Da n o.dst)=true
 |[],_,_,_,_,h=>by simp at h
 |a::l,k,0,o,hf,h=>by
  simp only[Xj,Vr] at h;subst h;simp only[A6,Ur] at hf;simp only[Ws,Ur];exact hf.1
 |a::l,k,i+1,o,hf,h=>by
  simp only[A6,Ur] at hf;have:=yS (i:=i) hf.2 Co;rw[show k+(i+1)=k+1+i by omega]
  exact this
def rG(n:Nat)(ops:Array Oper):Prop:=∀md:Region.Mode,∃zV:Nat->Nat,∀i o,ops[i]?=some o->(∀e∈o.after,e.on<ops.size∧(Region.binds md e=true->zV e.on<zV i))∧Da n o.dst=true
theorem lz{n:Nat}{ops:Array Oper}(h:fwd n ops=true):rG n ops:=fun md=>by
 refine⟨id,fun i o ho=>⟨fun e he=>?_,(n9 h ho).2⟩⟩;have:=(n9 h ho).1 e he;have hi:i<ops.size:=(Array.getElem?_eq_some_iff.1 ho).1;exact⟨cI,fun _=>this⟩
theorem wm{n:Nat}{ops:Array Oper}{rk:List Nat}(h:IT rk n ops=true):rG n ops:=fun md=>by
 have key:∀i o,ops[i]?=some o->(∀e∈o.after,pK rk ops.size i e=true)∧Da n o.dst=true:=by
  intro i o ho;have:=yS (i:=i) h (by rw[dK];exact ho)
  simp only[Uz,Ur,Wx,Array.length_toList] at this;exact⟨fun e he=>this.1 e (by simpa using he),this.2⟩
 cases md with
 |gc=>
  refine⟨fun i=>rk.getD i 0,fun i o ho=>⟨fun e he=>?_,(key i o ho).2⟩⟩;have:=(key i o ho).1 e he;unfold pK at this;simp only[Ur,Xu] at this;refine⟨this.1,fun hb=>?_⟩;have h2:=this.2;unfold Region.binds at hb;cases hg:e.ground <;> rw[hg] at h2 hb <;> simp_all
 |text=>
  refine⟨id,fun i o ho=>⟨fun e he=>?_,(key i o ho).2⟩⟩;have:=(key i o ho).1 e he;unfold pK at this;simp only[Ur,Xu] at this;refine⟨this.1,fun hb=>?_⟩;have h2:=this.2;unfold Region.binds at hb;cases hg:e.ground <;> rw[hg] at h2 hb <;> simp_all
 |any=>
  refine⟨id,fun i o ho=>⟨fun e he=>?_,(key i o ho).2⟩⟩;have:=(key i o ho).1 e he;unfold pK at this;simp only[Ur,Xu] at this;refine⟨this.1,fun hb=>?_⟩;have h2:=this.2;unfold Region.binds at hb;cases hg:e.ground <;> rw[hg] at h2 hb <;> simp_all
theorem ro(zV:Nat->Nat){l:List Nat}(h:l≠[]):∃i,i∈l∧∀j∈l,zV i<=zV j:=by
 induction l with
 |nil=>exact absurd rfl h
 |cons a l ih=>
  by_cases hl:l=[]
  ·subst hl;exact⟨a,by simp,fun j hj=>by simp at hj;subst hj;exact Ug _⟩
  ·obtain⟨i,hi,hle⟩:=ih hl;by_cases ha:zV a<=zV i
   ·exact⟨a,by simp,fun j hj=>by rcases Up.1 hj with rfl|hj;exact Ug _;exact Uw ha (hle j hj)⟩
   ·exact⟨i,by simp[hi],fun j hj=>by rcases Up.1 hj with rfl|hj;omega;exact hle j hj⟩
theorem fe{P:Program}{n:Nat}{ops:Array Oper}{J:List Nat->World->Prop}{Q:Post}(EW:rG n ops)(md:Region.Mode):
  ∀(fuel t:Nat) (listed:Array Bool) (acc todo:List Nat),todo.length=fuel->todo.Nodup->(∀i∈todo,i<ops.size)->listed.size=ops.size->(∀i,i<ops.size->listed.getD i true=!todo.contains i)->
   ∃suf,Region.linearise.go md ops fuel t listed acc=acc.reverse++suf∧
    ∀e w a,Fits n e a->Any P ops J (Q .normal) fuel todo e w->wpOps P ops (IS n Q) suf a w:=by
 obtain⟨zV,hE⟩:=EW md;intro fuel;induction fuel with
 |zero=>
  intro t listed acc todo hl hnd hb hs yT;exact⟨[],by simp[Region.linearise.go],fun e w a hf h=>⟨e,hf,h⟩⟩
 |succ fuel ih=>
  intro t listed acc todo hl hnd hb hs yT;simp only[Region.linearise.go];generalize lT:((List.range ops.size).filter fun i=>!listed.getD i true&&((ops[i]?).map (fun o=>o.after.all fun e=>!Region.binds md e||listed.getD e.on false)).getD false)=rs
  have HI:∀j,j<ops.size->listed.getD j false=listed.getD j true:=by
   intro j hj;simp[Array.getD,hs,hj]
  have hmem:∀i,i∈rs->i∈todo∧xS ops todo i=true:=by
   intro i hi;rw[<- lT] at hi;simp only[Xy,List.mem_range,Ur,Wi] at hi;obtain⟨hi1,hi2,GI⟩:=hi;rw[yT i hi1] at hi2;refine⟨by simpa using hi2,?_⟩
   unfold xS;rw[dK];cases ho:ops[i]? with
   |none=>rw[ho] at GI;simp at GI
   |some o=>
    rw[ho] at GI;simp only[Ww,Option.getD_some,Array.all_eq_true_iff_forall_mem,Wx] at GI ⊢;intro e he;have he:=(Array.mem_toList_iff).1 he;have he':=GI e he;have hlt:=((hE _ _ ho).1 e he).1;rw[HI e.on hlt,yT e.on hlt] at he';simp only[Bool.or_eq_true,Wi] at he' ⊢;rcases he' with h|h
    ·left;unfold Region.binds at h ⊢;cases hg:e.ground <;> rw[hg] at h <;> simp_all
    ·exact .inr h
  have hne:rs≠[]:=by
   obtain⟨i,hi,hle⟩:=ro zV (l:=todo) (by intro h;rw[h] at hl;simp at hl)
   intro h
   have:i∈rs:=by
    rw[<- lT];have Nu:=hb i hi;simp only[Xy,List.mem_range,Ur,Wi];refine⟨Nu,by rw[yT i Nu];simpa using hi,?_⟩
    have ho:ops[i]?=some ops[i]:=by simp[Nu]
    rw[ho];simp only[Ww,Option.getD_some,Array.all_eq_true_iff_forall_mem];intro e he;obtain⟨hlt,QB⟩:=(hE _ _ ho).1 e he;rw[HI e.on hlt,yT e.on hlt];cases Od:Region.binds md e with
    |false=>simp
    |true=>
     have QB:=QB Od;have:e.on∉todo:=fun hm=>by have:=hle _ hm;omega
     simp[this]
   rw[h] at this;simp at this
  have hlen:0<rs.length:=Vy.2 hne;have fM:rs[t%rs.length]?=some (rs[t%rs.length]'(Vw _ hlen)):=by simp[Vw _ hlen]
  rw[fM];generalize hi:rs[t%rs.length]'(Vw _ hlen)=i;have Sj:i∈rs:=by rw[<- hi];exact Zq _
  obtain⟨HJ,Oe⟩:=hmem i Sj;have Nu:=hb i HJ
  obtain⟨suf,Of,hwp⟩:=ih (t / rs.length) (listed.setIfInBounds i true) (i::acc) (todo.erase i) (by rw[Xf HJ,hl];rfl) (hnd.erase i) (fun j hj=>hb j (Xe hj)) (by simp[hs]) (by
   intro j hj;by_cases hji:j=i
   ·subst hji;simp[Array.getD,hs,hj,hnd.not_mem_erase]
   ·have:(todo.erase i).contains j=todo.contains j:=by
     simp only[List.contains_eq_mem,decide_eq_decide];exact hnd.mem_erase_iff.trans (by simp[hji])
    rw[this,<- yT j hj]
    simp[Array.getD,hs,hj,Array.getElem_setIfInBounds,Ne.symm hji])
  refine⟨i::suf,by dsimp only;rw[Of];simp,fun e w a hf h=>?_⟩
  have hW:=h i HJ Oe;unfold Wn at hW;cases ho:ops[i]? with
  |none=>rw[ho] at hW;exact hW.elim
  |some o=>
   rw[ho] at hW;unfold wpOps;rw[ho];dsimp only;have hy:yielded ops a.tmps=gv ops e:=funext fun j=>kd hf j;rw[hy];have QC:=(hE _ _ ho).2;split
   ·rename_i hw
    exact .inl (Ex.wp (hW.1 hw) hf QC (fun e a w hf hk=>hwp e w a hf hk.2))
   ·rename_i hw
    exact hwp _ _ _ (hf.put QC _) (hW.2 (by simpa using hw)).2
theorem rt{P:Program}{n:Nat}{id:Nat}{l:List Oper}{J:List Nat->World->Prop}{Q:Post}{e:Env}{w:World}(EW:rG n l.toArray)
  (h:Any P l.toArray J (Q .normal) l.length (List.range l.length) e w.drew):Cd P n (.region id l.toArray true) Q e w:=by
 unfold Cd;intro a hf;refine wp_region_draw (fun t=>?_)
 have key:∀md t,wpOps P l.toArray (IS n Q) (Region.linearise md l.toArray t) a w.drew:=by
  intro md t
  obtain⟨suf,h1,h2⟩:=fe (P:=P) (J:=J) (Q:=Q) EW md l.toArray.size t (Array.replicate l.toArray.size false) [] (List.range l.toArray.size) O7 List.nodup_range O7 O7 (by
   intro i hi;simp at hi
   simp[Array.getD,hi])
  unfold Region.linearise;rw[h1];exact h2 _ _ _ hf Co
 unfold Region.schedule;split
 ·exact key _ _
 ·exact key _ _
def A7:Op->List Operand
 |.alloc _ | .ready _ | .waits _=>[]
 |.move x | .assign x | .box _ x | .load _ x | .nilCheck x | .unOp _ _ x | .convert _ _ x | .sliceToArrayPointer _ x | .makeInterface _ x
 |.makeChan _ x | .fieldAddr _ x _ | .field _ x _ | .range _ x | .next x _ | .entry x | .typeAssert x _ _ _ | .extract x _ | .panic x | .recv _ x _=>[x]
 |.pick c a b=>[c,a,b]
 |.build _ ps | .buildSlice _ _ ps=>ps.toList.map (·.2)
 |.store _ a v | .binOp _ _ a v _ | .makeSlice _ a v | .indexAddr _ a v | .index _ a v | .lookup _ a v _ | .mapEntry _ a v | .send a v=>[a,v]
 |.makeFunc _ first captured=>first.toList++captured.toList
 |.makeMap _ r=>r.toList
 |.slice _ x l h m=>x::(l.toList++h.toList++m.toList)
 |.mapUpdate _ m k v | .entryStore _ m k v | .insert _ m k v=>[m,k,v]
 |.call c | .go c | .defer c=>(match c.callee with | .value f=>[f] | .invoke r _=>[r] | .builtin _=>[])++c.args.toList
 |.select cs _=>cs.toList.flatMap fun c=>c.chan::c.send.toList
theorem rl{op:Op}{x:Operand}(h:x∈op.operands):x∈A7 op:=by
 cases op with
 |call c=>obtain⟨cl,a,t⟩:=c;cases cl <;> simpa[Op.operands,A7,Call.operands] using h
 |go c=>obtain⟨cl,a,t⟩:=c;cases cl <;> simpa[Op.operands,A7,Call.operands] using h
 |defer c=>obtain⟨cl,a,t⟩:=c;cases cl <;> simpa[Op.operands,A7,Call.operands] using h
 |select cs b=>
  simp only[Op.operands,Array.mem_flatMap] at h;obtain⟨s,hs,hx⟩:=h;simp only[A7,Xk];exact⟨s,by simpa using hs,by simpa using hx⟩
 |slice t y l hi m=>simp[Op.operands,A7] at h ⊢;rcases h with h|h|h|h <;> simp[h]
 |_=>first|(simp[Op.operands] at h;done)|simpa[Op.operands,A7] using h
def Og(t:Nat):Operand->Bool
 |.tmp u=>Nat.beq u t
 |_=>false
def vA(o:Op)(t:Nat):Bool:=(A7 o).any (Og t)
def Db(ops:Array Oper)(o:Oper):Option Nat:=
 match o.guard with
 |some (j,_)=>match ops.toList[j]? with
  |some o=>o.dst
  |none=>none
 |none=>none
def KZ(d:Nat):Option Nat->Bool
 |some c=>Nat.beq c d
 |none=>false
theorem yU{d:Nat}{c:Option Nat}(h:KZ d c=false):c≠some d:=by
 rintro rfl;simp[KZ] at h
def rH(ops:Array Oper)(a b:Oper):Bool:=match a.dst with
  |some d=>KZ d b.dst||vA b.op d||KZ d (Db ops b)||(match b.dst with
   |some c=>vA a.op c||KZ c (Db ops a)
   |none=>false)
  |none=>false
def A8(i:Nat)(o:Oper):Bool:=o.after.toList.any fun e=>Region.binds .any e&&Nat.beq e.on i
def vQ(ops:Array Oper)(i j:Nat):Bool:=
 match ops.toList[j]? with
 |some o=>A8 i o
 |none=>false
def A9(ops:Array Oper):List Oper->Nat->Bool
 |[],_=>true
 |a::l,i=>EX l (i+1) i a&&A9 ops l (i+1)
where
 EX:List Oper->Nat->Nat->Oper->Bool
  |[],_,_,_=>true
  |b::l,j,i,a=>(A8 i b||!(rH ops a b||rH ops b a))&&EX l (j+1) i a
def GJ(ops:Array Oper):Bool:=A9 ops ops.toList 0
theorem Ba{ops:Array Oper}{i:Nat}{a:Oper}:∀{l:List Oper} {j k:Nat} {b:Oper},A9.EX ops l j i a=true->l[k]?=some b->A8 i b=true∨(rH ops a b=false∧rH ops b a=false)
 |[],_,_,_,_,h=>by simp at h
 |c::l,j,0,b,hg,h=>by
  simp only[Xj,Vr] at h;subst h;simp only[A9.EX,Ur,Bool.or_eq_true,Wi,Zl] at hg;exact hg.1
 |c::l,j,k+1,b,hg,h=>by
  simp only[A9.EX,Ur] at hg;exact Ba hg.2 (k:=k) Co
theorem vR{ops:Array Oper}:∀{l:List Oper} {n i j:Nat} {a b:Oper},A9 ops l n=true->l[i]?=some a->l[j]?=some b->i<j->A8 (n+i) b=true∨(rH ops a b=false∧rH ops b a=false)
 |[],_,_,_,_,_,_,h,_,_=>by simp at h
 |c::l,n,0,j+1,a,b,hg,ha,hb,_=>by
  simp only[Xj,Vr] at ha;subst ha;simp only[A9,Ur] at hg;rw[Ws];exact Ba hg.1 (k:=j) (by simpa using hb)
 |c::l,n,i+1,j+1,a,b,hg,ha,hb,hij=>by
  simp only[A9,Ur] at hg;have:=vR (i:=i) (j:=j) hg.2 (by simpa using ha) (by simpa using hb) O0
  rwa [show n+(i+1)=n+1+i by omega]
 |c::l,n,i,0,a,b,_,_,_,h=>by omega
theorem Sk{ops:Array Oper}(hg:GJ ops=true){i j:Nat}{a b:Oper}(ha:ops[i]?=some a)(hb:ops[j]?=some b)(hij:i≠j):vQ ops i j=true∨vQ ops j i=true∨rH ops a b=false:=by
 rcases Nat.lt_or_gt_of_ne hij with h|h
 ·rcases vR (n:=0) hg (by rw[dK];exact ha) (by rw[dK];exact hb) h with h1|h1
  ·left;unfold vQ;rw[dK,hb];simpa using h1
  ·exact .inr (.inr h1.1)
 ·rcases vR (n:=0) hg (by rw[dK];exact hb) (by rw[dK];exact ha) h with h1|h1
  ·right;left;unfold vQ;rw[dK,ha];simpa using h1
  ·exact .inr (.inr h1.2)
theorem pq{ops:Array Oper}{todo:List Nat}{i j:Nat}(hi:i∈todo)(hr:xS ops todo j=true):vQ ops i j=false:=by
 cases yV:vQ ops i j with
 |false=>rfl
 |true=>
  exfalso;unfold vQ at yV;unfold xS at hr;cases GK:ops.toList[j]? with
  |none=>rw[GK] at yV;cases yV
  |some oj=>
   rw[GK] at yV hr;simp only[A8,List.any_eq_true,Ur] at yV;obtain⟨m,hm,EY,IU⟩:=yV;simp only[Wx] at hr;have:=hr m hm;rw[EY,Vg IU] at this;simp[hi] at this
theorem sj{ops:Array Oper}{todo:List Nat}{i j:Nat}(hr:xS ops todo j=true):xS ops (todo.erase i) j=true:=by
 unfold xS at hr ⊢;cases GK:ops.toList[j]? with
 |none=>rw[GK] at hr;cases hr
 |some oj=>
  rw[GK] at hr;simp only[Wx] at hr ⊢;intro m hm;have:=hr m hm;simp only[Bool.or_eq_true,Wi] at this ⊢;rcases this with h|h
  ·exact .inl h
  ·right;simp only[List.contains_eq_mem,decide_eq_false_iff_not] at h ⊢;exact fun hm=>h (Xe hm)
theorem vS{e:Env}{d:Nat}{v:Value}{o:Oper}(h:vA o.op d=false):execOp (ev (upd e d v)) o=execOp (ev e) o:=by
 refine execOp_congr fun x hx=>?_;cases x with
 |tmp t=>
  refine gj ?_;rintro rfl;unfold vA at h;rw[List.any_eq_false] at h;exact absurd (show Og t (.tmp t)=true by simp[Og]) (h _ (rl hx))
 |_=>rfl
theorem wo{ops:Array Oper}{e:Env}{d:Nat}{v:Value}{o:Oper}(h:Db ops o≠some d):Region.wanted o (gv ops (upd e d v))=Region.wanted o (gv ops e):=by
 unfold Region.wanted;cases hg:o.guard with
 |none=>rfl
 |some jw=>
  obtain⟨j,want⟩:=jw;unfold Db at h;rw[hg] at h;dsimp only at h ⊢;rw[dK] at h;congr 1;unfold gv;cases ho:ops[j]? with
  |none=>rfl
  |some oj=>
   rw[ho] at h;simp only[Option.bind_some] at h ⊢;cases hd:oj.dst with
   |none=>rfl
   |some c=>
    rw[hd] at h;dsimp only;rw[gj (by intro e;exact h (by rw[e]))]
def DS(P:Program)(ops:Array Oper)(o:Oper)(e:Env)(w:World)(v:Value):Prop:=
 (Region.wanted o (gv ops e)=true->(execOp (ev e) o).run P w=.ok (.value v) w)∧(Region.wanted o (gv ops e)=false->v=undef)
def Jk(kx:Option Nat)(φ:World->Prop):List Nat->World->Prop:=fun todo w=>(∀x,kx=some x->x∈todo)->φ w
theorem t9{P:Program}{ops:Array Oper}{J:List Nat->World->Prop}{inv:List Nat->Prop}{Q:Env->World->Prop}{i:Nat}{o:Oper}{d:Nat}{v:Value}(ho:ops[i]?=some o)(hd:o.dst=some d)(EZ:GJ ops=true)
  (Sl:∀t w,t.Nodup->J (t.erase i) w->J t w) (Nv:∀t w,J t w->J (t.erase i) w) (Lz:∀t j,t.Nodup->inv t->vQ ops i j=false->inv (t.erase j)):
  ∀(k:Nat) (todo:List Nat) (e:Env) (w:World),todo.length=k+1->todo.Nodup->i∈todo->xS ops todo i=true->
   inv todo->J todo w->(∀t w',inv t->J t w'->DS P ops o e w' v)->
   Any P ops J Q k (todo.erase i) (upd e d v) w->Any P ops J Q (k+1) todo e w:=by
 intro k;induction k with
 |zero=>
  intro todo e w hlen hnd hi hr hk hφ hfl h j hj IV
  obtain rfl:j=i:=by
   match todo,hlen with
   |[a],_=>simp at hi hj;rw[hi,hj]
  unfold Wn;rw[ho];dsimp only;refine⟨fun hw=>?_,fun hw=>?_⟩
  ·unfold Ex;rw[(hfl _ w hk hφ).1 hw,hd];exact⟨Nv _ _ hφ,h⟩
  ·rw[hd];have:=(hfl _ w hk hφ).2 hw;subst this;exact⟨Nv _ _ hφ,h⟩
 |succ k ih=>
  intro todo e w hlen hnd hi hr hk hφ hfl h j hj IV;by_cases hji:j=i
  ·subst hji;unfold Wn;rw[ho];dsimp only;refine⟨fun hw=>?_,fun hw=>?_⟩
   ·unfold Ex;rw[(hfl _ w hk hφ).1 hw,hd];exact⟨Nv _ _ hφ,h⟩
   ·rw[hd];have:=(hfl _ w hk hφ).2 hw;subst this;exact⟨Nv _ _ hφ,h⟩
  ·have Sm:j∈todo.erase i:=(hnd.mem_erase_iff).2 ⟨hji,hj⟩;have Bb:vQ ops i j=false:=pq hi IV;have Sn:xS ops (todo.erase i) j=true:=sj IV;have hW:=h j Sm Sn;unfold Wn at hW ⊢;cases GK:ops[j]? with
   |none=>rw[GK] at hW;exact hW.elim
   |some oj=>
    rw[GK] at hW;dsimp only at hW ⊢
    have Dc:rH ops o oj=false:=by
     rcases Sk EZ ho GK (Ne.symm hji) with h1|h1|h1
     ·rw[Bb] at h1;cases h1
     ·rw[pq hj hr] at h1;cases h1
     ·exact h1
    unfold rH at Dc;rw[hd] at Dc;simp only[Zl] at Dc;obtain⟨⟨⟨kZ,lO⟩,Nw⟩,Nx⟩:=Dc;rw[wo (yU Nw)] at hW
    have key:∀u w',(J ((todo.erase i).erase j) w'∧Any P ops J Q k ((todo.erase i).erase j) (kY (upd e d v) oj.dst u) w')->
      J (todo.erase j) w'∧Any P ops J Q (k+1) (todo.erase j) (kY e oj.dst u) w':=by
     rintro u w' ⟨hJ,hA⟩;have QD:J (todo.erase j) w':=Sl _ _ (hnd.erase j) (by rw[List.erase_comm];exact hJ)
     refine⟨QD,ih (todo.erase j) _ w' (by rw[Xf hj,hlen];rfl) (hnd.erase j) ((hnd.mem_erase_iff).2 ⟨Ne.symm hji,hi⟩) ?_ (Lz _ _ hnd hk Bb) QD ?_ ?_⟩
     ·exact sj hr
     ·intro t w'' ht Oh;have hf:=hfl t w'' ht Oh;cases Ny:oj.dst with
      |none=>exact hf
      |some c=>
       rw[Ny] at Nx;simp only[Zl] at Nx;unfold DS at hf ⊢;simp only[kY];rw[wo (yU Nx.2),vS Nx.1];exact hf
     ·rw[List.erase_comm];cases Ny:oj.dst with
      |none=>rw[Ny] at hA;exact hA
      |some c=>
       rw[Ny] at hA kZ;simp only[kY] at hA ⊢;rw[rn (by rintro rfl;simp[KZ] at kZ)]
       exact hA
    refine⟨fun hw=>?_,fun hw=>key _ _ (hW.2 hw)⟩;have hE:=hW.1 hw;unfold Ex at hE ⊢;rw[vS lO] at hE;split at hE
    ·rename_i hr;exact key _ _ hE
    ·rename_i hr;exact key _ _ hE
    ·rename_i hr;exact hE.mono fun _ _ ⟨v,a,b⟩=>⟨v,a,key _ _ b⟩
    ·exact hE.elim
theorem lx{P:Program}{ops:Array Oper}{kx:Option Nat}{φ:World->Prop}{Q:Env->World->Prop}{i:Nat}{o:Oper}{d:Nat}{v:Value}(ho:ops[i]?=some o)(hd:o.dst=some d)(EZ:GJ ops=true)
  (k:Nat) (todo:List Nat) (e:Env) (w:World) (h1:todo.length=k+1) (h2:todo.Nodup) (h3:i∈todo) (h4:xS ops todo i=true)
  (hk:∀x,kx=some x->x∈todo∧vQ ops i x=true∧x≠i) (hφ:φ w) (hfl:∀w',φ w'->DS P ops o e w' v)
  (h:Any P ops (Jk kx φ) Q k (todo.erase i) (upd e d v) w):Any P ops (Jk kx φ) Q (k+1) todo e w:=
 t9 (inv:=fun t=>∀x,kx=some x->x∈t) ho hd EZ
  (fun t w ht hJ hx=>hJ fun x hx'=>(ht.mem_erase_iff).2 ⟨(hk x hx').2.2,hx x hx'⟩)
  (fun t w hJ hx=>hJ fun x hx'=>Xe (hx x hx'))
  (fun t j ht hi hj x hx=>(ht.mem_erase_iff).2 ⟨(by rintro rfl;rw[(hk x hx).2.1] at hj;cases hj),hi x hx⟩)
  k todo e w h1 h2 h3 h4 (fun x hx=>(hk x hx).1) (fun _=>hφ) (fun t w' ht hJ=>hfl w' (hJ ht)) h
theorem re{P:Program}{ops:Array Oper}{kx:Option Nat}{φ:World->Prop}{Q:Env->World->Prop}{i:Nat}{o:Oper}{d:Nat}{v:Value}(ho:ops[i]?=some o)(hd:o.dst=some d)(EZ:GJ ops=true)
  (k:Nat) (todo:List Nat) (e:Env) (w:World) (h1:todo.length=k+1) (h2:todo.Nodup) (h3:i∈todo) (h4:xS ops todo i=true)
  (hk:kx≠some i) (hφ:Jk kx φ todo w) (hfl:∀w',DS P ops o e w' v)
  (h:Any P ops (Jk kx φ) Q k (todo.erase i) (upd e d v) w):Any P ops (Jk kx φ) Q (k+1) todo e w:=
 t9 (inv:=fun _=>True) ho hd EZ
  (fun t w ht hJ hx=>hJ fun x hx'=>(ht.mem_erase_iff).2 ⟨(by rintro rfl;exact hk hx'),hx x hx'⟩)
  (fun t w hJ hx=>hJ fun x hx'=>Xe (hx x hx'))
  (fun _ _ _ _ _=>trivial)
  k todo e w h1 h2 h3 h4 trivial hφ (fun _ w' _ _=>hfl w') h
def uO(P:Program)(ops:Array Oper)(J:List Nat->World->Prop)(Q:Env->World->Prop)(post rest:List Nat)(e:Env)(w:World):Prop:=
 GJ ops=true->(post++rest).Nodup->Any P ops J Q (post++rest).length (post++rest) e w
section
variable{P:Program}{n:Nat}{ops:Array Oper}{kx:Option Nat}{φ:World->Prop}{Q:Env->World->Prop}{e:Env}{w:World}{post rest:List Nat}{i:Nat}
theorem xk{post rest:List Nat}{i:Nat}(hnd:(post++i::rest).Nodup):(post++i::rest).erase i=post++rest:=by
 have hpost:i∉post:=by
  intro hi;rw[List.nodup_append] at hnd;exact hnd.2.2 i hi i O7 rfl
 rw[List.erase_append_right _ hpost];simp
theorem sv{post rest:List Nat}{i:Nat}(hnd:(post++i::rest).Nodup):(post++rest).Nodup:=by
 have:=hnd.erase i
 rwa [xk hnd] at this
def HK(ops:Array Oper)(kx:Option Nat)(post rest:List Nat)(i:Nat):Bool:=match kx with
  |some x=>(post++i::rest).contains x&&vQ ops i x&&!(Nat.beq x i)
  |none=>true
theorem qj{o:Oper}{d:Nat}{v:Value}(ho:ops.toList[i]?=some o)(hd:o.dst=some d)(hr:xS ops (post++i::rest) i=true)(hc:HK ops kx post rest i=true)(hφ:φ w)
  (hfl:∀w',φ w'->DS P ops o e w' v) (h:uO P ops (Jk kx φ) Q post rest (upd e d v) w):uO P ops (Jk kx φ) Q post (i::rest) e w:=by
 intro hg hnd;have hlen:(post++i::rest).length=(post++rest).length+1:=by simp;omega
 rw[hlen];refine lx (by rw[<- dK];exact ho) hd hg _ _ e w hlen hnd O7 hr ?_ hφ hfl (by rw[xk hnd];exact h hg (sv hnd))
 intro x hx;subst hx;simp only[HK,Ur,Wi,List.contains_eq_mem,decide_eq_true_eq] at hc;exact⟨hc.1.1,hc.1.2,by rintro rfl;simp at hc⟩
theorem qu{o:Oper}{d:Nat}{v:Value}(ho:ops.toList[i]?=some o)(hd:o.dst=some d)(hr:xS ops (post++i::rest) i=true)(hc:(match kx with|some x=>Nat.beq x i|none=>false)=false)(hφ:Jk kx φ (post++i::rest) w)
  (hfl:∀w',DS P ops o e w' v) (h:uO P ops (Jk kx φ) Q post rest (upd e d v) w):uO P ops (Jk kx φ) Q post (i::rest) e w:=by
 intro hg hnd;have hlen:(post++i::rest).length=(post++rest).length+1:=by simp;omega
 rw[hlen];refine re (by rw[<- dK];exact ho) hd hg _ _ e w hlen hnd O7 hr ?_ hφ hfl (by rw[xk hnd];exact h hg (sv hnd))
 rintro rfl;simp at hc
theorem rr{J:List Nat->World->Prop}(h:uO P ops J Q (post++[i]) rest e w):uO P ops J Q post (i::rest) e w:=by
 unfold uO at h ⊢;rw[Uo] at h;exact h
theorem qm{J:List Nat->World->Prop}(h:Q e w):uO P ops J Q [] [] e w:=fun _ _=>h
theorem qd{J:List Nat->World->Prop}{k:Nat}(i:Nat){o:Oper}(hl:post.length=k+1)(hr:post.filter (xS ops post)=[i])(ho:ops.toList[i]?=some o)(hw:Region.wanted o (gv ops e)=true)
  (h:Ex P o e w fun e' w'=>J (post.erase i) w'∧uO P ops J Q [] (post.erase i) e' w'):uO P ops J Q post [] e w:=by
 intro hg hnd;rw[Ux] at hnd;rw[Ux,hl];intro j hj IV;have:j∈post.filter (xS ops post):=Xy.2 ⟨hj,IV⟩;rw[hr] at this;obtain rfl:j=i:=by simpa using this
 unfold Wn;rw[<- dK,ho];refine⟨fun _=>h.mono fun e' w' ⟨a,b⟩=>⟨a,?_⟩,fun hn=>by rw[hw] at hn;cases hn⟩
 have b:=b hg (by rw[Us];exact hnd.erase _)
 rw[Us,Xf hj,hl] at b;exact b
theorem vt{o:Oper}{j:Nat}{want b:Bool}(hgd:o.guard=some (j,want))(hg:gv ops e j=some b)(hb:b=want):Region.wanted o (gv ops e)=true:=by
 subst hb;simp[Region.wanted,hgd,hg]
theorem jv(i:Nat){o:Oper}(hr:xS ops [i] i=true)(ho:ops.toList[i]?=some o)(hw:Region.wanted o (gv ops e)=true)(h:Ex P o e w Q):uO P ops (Jk (some i) φ) Q [i] [] e w:=by
 refine qd i (k:=0) rfl (by simp[hr]) ho hw (h.mono fun e' w' hq=>⟨fun hx=>?_,?_⟩)
 ·have:=hx i rfl;simp at this
 ·simp only[List.erase_cons_head];exact qm hq
theorem j5{J:List Nat->World->Prop}{k:Nat}(i j:Nat){o o':Oper}(hl:post.length=k+1)(hr:post.filter (xS ops post)=[i,j])(ho:ops.toList[i]?=some o)(ho':ops.toList[j]?=some o')(hw:Region.wanted o (gv ops e)=true)
  (hw':Region.wanted o' (gv ops e)=true) (h:Ex P o e w fun e' w'=>J (post.erase i) w'∧uO P ops J Q [] (post.erase i) e' w') (h':Ex P o' e w fun e' w'=>J (post.erase j) w'∧uO P ops J Q [] (post.erase j) e' w'):uO P ops J Q post [] e w:=by
 intro hg hnd;rw[Ux] at hnd;rw[Ux,hl];intro m hj IV;have:m∈post.filter (xS ops post):=Xy.2 ⟨hj,IV⟩;rw[hr] at this;rcases(by simpa using this:m=i∨m=j) with rfl|rfl
 ·unfold Wn;rw[<- dK,ho];refine⟨fun _=>h.mono fun e' w' ⟨a,b⟩=>⟨a,?_⟩,fun hn=>by rw[hw] at hn;cases hn⟩
  have b:=b hg (by rw[Us];exact hnd.erase _)
  rw[Us,Xf hj,hl] at b;exact b
 ·unfold Wn;rw[<- dK,ho'];refine⟨fun _=>h'.mono fun e' w' ⟨a,b⟩=>⟨a,?_⟩,fun hn=>by rw[hw'] at hn;cases hn⟩
  have b:=b hg (by rw[Us];exact hnd.erase _)
  rw[Us,Xf hj,hl] at b;exact b
theorem Any.swap{J J':List Nat->World->Prop}(x:Nat)(hJ:∀t w,x∉t->J t w):∀{k:Nat} {todo:List Nat} {e:Env} {w:World},x∉todo->Any P ops J' Q k todo e w->Any P ops J Q k todo e w
 |0,_,_,_,_,h=>h
 |k+1,todo,e,w,hx,h=>fun i hi hr=>by
  have:=h i hi hr;have hx':x∉todo.erase i:=fun hm=>hx (Xe hm);unfold Wn at this ⊢;cases ho:ops[i]? with
  |none=>rw[ho] at this;exact this
  |some o=>
   rw[ho] at this;exact⟨fun hw=>(this.1 hw).mono fun e w ⟨a,b⟩=>⟨hJ _ _ hx',Any.swap x hJ hx' b⟩,fun hw=>⟨hJ _ _ hx',Any.swap x hJ hx' (this.2 hw).2⟩⟩
theorem jx{k:Nat}(i:Nat)(Nz:Option Nat){o:Oper}(hl:post.length=k+1)(hr:post.filter (xS ops post)=[i])(ho:ops.toList[i]?=some o)(hw:Region.wanted o (gv ops e)=true)
  (h:Ex P o e w fun e' w'=>∃φ',uO P ops (Jk Nz φ') Q [] (post.erase i) e' w'):uO P ops (Jk (some i) φ) Q post [] e w:=by
 intro hg hnd;have Oi:post.Nodup:=by simpa using hnd
 have hni:i∉post.erase i:=Oi.not_mem_erase;have LA:∀t w,i∉t->Jk (some i) φ t w:=fun t w ht hx=>absurd (hx i rfl) ht;refine qd i hl hr ho hw (h.mono fun e' w' ⟨φ',hc⟩=>⟨LA _ _ hni,fun hg hnd=>?_⟩) hg hnd;exact Any.swap i LA hni (hc hg hnd)
theorem jh{Nz:Option Nat}{w0:World}{l:List aC}{todo:List Nat}(_:St w0 l w)(hc:uO P ops (Jk Nz (fun w=>St w0 l w)) Q [] todo e w):∃φ',uO P ops (Jk Nz φ') Q [] todo e w:=⟨_,hc⟩
end
theorem r0{P:Program}{n:Nat}{id:Nat}{l:List Oper}{Q:Post}{e:Env}{w:World}(kx:Option Nat)(φ:World->Prop)(EW:rG n l.toArray)(hg:GJ l.toArray=true)(hφ:φ w.drew)
  (h:∀w',φ w'->uO P l.toArray (Jk kx φ) (Q .normal) [] (List.range l.length) e w'):Cd P n (.region id l.toArray true) Q e w:=by
 refine rt (J:=Jk kx φ) EW ?_;have:=h _ hφ hg (by simpa using List.nodup_range)
 simpa using this
theorem jz{P:Program}{n:Nat}{id:Nat}{l:List Oper}{Q:Post}{e:Env}{w:World}(kx:Option Nat)(φ:World->Prop)(EW:fwd n l.toArray=true)(hg:GJ l.toArray=true)(hφ:φ w.drew)
  (h:∀w',φ w'->uO P l.toArray (Jk kx φ) (Q .normal) [] (List.range l.length) e w'):Cd P n (.region id l.toArray true) Q e w:=
 r0 kx φ (lz EW) hg hφ h
theorem vr{P:Program}{n:Nat}{id:Nat}{l:List Oper}{Q:Post}{e:Env}{w:World}(rk:List Nat)(kx:Option Nat)(φ:World->Prop)(EW:IT rk n l.toArray=true)(hg:GJ l.toArray=true)(hφ:φ w.drew)
  (h:∀w',φ w'->uO P l.toArray (Jk kx φ) (Q .normal) [] (List.range l.length) e w'):Cd P n (.region id l.toArray true) Q e w:=
 r0 kx φ (wm EW) hg hφ h
theorem jb{P:Program}{n:Nat}{id:Nat}{l:List Oper}{Q:Post}{e:Env}{w:World}(rk:List Nat)(kx:Option Nat)(φ:World->Prop)(EW:IT rk n l.toArray=true)(hg:GJ l.toArray=true)
  (h:uO P l.toArray (Jk kx φ) (Q .normal) [] (List.range l.length) e w.drew):Cd P n (.region id l.toArray true) Q e w:=by
 refine rt (J:=Jk kx φ) (wm EW) ?_;have:=h hg (by simpa using List.nodup_range)
 simpa using this
attribute [irreducible] Any uO Wn DS
end
section
class eV(P:Program)(t:TypeId)(d:outParam TypeDesc):Prop where
 h:P.underlying t=some d
class cM(P:Program)(t:TypeId)(z:outParam (List Value))(agg:outParam Bool)(bytes:outParam Nat):Prop where
 h:(P.info? t).map (fun i=>(i.zero,i.size,i.bytes))=some (some (if agg then .agg z.toArray else z.getD 0 undef),z.length,bytes)
 one:agg=false->z.length=1
 u:∃d,P.underlying t=some d∧(match d with | .struct _ | .array _ _=>true|_=>false)=agg
 Oj:∀v∈z,v.oneCell'=true
def QE:TypeDesc->Bool
 |.struct _ | .array _ _=>true
 |_=>false
theorem mF{P:Program}{t n:Nat}{z:List Value}{U:TypeDesc}(u:P.underlying t=some U)(h:(P.info? t).map (fun i=>(i.zero,i.size,i.bytes))=some (some (z.getD 0 undef),z.length,n):=by kernel_rfl)(l:z.length=1:=by rfl)(d:QE U=false:=by rfl)(o:∀v∈z,v.oneCell'=true:=by simp[Value.oneCell']):cM P t z false n:=⟨h,fun _=>l,⟨_,u,d⟩,o⟩
theorem mT{P:Program}{t n:Nat}{z:List Value}{U:TypeDesc}(u:P.underlying t=some U)(h:(P.info? t).map (fun i=>(i.zero,i.size,i.bytes))=some (some (.agg z.toArray),z.length,n):=by kernel_rfl)(d:QE U=true:=by rfl)(o:∀v∈z,v.oneCell'=true:=by simp[Value.oneCell']):cM P t z true n:=⟨h,fun h=>(by cases h),⟨_,u,d⟩,o⟩
class cC(P:Program)(f:FuncId):Prop where
 h : ∃ fn, P.funcs[f]? = some fn ∧ (fn.name == "runtime.NumGoroutine") = false ∧ fn.body.isNone = false
theorem fB {P : Program} {f : FuncId} {fn : Func} (h : P.funcs[f]? = some fn) (a : (fn.name == "runtime.NumGoroutine") = false := by kernel_rfl) (b : fn.body.isNone = false := by kernel_rfl) : cC P f := ⟨_, h, a, b⟩
class FA(P:Program)(s f:Nat)(k:outParam Nat):Prop where
 h:∀b o w,(Instr.fieldAt s (.pointer (some ⟨b,o,none⟩)) f).run P w=.ok (.pointer (some ⟨b,o+k,none⟩)) w
theorem cM.get{P:Program}{t:TypeId}{z:List Value}{agg:Bool}{bytes:Nat}(h:cM P t z agg bytes):∃i,P.info? t=some i∧i.zero=some (if agg then .agg z.toArray else z.getD 0 undef)∧i.size=z.length∧i.bytes=bytes:=by
 obtain⟨i,hi,he⟩:=Ve.1 h.h;simp only[Prod.mk.injEq] at he;exact⟨i,hi,he.1,he.2.1,he.2.2⟩
theorem cM.sizeOf{P:Program}{t:TypeId}{z:List Value}{agg:Bool}{bytes:Nat}(h:cM P t z agg bytes)(w:World):(sizeOf t).run P w=.ok z.length w:=by
 obtain⟨i,hi,_,hs,_⟩:=h.get;simp[Go.sizeOf,typeInfo,hi,hs]
theorem cM.isAgg{P:Program}{t:TypeId}{z:List Value}{agg:Bool}{bytes:Nat}(h:cM P t z agg bytes)(w:World):(isAgg t).run P w=.ok agg w:=by
 obtain⟨d,hu,hd⟩:=h.u;unfold Go.isAgg;rw[Sem.run_bind,run_underlying hu w];cases d <;> simp_all
theorem cM.zeroValue{P:Program}{t:TypeId}{z:List Value}{agg:Bool}{bytes:Nat}(h:cM P t z agg bytes)(w:World):(zeroValue t).run P w=.ok (if agg then .agg z.toArray else z.getD 0 undef) w:=by
 obtain⟨i,hi,hz,_,_⟩:=h.get;simp[Go.zeroValue,typeInfo,hi,hz]
theorem cM.cells{P:Program}{t:TypeId}{z:List Value}{agg:Bool}{bytes:Nat}(h:cM P t z agg bytes):(if agg then Value.agg z.toArray else z.getD 0 undef).cells=z.toArray:=by
 cases agg with
 |true=>rfl
 |false=>
  have h1:=h.one rfl
  match z,h1 with
  |[v],_=>
   have:=h.Oj v O7;cases v <;> first|rfl|(simp[Value.oneCell'] at this)
theorem FA.mk'{P:Program}{s f ft k:Nat}{fields:Array Field}{z:List Value}{agg:Bool}{bytes:Nat}(hu:P.underlying s=some (.struct fields))(hf:(fields[f]?).map (fun fl=>(fl.type,fl.offset))=some (ft,k))(hi:cM P ft z agg bytes)(hz:z≠[]):FA P s f k:=by
 refine⟨fun b o w=>?_⟩;obtain⟨fl,h1,h2⟩:=Ve.1 hf;simp only[Prod.mk.injEq] at h2;obtain⟨rfl,rfl⟩:=h2;have hs:=hi.sizeOf w;have:z.length≠0:=by simpa using hz
 simp[Instr.fieldAt,run_underlying hu,h1,Instr.sureAddr,fieldPlace,hs,this,Addr.add_mid]
theorem fA{P:Program}{s f ft k:Nat}{fields:Array Field}{z:List Value}{agg:Bool}{bytes:Nat}(hu:P.underlying s=some (.struct fields))(hi:cM P ft z agg bytes)(hf:(fields[f]?).map (fun fl=>(fl.type,fl.offset))=some (ft,k):=by rfl)(h:z≠[]:=by exact List.cons_ne_nil _ _):FA P s f k:=FA.mk' hu hf hi h
def Qv(P:Program)(e:Env)(o:Oper)(w:World)(v:Value):Prop:=(execOp (ev e) o).run P w=.ok (.value v) w
section
variable{P:Program}{n:Nat}{ops:Array Oper}{Q:Post}{rest:List Oper}{e:Env}{w:World}{K:Env->World->Prop}
variable{d:Option Nat}{ty:TypeId}{pos:String}{af:Array Edge}{g:Option (Nat×Bool)}
theorem QF{op:Op}{v:Value}(hq:Qv P e ⟨d,op,ty,pos,af,g⟩ w v)(h:K (kY e d v) w):Ex P ⟨d,op,ty,pos,af,g⟩ e w K:=by
 unfold Qv at hq;unfold Ex;rw[hq];exact h
theorem EC{op:Op}{v:Value}{w':World}(hq:(execOp (ev e) ⟨d,op,ty,pos,af,g⟩).run P w=.ok (.value v) w')(h:K (kY e d v) w'):Ex P ⟨d,op,ty,pos,af,g⟩ e w K:=by
 unfold Ex;rw[hq];exact h
theorem fa{op:Op}{w':World}(hq:(execOp (ev e) ⟨d,op,ty,pos,af,g⟩).run P w=.ok .skip w')(h:K (kY e d undef) w'):Ex P ⟨d,op,ty,pos,af,g⟩ e w K:=by
 unfold Ex;rw[hq];exact h
theorem aD{op:Op}{c:Nat}{v:Value}(hq:Qv P e ⟨some c,op,ty,pos,af,none⟩ w v)(hd:Kl c n=true)(h:Rn P n ops Q rest (upd e c v) w):
  Rn P n ops Q (⟨some c,op,ty,pos,af,none⟩::rest) e w:=aF hd (QF hq h)
theorem qh{op:Op}{v:Value}(hg:g=none)(hq:Qv P e ⟨d,op,ty,pos,af,g⟩ w v):DS P ops ⟨d,op,ty,pos,af,g⟩ e w v:=by
 subst hg;unfold Qv at hq;unfold DS;exact⟨fun _=>hq,fun h=>by simp[Region.wanted] at h⟩
theorem cD{ops:Array Oper}{kx:Option Nat}{φ:World->Prop}{Q:Env->World->Prop}{post rest:List Nat}{i:Nat}{op:Op}{dd:Nat}{v:Value}(ho:ops.toList[i]?=some ⟨d,op,ty,pos,af,g⟩)(hd:d=some dd)(hr:xS ops (post++i::rest) i=true)(hc:(match kx with|some x=>Nat.beq x i|none=>false)=false)(hφ:φ w)
 (hg:g=none) (hq:∀{w'},Qv P e ⟨d,op,ty,pos,af,g⟩ w' v) (h:uO P ops (Jk kx φ) Q post rest (upd e dd v) w):uO P ops (Jk kx φ) Q post (i::rest) e w:=qu ho hd hr hc (fun _=>hφ) (fun _=>qh hg hq) h
theorem qe{op:Op}{v:Value}{j:Nat}{want b:Bool}(hg:gv ops e j=some b)(hb:b=want)(hq:Qv P e ⟨d,op,ty,pos,af,some (j,want)⟩ w v):DS P ops ⟨d,op,ty,pos,af,some (j,want)⟩ e w v:=by
 unfold Qv at hq;unfold DS;subst hb;exact⟨fun _=>hq,fun h=>by simp[Region.wanted,hg] at h⟩
theorem qp{op:Op}{j:Nat}{want b:Bool}(hg:gv ops e j=some b)(hb:b=!want):DS P ops ⟨d,op,ty,pos,af,some (j,want)⟩ e w undef:=by
 unfold DS;subst hb;exact⟨fun h=>by cases want <;> simp[Region.wanted,hg] at h,fun _=>rfl⟩
theorem v5{x:Operand}{k:IntKind}{a:Int}(hx:ev e x=.int k a):Qv P e ⟨d,.move x,ty,pos,af,g⟩ w (.int k a):=by
 unfold Qv;simp[execOp,hx]
theorem su{x:Operand}{k:IntKind}{a:Int}(hx:ev e x=.int k a):Qv P e ⟨d,.assign x,ty,pos,af,g⟩ w (.int k a):=by
 unfold Qv;simp[execOp,hx]
theorem iq{x:Operand}{b:Bool}(hx:ev e x=.bool b):Qv P e ⟨d,.move x,ty,pos,af,g⟩ w (.bool b):=by
 unfold Qv;simp[execOp,hx]
theorem sk{x:Operand}{b:Bool}(hx:ev e x=.bool b):Qv P e ⟨d,.assign x,ty,pos,af,g⟩ w (.bool b):=by
 unfold Qv;simp[execOp,hx]
theorem j1{x:Operand}{a:Option Addr}(hx:ev e x=.pointer a):Qv P e ⟨d,.move x,ty,pos,af,g⟩ w (.pointer a):=by
 unfold Qv;simp[execOp,hx]
theorem ul{x:Operand}{a:Option Addr}(hx:ev e x=.pointer a):Qv P e ⟨d,.assign x,ty,pos,af,g⟩ w (.pointer a):=by
 unfold Qv;simp[execOp,hx]
theorem nw{x:Operand}{a:Option Addr}{m c:Nat}(hx:ev e x=.slice a m c):Qv P e ⟨d,.move x,ty,pos,af,g⟩ w (.slice a m c):=by
 unfold Qv;simp[execOp,hx]
theorem xy{x:Operand}{a:Option Addr}{m c:Nat}(hx:ev e x=.slice a m c):Qv P e ⟨d,.assign x,ty,pos,af,g⟩ w (.slice a m c):=by
 unfold Qv;simp[execOp,hx]
theorem ij{x:Operand}{vs:List Value}(hx:ev e x=.tuple vs.toArray):Qv P e ⟨d,.move x,ty,pos,af,g⟩ w (.tuple vs.toArray):=by
 unfold Qv;simp[execOp,hx]
theorem jp{c x y:Operand}{b k:Bool}(hc:ev e c=.bool k)(hk:k=true)(hx:ev e x=.bool b):Qv P e ⟨d,.pick c x y,ty,pos,af,g⟩ w (.bool b):=by
 unfold Qv;subst hk;simp[execOp,hc,hx,asBool]
theorem jc{c x y:Operand}{b k:Bool}(hc:ev e c=.bool k)(hk:k=false)(hy:ev e y=.bool b):Qv P e ⟨d,.pick c x y,ty,pos,af,g⟩ w (.bool b):=by
 unfold Qv;subst hk;simp[execOp,hc,hy,asBool]
theorem uj{x:Operand}{a:Addr}(hx:ev e x=.pointer (some a)):Qv P e ⟨d,.nilCheck x,ty,pos,af,g⟩ w (.pointer (some a)):=by
 unfold Qv;simp[execOp,hx]
theorem vj{s f k:Nat}[FA P s f k]{x:Operand}{b o:Nat}(hx:ev e x=.pointer (some ⟨b,o,none⟩)):Qv P e ⟨d,.fieldAddr s x f,ty,pos,af,g⟩ w (.pointer (some ⟨b,o+k,none⟩)):=by
 unfold Qv;simp[execOp,hx,FA.h (P:=P) (s:=s) (f:=f)]
theorem lw{t:TypeId}{z:List Value}{bytes:Nat}[hi:cM P t z false bytes]{b o:Nat}{v:Value}(hv:w.cell? ⟨b,o,none⟩=some v):(Instr.loadAt t (.pointer (some ⟨b,o,none⟩))).run P w=.ok v w:=by
 simp[Instr.loadAt,Instr.sureAddr,loadVar,hi.isAgg,load,Sem.run,hv]
theorem yi{b o:Nat}{l:List Value}{T:TypeId}{fr:Nat×Nat}{v:Value}(hb:w.heap[b]?=some (.cells l.toArray T fr))(hv:l[o]?=some v):w.cell? ⟨b,o,none⟩=some v:=by
 simp[World.cell?,hb,hv]
theorem qr{t:TypeId}{z:List Value}{bytes:Nat}[cM P t z false bytes]{x:Operand}{b o:Nat}{v:Value}(hx:ev e x=.pointer (some ⟨b,o,none⟩))(hv:w.cell? ⟨b,o,none⟩=some v):
  Qv P e ⟨d,.load t x,ty,pos,af,g⟩ w v:=by
 unfold Qv;simp[execOp,hx,lw (t:=t) hv]
theorem qq{t:TypeId}{z:List Value}{bytes:Nat}[cM P t z false bytes]{x:Operand}{b o:Nat}{l:List Value}{T:TypeId}{fr:Nat×Nat}{v:Value}(hx:ev e x=.pointer (some ⟨b,o,none⟩))(hb:w.heap[b]?=some (.cells l.toArray T fr))(hv:l[o]?=some v):
  Qv P e ⟨d,.load t x,ty,pos,af,g⟩ w v:=qr hx (yi hb hv)
def At(w:World)(b o:Nat)(l:List Value):Prop:=∀j v,l[j]?=some v->w.cell? ⟨b,o+j,none⟩=some v
theorem qw{b o:Nat}{l m:List Value}{T:TypeId}{fr:Nat×Nat}(hb:w.heap[b]?=some (.cells l.toArray T fr))(hm:(l.drop o).take m.length=m):At w b o m:=by
 intro j v hj;refine yi hb ?_;rw[<- hm,Zu] at hj;split at hj
 ·simpa using hj
 ·cases hj
theorem js{t:TypeId}{z:List Value}{bytes:Nat}[hi:cM P t z true bytes]{b o:Nat}{l:List Value}(hz:z.length=l.length)(hl:At w b o l):(Instr.loadAt t (.pointer (some ⟨b,o,none⟩))).run P w=.ok (.agg l.toArray) w:=by
 obtain⟨i,h1,_,h3,_⟩:=hi.get;obtain⟨dd,hu,hd⟩:=hi.u;refine run_loadAt_mid w b o t l dd (fun j v hv=>hl j v hv) hu ?_ (by simp[h1,h3,hz])
 cases dd <;> simp_all
theorem qx{t:TypeId}{z:List Value}{bytes:Nat}[cM P t z true bytes]{x:Operand}{b o:Nat}{l:List Value}(hx:ev e x=.pointer (some ⟨b,o,none⟩))(hz:Nat.beq z.length l.length=true)(hl:At w b o l):
  Qv P e ⟨d,.load t x,ty,pos,af,g⟩ w (.agg l.toArray):=by
 unfold Qv;simp[execOp,hx,js (t:=t) (Vg hz) hl]
section
variable{k:IntKind}{a b:Int}{t t2:TypeId}{x y:Operand}
theorem vv(hx:ev e x=.int k a)(hy:ev e y=.int k b):Qv P e ⟨d,.binOp .add t x y t2,ty,pos,af,g⟩ w (.int k (k.wrap (a+b))):=by
 unfold Qv;simp[execOp,hx,hy,eqGuard,binOp,Op.intArith]
theorem vk(hx:ev e x=.int k a)(hy:ev e y=.int k b):Qv P e ⟨d,.binOp .sub t x y t2,ty,pos,af,g⟩ w (.int k (k.wrap (a-b))):=by
 unfold Qv;simp[execOp,hx,hy,eqGuard,binOp,Op.intArith]
theorem HL(hx:ev e x=.int k a)(hy:ev e y=.int k b):Qv P e ⟨d,.binOp .mul t x y t2,ty,pos,af,g⟩ w (.int k (k.wrap (a*b))):=by
 unfold Qv;simp[execOp,hx,hy,eqGuard,binOp,Op.intArith]
theorem yq(hx:ev e x=.int k a)(hy:ev e y=.int k b):Qv P e ⟨d,.binOp .lss t x y t2,ty,pos,af,g⟩ w (.bool (decide (a<b))):=by
 unfold Qv;simp[execOp,hx,hy,eqGuard,binOp,Op.intCmp]
theorem wt(hx:ev e x=.int k a)(hy:ev e y=.int k b):Qv P e ⟨d,.binOp .leq t x y t2,ty,pos,af,g⟩ w (.bool (decide (a<=b))):=by
 unfold Qv;simp[execOp,hx,hy,eqGuard,binOp,Op.intCmp]
theorem ue(hx:ev e x=.int k a)(hy:ev e y=.int k b):Qv P e ⟨d,.binOp .gtr t x y t2,ty,pos,af,g⟩ w (.bool (decide (a>b))):=by
 unfold Qv;simp[execOp,hx,hy,eqGuard,binOp,Op.intCmp]
theorem ka(hx:ev e x=.int k a)(hy:ev e y=.int k b):Qv P e ⟨d,.binOp .geq t x y t2,ty,pos,af,g⟩ w (.bool (decide (a ≥ b))):=by
 unfold Qv;simp[execOp,hx,hy,eqGuard,binOp,Op.intCmp]
theorem gk(hx:ev e x=.int k a)(hy:ev e y=.int k b):Qv P e ⟨d,.binOp .eql t x y t2,ty,pos,af,g⟩ w (.bool (a==b)):=by
 unfold Qv;simp[execOp,hx,hy,eqGuard,binOp,Op.intCmp]
theorem LB(hx:ev e x=.int k a)(hy:ev e y=.int k b):Qv P e ⟨d,.binOp .neq t x y t2,ty,pos,af,g⟩ w (.bool (a != b)):=by
 unfold Qv;simp[execOp,hx,hy,eqGuard,binOp,Op.intCmp]
def eS(op:BinOp)(k:IntKind)(a b:Int):Int:=
 let x:=BitVec.ofInt k.bits a
 let y:=BitVec.ofInt k.bits b
 k.wrap (match op with
  |.and=>x &&& y
  |.or=>x ||| y
  |.xor=>x ^^^ y
  |_=>x &&& ~~~y).toNat
theorem gx(hx:ev e x=.int k a)(hy:ev e y=.int k b):Qv P e ⟨d,.binOp .and t x y t2,ty,pos,af,g⟩ w (.int k (eS .and k a b)):=by
 unfold Qv;simp[execOp,hx,hy,eqGuard,binOp,Op.intBits,eS]
theorem E1(hx:ev e x=.int k a)(hy:ev e y=.int k b):Qv P e ⟨d,.binOp .or t x y t2,ty,pos,af,g⟩ w (.int k (eS .or k a b)):=by
 unfold Qv;simp[execOp,hx,hy,eqGuard,binOp,Op.intBits,eS]
theorem LC(hx:ev e x=.int k a)(hy:ev e y=.int k b):Qv P e ⟨d,.binOp .xor t x y t2,ty,pos,af,g⟩ w (.int k (eS .xor k a b)):=by
 unfold Qv;simp[execOp,hx,hy,eqGuard,binOp,Op.intBits,eS]
theorem HM(hx:ev e x=.int k a)(hy:ev e y=.int k b)(hb:b≠0):Qv P e ⟨d,.binOp .quo t x y t2,ty,pos,af,g⟩ w (.int k (k.wrap (a.tdiv b))):=by
 unfold Qv;simp[execOp,hx,hy,eqGuard,binOp,Op.intDiv,hb]
theorem pj(hx:ev e x=.int k a)(hy:ev e y=.int k b)(hb:b≠0):Qv P e ⟨d,.binOp .rem t x y t2,ty,pos,af,g⟩ w (.int k (a.tmod b)):=by
 unfold Qv;simp[execOp,hx,hy,eqGuard,binOp,Op.intDiv,hb]
theorem x8{k2:IntKind}(hx:ev e x=.int k a)(hy:ev e y=.int k2 b)(hb:0<=b):Qv P e ⟨d,.binOp .shl t x y t2,ty,pos,af,g⟩ w (.int k (k.wrap (a*2^(min b.toNat k.bits)))):=by
 unfold Qv;simp[execOp,hx,hy,eqGuard,binOp,Op.shift,show ¬b<0 by omega]
theorem j2{k2:IntKind}(hx:ev e x=.int k a)(hy:ev e y=.int k2 b)(hb:0<=b):Qv P e ⟨d,.binOp .shr t x y t2,ty,pos,af,g⟩ w (.int k (a.fdiv (2^(min b.toNat k.bits)))):=by
 unfold Qv;simp[execOp,hx,hy,eqGuard,binOp,Op.shift,show ¬b<0 by omega]
end
end
attribute [irreducible] Qv
end
section
def Rd(w:World)(sz:Nat)(a:Option Addr)(n:Nat)(xs:List Value):Prop:=
 xs.length=n*sz∧(n=0∨∃b o,a=some ⟨b,o,none⟩∧At w b o xs)
def eW(T sz:Nat)(a:Option Addr)(n c:Nat)(xs:List Value):aC:=fun h=>
 xs.length=n*sz∧n<=c∧((a=none∧c=0∧h=Hp.nil)∨
  ∃(g:Nat) (cur:List Value),a=some ⟨g,0,none⟩∧c*sz<=cur.length∧cur.take (n*sz)=xs∧pt g (.cells cur.toArray T (0,0)) h)
section
variable{w0 w w':World}{l:List aC}{T sz n c:Nat}{a:Option Addr}{xs:List Value}
theorem eW.nil(T sz:Nat):eW T sz none 0 0 [] Hp.nil:=⟨by simp,Ug _,.inl ⟨rfl,rfl,rfl⟩⟩
theorem St.aZ(T sz:Nat)(h:St w0 l w):St w0 (eW T sz none 0 0 []::l) w:=
 h.imp fun p hp=>⟨Hp.nil,p,fun _=>.inl rfl,(Hp.rE p).symm,eW.nil T sz,hp⟩
theorem St.bT(h:St w0 (eW T sz a n c xs::l) w):xs.length=n*sz∧n<=c∧((a=none∧c=0∧n=0∧St w0 l w)∨
  ∃(g:Nat) (cur:List Value),a=some ⟨g,0,none⟩∧c*sz<=cur.length∧cur.take (n*sz)=xs∧St w0 (pt g (.cells cur.toArray T (0,0))::l) w):=by
 obtain⟨p,hq,x,y,hd,he,⟨h1,h2,h3⟩,hl⟩:=h.own;refine⟨h1,h2,?_⟩;rcases h3 with⟨r1,r2,r3⟩|⟨g,cur,r1,r2,r3,r4⟩
 ·exact .inl ⟨r1,r2,cI,h.drop⟩
 ·exact .inr ⟨g,cur,r1,r2,r3,h.os,h.tape,h.output,h.size,h.old,p,hq,x,y,hd,he,r4,hl⟩
theorem St.kL{g:Nat}{cur:List Value}(h:St w0 (pt g (.cells cur.toArray T (0,0))::l) w)(h2:c*sz<=cur.length)(h3:cur.take (n*sz)=xs)(h4:n<=c):St w0 (eW T sz (sQ g) n c xs::l) w:=
 h.mono fun p hp=>⟨by rw[<- h3,Ul];exact Vn (Uw (Uv _ h4) h2),h4,.inr ⟨g,cur,rfl,h2,h3,hp⟩⟩
theorem St.iH{g:Nat}{cur:List Value}(h:St w0 (pt g (.cells cur.toArray T (0,0))::l) w)(h2:cur.length=c*sz)(h3:cur.take (n*sz)=xs)(h4:n<=c):St w0 (eW T sz (sQ g) n c xs::l) w:=
 h.kL (Nat.le_of_eq h2.symm) h3 h4
theorem St.mY(h:St w0 (eW T sz a n c xs::l) w):St w0 (eW T sz a n n xs::l) w:=by
 obtain⟨h1,h2,⟨rfl,rfl,rfl,h5⟩|⟨g,cur,rfl,h5,h6,h7⟩⟩:=h.bT
 ·have:xs=[]:=Uq (by simpa using h1)
  subst this;exact h5.aZ T sz
 ·exact h7.kL (Uw (Uv _ h2) h5) h6 (Ug _)
theorem St.bU(h:St w0 (eW T sz a n c xs::l) w):Rd w sz a n xs:=by
 obtain⟨h1,h2,h3⟩:=h.bT;refine⟨h1,?_⟩;rcases h3 with⟨r1,r2,r3,r4⟩|⟨g,cur,r1,r2,r3,r4⟩
 ·exact .inl r3
 ·exact .inr ⟨g,0,r1,qw r4.hd.1 (by rw[Xg,h1,r3])⟩
theorem Rd.old(h:St w0 l w)(hr:Rd w0 sz a n xs)(hb:∀b o,a=some ⟨b,o,none⟩->0<n->b<w0.heap.size):Rd w sz a n xs:=by
 refine⟨hr.1,?_⟩;rcases Wb n with h0|h0
 ·exact .inl h0
 refine .inr ?_;rcases hr.2 with h1|⟨b,o,r1,r2⟩
 ·omega
 exact⟨b,o,r1,fun j v hj=>by rw[h.A4 (hb b o r1 h0)];exact r2 j v hj⟩
theorem Rd.len(h:Rd w sz a n xs):xs.length=n*sz:=h.1
theorem Rd.first{P:Program}(h:Rd w sz a n xs)(c:Nat):(Builtin.firstCells sz n (.slice a n c)).run P w=.ok xs.toArray w:=by
 rcases h.2 with rfl|⟨b,o,rfl,gO⟩
 ·have:xs=[]:=Uq (by rw[h.1];simp)
  subst this;cases a with
  |none=>simp[Builtin.firstCells]
  |some ad=>exact run_firstCells_some w sz 0 ad 0 c [] O7 (fun j v hj=>by cases hj)
 ·exact run_firstCells_some w sz n _ n c xs h.1 (fun j v hj=>by rw[Addr.add_mid];exact gO j v hj)
end
section
variable{P:Program}{w:World}
theorem sZ{t ty T:TypeId}{z:List Value}{agg:Bool}{bytes:Nat}(ht:P.underlying t=some (.slice T))(hi:cM P T z agg bytes){a a2:Option Addr}{n c m c2:Nat}{xs ys:List Value}
  (hx:Rd w z.length a n xs) (hy:Rd w z.length a2 m ys) (hg:c<n+m) (hb:(n+m)*bytes<=140737488355328) (h63:n+m<=9223372036854775807):
  ∃k,(Builtin.append_ #[t,t] ty #[.slice a n c,.slice a2 m c2]).run P w=.ok (.slice (some ⟨w.heap.size,0,none⟩) (n+m) (n+m+k)) (w.drew.alloc (.cells (xs++ys++(Builtin.zeroCells z.toArray k).toList).toArray T)):=by
 obtain⟨i,h1,h2,h3,h4⟩:=hi.get;subst h4;have K0:=(show Rd w.drew z.length a n xs from hx).first (P:=P) c
 have IW:=(show Rd w.drew z.length a2 m ys from hy).first (P:=P) c2
 have hge:n+m<=grownCap w (n+m) c T:=by simp[grownCap,Question.cut]
 have hfit:=growslice_fits hg hb;have ED:=hi.cells;refine⟨grownCap w (n+m) c T-(n+m),?_⟩;have e1:n+m+(grownCap w (n+m) c T-(n+m))=grownCap w (n+m) c T:=by omega
 rw[e1];have hn1:¬(n+m<=c):=by omega
 have hn2:¬((9223372036854775807:Int)<(n:Int)+(m:Int)):=by omega
 have Bc:¬(281474976710656<Builtin.nextslicecap (n+m) c*i.bytes):=by omega
 rw[<- h3] at K0 IW;generalize (if agg then Value.agg z.toArray else z.getD 0 undef)=zz at h2 ED
 simp[Builtin.append_,run_underlying ht,sizeOf,typeInfo,zeroValue,h1,h2,Builtin.lenOf,hn1,hn2,Bc,Question.forced,newRow,K0,IW,grownCap,ED];congr 2;apply Array.ext';simp[Uo]
theorem oN{t ty T:TypeId}{z:List Value}{agg:Bool}{bytes:Nat}(ht:P.underlying t=some (.slice T))(hi:cM P T z agg bytes){a2:Option Addr}{g n c m c2:Nat}{cur ys:List Value}
  (hg:w.heap[g]?=some (.cells cur.toArray T (0,0))) (hc:c*z.length<=cur.length) (hy:Rd w z.length a2 m ys) (hfit:n+m<=c) (h1:∀u∈ys,u.oneCell'=true):
  (Builtin.append_ #[t,t] ty #[.slice (sQ g) n c,.slice a2 m c2]).run P w=.ok (.slice (sQ g) (n+m) c)
   (w.setRow g (cur.take (n*z.length)++ys++cur.drop (n*z.length+ys.length)).toArray):=by
 obtain⟨i,hi1,hi2,GI,hi4⟩:=hi.get;have IW:=hy.first (P:=P) c2
 have hle:(n+m)*z.length<=c*z.length:=Uv _ hfit;rw[Vj] at hle;have hst:=run_storeCells_at P g (n*z.length) T ys 0 cur.toArray w hg (by simp only[Xd,hy.1];omega) h1
 simp only[Ws] at hst;rw[Wy (n*z.length)] at hst ⊢;simp[Builtin.append_,run_underlying ht,sizeOf,typeInfo,hi1,Builtin.lenOf,hfit,IW,Addr.add_mid,GI,hst]
theorem uP{t ty T:TypeId}{z:List Value}{agg:Bool}{bytes:Nat}(ht:P.underlying t=some (.slice T))(hi:cM P T z agg bytes){c2:Nat}{a2:Option Addr}{ys:List Value}(hy:Rd w z.length a2 0 ys):
  (Builtin.append_ #[t,t] ty #[.slice none 0 0,.slice a2 0 c2]).run P w=.ok (.slice none 0 0) w:=by
 obtain⟨i,hi1,hi2,GI,hi4⟩:=hi.get;have IW:=hy.first (P:=P) c2
 rw[<- GI] at IW;simp[Builtin.append_,run_underlying ht,sizeOf,typeInfo,hi1,Builtin.lenOf,IW]
end
theorem gA(z:Array Value)(k:Nat):(Builtin.zeroCells z k).toList.length=k*z.size:=by simp[Builtin.zeroCells]
theorem St.append{P:Program}{w0 w:World}{l:List aC}{t ty T:TypeId}{z:List Value}{agg:Bool}{bytes:Nat}{n c m c2:Nat}{a a2:Option Addr}{xs ys:List Value}(h:St w0 (eW T z.length a n c xs::l) w)
  (ht:P.underlying t=some (.slice T)) (hi:cM P T z agg bytes) (hy:Rd w z.length a2 m ys) (h1:∀u∈ys,u.oneCell'=true) (hb:(n+m)*bytes<=140737488355328) (h63:n+m<=9223372036854775807):
  ∃a' c' w',(Builtin.append_ #[t,t] ty #[.slice a n c,.slice a2 m c2]).run P w=.ok (.slice a' (n+m) c') w'∧(a'=none->a=none)∧St w0 (eW T z.length a' (n+m) c' (xs++ys)::l) w':=by
 obtain⟨h2,h3,h4⟩:=h.bT;have hx:=h.bU;by_cases hg:c<n+m
 ·obtain⟨k,hr⟩:=sZ (P:=P) (ty:=ty) (c:=c) (c2:=c2) ht hi hx hy hg hb h63;refine⟨_,_,_,hr,(fun h=>by cases h),?_⟩
  have h5:=(h.drop.drew).alloc (.cells (xs++ys++(Builtin.zeroCells z.toArray k).toList).toArray T);refine St.iH h5 (c:=n+m+k) ?_ ?_ (Nat.le_add_right _ _)
  ·rw[Ua,Ua,gA,h2,hy.1,Vj,Vj];simp
  ·rw[Uo,<- Uo];exact List.take_left' (by rw[Ua,h2,hy.1,Vj])
 ·rcases h4 with⟨rfl,rfl,rfl,h5⟩|⟨g,cur,rfl,h5,h6,h7⟩
  ·obtain rfl:m=0:=by omega
   have hxs:xs=[]:=Uq (by simpa using h2)
   have hys:ys=[]:=Uq (by simpa using hy.1)
   subst hxs hys;exact⟨none,0,w,uP ht hi hy,(fun _=>rfl),h5.aZ T z.length⟩
  ·have hr:=oN (P:=P) (ty:=ty) (n:=n) (m:=m) (c2:=c2) ht hi h7.hd.1 h5 hy O0 h1;refine⟨_,_,_,hr,(fun h=>by cases h),?_⟩
   have hle:(n+m)*z.length<=c*z.length:=Uv _ O0;rw[Vj] at hle
   have h8:St w0 (pt g (.cells (cur.take (n*z.length)++ys++cur.drop (n*z.length+ys.length)).toArray T (0,0))::l) (w.setRow g (cur.take (n*z.length)++ys++cur.drop (n*z.length+ys.length)).toArray):=
    h7.put rfl rfl rfl O7 (fun k hk=>setRow_other w g k _ hk) (setRow_heap w g _ _ T (0,0) h7.hd.1)
   refine St.kL h8 (c:=c) ?_ ?_ O0
   ·simp only[Ua,Ul,Um,hy.1];omega
   ·rw[h6];exact List.take_left' (by rw[Ua,h2,hy.1,Vj])
end
section
section
variable{P:Program}{n:Nat}{ops:Array Oper}{Q:Post}{rest:List Oper}{e:Env}{w w0:World}{K:Env->World->Prop}{l:List aC}
variable{d:Option Nat}{ty:TypeId}{pos:String}{af:Array Edge}{g:Option (Nat×Bool)}
theorem sy{t:TypeId}{x y:Value}{b:Bool}(h:∀k,(Op.equalIn (k+1) t x y).run P w=.ok b w):(Op.equal t x y).run P w=.ok b w:=h 9999
theorem Dd{t t2:TypeId}{x y:Operand}{a c:Value}{b:Bool}(hx:ev e x=a)(hy:ev e y=c)(h:∀k,(Op.equalIn (k+1) t a c).run P w=.ok b w)(hb:binOp .eql t a c=(do pure (.bool (<- Op.equal t a c))))(hg:∀p q,eqGuard .eql t p q a c=pure ()):
  Qv P e ⟨d,.binOp .eql t x y t2,ty,pos,af,g⟩ w (.bool b):=by
 unfold Qv;have:=sy h;simp only[execOp,hx,hy,hb,hg,Sem.run_bind,Sem.run_pure,Result.andThen_ok,this]
theorem GL{t t2:TypeId}{x y:Operand}{a c:Value}{b:Bool}(hx:ev e x=a)(hy:ev e y=c)(h:∀k,(Op.equalIn (k+1) t a c).run P w=.ok b w)(hb:binOp .neq t a c=(do pure (.bool (!(<- Op.equal t a c)))))(hg:∀p q,eqGuard .neq t p q a c=pure ()):
  Qv P e ⟨d,.binOp .neq t x y t2,ty,pos,af,g⟩ w (.bool (!b)):=by
 unfold Qv;have:=sy h;simp only[execOp,hx,hy,hb,hg,Sem.run_bind,Sem.run_pure,Result.andThen_ok,this]
theorem Be{t el:TypeId}(hu:P.underlying t=some (.pointer el))(a:Option Addr)(k:Nat):(Op.equalIn (k+1) t (.pointer a) (.pointer none)).run P w=.ok a.isNone w:=by
 cases a <;> (unfold Op.equalIn;rw[Sem.run_bind,run_underlying hu];rfl)
theorem Cq{t el:TypeId}(hu:P.underlying t=some (.slice el))(a:Option Addr)(m c k:Nat):(Op.equalIn (k+1) t (.slice a m c) (.slice none 0 0)).run P w=.ok a.isNone w:=by
 cases a <;> (unfold Op.equalIn;rw[Sem.run_bind,run_underlying hu];rfl)
theorem ze{t t2 el:TypeId}[hu:eV P t (.pointer el)]{x y:Operand}{a:Option Addr}(hx:ev e x=.pointer a)(hy:ev e y=.pointer none):
  Qv P e ⟨d,.binOp .eql t x y t2,ty,pos,af,g⟩ w (.bool a.isNone):=
 Dd hx hy (Be hu.h a) (by cases a <;> rfl) (fun _ _=>rfl)
theorem v6{t t2 el:TypeId}[hu:eV P t (.pointer el)]{x y:Operand}{a:Option Addr}(hx:ev e x=.pointer a)(hy:ev e y=.pointer none):
  Qv P e ⟨d,.binOp .neq t x y t2,ty,pos,af,g⟩ w (.bool (!a.isNone)):=
 GL hx hy (Be hu.h a) (by cases a <;> rfl) (fun _ _=>rfl)
theorem ur{t t2 el:TypeId}[hu:eV P t (.slice el)]{x y:Operand}{a:Option Addr}{m c:Nat}(hx:ev e x=.slice a m c)(hy:ev e y=.slice none 0 0):
  Qv P e ⟨d,.binOp .eql t x y t2,ty,pos,af,g⟩ w (.bool a.isNone):=
 Dd hx hy (Cq hu.h a m c) rfl (fun _ _=>rfl)
theorem Bf(a:ByteArray):∀(k i:Nat) (r:List UInt8),a.size-i=k->ByteArray.toList.loop a i r=r.reverse++a.data.toList.drop i:=by
 intro k;induction k with
 |zero=>
  intro i r h;unfold ByteArray.toList.loop;have hs:a.size=a.data.size:=rfl;rw[if_neg O0,Vv O5];simp
 |succ k ih=>
  intro i r h;unfold ByteArray.toList.loop;have hs:a.size=a.data.size:=rfl;rw[if_pos O0,ih (i+1) _ O0];have hi:i<a.data.toList.length:=by simp;omega
  rw[Vx hi]
  have:a.get! i=a.data.toList[i]:=by
   show a.data[i]! = _;rw[getElem!_pos a.data i O0];simp
  rw[this];simp
theorem Bg(a:ByteArray):a.toList=a.data.toList:=by
 unfold ByteArray.toList;rw[Bf _ _ _ _ rfl];simp
theorem So{t t2:TypeId}{x y:Operand}{a b:ByteArray}(hx:ev e x=.string a)(hy:ev e y=.string b):
  Qv P e ⟨d,.binOp .eql t x y t2,ty,pos,af,g⟩ w (.bool (a.data.toList==b.data.toList)):=by
 unfold Qv;simp[execOp,hx,hy,eqGuard,binOp,Op.stringOp,Bg]
theorem zh{t:TypeId}{x:Operand}{a:Bool}(hx:ev e x=.bool a):Qv P e ⟨d,.unOp .not t x,ty,pos,af,g⟩ w (.bool (!a)):=by
 unfold Qv;simp[execOp,hx,Op.unary]
theorem sx{t:TypeId}{x:Operand}{k:IntKind}{a:Int}(hx:ev e x=.int k a):Qv P e ⟨d,.unOp .neg t x,ty,pos,af,g⟩ w (.int k (k.wrap (0-a))):=by
 unfold Qv;simp[execOp,hx,Op.unary,Op.intArith]
theorem zn{s t:TypeId}{k j:IntKind}{dd:TypeDesc}[hs:eV P s dd][ht:eV P t (.int k)]{x:Operand}{a:Int}(hx:ev e x=.int j a):Qv P e ⟨d,.convert s t x,ty,pos,af,g⟩ w (.int k (k.wrap a)):=by
 unfold Qv;simp[execOp,hx,convert,run_underlying hs.h,run_underlying ht.h,Conv.intToInt]
theorem ig{x:Operand}{i:Nat}{vs:List Value}{v:Value}(hx:ev e x=.tuple vs.toArray)(hv:vs[i]?=some v):Qv P e ⟨d,.extract x i,ty,pos,af,g⟩ w v:=by
 unfold Qv;simp[execOp,hx,Instr.extract,hv]
theorem iy{t el:TypeId}{tys:List TypeId}[hu:eV P t (.slice el)]{x:Operand}{a:Option Addr}{m c:Nat}(hx:ev e x=.slice a m c):
  Qv P e ⟨d,.call ⟨.builtin .len,[x].toArray,(t::tys).toArray⟩,ty,pos,af,g⟩ w (.iz m):=by
 unfold Qv;simp[execOp,resolve,hx,invoke,builtin,Builtin.len_,run_underlying hu.h,goInt]
theorem r8{t kt et:TypeId}{tys:List TypeId}[hu:eV P t (.map kt et)]{x:Operand}{r clock:Nat}{es:Array MapEntry}(hx:ev e x=.map (some r))(hb:w.heap[r]?=some (.map es clock)):
  Qv P e ⟨d,.call ⟨.builtin .len,[x].toArray,(t::tys).toArray⟩,ty,pos,af,g⟩ w (.iz es.size):=by
 unfold Qv;simp[execOp,resolve,hx,invoke,builtin,Builtin.len_,run_underlying hu.h,goInt,getObj,Sem.run,hb]
theorem wi{tys:Array TypeId}{x y:Operand}{k j:IntKind}{a b:Int}(hx:ev e x=.int k a)(hy:ev e y=.int j b):
  Qv P e ⟨d,.call ⟨.builtin .max,[x,y].toArray,tys⟩,ty,pos,af,g⟩ w (.int k (max a b)):=by
 unfold Qv;have:max a b=if b>a then b else a:=by rw[Int.max_def];split <;> split <;> omega
 simp[execOp,resolve,hx,hy,invoke,builtin,Builtin.max_,Builtin.max2,this]
theorem Ol{tys:Array TypeId}{x y:Operand}{k j:IntKind}{a b:Int}(hx:ev e x=.int k a)(hy:ev e y=.int j b):
  Qv P e ⟨d,.call ⟨.builtin .min,[x,y].toArray,tys⟩,ty,pos,af,g⟩ w (.int k (min a b)):=by
 unfold Qv;have:min a b=if b<a then b else a:=by rw[Int.min_def];split <;> split <;> omega
 simp[execOp,resolve,hx,hy,invoke,builtin,Builtin.min_,Builtin.min2,this]
theorem IX{tys:Array TypeId}{x y z:Operand}{k j i:IntKind}{a b c:Int}(hx:ev e x=.int k a)(hy:ev e y=.int j b)(hz:ev e z=.int i c):
  Qv P e ⟨d,.call ⟨.builtin .min,[x,y,z].toArray,tys⟩,ty,pos,af,g⟩ w (.int k (min (min a b) c)):=by
 unfold Qv;have h1:min a b=if b<a then b else a:=by rw[Int.min_def];split <;> split <;> omega
 have h2:min (min a b) c=if c<(if b<a then b else a) then c else(if b<a then b else a):=by rw[<- h1,Int.min_def];split <;> split <;> omega
 simp[execOp,resolve,hx,hy,hz,invoke,builtin,Builtin.min_,Builtin.min2,h2]
def dW:Value->List Value
 |.agg cs=>cs.toList
 |v=>[v]
theorem yl(v:Value):v.cells=(dW v).toArray:=by cases v <;> simp[dW,Value.cells]
def laid(zero:List Value)(places:List (Nat×Nat)):List (Nat×Value)->Option (List Value)
 |[]=>some zero
 |(i,v)::r=>match places[i]? with
  |none=>none
  |some (off,size)=>
   bif Nat.beq (dW v).length size&&Nat.ble (off+size) zero.length then laid (zero.take off++dW v++zero.drop (off+size)) places r else none
theorem sw(c:List Value):∀(off k:Nat) (cells:List Value),off+k+c.length<=cells.length->
  (c.zipIdx k).foldl (fun cs (x,j)=>cs.setIfInBounds (off+j) x) cells.toArray=(cells.take (off+k)++c++cells.drop (off+k+c.length)).toArray:=by
 induction c with
 |nil=>intro off k cells h;simp
 |cons v c ih=>
  intro off k cells h;simp only[Uj] at h;simp only[List.zipIdx_cons,List.foldl_cons,List.setIfInBounds_toArray];rw[ih off (k+1) (cells.set (off+k) v) O5];congr 1;have e1:off+(k+1)=off+k+1:=by omega
  have e2:(cells.set (off+k) v).take (off+k+1)=cells.take (off+k)++[v]:=by
   rw[List.take_succ_eq_append_getElem O5];simp[List.take_set_of_le]
  rw[e1,e2,List.drop_set_of_lt O0];simp[Nat.add_assoc,Wy,Nat.add_left_comm]
theorem sd(places:List (Nat×Nat)):∀(ps:List (Nat×Value)) (zero:List Value),(∀r,laid zero places ps=some r->Instr.fill (places.toArray[·]?) zero.toArray ps=some r.toArray)
 |[],zero,r,h=>by simp only[laid,Vr] at h;subst h;rfl
 |(i,v)::ps,zero,r,h=>by
  simp only[laid] at h;cases hp:places[i]? with
  |none=>rw[hp] at h;cases h
  |some os=>
   obtain⟨off,size⟩:=os;rw[hp] at h;simp only at h;cases hc:(Nat.beq (dW v).length size&&Nat.ble (off+size) zero.length) with
   |false=>rw[hc] at h;cases h
   |true=>
    rw[hc] at h;simp only[Ur] at hc;have h1:(dW v).length=size:=Vg hc.1;have h2:off+size<=zero.length:=Wk hc.2;have hr:=sd places ps _ r h;unfold Instr.fill;simp only[List.getElem?_toArray,hp,yl,Xd];rw[if_neg (by simp[h1];omega)]
    have:=sw (dW v) off 0 zero O0;simp only[Ws] at this;have hz:(dW v).toArray.zipIdx=((dW v).zipIdx).toArray:=by simp
    rw[hz,List.foldl_toArray,this,h1];simpa using hr
class Pl(P:Program)(t:TypeId)(z:outParam (List Value))(places:outParam (List (Nat×Nat))):Prop where
 u:∃fs,P.underlying t=some (.struct fs)∧∀w,(fs.mapM fun f=>do pure (f.offset,<- sizeOf f.type):Sem (Array (Nat×Nat))).run P w=.ok places.toArray w
 z:∀w,(zeroValue t).run P w=.ok (.agg z.toArray) w
theorem Pl.mk'{P:Program}{t:TypeId}{fl:List Field}{z:List Value}{places:List (Nat×Nat)}{bytes:Nat}(hu:P.underlying t=some (.struct fl.toArray))(hi:cM P t z true bytes)
  (hs:fl.map (fun f=>(f.offset,(P.info? f.type).map (·.size)))=places.map (fun p=>(p.1,some p.2))):Pl P t z places where
 u:=by
  refine⟨_,hu,fun w=>?_⟩;rw[List.mapM_toArray]
  have key:∀(fl:List Field) (places:List (Nat×Nat)),fl.map (fun f=>(f.offset,(P.info? f.type).map (·.size)))=places.map (fun p=>(p.1,some p.2))->
    (fl.mapM fun f=>do pure (f.offset,<- sizeOf f.type):Sem (List (Nat×Nat))).run P w=.ok places w:=by
   intro fl;induction fl with
   |nil=>intro places h;cases places with|nil=>simp|cons a b=>simp at h
   |cons f fl ih=>
    intro places h;cases places with
    |nil=>simp at h
    |cons a b=>
     simp only[Uy,List.cons.injEq,Prod.mk.injEq] at h;obtain⟨i,hi,hsz⟩:=Ve.1 h.1.2;have hsz':(sizeOf f.type).run P w=.ok a.2 w:=by simp[sizeOf,typeInfo,hi,hsz]
     rw[List.mapM_cons,Sem.run_bind,Sem.run_bind,hsz'];simp only[Result.andThen_ok,Sem.run_pure,Sem.run_bind,ih b h.2];rw[h.1.1]
  have hk:=key fl places hs;simp at hk;simp[hk]
 z:=fun w=>hi.zeroValue w
theorem qc{t:TypeId}{z:List Value}{places:List (Nat×Nat)}[hp:Pl P t z places]{parts:List (Nat×Operand)}{r:List Value}(hl:laid z places (parts.map fun(i,x)=>(i,ev e x))=some r):
  Qv P e ⟨d,.build t parts.toArray,ty,pos,af,g⟩ w (.agg r.toArray):=by
 unfold Qv;obtain⟨fs,hu,h1⟩:=hp.u;have h2:=hp.z w;have hf:=sd places _ _ _ hl;simp only[execOp,Instr.build,Sem.run_bind,h2,run_underlying hu,Result.andThen_ok,h1,Value.cells,Xl];simp only at hf;rw[hf];rfl
theorem jk{c:Nat}{t:TypeId}{x:Operand}{v:Value}(h:St w0 l w)(hx:ev e x=v)(k:∀b w',St w0 (pt b (.cells (dW v).toArray t (0,0))::l) w'->K (upd e c (.pz b)) w'):
  Ex P ⟨some c,.box t x,ty,pos,af,g⟩ e w K:=by
 refine EC (v:=.pointer (some ⟨w.heap.size,0,none⟩)) (w':=w.alloc (.cells (dW v).toArray t (0,0))) ?_ (k _ _ (h.alloc _));simp[execOp,hx,Instr.box,newVar,newRow,yl]
theorem qn{c:Nat}{t:TypeId}{z:List Value}{agg:Bool}{bytes:Nat}[hi:cM P t z agg bytes](h:St w0 l w)(k:∀b w',St w0 (pt b (.cells z.toArray t (0,0))::l) w'->K (upd e c (.pz b)) w'):
  Ex P ⟨some c,.alloc t,ty,pos,af,g⟩ e w K:=by
 refine EC (v:=.pointer (some ⟨w.heap.size,0,none⟩)) (w':=w.alloc (.cells z.toArray t (0,0))) ?_ (k _ _ (h.alloc _));have hz:=hi.zeroValue w;have hc:=hi.cells;generalize (if agg then Value.agg z.toArray else z.getD 0 undef)=zz at hz hc
 simp[execOp,Instr.alloc,hz,newVar,newRow,hc]
theorem ss{t:TypeId}{z:List Value}{agg:Bool}{bytes:Nat}[hi:cM P t z agg bytes]{b o:Nat}{cs:List Value}{T:TypeId}{fr:Nat×Nat}{v:Value}(k:Nat)(h:St w0 l w)
  (hk:l[k]?=some (pt b (.cells cs.toArray T fr))) (hs:(dW v).length=z.length) (ho:o+(dW v).length<=cs.length) (hfr:fr.2<=o) (h1:(dW v).all (·.oneCell')=true):
  ∃w',(Instr.storeAt t (.pointer (some ⟨b,o,none⟩)) v).run P w=.ok () w'∧St w0 (l.set k (pt b (.cells (cs.take o++dW v++cs.drop (o+(dW v).length)).toArray T fr))) w':=by
 have hb:=h.b k hk;have hst:=run_storeCells_atF P b o T fr (dW v) 0 cs.toArray w hb O0 (by simpa using ho) (by simpa using h1)
 simp only[Ws] at hst;refine⟨w.setRow b (cs.take o++dW v++cs.drop (o+(dW v).length)).toArray,?_,?_⟩
 ·have hz:=hi.sizeOf w;simp only[Instr.storeAt,Instr.sureAddr,storeVar,Sem.run_bind,Sem.run_pure,Result.andThen_ok,hz,yl];rw[if_neg (by simp[hs])]
  simp only[hst]
 ·exact h.Oa k hk rfl rfl rfl O7 (fun j hj=>setRow_other w b j _ hj) (setRow_heap w b _ _ T fr hb)
theorem qb{t:TypeId}{z:List Value}{bytes:Nat}[hi:cM P t z false bytes]{x y:Operand}{b o:Nat}{cs:List Value}{T:TypeId}{fr:Nat×Nat}{v:Value}(k:Nat)(h:St w0 l w)
  (hx:ev e x=.pointer (some ⟨b,o,none⟩)) (hy:ev e y=v) (hk:l[k]?=some (pt b (.cells cs.toArray T fr))) (ho:Kl o cs.length=true) (hfr:Nat.ble fr.2 o=true) (h1:v.oneCell'=true)
  (kk:∀w',St w0 (l.set k (pt b (.cells (cs.set o v).toArray T fr))) w'->K e w'):Ex P ⟨none,.store t x y,ty,pos,af,g⟩ e w K:=by
 have hz:=hi.one rfl;have hv:dW v=[v]:=by cases v <;> first|rfl|(simp[Value.oneCell'] at h1)
 have ho':o<cs.length:=by simpa[Xu] using ho
 obtain⟨w',h2,h3⟩:=ss (P:=P) (t:=t) (o:=o) (v:=v) k h hk (by rw[hv,hz];rfl) (by rw[hv];simp;omega) (Wk hfr) (by rw[hv];simp[h1])
 refine fa (w':=w') (by simp only[execOp,hx,hy,Sem.run_bind,h2,Result.andThen_ok];rfl) (kk _ ?_)
 rw[hv] at h3;have IY:cs.set o v=cs.take o++[v]++cs.drop (o+1):=by rw[Zi,if_pos ho'];simp
 rw[IY];exact h3
theorem qy{t:TypeId}{z:List Value}{bytes:Nat}[hi:cM P t z true bytes]{x y:Operand}{b o:Nat}{cs vs:List Value}{T:TypeId}{fr:Nat×Nat}(k:Nat)(h:St w0 l w)
  (hx:ev e x=.pointer (some ⟨b,o,none⟩)) (hy:ev e y=.agg vs.toArray) (hk:l[k]?=some (pt b (.cells cs.toArray T fr))) (hs:Nat.beq vs.length z.length=true) (ho:Nat.ble (o+vs.length) cs.length=true) (hfr:Nat.ble fr.2 o=true) (h1:vs.all (·.oneCell')=true)
  (kk:∀w',St w0 (l.set k (pt b (.cells (cs.take o++vs++cs.drop (o+vs.length)).toArray T fr))) w'->K e w'):Ex P ⟨none,.store t x y,ty,pos,af,g⟩ e w K:=by
 obtain⟨w',h2,h3⟩:=ss (P:=P) (t:=t) (o:=o) (v:=.agg vs.toArray) k h hk (Vg hs) (Wk ho) (Wk hfr) h1;exact fa (w':=w') (by simp only[execOp,hx,hy,Sem.run_bind,h2,Result.andThen_ok];rfl) (kk _ h3)
theorem qg{c:Option Nat}{f:FuncId}{xs:List Operand}{tys:Array TypeId}{vs:List Value}{φ:Value->World->Prop}[hf:cC P f](hv:xs.map (ev e)=vs)(h:bP P f vs w φ)(k:∀v w',φ v w'->K (kY e c v) w'):
  Ex P ⟨c,.call ⟨.value (.func f),xs.toArray,tys⟩,ty,pos,af,g⟩ e w K:=by
 obtain⟨fn,h1,h2,h3⟩:=hf.h;have hb:fn.body.isNone=false:=h3
 have hrun:(execOp (ev e) ⟨c,.call ⟨.value (.func f),xs.toArray,tys⟩,ty,pos,af,g⟩).run P w=.ok (.enter f vs.toArray) w:=by
  have hp:∀w,(program).run P w=.ok P w:=fun _=>rfl;simp only[execOp,resolve,ev,Deferred.ofValue,invoke,callFunc,Sem.run_bind,Sem.run_pure,Result.andThen_ok,hp,h1,h2,hb,Xl,hv];simp
 unfold bP at h;unfold Ex;rw[hrun];exact Calls.mono h fun _ _ ⟨v,a,b⟩=>⟨v,a,k _ _ b⟩
theorem pv{c:Nat}{t T:TypeId}[ht:eV P t (.slice T)]{z:List Value}{agg:Bool}{bytes:Nat}[hi:cM P T z agg bytes]{x y:Operand}{a a2:Option Addr}{m m2 c1 c2 sz:Nat}{xs ys:List Value}
  (h:St w0 (eW T sz a m c1 xs::l) w) (hx:ev e x=.slice a m c1) (hy:ev e y=.slice a2 m2 c2) (hr:Rd w sz a2 m2 ys) (h1:∀u∈ys,u.oneCell'=true) (hb:(m+m2)*bytes<=140737488355328) (h63:m+m2<=9223372036854775807) (hz:z.length=sz)
  (k:∀a' c' w',(a'=none->a=none)->St w0 (eW T sz a' (m+m2) c' (xs++ys)::l) w'->K (upd e c (.slice a' (m+m2) c')) w'):
  Ex P ⟨some c,.call ⟨.builtin .append,[x,y].toArray,[t,t].toArray⟩,ty,pos,af,g⟩ e w K:=by
 subst hz;obtain⟨a',c',w',hrun,Om,hst⟩:=h.append (ty:=ty) (c2:=c2) ht.h hi hr h1 hb h63;refine EC (v:=.slice a' (m+m2) c') (w':=w') ?_ (k _ _ _ Om hst);simp[execOp,resolve,hx,hy,invoke,builtin,hrun]
def Bh(sz:Nat)(zero:List Value):List (Nat×Value)->Option (List Value)
 |[]=>some zero
 |(i,v)::r=>
   bif Nat.beq (dW v).length sz&&Nat.ble (i*sz+sz) zero.length then Bh sz (zero.take (i*sz)++dW v++zero.drop (i*sz+sz)) r else none
theorem wl(sz:Nat):∀(ps:List (Nat×Value)) (zero r:List Value),Bh sz zero ps=some r->Instr.fill (fun i=>some (i*sz,sz)) zero.toArray ps=some r.toArray
 |[],zero,r,h=>by simp only[Bh,Vr] at h;subst h;rfl
 |(i,v)::ps,zero,r,h=>by
  simp only[Bh] at h;cases hc:(Nat.beq (dW v).length sz&&Nat.ble (i*sz+sz) zero.length) with
  |false=>rw[hc] at h;cases h
  |true=>
   rw[hc] at h;simp only[Ur] at hc;have h1:(dW v).length=sz:=Vg hc.1;have h2:i*sz+sz<=zero.length:=Wk hc.2;have hr:=wl sz ps _ r h;unfold Instr.fill;simp only[yl,Xd];rw[if_neg (by simp[h1];omega)]
   have:=sw (dW v) (i*sz) 0 zero O0;simp only[Ws] at this;have hz:(dW v).toArray.zipIdx=((dW v).zipIdx).toArray:=by simp
   rw[hz,List.foldl_toArray,this,h1];exact hr
def xT(z:List Value):Nat->List Value
 |0=>[]
 |k+1=>z++xT z k
theorem pu(z:List Value)(hz:z≠[]):∀(k j:Nat),j<k*z.length->(xT z k)[j]?=some (z.toArray[j%z.length]!)
 |0,j,h=>by omega
 |k+1,j,h=>by
  have hpos:0<z.length:=Vy.2 hz;unfold xT;by_cases hj:j<z.length
  ·rw[Wh hj,Un hj];simp[hj]
  ·rw[Wt O0,pu z hz k (j-z.length) (by rw[Vj] at h;omega)]
   congr 2;rw[<- Nat.mod_eq_sub_mod O0]
theorem we(z:List Value):∀k,(xT z k).length=k*z.length
 |0=>by simp[xT]
 |k+1=>by simp[xT,we z k,Vj,Wy]
theorem Sp(z:List Value)(hz:z≠[])(k:Nat):(Array.range (k*z.length)).map (fun i=>z.toArray[i%z.toArray.size]!)=(xT z k).toArray:=by
 apply Array.ext_getElem?;intro j;by_cases hj:j<k*z.length
 ·simp[hj,pu z hz k j hj]
 ·simp[hj,Vq,we,Nat.le_of_not_lt hj]
theorem jq{c:Nat}{t T:TypeId}[ht:eV P t (.slice T)]{z:List Value}{agg:Bool}{bytes:Nat}[hi:cM P T z agg bytes]{len:Nat}{parts:List (Nat×Operand)}{r:List Value}(h:St w0 l w)
  (hl:Bh z.length (xT z len) (parts.map fun(i,x)=>(i,ev e x))=some r) (hs:Nat.ble (len*z.length) 16777216=true) (hz:Nat.ble 1 z.length=true)
  (k:∀b w',St w0 (pt b (.cells r.toArray T (0,0))::l) w'->K (upd e c (.slice (sQ b) len len)) w'):
  Ex P ⟨some c,.buildSlice t len parts.toArray,ty,pos,af,g⟩ e w K:=by
 refine EC (v:=.slice (some ⟨w.heap.size,0,none⟩) len len) (w':=w.alloc (.cells r.toArray T (0,0))) ?_ (k _ _ (h.alloc _));have hf:=wl _ _ _ _ hl;have h1:=hi.sizeOf w;have h2:=hi.zeroValue w;have h3:=hi.cells;have hpos:1<=z.length:=Wk hz;have hne:z≠[]:=by rintro rfl;simp at hpos
 have LD:¬(2^24<len*z.length):=by have:=Wk hs;omega
 generalize (if agg then Value.agg z.toArray else z.getD 0 undef)=zz at h2 h3
 simp only at hf;by_cases h0:len*z.length=0
 ·have hcells:(Array.range (len*z.length)).map (fun i=>(#[]:Array Value)[i%(#[]:Array Value).size]!)=(xT z len).toArray:=by
   have:(xT z len)=[]:=Uq (by rw[we];exact h0)
   rw[this,h0];simp
  simp only[execOp,Instr.buildSlice,Sem.run_bind,run_underlying ht.h,Result.andThen_ok,h1];rw[if_neg LD,if_pos h0];simp only[Sem.run_bind,Sem.run_pure,Result.andThen_ok,hcells,Xl];rw[hf];simp[newRow]
 ·have hcells:=Sp z hne len;simp only[execOp,Instr.buildSlice,Sem.run_bind,run_underlying ht.h,Result.andThen_ok,h1];rw[if_neg LD,if_neg h0];simp only[Sem.run_bind,Sem.run_pure,Result.andThen_ok,h2,h3,hcells,Xl];rw[hf];simp[newRow]
end
end
section
section
variable{G H:Prop}
theorem Y0(g:H)(f:H->G:=by intro g;refine aD (v5 rfl) rfl ?_;exact g):G:=f g
theorem Y4(g:H)(f:H->G:=by intro g;refine aD (su rfl) rfl ?_;exact g):G:=f g
theorem Y3(g:H)(f:H->G:=by intro g;refine aD (sk rfl) rfl ?_;exact g):G:=f g
theorem Yp(g:H)(f:H->G:=by intro g;refine aD (nw rfl) rfl ?_;exact g):G:=f g
theorem Yo(g:H)(f:H->G:=by intro g;refine aD (xy rfl) rfl ?_;exact g):G:=f g
theorem AO(g:H)(f:H->G:=by intro g;refine aD (j1 rfl) rfl ?_;exact g):G:=f g
theorem AP(g:H)(f:H->G:=by intro g;refine aD (iq rfl) rfl ?_;exact g):G:=f g
theorem Yc(g:H)(f:H->G:=by intro g;refine aD (vj rfl) rfl ?_;exact g):G:=f g
theorem rI(g:H)(f:H->G:=by intro g;refine aD (uj rfl) rfl ?_;exact g):G:=f g
theorem rJ(g:H)(f:H->G:=by intro g;refine aD (iy rfl) rfl ?_;exact g):G:=f g
theorem tC(g:H)(f:H->G:=by intro g;refine aD (vv rfl rfl) rfl ?_;exact g):G:=f g
theorem Y2(g:H)(f:H->G:=by intro g;refine qv ?_;exact g):G:=f g
theorem Yf(g:H)(f:H->G:=by intro g;refine Ob rfl rfl ?_;exact g):G:=f g
theorem EE(g:H)(f:H->G:=by intro g;refine Oc rfl rfl rfl ?_;exact g):G:=f g
theorem Yu(g:H)(f:H->G:=by intro g;refine qa ?_;exact g):G:=f g
theorem Yg(g:H)(f:H->G:=by intro g;refine yt ?_;exact g):G:=f g
theorem vB(g:H)(f:H->G:=by intro g;refine j6 rfl ?_;exact g):G:=f g
theorem Ye(g:H)(f:H->G:=by intro g;refine aD (jp rfl rfl rfl) rfl ?_;exact g):G:=f g
theorem Y9(g:H)(f:H->G:=by intro g;refine aD (jc rfl rfl rfl) rfl ?_;exact g):G:=f g
theorem Yi(g:H)(f:H->G:=by intro g;refine aD (gk rfl rfl) rfl ?_;exact g):G:=f g
theorem yW(g:H)(f:H->G:=by intro g;refine aD (yq rfl rfl) rfl ?_;exact g):G:=f g
theorem oO(g:H)(f:H->G:=by intro g;refine aD (zh rfl) rfl ?_;exact g):G:=f g
theorem qJ(g:H)(f:H->G:=by intro g;refine aD (zn rfl) rfl ?_;exact g):G:=f g
theorem AQ(g:H)(f:H->G:=by intro g;refine aD (vk rfl rfl) rfl ?_;exact g):G:=f g
theorem tW(g:H)(f:H->G:=by intro g;refine aD (ul rfl) rfl ?_;exact g):G:=f g
theorem tX(g:H)(f:H->G:=by intro g;refine aD (ka rfl rfl) rfl ?_;exact g):G:=f g
theorem Cr(g:H)(f:H->G:=by intro g;refine aD (ue rfl rfl) rfl ?_;exact g):G:=f g
theorem EF(g:H)(f:H->G:=by intro g;refine aD (wt rfl rfl) rfl ?_;exact g):G:=f g
theorem Bi(g:H)(f:H->G:=by intro g;refine aD (LB rfl rfl) rfl ?_;exact g):G:=f g
theorem K1(g:H)(f:H->G:=by intro g;refine aD (Ol rfl rfl) rfl ?_;exact g):G:=f g
theorem HN(g:H)(f:H->G:=by intro g;refine aD (LC rfl rfl) rfl ?_;exact g):G:=f g
theorem LF(g:H)(f:H->G:=by intro g;refine aD (HL rfl rfl) rfl ?_;exact g):G:=f g
theorem Yj(g:H)(f:H->G:=by intro g;refine cD rfl rfl rfl rfl h rfl (vj rfl) ?_;exact g):G:=f g
theorem Yt(g:H)(f:H->G:=by intro g;refine cD rfl rfl rfl rfl h rfl (v5 rfl) ?_;exact g):G:=f g
theorem AR(g:H)(f:H->G:=by intro g;refine cD rfl rfl rfl rfl h rfl (nw rfl) ?_;exact g):G:=f g
theorem tY(g:H)(f:H->G:=by intro g;refine cD rfl rfl rfl rfl h rfl (j1 rfl) ?_;exact g):G:=f g
theorem GM(g:H)(f:H->G:=by intro g;refine cD rfl rfl rfl rfl h rfl (uj rfl) ?_;exact g):G:=f g
theorem zW(g:H)(f:H->G:=by intro g;refine cD rfl rfl rfl rfl h rfl (xy rfl) ?_;exact g):G:=f g
theorem De(g:H)(f:H->G:=by intro g;refine cD rfl rfl rfl rfl h rfl (iy rfl) ?_;exact g):G:=f g
theorem NA(g:H)(f:H->G:=by intro g;refine cD rfl rfl rfl rfl h rfl (ig rfl rfl) ?_;exact g):G:=f g
theorem AS(g:H)(f:H->G:=by intro g;refine cD rfl rfl rfl rfl h rfl (su rfl) ?_;exact g):G:=f g
theorem Yx(g:H)(f:H->G:=by intro g;refine cD rfl rfl rfl rfl h rfl (iq rfl) ?_;exact g):G:=f g
theorem rK(g:H)(f:H->G:=by intro g;refine cD rfl rfl rfl rfl h rfl (sk rfl) ?_;exact g):G:=f g
theorem Ym(g:H)(f:H->G:=by intro g;refine rr ?_;exact g):G:=f g
theorem Y1(g:H)(f:H->G:=by intro g;refine qi ?_;refine je ?_;exact g):G:=f g
theorem Ya(g:H)(f:H->G:=by intro g;refine Y3 ?_;refine Y2 ?_;exact g):G:=f g
theorem Yn(g:H)(f:H->G:=by intro g;refine Ym ?_;refine Ym ?_;exact g):G:=f g
theorem Yk(g:H)(f:H->G:=by intro g;refine rI ?_;refine Yc ?_;exact g):G:=f g
theorem Y5(g:H)(f:H->G:=by intro g;refine Y4 ?_;refine Y2 ?_;exact g):G:=f g
theorem LG(g:H)(f:H->G:=by intro g;refine EE ?_;refine EE ?_;exact g):G:=f g
theorem Yh(g:H)(f:H->G:=by intro g;refine Y2 ?_;refine vB ?_;exact g):G:=f g
theorem Cg(g:H)(f:H->G:=by intro g;refine GM ?_;refine Yj ?_;exact g):G:=f g
theorem xU(g:H)(f:H->G:=by intro g;refine qt rfl ?_;refine Yu ?_;exact g):G:=f g
theorem DT(g:H)(f:H->G:=by intro g;refine AP ?_;refine Yf ?_;exact g):G:=f g
theorem QG(g:H)(f:H->G:=by intro g;refine aD (ig rfl rfl) rfl ?_;refine aD (ig rfl rfl) rfl ?_;exact g):G:=f g
theorem yX(g:H)(f:H->G:=by intro g;refine Y2 ?_;refine qi ?_;exact g):G:=f g
theorem Yw(g:H)(f:H->G:=by intro g;refine je ?_;refine tC ?_;exact g):G:=f g
theorem Oo(g:H)(f:H->G:=by intro g;refine Yc ?_;refine Yf ?_;exact g):G:=f g
theorem Oq(g:H)(f:H->G:=by intro g;refine Y0 ?_;refine Yf ?_;exact g):G:=f g
theorem vC(g:H)(f:H->G:=by intro g;refine AP ?_;refine oO ?_;exact g):G:=f g
theorem Ch(g:H)(f:H->G:=by intro g;refine qi ?_;refine Yg ?_;exact g):G:=f g
theorem Ci(g:H)(f:H->G:=by intro g;refine je ?_;refine AO ?_;exact g):G:=f g
theorem K2(g:H)(f:H->G:=by intro g;refine Y2 ?_;refine Yg ?_;exact g):G:=f g
theorem AT(g:H)(f:H->G:=by intro g;refine je ?_;refine Y0 ?_;exact g):G:=f g
theorem Yz(g:H)(f:H->G:=by intro g;refine Yo ?_;refine Y2 ?_;exact g):G:=f g
theorem sV(g:H)(f:H->G:=by intro g;refine Yp ?_;refine rJ ?_;exact g):G:=f g
theorem Cs(g:H)(f:H->G:=by intro g;refine EE ?_;refine Ye ?_;exact g):G:=f g
theorem NB(g:H)(f:H->G:=by intro g;refine AO ?_;refine Yf ?_;exact g):G:=f g
theorem K3(g:H)(f:H->G:=by intro g;refine Yp ?_;refine Yf ?_;exact g):G:=f g
theorem DU(g:H)(f:H->G:=by intro g;refine tW ?_;refine Y2 ?_;exact g):G:=f g
theorem HO(g:H)(f:H->G:=by intro g;refine Yp ?_;refine Y0 ?_;exact g):G:=f g
theorem Ot(g:H)(f:H->G:=by intro g;refine NA ?_;refine NA ?_;exact g):G:=f g
theorem xM(g:H)(f:H->G:=by intro g;refine Y9 ?_;refine Y3 ?_;exact g):G:=f g
theorem Df(g:H)(f:H->G:=by intro g;refine Y2 ?_;refine qt rfl ?_;exact g):G:=f g
theorem Dg(g:H)(f:H->G:=by intro g;refine AR ?_;refine Yt ?_;exact g):G:=f g
theorem Ou(g:H)(f:H->G:=by intro g;refine Lw rfl rfl ?_;refine Lw rfl rfl ?_;exact g):G:=f g
theorem DV(g:H)(f:H->G:=by intro g;refine Y0 ?_;refine Y0 ?_;exact g):G:=f g
theorem Dh(g:H)(f:H->G:=by intro g;refine Ye ?_;refine Y3 ?_;exact g):G:=f g
theorem Di(g:H)(f:H->G:=by intro g;refine Yj ?_;refine Ym ?_;exact g):G:=f g
theorem Dj(g:H)(f:H->G:=by intro g;refine je ?_;refine Yc ?_;exact g):G:=f g
theorem EG(g:H)(f:H->G:=by intro g;refine Ym ?_;refine Yj ?_;exact g):G:=f g
theorem EH(g:H)(f:H->G:=by intro g;refine Yf ?_;refine Yi ?_;exact g):G:=f g
theorem NC(g:H)(f:H->G:=by intro g;refine Yf ?_;refine oO ?_;exact g):G:=f g
theorem Ov(g:H)(f:H->G:=by intro g;refine aD (wi rfl rfl) rfl ?_;refine K1 ?_;exact g):G:=f g
theorem IZ(g:H)(f:H->G:=by intro g;refine je ?_;refine Yp ?_;exact g):G:=f g
theorem ND(g:H)(f:H->G:=by intro g;refine rJ ?_;refine Yf ?_;exact g):G:=f g
theorem Yq(g:H)(f:H->G:=by intro g;refine Y1 ?_;refine AO ?_;exact g):G:=f g
theorem Yb(g:H)(f:H->G:=by intro g;refine Y1 ?_;refine Y0 ?_;exact g):G:=f g
theorem Yd(g:H)(f:H->G:=by intro g;refine Y1 ?_;refine Yp ?_;exact g):G:=f g
theorem xV(g:H)(f:H->G:=by intro g;refine Y1 ?_;refine Yo ?_;exact g):G:=f g
theorem Y6(g:H)(f:H->G:=by intro g;refine tY ?_;refine Cg ?_;exact g):G:=f g
theorem yY(g:H)(f:H->G:=by intro g;refine AP ?_;refine LG ?_;exact g):G:=f g
theorem Y8(g:H)(f:H->G:=by intro g;refine Y2 ?_;refine xU ?_;exact g):G:=f g
theorem nJ(g:H)(f:H->G:=by intro g;refine Yn ?_;refine Yn ?_;exact g):G:=f g
theorem Ct(g:H)(f:H->G:=by intro g;refine aD (ij rfl) rfl ?_;refine QG ?_;exact g):G:=f g
theorem Yv(g:H)(f:H->G:=by intro g;refine Yo ?_;refine Ya ?_;exact g):G:=f g
theorem Yl(g:H)(f:H->G:=by intro g;refine Y2 ?_;refine Y1 ?_;exact g):G:=f g
theorem Yr(g:H)(f:H->G:=by intro g;refine Y1 ?_;refine Y5 ?_;exact g):G:=f g
theorem Ys(g:H)(f:H->G:=by intro g;refine Yn ?_;refine Ym ?_;exact g):G:=f g
theorem GN(g:H)(f:H->G:=by intro g;refine Y1 ?_;refine Yi ?_;exact g):G:=f g
theorem Yy(g:H)(f:H->G:=by intro g;refine Yh ?_;refine Y1 ?_;exact g):G:=f g
theorem E4(g:H)(f:H->G:=by intro g;refine qi ?_;refine Y1 ?_;exact g):G:=f g
theorem E5(g:H)(f:H->G:=by intro g;refine Y1 ?_;refine yW ?_;exact g):G:=f g
theorem Bj(g:H)(f:H->G:=by intro g;refine Ya ?_;refine qt rfl ?_;exact g):G:=f g
theorem tZ(g:H)(f:H->G:=by intro g;refine Y4 ?_;refine Ya ?_;exact g):G:=f g
theorem DW(g:H)(f:H->G:=by intro g;refine Yu ?_;refine Ch ?_;exact g):G:=f g
theorem pL(g:H)(f:H->G:=by intro g;refine Y1 ?_;refine Ya ?_;exact g):G:=f g
theorem vD(g:H)(f:H->G:=by intro g;refine Ya ?_;refine vB ?_;exact g):G:=f g
theorem DX(g:H)(f:H->G:=by intro g;refine Y0 ?_;refine K2 ?_;exact g):G:=f g
theorem AU(g:H)(f:H->G:=by intro g;refine DT ?_;refine Oq ?_;exact g):G:=f g
theorem rC(g:H)(f:H->G:=by intro g;refine Y1 ?_;refine Y4 ?_;exact g):G:=f g
theorem qK(g:H)(f:H->G:=by intro g;refine Y1 ?_;refine Yc ?_;exact g):G:=f g
theorem pV(g:H)(f:H->G:=by intro g;refine DT ?_;refine Oo ?_;exact g):G:=f g
theorem Dk(g:H)(f:H->G:=by intro g;refine Yf ?_;refine Oo ?_;exact g):G:=f g
theorem DY(g:H)(f:H->G:=by intro g;refine DT ?_;refine NB ?_;exact g):G:=f g
theorem vE(g:H)(f:H->G:=by intro g;refine AO ?_;refine Yk ?_;exact g):G:=f g
theorem xW(g:H)(f:H->G:=by intro g;refine Yf ?_;refine Oq ?_;exact g):G:=f g
theorem Bk(g:H)(f:H->G:=by intro g;refine AT ?_;refine tC ?_;exact g):G:=f g
theorem xX(g:H)(f:H->G:=by intro g;refine cD rfl rfl rfl rfl h rfl (ij rfl) ?_;refine Ot ?_;exact g):G:=f g
theorem HP(g:H)(f:H->G:=by intro g;refine Y4 ?_;refine Y5 ?_;exact g):G:=f g
theorem QH(g:H)(f:H->G:=by intro g;refine tW ?_;refine yX ?_;exact g):G:=f g
theorem AV(g:H)(f:H->G:=by intro g;refine Ci ?_;refine Yk ?_;exact g):G:=f g
theorem I0(g:H)(f:H->G:=by intro g;refine DT ?_;refine K3 ?_;exact g):G:=f g
theorem EI(g:H)(f:H->G:=by intro g;refine Y1 ?_;refine AP ?_;exact g):G:=f g
theorem E6(g:H)(f:H->G:=by intro g;refine Y2 ?_;refine Yw ?_;exact g):G:=f g
theorem E7(g:H)(f:H->G:=by intro g;refine Yh ?_;refine Yu ?_;exact g):G:=f g
theorem Ow(g:H)(f:H->G:=by intro g;refine je ?_;refine HO ?_;exact g):G:=f g
theorem E8(g:H)(f:H->G:=by intro g;refine Yh ?_;refine Ci ?_;exact g):G:=f g
theorem Gi(g:H)(f:H->G:=by intro g;refine Y1 ?_;refine DU ?_;exact g):G:=f g
theorem HQ(g:H)(f:H->G:=by intro g;refine NC ?_;refine Y9 ?_;exact g):G:=f g
theorem Gj(g:H)(f:H->G:=by intro g;refine yX ?_;refine vB ?_;exact g):G:=f g
theorem HR(g:H)(f:H->G:=by intro g;refine Yu ?_;refine Yw ?_;exact g):G:=f g
theorem GO(g:H)(f:H->G:=by intro g;refine Y2 ?_;refine Ci ?_;exact g):G:=f g
theorem Y7(g:H)(f:H->G:=by intro g;refine Yq ?_;refine Yk ?_;exact g):G:=f g
theorem oE(g:H)(f:H->G:=by intro g;refine Yq ?_;refine AO ?_;exact g):G:=f g
theorem zX(g:H)(f:H->G:=by intro g;refine yY ?_;refine LG ?_;exact g):G:=f g
theorem yZ(g:H)(f:H->G:=by intro g;refine xV ?_;refine Ya ?_;exact g):G:=f g
theorem HS(g:H)(f:H->G:=by intro g;refine Yd ?_;refine rJ ?_;exact g):G:=f g
theorem vT(g:H)(f:H->G:=by intro g;refine qi ?_;refine Yb ?_;exact g):G:=f g
theorem Cj(g:H)(f:H->G:=by intro g;refine E5 ?_;refine Y2 ?_;exact g):G:=f g
theorem rL(g:H)(f:H->G:=by intro g;refine Y2 ?_;refine Yq ?_;exact g):G:=f g
theorem vU(g:H)(f:H->G:=by intro g;refine E4 ?_;refine vC ?_;exact g):G:=f g
theorem xN(g:H)(f:H->G:=by intro g;refine Bj ?_;refine GN ?_;exact g):G:=f g
theorem uA(g:H)(f:H->G:=by intro g;refine Y6 ?_;refine Yj ?_;exact g):G:=f g
theorem EJ(g:H)(f:H->G:=by intro g;refine Yd ?_;refine Y0 ?_;exact g):G:=f g
theorem Bl(g:H)(f:H->G:=by intro g;refine xV ?_;refine Y2 ?_;exact g):G:=f g
theorem xO(g:H)(f:H->G:=by intro g;refine nJ ?_;refine Yn ?_;exact g):G:=f g
theorem Ck(g:H)(f:H->G:=by intro g;refine Ct ?_;refine Yv ?_;exact g):G:=f g
theorem GP(g:H)(f:H->G:=by intro g;refine xV ?_;refine yX ?_;exact g):G:=f g
theorem NF(g:H)(f:H->G:=by intro g;refine Yh ?_;refine xV ?_;exact g):G:=f g
theorem Cl(g:H)(f:H->G:=by intro g;refine Yb ?_;refine yW ?_;exact g):G:=f g
theorem Sq(g:H)(f:H->G:=by intro g;refine DY ?_;refine rI ?_;exact g):G:=f g
theorem Ox(g:H)(f:H->G:=by intro g;refine QH ?_;refine Yq ?_;exact g):G:=f g
theorem Gk(g:H)(f:H->G:=by intro g;refine Yb ?_;refine Y0 ?_;exact g):G:=f g
theorem K4(g:H)(f:H->G:=by intro g;refine DW ?_;refine Y1 ?_;exact g):G:=f g
theorem E9(g:H)(f:H->G:=by intro g;refine Ct ?_;refine aD (ig rfl rfl) rfl ?_;exact g):G:=f g
theorem Cu(g:H)(f:H->G:=by intro g;refine nJ ?_;refine Ym ?_;exact g):G:=f g
theorem Cv(g:H)(f:H->G:=by intro g;refine Yl ?_;refine Yc ?_;exact g):G:=f g
theorem Ss(g:H)(f:H->G:=by intro g;refine Ct ?_;refine tW ?_;exact g):G:=f g
theorem DZ(g:H)(f:H->G:=by intro g;refine yY ?_;refine EE ?_;exact g):G:=f g
theorem GQ(g:H)(f:H->G:=by intro g;refine Yb ?_;refine Y5 ?_;exact g):G:=f g
theorem GR(g:H)(f:H->G:=by intro g;refine Yr ?_;refine Yg ?_;exact g):G:=f g
theorem K5(g:H)(f:H->G:=by intro g;refine yY ?_;refine Ye ?_;exact g):G:=f g
theorem Fa(g:H)(f:H->G:=by intro g;refine nJ ?_;refine Ys ?_;exact g):G:=f g
theorem I1(g:H)(f:H->G:=by intro g;refine K2 ?_;refine GN ?_;exact g):G:=f g
theorem GS(g:H)(f:H->G:=by intro g;refine Yy ?_;refine Y3 ?_;exact g):G:=f g
theorem Gl(g:H)(f:H->G:=by intro g;refine oO ?_;refine Y8 ?_;exact g):G:=f g
theorem LH(g:H)(f:H->G:=by intro g;refine Yb ?_;refine Ov ?_;exact g):G:=f g
theorem GU(g:H)(f:H->G:=by intro g;refine AU ?_;refine Yi ?_;exact g):G:=f g
theorem K6(g:H)(f:H->G:=by intro g;refine Ct ?_;refine tZ ?_;exact g):G:=f g
theorem GV(g:H)(f:H->G:=by intro g;refine Yq ?_;refine Y0 ?_;exact g):G:=f g
theorem HT(g:H)(f:H->G:=by intro g;refine Y5 ?_;refine Yb ?_;exact g):G:=f g
theorem QI(g:H)(f:H->G:=by intro g;refine Ct ?_;refine HP ?_;exact g):G:=f g
theorem Oy(g:H)(f:H->G:=by intro g;refine Yd ?_;refine Yv ?_;exact g):G:=f g
theorem GW(g:H)(f:H->G:=by intro g;refine E4 ?_;refine Yc ?_;exact g):G:=f g
theorem GX(g:H)(f:H->G:=by intro g;refine Yb ?_;refine Y4 ?_;exact g):G:=f g
theorem GY(g:H)(f:H->G:=by intro g;refine qi ?_;refine Yq ?_;exact g):G:=f g
theorem LI(g:H)(f:H->G:=by intro g;refine qi ?_;refine HS ?_;exact g):G:=f g
theorem Gm(g:H)(f:H->G:=by intro g;refine zX ?_;refine LG ?_;exact g):G:=f g
theorem Bm(g:H)(f:H->G:=by intro g;refine qi ?_;refine Y7 ?_;exact g):G:=f g
theorem AW(g:H)(f:H->G:=by intro g;refine oE ?_;refine Yk ?_;exact g):G:=f g
theorem Cm(g:H)(f:H->G:=by intro g;refine Sq ?_;refine Dk ?_;exact g):G:=f g
theorem NG(g:H)(f:H->G:=by intro g;refine Yh ?_;refine yZ ?_;exact g):G:=f g
theorem Dl(g:H)(f:H->G:=by intro g;refine Ss ?_;refine Ya ?_;exact g):G:=f g
theorem D0(g:H)(f:H->G:=by intro g;refine Ox ?_;refine aD (ze rfl rfl) rfl ?_;exact g):G:=f g
theorem I2(g:H)(f:H->G:=by intro g;refine NF ?_;refine Y3 ?_;exact g):G:=f g
theorem I3(g:H)(f:H->G:=by intro g;refine HS ?_;refine DX ?_;exact g):G:=f g
theorem EK(g:H)(f:H->G:=by intro g;refine Y7 ?_;refine Yc ?_;exact g):G:=f g
theorem K7(g:H)(f:H->G:=by intro g;refine vT ?_;refine Yi ?_;exact g):G:=f g
theorem I4(g:H)(f:H->G:=by intro g;refine zX ?_;refine Ye ?_;exact g):G:=f g
theorem Gn(g:H)(f:H->G:=by intro g;refine vD ?_;refine oE ?_;exact g):G:=f g
theorem K8(g:H)(f:H->G:=by intro g;refine Gm ?_;refine Cs ?_;exact g):G:=f g
end
end
section
set_option linter.unusedSectionVars false
section
variable{κ β:Type}[DecidableEq κ]
def fX(k:κ):List (κ×β)->Nat->Option (Nat×β)
 |[],_=>none
 |(j,v)::r,i=>if j=k then some (i,v) else fX k r (i+1)
def aH(k:κ):List (κ×β)->Option β
 |[]=>none
 |(j,v)::r=>if j=k then some v else aH k r
def aX(k:κ)(v:β):List (κ×β)->List (κ×β)
 |[]=>[(k,v)]
 |(j,u)::r=>if j=k then(k,v)::r else(j,u)::aX k v r
def bY(k:κ):List (κ×β)->List (κ×β)
 |[]=>[]
 |(j,u)::r=>if j=k then r else(j,u)::bY k r
theorem jg(k k':κ)(v:β):∀m,aH k' (aX k v m)=if k'=k then some v else aH k' m
 |[]=>by simp[aH,aX,eq_comm]
 |(j,u)::r=>by
  by_cases h:j=k
  ·subst h;by_cases h':k'=j
   ·subst h';simp[aH,aX]
   ·simp[aH,aX,h',Ne.symm h']
  ·by_cases h':j=k'
   ·subst h';simp[aH,aX,h]
   ·simp[aH,aX,h,h',jg k k' v r]
theorem wr(k:κ):∀(m:List (κ×β)) (n:Nat),(fX k m n).map (·.2)=aH k m
 |[],_=>rfl
 |(j,v)::r,n=>by
  by_cases h:j=k
  ·simp[fX,aH,h]
  ·simp[fX,aH,h,wr k r (n+1)]
def keys(m:List (κ×β)):List κ:=m.map (·.1)
theorem dD{k:κ}:∀{m:List (κ×β)},aH k m=none↔k∉keys m
 |[]=>by simp[aH,keys]
 |(j,v)::r=>by
  have ih:=dD (k:=k) (m:=r);unfold keys at ih ⊢;by_cases h:j=k
  ·simp[aH,h]
  ·simp[aH,h,Ne.symm h,ih]
theorem vx(k:κ)(v:β):∀m,keys (aX k v m)=if k∈keys m then keys m else keys m++[k]
 |[]=>by simp[keys,aX]
 |(j,u)::r=>by
  have ih:=vx k v r;unfold keys at ih ⊢;by_cases h:j=k
  ·subst h;simp[aX]
  ·simp only[aX,h,if_false,Uy,ih,Up,Ne.symm h,false_or];split <;> simp
theorem ye(k:κ):∀m:List (κ×β),keys (bY k m)=(keys m).erase k
 |[]=>by simp[keys,bY]
 |(j,u)::r=>by
  have ih:=ye k r;unfold keys at ih ⊢;by_cases h:j=k
  ·subst h;simp[bY]
  ·rw[Uy,List.erase_cons_tail Co,bY,if_neg h,Uy,ih]
theorem j7(k k':κ):∀m:List (κ×β),(keys m).Nodup->aH k' (bY k m)=if k'=k then none else aH k' m
 |[],_=>by simp[aH,bY]
 |(j,u)::r,h=>by
  have h':j∉keys r∧(keys r).Nodup:=by simpa[keys] using h
  by_cases e:j=k
  ·subst e;by_cases e':k'=j
   ·subst e';simp only[bY,if_true];exact dD.2 h'.1
   ·simp[bY,aH,e',Ne.symm e']
  ·by_cases e':j=k'
   ·subst e';simp[bY,aH,e]
   ·simp[bY,aH,e,e',j7 k k' r h'.2]
theorem yr{k:κ}{v:β}:∀{m:List (κ×β)},aH k m=some v->aX k v m=m
 |[],h=>by simp[aH] at h
 |(j,u)::r,h=>by
  by_cases e:j=k
  ·simp only[aH,e,if_true,Vr] at h;simp[aX,e,h]
  ·simp only[aH,e,if_false] at h;simp[aX,e,yr h]
theorem w6(k:κ)(v:β):∀m:List (κ×β),(aX k v m).length=if aH k m=none then m.length+1 else m.length
 |[]=>by simp[aX,aH]
 |(j,u)::r=>by
  by_cases h:j=k
  ·simp[aX,aH,h]
  ·simp only[aX,aH,h,if_false,Uj,w6 k v r];split <;> rfl
theorem pk(k:κ):∀m:List (κ×β),aH k m≠none->(bY k m).length+1=m.length
 |[],h=>by simp[aH] at h
 |(j,u)::r,h=>by
  by_cases e:j=k
  ·simp[bY,e]
  ·simp only[aH,e,if_false] at h;simp only[bY,e,if_false,Uj,pk k r h]
theorem xz(k:κ):∀m:List (κ×β),aH k m=none->bY k m=m
 |[],_=>rfl
 |(j,u)::r,h=>by
  by_cases e:j=k
  ·simp[aH,e] at h
  ·simp only[aH,e,if_false] at h;simp only[bY,e,if_false,xz k r h]
theorem vg{k:κ}{v:β}{m:List (κ×β)}(h:(keys m).Nodup):(keys (aX k v m)).Nodup:=by
 rw[vx];split
 ·exact h
 ·rename_i hk
  exact List.nodup_append.2 ⟨h,by simp,fun a ha b hb=>by simp at hb;subst hb;rintro rfl;exact hk ha⟩
theorem kb{k:κ}{m:List (κ×β)}(h:(keys m).Nodup):(keys (bY k m)).Nodup:=by
 rw[ye];exact h.erase k
theorem gw{γ:Type}(f:β->γ)(k:κ):∀m:List (κ×β),aH k (m.map fun p=>(p.1,f p.2))=(aH k m).map f
 |[]=>rfl
 |(j,v)::r=>by by_cases h:j=k <;> simp[aH,h,gw f k r]
theorem vy{γ:Type}(f:β->γ)(k:κ)(v:β):∀m:List (κ×β),aX k (f v) (m.map fun p=>(p.1,f p.2))=(aX k v m).map fun p=>(p.1,f p.2)
 |[]=>rfl
 |(j,u)::r=>by by_cases h:j=k <;> simp[aX,h,vy f k v r]
theorem ug{γ:Type}(f:β->γ)(k:κ):∀m:List (κ×β),bY k (m.map fun p=>(p.1,f p.2))=(bY k m).map fun p=>(p.1,f p.2)
 |[]=>rfl
 |(j,u)::r=>by by_cases h:j=k <;> simp[bY,h,ug f k r]
theorem za{γ:Type}(f:β->γ)(m:List (κ×β)):keys (m.map fun p=>(p.1,f p.2))=keys m:=by simp[keys,Function.comp_def]
theorem y8(k:κ)(v:β):∀m:List (κ×β),bY k (aX k v m)=bY k m
 |[]=>by simp[bY,aX]
 |(j,u)::r=>by by_cases h:j=k <;> simp[bY,aX,h,y8 k v r]
def big(f:κ×β->aC):List (κ×β)->aC
 |[]=>emp
 |p::r=>star (f p) (big f r)
theorem y9(f:κ×β->aC)(k:κ)(y:β):∀m:List (κ×β),aH k m=some y->big f m=star (f (k,y)) (big f (bY k m))
 |[],h=>by simp[aH] at h
 |(j,u)::r,h=>by
  by_cases e:j=k
  ·subst e;simp only[aH,if_true,Vr] at h;subst h;simp[big,bY]
  ·simp only[aH,e,if_false] at h;simp only[big,bY,e,if_false];rw[y9 f k y r h,uq]
theorem nh(f:κ×β->aC)(k:κ)(y:β)(m:List (κ×β)):big f (aX k y m)=star (f (k,y)) (big f (bY k m)):=by
 rw[y9 f k y (aX k y m) (by rw[jg];simp),y8]
def iI(kv:κ->Value)(es:List MapEntry)(m:List (κ×Value)):Prop:=es.map (fun e=>(e.key,e.val))=m.map (fun p=>(kv p.1,p.2))
class MK(P:Program)(kt:TypeId)(κ:Type)[DecidableEq κ](kv:outParam (κ->Value)):Prop where
 check:∀e w k,(Instr.checkKey e 10000 kt (kv k)).run P w=.ok () w
 find:∀w k es m,iI kv es m->(Instr.findKey kt (kv k) es).run P w=.ok (fX k m 0) w
 same:∀k,Instr.sameBits 10000 (kv k) (kv k)=true
 inj:∀a b,kv a=kv b->a=b
def fY(kv:κ->Value)(b:Nat)(m:List (κ×Value)):aC:=fun h=>∃es clock,iI kv es m∧pt b (.map es.toArray clock) h
theorem Su{kv:κ->Value}{es:List MapEntry}{m:List (κ×Value)}(h:iI kv es m):es.length=m.length:=by
 have:=congrArg List.length h;simpa using this
theorem w7{kv:κ->Value}(k:κ)(v:Value):∀(m:List (κ×Value)) (es:List MapEntry) (n i:Nat) (u:Value),iI kv es m->fX k m n=some (i,u)->n<=i∧(es[i-n]?).map (·.key)=some (kv k)∧
  iI kv (es.modify (i-n) fun e=>{ e with key:=kv k,val:=v }) (aX k v m)∧iI kv (es.eraseIdx (i-n)) (bY k m)
 |[],_,_,_,_,_,h=>by cases h
 |(j,u0)::r,[],n,i,u,he,h=>by simp[iI] at he
 |(j,u0)::r,e::es,n,i,u,he,h=>by
  have he':(e.key,e.val)=(kv j,u0)∧iI kv es r:=by simpa[iI] using he
  have hk:e.key=kv j:=congrArg Prod.fst he'.1;have hv:e.val=u0:=congrArg Prod.snd he'.1;by_cases hj:j=k
  ·subst hj;simp only[fX,if_true,Vr,Prod.mk.injEq] at h;obtain⟨rfl,rfl⟩:=h;refine⟨Ug _,by simp[hk],?_,?_⟩
   ·simp only[Xv,List.modify_zero_cons,aX,if_true];simp only[iI,Uy];rw[he'.2]
   ·simp only[Xv,List.eraseIdx_cons_zero,bY,if_true];exact he'.2
  ·simp only[fX,hj,if_false] at h;obtain⟨h1,h2,h3,h4⟩:=w7 k v r es (n+1) i u he'.2 h;have e1:i-n=(i-(n+1))+1:=by omega
   rw[e1];refine⟨cI,by simpa using h2,?_,?_⟩
   ·simp only[List.modify_succ_cons,aX,hj,if_false];simp only[iI,Uy] at h3 ⊢;rw[h3,hk,hv]
   ·simp only[Xm,bY,hj,if_false];simp only[iI,Uy] at h4 ⊢;rw[h4,hk,hv]
theorem py{k:κ}{v:Value}:∀{m:List (κ×Value)} {n:Nat},fX k m n=none->aX k v m=m++[(k,v)]
 |[],_,_=>rfl
 |(j,u)::r,n,h=>by
  by_cases hj:j=k
  ·simp[fX,hj] at h
  ·simp only[fX,hj,if_false] at h;simp[aX,hj,py h]
theorem pz{k:κ}:∀{m:List (κ×Value)} {n:Nat},fX k m n=none->bY k m=m
 |[],_,_=>rfl
 |(j,u)::r,n,h=>by
  by_cases hj:j=k
  ·simp[fX,hj] at h
  ·simp only[fX,hj,if_false] at h;simp[bY,hj,pz h]
end
section
variable{P:Program}{κ:Type}[DecidableEq κ]{kv:κ->Value}{e:Env}{w w0:World}{K:Env->World->Prop}{l:List aC}
variable{d:Option Nat}{ty:TypeId}{pos:String}{af:Array Edge}{g:Option (Nat×Bool)}
theorem vi{r:Nat}{o o':Obj}(hb:w.heap[r]?=some o):(w.heap.setIfInBounds r o')[r]?=some o'∧∀r',r'≠r->(w.heap.setIfInBounds r o')[r']?=w.heap[r']?:=by
 have hlt:r<w.heap.size:=(Array.getElem?_eq_some_iff.1 hb).1;exact⟨by simp[hlt],fun r' hne=>by simp[Ne.symm hne]⟩
theorem lA{b:Nat}{es:Array MapEntry}{clock:Nat}(hb:w.heap[b]?=some (.map es clock)):(getObj b).run P w=.ok (.map es clock) w:=by
 simp[getObj,Sem.run,hb]
theorem nK{b:Nat}{es:Array MapEntry}{clock:Nat}{o:Obj}(hb:w.heap[b]?=some (.map es clock)):(setObj b o).run P w=.ok () { w with heap:=w.heap.setIfInBounds b o }:=by
 simp[setObj,Sem.run,hb]
theorem St.Cw{b:Nat}{m:List (κ×Value)}(h:St w0 (fY kv b m::l) w):∃es clock,iI kv es m∧St w0 (pt b (.map es.toArray clock)::l) w:=by
 obtain⟨p,hp,x,y,hd,he,⟨es,clock,h1,h2⟩,hl⟩:=h.own;exact⟨es,clock,h1,h.os,h.tape,h.output,h.size,h.old,p,hp,x,y,hd,he,h2,hl⟩
theorem St.vV{b:Nat}{m:List (κ×Value)}{es:List MapEntry}{clock:Nat}(he:iI kv es m)(h:St w0 (pt b (.map es.toArray clock)::l) w):St w0 (fY kv b m::l) w:=
 h.mono fun _ hp=>⟨es,clock,he,hp⟩
def oP(kv:κ->Value)(w:World)(b:Nat)(m:List (κ×Value)):Prop:=∃es clock,iI kv es m∧w.heap[b]?=some (.map es.toArray clock)
theorem St.Bn{b:Nat}{m:List (κ×Value)}(h:St w0 (fY kv b m::l) w):oP kv w b m:=by
 obtain⟨es,clock,h1,h2⟩:=h.Cw;exact⟨es,clock,h1,h2.hd.1⟩
theorem oP.size{b:Nat}{m:List (κ×Value)}(h:oP kv w b m):∃es clock,w.heap[b]?=some (.map es clock)∧es.size=m.length:=by
 obtain⟨es,clock,h1,h2⟩:=h;exact⟨_,clock,h2,by simpa using Su h1⟩
theorem w8{t kt et:TypeId}(ht:P.underlying t=some (.map kt et))[hm:MK P kt κ kv]{z:List Value}{agg:Bool}{bytes:Nat}(hi:cM P et z agg bytes){b:Nat}{m:List (κ×Value)}(h:oP kv w b m)(k:κ)(ok:Bool):
  (Instr.lookup t (.map (some b)) (kv k) ok).run P w=.ok (if ok then .tuple #[(aH k m).getD (if agg then .agg z.toArray else z.getD 0 undef),.bool (aH k m).isSome] else(aH k m).getD (if agg then .agg z.toArray else z.getD 0 undef)) w:=by
 obtain⟨es,clock,h1,h2⟩:=h;have hf:=hm.find w k es m h1;have hg:=wr k m 0;have hz:=hi.zeroValue w;simp only[Instr.lookup,Sem.run_bind,run_underlying ht,Result.andThen_ok,lA h2,Sem.run_pure,hm.check,hf];cases hm':fX k m 0 with
 |none=>
  rw[hm'] at hg;rw[<- hg];simp only[Sem.run_bind,Result.andThen_ok,Sem.run_pure,hz];cases ok <;> rfl
 |some iv=>
  rw[hm'] at hg;rw[<- hg];simp only[Sem.run_bind,Result.andThen_ok,Sem.run_pure];cases ok <;> rfl
theorem px{t kt et:TypeId}[ht:eV P t (.map kt et)][hm:MK P kt κ kv]{z:List Value}{bytes:Nat}[hi:cM P et z false bytes]{x y:Operand}{b:Nat}{m:List (κ×Value)}{k:κ}(hx:ev e x=.map (some b))(hy:ev e y=kv k)(h:oP kv w b m):
  Qv P e ⟨d,.lookup t x y true,ty,pos,af,g⟩ w (.tuple [(aH k m).getD (z.getD 0 undef),.bool (aH k m).isSome].toArray):=by
 unfold Qv;have:=w8 (P:=P) (w:=w) ht.h hi h k true;simp only[execOp,hx,hy,Sem.run_bind,this];rfl
theorem sn{t kt et:TypeId}[ht:eV P t (.map kt et)][hm:MK P kt κ kv]{z:List Value}{bytes:Nat}[hi:cM P et z false bytes]{x y:Operand}{b:Nat}{m:List (κ×Value)}{k:κ}(hx:ev e x=.map (some b))(hy:ev e y=kv k)(h:oP kv w b m):
  Qv P e ⟨d,.lookup t x y false,ty,pos,af,g⟩ w ((aH k m).getD (z.getD 0 undef)):=by
 unfold Qv;have:=w8 (P:=P) (w:=w) ht.h hi h k false;simp only[execOp,hx,hy,Sem.run_bind,this];rfl
theorem QJ{t kt et:TypeId}{tys:List TypeId}[hu:eV P t (.map kt et)]{x:Operand}{b:Nat}{m:List (κ×Value)}(hx:ev e x=.map (some b))(h:oP kv w b m):
  Qv P e ⟨d,.call ⟨.builtin .len,[x].toArray,(t::tys).toArray⟩,ty,pos,af,g⟩ w (.iz m.length):=by
 obtain⟨es,clock,h1,h2⟩:=h.size;rw[<- h2];exact r8 hx h1
theorem iz{c:Nat}{t:TypeId}(kv:κ->Value)(h:St w0 l w)(k:∀b w',St w0 (fY kv b []::l) w'->K (upd e c (.map (some b))) w'):Ex P ⟨some c,.makeMap t none,ty,pos,af,g⟩ e w K:=by
 refine EC (v:=.map (some w.heap.size)) (w':=w.alloc (.map #[] 0)) ?_ (k _ _ ?_)
 ·simp[execOp,Instr.makeMap]
 ·exact St.vV (es:=[]) (clock:=0) rfl (h.alloc _)
theorem be{t kt et:TypeId}(ht:P.underlying t=some (.map kt et))[hm:MK P kt κ kv]{b:Nat}{m:List (κ×Value)}(h:St w0 (fY kv b m::l) w)(k:κ)(v:Value):
  ∃w',(Instr.mapUpdate t (.map (some b)) (kv k) v).run P w=.ok () w'∧St w0 (fY kv b (aX k v m)::l) w':=by
 obtain⟨es,clock,h1,h2⟩:=h.Cw;have hb:=h2.hd.1;have hf:=hm.find w k es m h1;have hc:=hm.check es.toArray.isEmpty w k;have Fb:=hm.check false w k;cases hm':fX k m 0 with
 |none=>
  rw[hm'] at hf;refine⟨{ w with heap:=w.heap.setIfInBounds b (.map (es.toArray.push { key:=kv k,val:=v,born:=clock }) (clock+1)) },?_,?_⟩
  ·simp only[Instr.mapUpdate,Sem.run_bind,run_underlying ht,Result.andThen_ok,lA hb,Fb,hf,nK hb]
  ·refine St.vV (es:=es++[{ key:=kv k,val:=v,born:=clock }]) (clock:=clock+1) ?_ (h2.put rfl rfl rfl O7 (fun j hj=>(vi hb).2 j hj) ?_)
   ·rw[py hm'];unfold iI at h1 ⊢;simp[h1]
   ·have:=(vi (o':=Obj.map (es.toArray.push { key:=kv k,val:=v,born:=clock }) (clock+1)) hb).1;simpa using this
 |some iu=>
  obtain⟨i,u⟩:=iu;rw[hm'] at hf;obtain⟨g1,g2,g3,g4⟩:=w7 k v m es 0 i u h1 hm';simp only[Nat.sub_zero] at g2 g3;have hkey:((es.toArray[i]?).map (·.key)).getD (kv k)=kv k:=by simp[g2]
  refine⟨{ w with heap:=w.heap.setIfInBounds b (.map (es.toArray.modify i fun e=>{ e with key:=kv k,val:=v }) clock) },?_,?_⟩
  ·simp only[Instr.mapUpdate,Sem.run_bind,run_underlying ht,Result.andThen_ok,lA hb,Fb,hf,hkey,Instr.keyThatStays,hm.same,if_true,Sem.run_pure,nK hb]
  ·refine St.vV (es:=es.modify i fun e=>{ e with key:=kv k,val:=v }) (clock:=clock) g3 (h2.put rfl rfl rfl O7 (fun j hj=>(vi hb).2 j hj) ?_)
   have:=(vi (o':=Obj.map (es.toArray.modify i fun e=>{ e with key:=kv k,val:=v }) clock) hb).1
   simpa using this
theorem pw{t kt et:TypeId}[ht:eV P t (.map kt et)][hm:MK P kt κ kv]{x y z:Operand}{b:Nat}{m:List (κ×Value)}{k:κ}{v:Value}(h:St w0 (fY kv b m::l) w)(hx:ev e x=.map (some b))(hy:ev e y=kv k)(hz:ev e z=v)
  (kk:∀w',St w0 (fY kv b (aX k v m)::l) w'->K e w'):Ex P ⟨none,.mapUpdate t x y z,ty,pos,af,g⟩ e w K:=by
 obtain⟨w',hrun,hst⟩:=be (P:=P) ht.h h k v;refine fa (w':=w') ?_ (kk _ hst);simp[execOp,hx,hy,hz,hrun]
theorem vW{t ty:TypeId}{tys:List TypeId}{args:Array Value}:Builtin.delete_ (t::tys).toArray ty args=Builtin.delete_ #[t] ty args:=by
 unfold Builtin.delete_;rfl
theorem f7{t kt et:TypeId}(ty:TypeId)(ht:P.underlying t=some (.map kt et))[hm:MK P kt κ kv]{b:Nat}{m:List (κ×Value)}(h:St w0 (fY kv b m::l) w)(k:κ):
  ∃w',(Builtin.delete_ #[t] ty #[.map (some b),kv k]).run P w=.ok (.tuple #[]) w'∧St w0 (fY kv b (bY k m)::l) w':=by
 obtain⟨es,clock,h1,h2⟩:=h.Cw;have hb:=h2.hd.1;have hf:=hm.find w k es m h1;have hc:=hm.check es.toArray.isEmpty w k;have e1:(#[t]:Array TypeId)[0]?=some t:=rfl;have e2:(#[Value.map (some b),kv k]:Array Value)[0]?=some (Value.map (some b)):=rfl;have e3:(#[Value.map (some b),kv k]:Array Value)[1]?=some (kv k):=rfl;cases hm':fX k m 0 with
 |none=>
  rw[hm'] at hf;refine⟨{ w with heap:=w.heap.setIfInBounds b (.map es.toArray clock) },?_,?_⟩
  ·unfold Builtin.delete_;simp only[e1,e2,e3,Sem.run_bind,run_underlying ht,Result.andThen_ok,lA hb,hc,hf,nK hb,Sem.run_pure]
  ·rw[pz hm'];exact St.vV h1 (h2.put rfl rfl rfl O7 (fun j hj=>(vi hb).2 j hj) (vi hb).1)
 |some iu=>
  obtain⟨i,u⟩:=iu;rw[hm'] at hf;obtain⟨g1,g2,g3,g4⟩:=w7 k u m es 0 i u h1 hm';simp only[Nat.sub_zero] at g4;refine⟨{ w with heap:=w.heap.setIfInBounds b (.map (es.toArray.eraseIdxIfInBounds i) clock) },?_,?_⟩
  ·unfold Builtin.delete_;simp only[e1,e2,e3,Sem.run_bind,run_underlying ht,Result.andThen_ok,lA hb,hc,hf,nK hb,Sem.run_pure]
  ·refine St.vV (es:=es.eraseIdx i) (clock:=clock) g4 (h2.put rfl rfl rfl O7 (fun j hj=>(vi hb).2 j hj) ?_);have:=(vi (o':=Obj.map (es.toArray.eraseIdxIfInBounds i) clock) hb).1;simpa using this
theorem pd{t kt et:TypeId}{tys:List TypeId}[ht:eV P t (.map kt et)][hm:MK P kt κ kv]{x y:Operand}{b:Nat}{m:List (κ×Value)}{k:κ}(h:St w0 (fY kv b m::l) w)(hx:ev e x=.map (some b))(hy:ev e y=kv k)
  (kk:∀w',St w0 (fY kv b (bY k m)::l) w'->K (kY e d (.tuple #[])) w'):Ex P ⟨d,.call ⟨.builtin .delete,[x,y].toArray,(t::tys).toArray⟩,ty,pos,af,g⟩ e w K:=by
 obtain⟨w',hrun,hst⟩:=f7 (P:=P) ty ht.h h k;refine EC (v:=.tuple #[]) (w':=w') ?_ (kk _ hst);simp only[execOp,resolve,Xl,Uy,List.map_nil,hx,hy,invoke,builtin,Sem.run_bind,Sem.run_pure,Result.andThen_ok];rw[vW,hrun];rfl
/-! Maps whose elements are pointers to things of their own. -/
section
variable{α:Type}{R:Nat->α->aC}
abbrev mZ(p:Nat×α):Value:=.pointer (some ⟨p.1,0,none⟩)
def iW(kv:κ->Value)(b:Nat)(R:Nat->α->aC)(m:List (κ×α)):aC:=ex fun mm:List (κ×(Nat×α))=>
 all [lift (mm.map (fun p=>(p.1,p.2.2))=m),fY kv b (mm.map fun p=>(p.1,mZ p.2)),big (fun p=>R p.2.1 p.2.2) mm]
def oF(kv:κ->Value)(b:Nat)(R:Nat->α->aC)(k:κ)(e:Nat)(m:List (κ×α)):aC:=ex fun mm:List (κ×(Nat×α))=>
 all [lift (mm.map (fun p=>(p.1,p.2.2))=m∧(aH k mm).map (·.1)=some e),fY kv b (mm.map fun p=>(p.1,mZ p.2)),big (fun p=>R p.2.1 p.2.2) (bY k mm)]
theorem jn(P:aC)(l:List aC):all (P::l)=star P (all l):=rfl
theorem St.pmap{b:Nat}{m:List (κ×α)}:St w0 (iW kv b R m::l) w↔∃mm:List (κ×(Nat×α)),mm.map (fun p=>(p.1,p.2.2))=m∧St w0 (fY kv b (mm.map fun p=>(p.1,mZ p.2))::big (fun p=>R p.2.1 p.2.2) mm::l) w:=by
 unfold iW;rw[St.ex];constructor
 ·rintro⟨mm,h⟩;have:=h.join;exact⟨mm,St.lift.1 this⟩
 ·rintro⟨mm,h1,h2⟩;exact⟨mm,St.fold _ (St.lift.2 ⟨h1,h2⟩)⟩
theorem St.Dm{b k':Nat}{k:κ}{m:List (κ×α)}:St w0 (oF kv b R k k' m::l) w↔∃mm:List (κ×(Nat×α)),(mm.map (fun p=>(p.1,p.2.2))=m∧(aH k mm).map (·.1)=some k')∧St w0 (fY kv b (mm.map fun p=>(p.1,mZ p.2))::big (fun p=>R p.2.1 p.2.2) (bY k mm)::l) w:=by
 unfold oF;rw[St.ex];constructor
 ·rintro⟨mm,h⟩;have:=h.join;exact⟨mm,St.lift.1 this⟩
 ·rintro⟨mm,h1,h2⟩;exact⟨mm,St.fold _ (St.lift.2 ⟨h1,h2⟩)⟩
theorem St.uB{b:Nat}{m:List (κ×α)}{k:κ}{x:α}(h:St w0 (iW kv b R m::l) w)(hk:aH k m=some x):∃e,St w0 (R e x::oF kv b R k e m::l) w:=by
 obtain⟨mm,D1,h0⟩:=St.pmap.1 h;subst D1;have hk':=(gw (fun p:Nat×α=>p.2) k mm).symm.trans hk;obtain⟨⟨e,y⟩,h1,h2⟩:=Ve.1 hk';simp only at h2;subst h2;refine⟨e,?_⟩;have h3:=h0.f 1;simp only[oD] at h3
 have h4:St w0 (R e y::big (fun p=>R p.2.1 p.2.2) (bY k mm)::fY kv b (mm.map fun p=>(p.1,mZ p.2))::l) w:=
  h3.eH (by simp only[jn];rw[y9 _ k (e,y) mm h1];simp only[jl])
 have h5:=((h4.f 1).f 2);simp only[oD] at h5;have h6:=St.Dm.2 ⟨mm,⟨rfl,by rw[h1];rfl⟩,(show St w0 (fY kv b (mm.map fun p=>(p.1,mZ p.2))::big (fun p=>R p.2.1 p.2.2) (bY k mm)::R e y::l) w from h5)⟩
 exact h6.f 1
theorem St.tD{b e:Nat}{m:List (κ×α)}{k:κ}{x:α}(h:St w0 (R e x::oF kv b R k e m::l) w):St w0 (iW kv b R (aX k x m)::l) w:=by
 have h1:=h.f 1;simp only[oD] at h1;obtain⟨mm,⟨rfl,h2⟩,h3⟩:=St.Dm.1 h1;obtain⟨⟨e',y⟩,h4,h5⟩:=Ve.1 h2;simp only at h5;subst h5;refine St.pmap.2 ⟨aX k (e',x) mm,(vy (fun p:Nat×α=>p.2) k (e',x) mm).symm,?_⟩
 have hp:(aX k (e',x) mm).map (fun p=>(p.1,mZ p.2))=mm.map (fun p=>(p.1,mZ p.2)):=by
  rw[<- vy (fun p:Nat×α=>mZ p) k (e',x) mm];exact yr (by rw[gw,h4];rfl)
 rw[hp];refine h3.eH ?_;simp only[jn];rw[nh,uq (big _ _) (R e' x),<- jl (R e' x)]
theorem St.Bo{b e:Nat}{m:List (κ×α)}{k:κ}{x:α}(hk:aH k m=some x)(h:St w0 (R e x::oF kv b R k e m::l) w):St w0 (iW kv b R m::l) w:=by
 have:=h.tD
 rwa [yr hk] at this
theorem St.HU{b:Nat}{m:List (κ×α)}(h:St w0 (iW kv b R m::l) w):∃ps,oP kv w b ps∧keys ps=keys m∧ps.length=m.length:=by
 obtain⟨mm,D1,h0⟩:=St.pmap.1 h;subst D1;exact⟨_,h0.Bn,by rw[za (fun p:Nat×α=>mZ p),za (fun p:Nat×α=>p.2)],by simp⟩
theorem St.Oz{b k':Nat}{k:κ}{m:List (κ×α)}(h:St w0 (oF kv b R k k' m::l) w):∃ps,oP kv w b ps∧aH k ps=some (.pz k'):=by
 obtain⟨mm,⟨rfl,h2⟩,h3⟩:=St.Dm.1 h;refine⟨_,h3.Bn,?_⟩;rw[gw (fun p:Nat×α=>mZ p) k mm];obtain⟨⟨e',y⟩,h4,h5⟩:=Ve.1 h2;simp only at h5;subst h5;rw[h4];rfl
theorem vw{t kt et:TypeId}[ht:eV P t (.map kt et)][hm:MK P kt κ kv]{z:List Value}{bytes:Nat}[hi:cM P et z false bytes]{x y:Operand}{b:Nat}{m:List (κ×α)}{k:κ}(h:St w0 (iW kv b R m::l) w)(hx:ev e x=.map (some b))(hy:ev e y=kv k)(hk:aH k m=none):
  Qv P e ⟨d,.lookup t x y true,ty,pos,af,g⟩ w (.tuple [z.getD 0 undef,.bool false].toArray):=by
 obtain⟨ps,h1,h2,_⟩:=h.HU;have:=px (P:=P) (t:=t) (ty:=ty) (d:=d) (pos:=pos) (af:=af) (g:=g) hx hy h1;rw[dD.2 (by rw[h2];exact dD.1 hk)] at this
 exact this
theorem gh{t kt et:TypeId}[ht:eV P t (.map kt et)][hm:MK P kt κ kv]{z:List Value}{bytes:Nat}[hi:cM P et z false bytes]{x y:Operand}{b k':Nat}{m:List (κ×α)}{k:κ}(h:St w0 (oF kv b R k k' m::l) w)(hx:ev e x=.map (some b))(hy:ev e y=kv k):
  Qv P e ⟨d,.lookup t x y true,ty,pos,af,g⟩ w (.tuple [.pz k',.bool true].toArray):=by
 obtain⟨ps,h1,h2⟩:=h.Oz;have:=px (P:=P) (t:=t) (ty:=ty) (d:=d) (pos:=pos) (af:=af) (g:=g) hx hy h1;rw[h2] at this;exact this
theorem QK{t kt et:TypeId}{tys:List TypeId}[hu:eV P t (.map kt et)]{x:Operand}{b:Nat}{m:List (κ×α)}(h:St w0 (iW kv b R m::l) w)(hx:ev e x=.map (some b)):
  Qv P e ⟨d,.call ⟨.builtin .len,[x].toArray,(t::tys).toArray⟩,ty,pos,af,g⟩ w (.iz m.length):=by
 obtain⟨ps,h1,_,h2⟩:=h.HU;rw[<- h2];exact QJ hx h1
theorem QL{t kt et:TypeId}[ht:eV P t (.map kt et)][hm:MK P kt κ kv]{x y z:Operand}{b e':Nat}{m:List (κ×α)}{k:κ}{v:α}(h:St w0 (R e' v::iW kv b R m::l) w)(hk:aH k m=none)(hx:ev e x=.map (some b))(hy:ev e y=kv k)(hz:ev e z=.pz e')
  (kk:∀w',St w0 (iW kv b R (aX k v m)::l) w'->K e w'):Ex P ⟨none,.mapUpdate t x y z,ty,pos,af,g⟩ e w K:=by
 have h1:=h.f 1;simp only[oD] at h1;obtain⟨mm,rfl,h2⟩:=St.pmap.1 h1;refine pw h2 hx hy hz fun w' h3=>kk w' (St.pmap.2 ⟨aX k (e',v) mm,(vy (fun p:Nat×α=>p.2) k (e',v) mm).symm,?_⟩);rw[<- vy (fun p:Nat×α=>mZ p) k (e',v) mm];refine h3.eH ?_;simp only[jn]
 have hk':aH k mm=none:=by
  have:=(gw (fun p:Nat×α=>p.2) k mm).symm.trans hk;simpa using this
 rw[nh,xz k mm hk',uq (big _ _) (R e' v),<- jl (R e' v)]
theorem QM{t kt et:TypeId}{tys:List TypeId}[ht:eV P t (.map kt et)][hm:MK P kt κ kv]{x y:Operand}{b k':Nat}{m:List (κ×α)}{k:κ}(h:St w0 (oF kv b R k k' m::l) w)(hx:ev e x=.map (some b))(hy:ev e y=kv k)
  (kk:∀w',St w0 (iW kv b R (bY k m)::l) w'->K (kY e d (.tuple #[])) w'):Ex P ⟨d,.call ⟨.builtin .delete,[x,y].toArray,(t::tys).toArray⟩,ty,pos,af,g⟩ e w K:=by
 obtain⟨mm,⟨rfl,h2⟩,h3⟩:=St.Dm.1 h;refine pd h3 hx hy fun w' h4=>kk w' (St.pmap.2 ⟨bY k mm,(ug (fun p:Nat×α=>p.2) k mm).symm,?_⟩);rw[<- ug (fun p:Nat×α=>mZ p) k mm];exact h4
theorem ix{c:Nat}{t:TypeId}(kv:κ->Value)(R:Nat->α->aC)(h:St w0 l w)(k:∀b w',St w0 (iW kv b R []::l) w'->K (upd e c (.map (some b))) w'):Ex P ⟨some c,.makeMap t none,ty,pos,af,g⟩ e w K:=by
 refine iz kv h fun b w' h'=>k b w' (St.pmap.2 ⟨[],rfl,h'.eH ?_⟩);simp only[jn,List.map_nil];show _=star _ (star emp _);rw[kr]
end
theorem Sv{P:Program}{w:World}{kt:TypeId}{ik:IntKind}(hu:P.underlying kt=some (.int ik))(k:Int):∀(es:List MapEntry) (m:List (Int×Value)),iI (Value.int ik) es m->(Instr.findKey kt (.int ik k) es).run P w=.ok (fX k m 0) w:=by
 have key:∀(es:List MapEntry) (m:List (Int×Value)) (i:Nat),iI (Value.int ik) es m->Instr.findNow (.int ik) (.int ik k) es i=some (fX k m i):=by
  intro es;induction es with
  |nil=>intro m i h;cases m with|nil=>rfl|cons a m=>simp[iI] at h
  |cons e es ih=>
   intro m i h;cases m with
   |nil=>simp[iI] at h
   |cons a m=>
    obtain⟨j,u⟩:=a;have h':(e.key,e.val)=(Value.int ik j,u)∧iI (Value.int ik) es m:=by simpa[iI] using h
    have hk:e.key=.int ik j:=congrArg Prod.fst h'.1;have hv:e.val=u:=congrArg Prod.snd h'.1;by_cases hj:j=k
    ·subst hj;simp[Instr.findNow,hk,hv,Instr.sameNow,fX]
    ·have:(k==j)=false:=by simpa using Ne.symm hj
     simp[Instr.findNow,hk,Instr.sameNow,fX,this,hj,ih m (i+1) h'.2]
 intro es m h;have:=key es m 0 h;simp[Instr.findKey,run_underlying hu,this]
theorem MK.int{P:Program}{kt:TypeId}{ik:IntKind}(hu:P.underlying kt=some (.int ik)):MK P kt Int (Value.int ik) where
 check:=fun e w k=>by
  show(Instr.checkKey e (9999+1) kt (.int ik k)).run P w=_;unfold Instr.checkKey;rw[Sem.run_bind,run_underlying hu];rfl
 find:=fun w k es m h=>Sv hu k es m h
 same:=fun k=>by unfold Instr.sameBits;simp
 inj:=fun a b h=>by injection h
end
end
section
def aY(bs:List UInt8):List Value:=bs.map fun b=>.int .u8 b.toNat
theorem vX(bs:List UInt8):(aY bs).length=bs.length:=by simp[aY]
theorem fU(bs:List UInt8):∀u∈aY bs,u.oneCell'=true:=by
 intro u hu;simp only[aY,Va] at hu;obtain⟨b,_,rfl⟩:=hu;rfl
theorem jG{bs:List UInt8}{j:Nat}{b:UInt8}(h:bs[j]?=some b):(aY bs)[j]?=some (.int .u8 b.toNat):=by simp[aY,h]
theorem Cx(bs:List UInt8)(j:Nat)(b:UInt8):(aY bs).set j (.int .u8 b.toNat)=aY (bs.set j b):=by simp[aY,Zm]
def I5(bs:List UInt8):ByteArray:=⟨bs.toArray⟩
section
variable{P:Program}{n:Nat}{ops:Array Oper}{Q:Post}{rest:List Oper}{e:Env}{w w0:World}{K:Env->World->Prop}{l:List aC}
variable{d:Option Nat}{ty:TypeId}{pos:String}{af:Array Edge}{g:Option (Nat×Bool)}
theorem qz{c:Nat}{v:Value}(v':Value)(hv:v=v')(h:Rn P n ops Q rest (upd e c v') w):Rn P n ops Q rest (upd e c v) w:=hv▸h
theorem jj{t T:TypeId}[ht:eV P t (.slice T)]{z:List Value}{agg:Bool}{bytes:Nat}[hi:cM P T z agg bytes]{x y:Operand}{b o o' m c j:Nat}{k:IntKind}{i:Int}
  (hx:ev e x=.slice (some ⟨b,o,none⟩) m c) (hy:ev e y=.int k i) (hij:i=(j:Int)) (hj:j<m) (ho:o+j*z.length=o'):Qv P e ⟨d,.indexAddr t x y,ty,pos,af,g⟩ w (.pointer (some ⟨b,o',none⟩)):=by
 unfold Qv;subst hij ho;have h1:=hi.sizeOf w;have h2:(0:Int)<=(j:Int)∧(j:Int)<(m:Int):=by omega
 have h3:((j:Int)<(m:Int)):=h2.2;simp[execOp,hx,hy,Instr.indexAt,asIntOf,run_underlying ht.h,h1,Addr.add_mid,hj]
theorem Rd.cell{sz m b o:Nat}{xs:List Value}{j:Nat}{v:Value}(h:Rd w sz (some ⟨b,o,none⟩) m xs)(hv:xs[j]?=some v):w.cell? ⟨b,o+j,none⟩=some v:=by
 rcases h.2 with h0|⟨b',o',h1,h2⟩
 ·have:=h.1;have h3:=(Uc.1 hv).1;rw[this,h0,Nat.zero_mul] at h3;omega
 ·cases h1;exact h2 j v hv
theorem Rd.some{sz m:Nat}{a:Option Addr}{xs:List Value}(h:Rd w sz a m xs)(hm:0<m):∃b o,a=some ⟨b,o,none⟩:=by
 rcases h.2 with h|⟨b,o,h,_⟩
 ·omega
 ·exact⟨b,o,h⟩
theorem St.dF{T sz m c:Nat}{a:Option Addr}{xs:List Value}(h:St w0 (eW T sz a m c xs::l) w)(hm:0<m):∃g,a=some ⟨g,0,none⟩:=by
 obtain⟨_,_,⟨_,_,h,_⟩|⟨g,_,h,_⟩⟩:=h.bT
 ·omega
 ·exact⟨g,h⟩
theorem jo{t T:TypeId}{z:List Value}{bytes:Nat}[hi:cM P t z false bytes]{x y:Operand}{sz m c b o:Nat}{xs:List Value}{v:Value}
  (h:St w0 (eW T sz (sQ b) m c xs::l) w) (hx:ev e x=.pointer (some ⟨b,o,none⟩)) (hy:ev e y=v) (ho:o<m*sz) (h1:v.oneCell'=true)
  (k:∀w',St w0 (eW T sz (sQ b) m c (xs.set o v)::l) w'->K e w'):Ex P ⟨none,.store t x y,ty,pos,af,g⟩ e w K:=by
 obtain⟨h2,h3,⟨h4,_⟩|⟨g,cur,h4,h5,h6,h7⟩⟩:=h.bT
 ·cases h4
 ·cases h4
  have hle:m*sz<=c*sz:=Uv _ h3;refine qb 0 h7 hx hy rfl (by rw[Xu];omega) rfl h1 fun w' h=>k w' ?_
  simp only[Vh] at h;exact St.kL h (by simpa using h5) (by rw[List.take_set,h6]) h3
theorem ql{c:Nat}{t T:TypeId}[ht:eV P t (.slice T)]{z:List Value}{agg:Bool}{bytes:Nat}[hi:cM P T z agg bytes]{x y:Operand}{a a2:Option Addr}{m m2 m3 c1 c2 sz:Nat}{xs ys zs:List Value}
  (h:St w0 (eW T sz a m c1 xs::l) w) (hx:ev e x=.slice a m c1) (hy:ev e y=.slice a2 m2 c2) (hr:Rd w sz a2 m2 ys) (h1:∀u∈ys,u.oneCell'=true) (hm:m+m2=m3) (hzs:xs++ys=zs) (hb:m3*bytes<=140737488355328) (h63:m3<=9223372036854775807) (hz:z.length=sz)
  (k:∀a' c' w',(a'=none->a=none)->St w0 (eW T sz a' m3 c' zs::l) w'->K (upd e c (.slice a' m3 c')) w'):
  Ex P ⟨some c,.call ⟨.builtin .append,[x,y].toArray,[t,t].toArray⟩,ty,pos,af,g⟩ e w K:=by
 subst hm hzs;exact pv h hx hy hr h1 hb h63 hz k
theorem xx{t T:TypeId}[ht:eV P t (.slice T)]{z:List Value}{agg:Bool}{bytes:Nat}[hi:cM P T z agg bytes]{x y y':Operand}{a:Option Addr}{m c h h':Nat}{k k':IntKind}
  (hx:ev e x=.slice a m c) (hy:ev e y=.int k (h:Int)) (hy':ev e y'=.int k' (h':Int)) (h1:h<=h') (h2:h'<=c):Qv P e ⟨d,.slice t x none (some y) (some y'),ty,pos,af,g⟩ w (.slice a h h'):=by
 unfold Qv;have hz:=hi.sizeOf w
 have e1:(Instr.sliceBound (.int k' (h':Int)) c .slice3Acap).run P w=.ok h' w:=by
  simp[Instr.sliceBound,asIntOf,h2]
 have e2:(Instr.sliceBound (.int k (h:Int)) h' .slice3B).run P w=.ok h w:=by
  simp[Instr.sliceBound,asIntOf,h1]
 have e3:(Instr.sliceBounds true m c none (some (.int k (h:Int))) (some (.int k' (h':Int)))).run P w=.ok (0,h,h') w:=by
  simp[Instr.sliceBounds,e1,e2]
 have key:(Instr.sliceAt t (.slice a m c) none (some (.int k (h:Int))) (some (.int k' (h':Int)))).run P w=.ok (.slice a h h') w:=by
  simp[Instr.sliceAt,Instr.slice,run_underlying ht.h,e3,hz];rintro -;cases a with
  |none=>rfl
  |some ad=>simp[Addr.add]
 simp only[execOp,hx,hy,hy',Option.map_none,Ww,Sem.run_bind,key,Result.andThen_ok];rfl
theorem vh{t T:TypeId}[ht:eV P t (.slice T)]{z:List Value}{agg:Bool}{bytes:Nat}[hi:cM P T z agg bytes]{x y:Operand}{a:Option Addr}{m c h:Nat}{k:IntKind}
  (hx:ev e x=.slice a m c) (hy:ev e y=.int k (h:Int)) (h2:h<=c):Qv P e ⟨d,.slice t x none (some y) none,ty,pos,af,g⟩ w (.slice a h c):=by
 unfold Qv;have hz:=hi.sizeOf w
 have e2:(Instr.sliceBound (.int k (h:Int)) c .sliceAcap).run P w=.ok h w:=by
  simp[Instr.sliceBound,asIntOf,h2]
 have e3:(Instr.sliceBounds true m c none (some (.int k (h:Int))) none).run P w=.ok (0,h,c) w:=by
  simp[Instr.sliceBounds,e2]
 have key:(Instr.sliceAt t (.slice a m c) none (some (.int k (h:Int))) none).run P w=.ok (.slice a h c) w:=by
  simp[Instr.sliceAt,Instr.slice,run_underlying ht.h,e3,hz];rintro -;cases a with
  |none=>rfl
  |some ad=>simp[Addr.add]
 simp only[execOp,hx,hy,Option.map_none,Ww,Sem.run_bind,key,Result.andThen_ok];rfl
theorem QN{s t T:TypeId}[hs:eV P s (.slice T)][hT:eV P T (.int .u8)][ht:eV P t .string]{x:Operand}{a:Option Addr}{m c:Nat}{bs:List UInt8}(hx:ev e x=.slice a m c)(hr:Rd w 1 a m (aY bs)):
  Qv P e ⟨d,.convert s t x,ty,pos,af,g⟩ w (.string (I5 bs)):=by
 unfold Qv;have hlen:bs.length=m:=by have:=hr.1;rw[vX] at this;omega
 subst hlen
 have key:(convert s t (.slice a bs.length c)).run P w=.ok (.string (I5 bs)) w:=by
  rcases hr.2 with h0|⟨b,o,rfl,gO⟩
  ·obtain rfl:=Uq h0;cases a with
   |none=>
    rw[run_convert_bytes_string w s t T none _ c hs.h hT.h ht.h];simp[Conv.bytesToString,I5,ByteArray.empty,ByteArray.emptyWithCapacity];rfl
   |some ad=>exact run_convert_bytes_back w s t T ad c [] hs.h hT.h ht.h fun j hj=>by cases hj
  ·refine run_convert_bytes_back w s t T _ c bs hs.h hT.h ht.h fun j hj=>?_;rw[Addr.add_mid];exact gO j _ (jG (Ub hj))
 simp only[execOp,hx,Sem.run_bind,key,Result.andThen_ok];rfl
end
section
variable{P:Program}{e:Env}{w:World}{φ:Value->World->Prop}
theorem j8{t:TypeId}{z:List Value}{bytes:Nat}[hi:cM P t z true bytes]{a:Tmp}{b o:Nat}{l:List Value}(hx:e a=.pointer (some ⟨b,o,none⟩))(hz:z.length=l.length)(hl:At w b o l):
  (do loadVar t (<- asAddr (e a)):Sem Value).run P w=.ok (.agg l.toArray) w:=by
 have:=js (P:=P) (t:=t) hz hl;rw[hx];simpa[Instr.loadAt,Instr.sureAddr,asAddr] using this
theorem uQ{a:Tmp}{t:TypeId}{z:List Value}{bytes:Nat}[hi:cM P t z true bytes]{b o:Nat}{l:List Value}(hx:e a=.pointer (some ⟨b,o,none⟩))(hz:Nat.beq z.length l.length=true)(hl:At w b o l)(h:φ (.agg l.toArray) w):
  bq P [.cell a t] φ .ret e w:=⟨_,j8 hx (Vg hz) hl,h⟩
theorem uR{a c:Tmp}{t:TypeId}{z:List Value}{bytes:Nat}[hi:cM P t z true bytes]{b o:Nat}{l:List Value}(hx:e a=.pointer (some ⟨b,o,none⟩))(hz:Nat.beq z.length l.length=true)(hl:At w b o l)(h:φ (.tuple [.agg l.toArray,e c].toArray) w):
  bq P [.cell a t,.tmp c] φ .ret e w:=⟨_,j8 hx (Vg hz) hl,h⟩
theorem LJ{a c d f:Tmp}{t:TypeId}{z:List Value}{bytes:Nat}[hi:cM P t z true bytes]{b o:Nat}{l:List Value}(hx:e a=.pointer (some ⟨b,o,none⟩))(hz:Nat.beq z.length l.length=true)(hl:At w b o l)(h:φ (.tuple [e d,.agg l.toArray,e c,e f].toArray) w):
  bq P [.tmp d,.cell a t,.tmp c,.tmp f] φ .ret e w:=⟨_,j8 hx (Vg hz) hl,h⟩
end
end
section
open Go.ChangeShapes Go.WideShapes Go.ChangeAt Go.RowKit
theorem pW{H:Type}{enc:TypeId×Value->H}{P:Program}(hl:laidOutB P=true){W W':World}(hb:Below W.heap.size W W'):
  ∀{ts:List TypeId} {vs:List Value} {ds:List (DataW H)} {ps:List MemPlace},(ts.all fun t=>P.readableRec t&&Kl t P.types.size)=true->
   DataW.TrodAll enc P W 0 (fun _=>true) true ts vs ds ps->(∀x∈ps,x.block<W.heap.size)->DataW.TrodAll enc P W' 0 (fun b=>decide (b<W.heap.size)) true ts vs ds ps
 |[],vs,ds,ps,_,h,_=>by
  obtain⟨rfl,rfl,rfl⟩:=trodAll_nil h;exact trodAll_mk0
 |t::ts,vs,ds,ps,hr,h,hlt=>by
  obtain⟨v,vs',d,ds',p,q,rfl,rfl,rfl,h1,h2⟩:=trodAll_cons h;simp only[List.all_cons,Ur] at hr
  exact trodAll_cons_mk (Below.trod hl hr.1.1 (by simpa[Xu] using hr.1.2) h1 hb (fun x hx=>hlt x (List.mem_append_left _ hx)))
   (pW hl hb hr.2 h2 (fun x hx=>hlt x (List.mem_append_right _ hx)))
theorem uC{H:Type}{enc:TypeId×Value->H}{P:Program}{w:World}{base:Nat}{spare:Nat->Bool}{held:Bool}:
  ∀{ts:List TypeId} {vs:List Value} {ds:List (DataW H)} {ps:List MemPlace},DataW.TrodAll enc P w base spare held ts vs ds ps->ds.length=ts.length
 |[],vs,ds,ps,h=>by obtain⟨_,rfl,_⟩:=trodAll_nil h;rfl
 |t::ts,vs,ds,ps,h=>by
  obtain⟨v,vs',d,ds',p,q,rfl,rfl,rfl,h1,h2⟩:=trodAll_cons h;simp[uC h2]
theorem law_contract{H:Type}{enc:TypeId×Value->H}{C:Checked}{f:FuncId}{fn:Func}{s:ChangeSpec}{ts:List TypeId}{tb:TypeId}(hl:laidOutB C.prog=true)(hp:fn.params.toList=ts)(Cy:fn.resultTypes=#[tb])(LK:C.prog.underlying tb=some .bool)
  (hread:(ts.all fun t=>C.prog.readableRec t&&Kl t C.prog.types.size)=true) (hvars:s.vars=[]) (hs:∀ds:List (DataW H),ds.length=ts.length->s.fn H ds={ results:=[.lit (.bool true)],args:=ds })
  {W:World} {args:Array Value} {ds gs:List (DataW H)} {before:List MemPlace}
  (hW:DataW.Whole enc C.prog fn.params.toList s.vars false W args.toList ds gs before)
  (main:(∃ps,DataW.TrodAll enc C.prog W 0 (fun _=>true) true ts args.toList ds ps∧∀x∈ps,x.block<W.heap.size)->bP C.prog f args.toList W fun v w'=>v=.bool true∧St W [] w'):
  Calls C.prog f args W fun e W'=>∃v,e=.returned v∧s.post enc C.prog fn false true false false W args v W':=by
 have OA:=hW;obtain⟨p,q,hA,hV,rfl,hfz,hnd⟩:=hW;rw[hp] at hA;rw[hvars] at hV;obtain⟨rfl,rfl⟩:=trodVars_none hV;simp only[Ux] at OA;have hlt:∀x∈p,x.block<W.heap.size:=fun x hx=>by simpa using OA.lt x hx
 have hlen:=uC hA;have hm:=main ⟨p,hA,hlt⟩;unfold bP at hm;simp only[Array.toArray_toList] at hm;refine hm.mono fun e W' ⟨v,he,hv,hst⟩=>?_;subst he hv;have hb:=hst.below;refine⟨_,rfl,ds,[],_,[],p,[],OA,?_,?_,?_,hb.frame _,fun h=>by cases h⟩
 ·rw[Cy,Ux,hs ds hlen];exact trodAll_cons_mk (shut_bool LK true) trodAll_mk0
 ·rw[hp,Ux,hs ds hlen];exact pW hl hb hread hA hlt
 ·rw[hvars,Ux,hs ds hlen];rfl
section
variable{H:Type}{enc:TypeId×Value->H}{P:Program}{W:World}{r:Reach}{b0:Nat}
theorem Sw{t e:TypeId}{k:IntKind}{v:Value}{d:DataW H}{p:List MemPlace}(ht:P.underlying t=some (.slice e))(he:P.underlying e=some (.int k))(hc:P.cellsOf e=1)
  (hval:Value.okWide P W r b0 t v) (h:DataW.Trod enc P W 0 (fun _=>true) true t v d p) (hlt:∀x∈p,x.block<W.heap.size):
  ∃(a:Option Addr) (n c:Nat) (zs:List Int),v=.slice a n c∧n<=maxLen∧(∀z∈zs,(Lit.int k z).wf=true)∧Rd W 1 a n (zs.map (Value.int k))∧∀b o,a=some ⟨b,o,none⟩->0<n->b<W.heap.size:=by
 obtain⟨a0,len,cap,rfl⟩:=okWide_slice ht hval;obtain⟨fuel,hf⟩:=h;rcases open_ints ht he hc hf with⟨hcs,hx⟩|⟨a,len',cap',zs,hcs,_,hl,hm,hz,hx,hcell,Sx⟩
 ·simp[Value.cells] at hcs;obtain⟨rfl,rfl,rfl⟩:=hcs;exact⟨none,0,0,[],rfl,Uf _,(fun _ h=>by cases h),⟨rfl,.inl rfl⟩,fun _ _ h=>by cases h⟩
 ·simp[Value.cells] at hcs;obtain⟨rfl,rfl,rfl⟩:=hcs;simp only[Prod.mk.injEq] at hx;obtain⟨rfl,rfl⟩:=hx;simp only[if_true] at hz;refine⟨some a,len,cap,zs.take len,rfl,Uw hl hm,(fun z hz=>Sx z (Vl hz)),⟨by simp;omega,?_⟩,?_⟩
  ·rcases Wb len with h0|h0
   ·exact .inl h0
   ·obtain⟨b,off,spot⟩:=a;have Fc:spot=none:=by simpa[Addr.add] using World.cell?_spot (hcell 0 O0)
    subst Fc;refine .inr ⟨b,off,rfl,fun j v hj=>?_⟩
    have hjl:j<len∧j<zs.length:=by
     have:=(Uc.1 hj).1;simp at this;omega
    have hc:=hcell j hjl.2;rw[Addr.add_mid] at hc;rw[hc,<- hj];simp[Zu,hjl.1,Ub hjl.2,List.getD]
  ·intro b o hb hn;cases hb
   exact hlt (.cell b o) (MemPlace.mem_row.2 ⟨0,cI,by simp⟩)
end
end
section
theorem wrap64{x:Int}(h1:-9223372036854775808<=x)(h2:x<9223372036854775808):IntKind.i64.wrap x=x:=by
 unfold IntKind.wrap;simp[IntKind.signed,IntKind.bits];omega
theorem yj{a m:Int}(k:Nat)(hk:k<63)(hm:m=2^k-1):eS .and .i64 a m=a%2^k:=by
 subst hm;have hp:(2:Nat)^k<2^63:=Nat.pow_lt_pow_right O0 hk;have XQ:0<(2:Nat)^k:=Wq k
 have e1:((2:Int)^k-1)=((2^k-1:Nat):Int):=by
  rw[Int.natCast_sub O0];simp
 have e2:(BitVec.ofInt 64 ((2:Int)^k-1)).toNat=2^k-1:=by
  rw[e1];simp only[BitVec.ofInt_natCast,BitVec.toNat_ofNat];exact Un O0
 have e3:((BitVec.ofInt 64 a &&& BitVec.ofInt 64 ((2:Int)^k-1)).toNat:Int)=a%2^k:=by
  rw[BitVec.toNat_and,e2,Nat.and_two_pow_sub_one_eq_mod,BitVec.toNat_ofInt];rw[Int.natCast_emod];have h0:0<=a%((2^64:Nat):Int):=Int.emod_nonneg _ O2;rw[Zo h0]
  have hd:(((2^k:Nat)):Int) ∣ ((2^64:Nat):Int):=by
   exact Int.natCast_dvd_natCast.2 (Nat.pow_dvd_pow 2 O0)
  rw[Int.emod_emod_of_dvd _ hd];simp
 unfold eS;simp only;have e4:IntKind.i64.bits=64:=rfl;rw[e4,e3];have h1:0<=a%2^k:=Int.emod_nonneg _ (by rw[show((2:Int)^k)=((2^k:Nat):Int) by simp];omega)
 have h2:a%2^k<2^k:=Int.emod_lt_of_pos _ (by rw[show((2:Int)^k)=((2^k:Nat):Int) by simp];omega)
 have h3:((2:Int)^k)<9223372036854775808:=by rw[show((2:Int)^k)=((2^k:Nat):Int) by simp];omega
 exact wrap64 O0 O0
end
section
section
variable{P:Program}{ops:Array Oper}{e:Env}{w:World}{d:Option Nat}{ty:TypeId}{pos:String}{af:Array Edge}{g:Option (Nat×Bool)}
theorem q9{o:Oper}{v v':Value}(h:Qv P e o w v)(hv:v=v'):Qv P e o w v':=hv▸h
end
end
section
theorem zl(x:Nat):IntKind.u64.wrap (x:Int)=((x%18446744073709551616:Nat):Int):=by
 unfold IntKind.wrap;simp[IntKind.signed,IntKind.bits]
theorem um(x:Nat):IntKind.u8.wrap (x:Int)=((x%256:Nat):Int):=by
 unfold IntKind.wrap;simp[IntKind.signed,IntKind.bits]
theorem v7{a b:Nat}(ha:a<18446744073709551616)(hb:b<18446744073709551616):
  eS .and .u64 (a:Int) (b:Int)=((a &&& b:Nat):Int)∧eS .or .u64 (a:Int) (b:Int)=((a ||| b:Nat):Int)∧eS .xor .u64 (a:Int) (b:Int)=((a ^^^ b:Nat):Int):=by
 have ha':a%2^64=a:=Un ha;have hb':b%2^64=b:=Un hb;have e:IntKind.u64.bits=64:=rfl;refine⟨?_,?_,?_⟩ <;> unfold eS <;> simp only[e,BitVec.ofInt_natCast,BitVec.toNat_and,BitVec.toNat_or,BitVec.toNat_xor,BitVec.toNat_ofNat,ha',hb',zl]
 ·rw[Un (Nat.and_lt_two_pow (n:=64) _ hb)]
 ·rw[Un (Nat.or_lt_two_pow (n:=64) ha hb)]
 ·rw[Un (Wu (n:=64) ha hb)]
theorem w9{a b:Nat}(ha:a<256)(hb:b<256):
  eS .and .u8 (a:Int) (b:Int)=((a &&& b:Nat):Int)∧eS .or .u8 (a:Int) (b:Int)=((a ||| b:Nat):Int)∧eS .xor .u8 (a:Int) (b:Int)=((a ^^^ b:Nat):Int):=by
 have ha':a%2^8=a:=Un ha;have hb':b%2^8=b:=Un hb;have e:IntKind.u8.bits=8:=rfl;refine⟨?_,?_,?_⟩ <;> unfold eS <;> simp only[e,BitVec.ofInt_natCast,BitVec.toNat_and,BitVec.toNat_or,BitVec.toNat_xor,BitVec.toNat_ofNat,ha',hb',um]
 ·rw[Un (Nat.and_lt_two_pow (n:=8) _ hb)]
 ·rw[Un (Nat.or_lt_two_pow (n:=8) ha hb)]
 ·rw[Un (Wu (n:=8) ha hb)]
theorem Sy(x y:UInt8):eS .or .u8 (x.toNat:Int) (y.toNat:Int)=((x ||| y).toNat:Int):=by
 rw[(w9 x.toNat_lt y.toNat_lt).2.1];rfl
theorem j3(a i n:Nat)(h:i<=n):(a:Int).fdiv (2^(min ((i:Int)).toNat n))=((a / 2^i:Nat):Int):=by
 rw[Zz,Vn h,Zc _ (by exact Int.le_of_lt (Int.pow_pos O2))]
 rw[Int.natCast_ediv];simp
theorem km(a i:Nat)(h:i<=64):IntKind.u64.wrap ((a:Int)*2^(min ((i:Int)).toNat IntKind.u64.bits))=((a*2^i%18446744073709551616:Nat):Int):=by
 rw[Zz,Vn (show i<=IntKind.u64.bits from h),<- zl];simp
theorem I6(a i:Nat)(h:i<=8):IntKind.u8.wrap ((a:Int)*2^(min ((i:Int)).toNat IntKind.u8.bits))=((a*2^i%256:Nat):Int):=by
 rw[Zz,Vn (show i<=IntKind.u8.bits from h),<- um];simp
theorem zr(a b:Nat):(a:Int).tmod (b:Int)=((a%b:Nat):Int):=by
 rw[Kd (Int.natCast_nonneg _),Int.natCast_emod]
theorem pb(a b:Nat):(a:Int).tdiv (b:Int)=((a / b:Nat):Int):=by
 rw[Int.tdiv_eq_ediv_of_nonneg (Int.natCast_nonneg _),Int.natCast_ediv]
def QO(b0 b1 b2 b3 b4 b5 b6 b7:Bool):UInt8:=(b0.toUInt8 <<< 7) ||| (b1.toUInt8 <<< 6) ||| (b2.toUInt8 <<< 5) ||| (b3.toUInt8 <<< 4) ||| (b4.toUInt8 <<< 3) ||| (b5.toUInt8 <<< 2) ||| (b6.toUInt8 <<< 1) ||| b7.toUInt8
def gB(l:List Bool)(k:Nat):UInt8:=QO (l.getD (8*k) false) (l.getD (8*k+1) false) (l.getD (8*k+2) false) (l.getD (8*k+3) false) (l.getD (8*k+4) false) (l.getD (8*k+5) false) (l.getD (8*k+6) false) (l.getD (8*k+7) false)
def pack(l:List Bool):List UInt8:=(List.range ((l.length+7) / 8)).map (gB l)
def xY(l:List Bool):List UInt8:=(List.range (l.length / 8+1)).map (gB l)
theorem j9(l:List Bool):(pack l).length=(l.length+7) / 8:=by simp[pack]
theorem eO{l:List Bool}{b:Bool}{i:Nat}(h:i<l.length):(l++[b]).getD i false=l.getD i false:=by
 simp[List.getD,Wh h]
theorem zY{l:List Bool}{b:Bool}{i:Nat}(h:i=l.length):(l++[b]).getD i false=b:=by
 subst h;simp[List.getD]
theorem iJ{l:List Bool}{i:Nat}(h:l.length<=i):l.getD i false=false:=by
 simp[List.getD,Vq h]
theorem D2{l:List Bool}{b:Bool}{k:Nat}(h:k<l.length / 8):gB (l++[b]) k=gB l k:=by
 unfold gB;rw[eO O0,eO O0,eO O0,eO O0,eO O0,eO O0,eO O0,eO O0]
theorem D3(l:List Bool)(b:Bool):gB (l++[b]) (l.length / 8)=gB l (l.length / 8) ||| UInt8.ofNat (b.toNat*2^(7-l.length%8)):=by
 have hr:l.length%8<8:=Vw _ O2;have hl:l.length=8*(l.length / 8)+l.length%8:=(Nat.div_add_mod _ _).symm;generalize l.length / 8=k at hl;generalize l.length%8=r at hl hr;unfold gB
 have go:∀j,j<8->(l++[b]).getD (8*k+j) false=if j<r then l.getD (8*k+j) false else if j=r then b else false:=by
  intro j _;by_cases h1:j<r
  ·rw[if_pos h1,eO O0]
  ·rw[if_neg h1];by_cases h2:j=r
   ·rw[if_pos h2,zY O0]
   ·rw[if_neg h2,iJ O5]
 have g2:∀j,j<8->r<=j->l.getD (8*k+j) false=false:=fun j _ h=>iJ O0;have g0:=go 0 O2;have g1:=go 1 O2;have g3:=go 2 O2;have g4:=go 3 O2;have g5:=go 4 O2;have g6:=go 5 O2;have g7:=go 6 O2;have g8:=go 7 O2;rw[Ws] at g0;rw[g0,g1,g3,g4,g5,g6,g7,g8];have y0:=g2 0 O2;have y1:=g2 1 O2;have y2:=g2 2 O2;have y3:=g2 3 O2;have y4:=g2 4 O2;have y5:=g2 5 O2;have y6:=g2 6 O2;have y7:=g2 7 O2;rw[Ws] at y0;generalize l.getD (8*k) false=x0 at *;generalize l.getD (8*k+1) false=x1 at *;generalize l.getD (8*k+2) false=x2 at *;generalize l.getD (8*k+3) false=x3 at *;generalize l.getD (8*k+4) false=x4 at *;generalize l.getD (8*k+5) false=x5 at *;generalize l.getD (8*k+6) false=x6 at *;generalize l.getD (8*k+7) false=x7 at *;clear go g2 hl g0 g1 g3 g4 g5 g6 g7 g8;rcases(by omega:r=0∨r=1∨r=2∨r=3∨r=4∨r=5∨r=6∨r=7) with rfl|rfl|rfl|rfl|rfl|rfl|rfl|rfl
 ·have z0:=y0 O2;have z1:=y1 O2;have z2:=y2 O2;have z3:=y3 O2;have z4:=y4 O2;have z5:=y5 O2;have z6:=y6 O2;have z7:=y7 O2;subst z0 z1 z2 z3 z4 z5 z6 z7;clear y0 y1 y2 y3 y4 y5 y6 y7;revert b;decide
 ·have z1:=y1 O2;have z2:=y2 O2;have z3:=y3 O2;have z4:=y4 O2;have z5:=y5 O2;have z6:=y6 O2;have z7:=y7 O2;subst z1 z2 z3 z4 z5 z6 z7;clear y0 y1 y2 y3 y4 y5 y6 y7;revert b x0;decide
 ·have z2:=y2 O2;have z3:=y3 O2;have z4:=y4 O2;have z5:=y5 O2;have z6:=y6 O2;have z7:=y7 O2;subst z2 z3 z4 z5 z6 z7;clear y0 y1 y2 y3 y4 y5 y6 y7;revert b x0 x1;decide
 ·have z3:=y3 O2;have z4:=y4 O2;have z5:=y5 O2;have z6:=y6 O2;have z7:=y7 O2;subst z3 z4 z5 z6 z7;clear y0 y1 y2 y3 y4 y5 y6 y7;revert b x0 x1 x2;decide
 ·have z4:=y4 O2;have z5:=y5 O2;have z6:=y6 O2;have z7:=y7 O2;subst z4 z5 z6 z7;clear y0 y1 y2 y3 y4 y5 y6 y7;revert b x0 x1 x2 x3;decide
 ·have z5:=y5 O2;have z6:=y6 O2;have z7:=y7 O2;subst z5 z6 z7;clear y0 y1 y2 y3 y4 y5 y6 y7;revert b x0 x1 x2 x3 x4;decide
 ·have z6:=y6 O2;have z7:=y7 O2;subst z6 z7;clear y0 y1 y2 y3 y4 y5 y6 y7;revert b x0 x1 x2 x3 x4 x5;decide
 ·have z7:=y7 O2;subst z7;clear y0 y1 y2 y3 y4 y5 y6 y7;revert b x0 x1 x2 x3 x4 x5 x6;decide
theorem lh(l:List Bool)(b:Bool):pack (l++[b])=(xY l).set (l.length / 8) (gB l (l.length / 8) ||| UInt8.ofNat (b.toNat*2^(7-l.length%8))):=by
 apply Ka;intro i;have hlen:((l++[b]).length+7) / 8=l.length / 8+1:=by simp;omega
 unfold pack xY;rw[hlen,Kb];simp only[Vb,Vf,List.length_range];by_cases h1:l.length / 8=i
 ·subst h1;simp[D3]
 ·rw[if_neg h1];by_cases h2:i<l.length / 8+1
  ·rw[List.getElem?_range h2];simp[D2 (l:=l) (b:=b) (show i<l.length / 8 by omega)]
  ·rw[Vq O5];rfl
theorem Sz(l:List Bool):(xY l)[l.length / 8]?=some (gB l (l.length / 8)):=by simp[xY]
theorem ld{l:List Bool}(h:l.length%8=0):xY l=pack l++[0]:=by
 unfold xY pack;have e:(l.length+7) / 8=l.length / 8:=by omega
 rw[e,List.range_succ,Vo];congr 1;simp only[Uy,List.map_nil,List.cons.injEq,and_true];unfold gB;rw[iJ O0,iJ O0,iJ O0,iJ O0,iJ O0,iJ O0,iJ O0,iJ O0];rfl
theorem SA{l:List Bool}(h:l.length%8≠0):xY l=pack l:=by
 unfold xY pack;congr 2;omega
def bitsOf(v:Nat):Nat->List Bool
 |0=>[]
 |n+1=>v.testBit n::bitsOf v n
theorem bO(v:Nat):∀n,(bitsOf v n).length=n
 |0=>rfl
 |n+1=>by simp[bitsOf,bO v n]
def eY(n:Int):Nat:=(min (max n 0) 64).toNat
end
section
def qL(a:Nat):List Bool->Nat
 |[]=>a
 |b::l=>qL (2*a+b.toNat) l
def num(l:List Bool):Nat:=qL 0 l
theorem vF:∀(l:List Bool) (a:Nat),qL a l=a*2^l.length+num l
 |[],a=>by simp[qL,num]
 |b::l,a=>by
  have h1:=vF l (2*a+b.toNat);have h2:=vF l (2*0+b.toNat);unfold num;rw[qL,qL,h1,h2,Uj,Nat.pow_succ,Nat.mul_zero,Uz,Vj,Wm (2^l.length) 2,<- Nat.mul_assoc,Wm a 2];omega
theorem zA:∀(l:List Bool) (a:Nat) (b:Bool),qL a (l++[b])=2*qL a l+b.toNat
 |[],a,b=>rfl
 |c::l,a,b=>by rw[Wo,qL,qL,zA l]
theorem SB(l:List Bool)(b:Bool):num (l++[b])=2*num l+b.toNat:=zA l 0 b
theorem f8:∀(l:List Bool),num l<2^l.length
 |[]=>by simp[num,qL]
 |b::l=>by
  have h1:=f8 l
  have h2:num (b::l)=b.toNat*2^l.length+num l:=by
   have:=vF l (2*0+b.toNat);simpa[num,qL] using this
  rw[h2,Uj,Nat.pow_succ];cases b <;> simp <;> omega
theorem dq(v:Nat):∀n,num (bitsOf v n)=v%2^n
 |0=>by simp[bitsOf,num,qL,Nat.mod_one]
 |n+1=>by
  have h2:num (bitsOf v (n+1))=(v.testBit n).toNat*2^n+num (bitsOf v n):=by
   have:=vF (bitsOf v n) (2*0+(v.testBit n).toNat);rw[bO] at this;simpa[num,qL,bitsOf] using this
  rw[h2,dq v n,Nat.toNat_testBit,Nat.mod_pow_succ,Wm,Wy]
def lB(bs:List UInt8):List Bool:=bs.flatMap fun b=>bitsOf b.toNat 8
theorem zB(bs:List UInt8):(lB bs).length=8*bs.length:=by
 induction bs with
 |nil=>rfl
 |cons b bs ih=>
  show(bitsOf b.toNat 8++lB bs).length=_;rw[Ua,bO,ih,Uj];omega
theorem qM(v:Nat):∀(n j:Nat),j<n->(bitsOf v n)[j]?=some (v.testBit (n-1-j))
 |n+1,0,_=>by simp[bitsOf]
 |n+1,j+1,h=>by
  rw[bitsOf,Zr,qM v n j O0];congr 2;omega
theorem tE:∀(bs:List UInt8) (k:Nat) (b:UInt8),bs[k / 8]?=some b->(lB bs)[k]?=some (b.toNat.testBit (7-k%8))
 |[],k,b,h=>by simp at h
 |c::bs,k,b,h=>by
  show(bitsOf c.toNat 8++lB bs)[k]?=_;by_cases hk:k<8
  ·rw[Wh (by rw[bO];exact hk),qM _ _ _ hk]
   have h0:k / 8=0:=by omega
   rw[h0] at h;simp at h;rw[h,Un hk]
  ·rw[Wt (by rw[bO];omega),bO]
   have h0:k / 8=(k-8) / 8+1:=by omega
   rw[h0,Zr] at h;rw[tE bs (k-8) b h];congr 3;omega
theorem Fe:∀(b0 b1 b2 b3 b4 b5 b6 b7:Bool),bitsOf (QO b0 b1 b2 b3 b4 b5 b6 b7).toNat 8=[b0,b1,b2,b3,b4,b5,b6,b7]:=by decide
theorem Cz(l:List Bool)(k j:Nat)(hj:j<8):(gB l k).toNat.testBit (7-j)=l.getD (8*k+j) false:=by
 have h:=qM (gB l k).toNat 8 j hj;unfold gB at h ⊢;rw[Fe] at h;have h2:8-1-j=7-j:=by omega
 rw[h2] at h;rcases(by omega:j=0∨j=1∨j=2∨j=3∨j=4∨j=5∨j=6∨j=7) with rfl|rfl|rfl|rfl|rfl|rfl|rfl|rfl <;> simpa using h.symm
theorem nL(l:List Bool):lB (pack l)=l++List.replicate (8*((l.length+7) / 8)-l.length) false:=by
 apply Ka;intro k;by_cases hk:k<8*((l.length+7) / 8)
 ·have h1:(pack l)[k / 8]?=some (gB l (k / 8)):=by unfold pack;rw[Vb,List.getElem?_range O0];rfl
  rw[tE _ _ _ h1,Cz _ _ _ (Vw _ O2),Nat.div_add_mod];by_cases h2:k<l.length
  ·rw[Wh h2];simp[List.getD,Ub h2]
  ·rw[Wt O0,iJ O0];rw[List.getElem?_replicate,if_pos O0]
 ·rw[Vq (by rw[zB,j9];omega),Vq (by rw[Ua,Zf];omega)]
structure RS where
 rest:List Bool
 bad:Bool
def RS.get(s:RS)(n:Nat):Nat×RS:=if s.bad=true∨s.rest.length<n then(0,⟨s.rest,true⟩) else(num (s.rest.take n),⟨s.rest.drop n,false⟩)
theorem RS.kM(v n:Nat)(r:List Bool):RS.get ⟨bitsOf v n++r,false⟩ n=(v%2^n,⟨r,false⟩):=by
 unfold RS.get;rw[if_neg (by rw[Ua,bO];simp)]
 simp[Xw,bO,Zs,dq]
theorem RS.Dn(s:RS)(n:Nat):(s.get n).2.rest.length<=s.rest.length:=by
 unfold RS.get;split
 ·exact Ug _
 ·simp
theorem RS.tF(s:RS)(n:Nat):(s.get n).1<2^n:=by
 unfold RS.get;split
 ·exact Wq n
 ·have h:=f8 (s.rest.take n);refine Xt h (Vm O2 O5)
def lU:Nat->Nat->List UInt8
 |0,u=>[UInt8.ofNat u]
 |k+1,u=>if u<128 then[UInt8.ofNat u] else UInt8.ofNat (u%128+128)::lU k (u / 128)
def cS(u:Nat):List UInt8:=lU 9 u
def iZ:List UInt8->Nat->Nat->Nat×Nat
 |[],_,_=>(0,0)
 |c::r,i,u=>if i=10∨(i=9∧1<c.toNat)∨(0<i∧c.toNat=0) then(0,0) else if c.toNat<128 then(u+c.toNat*2^(7*i),i+1) else iZ r (i+1) (u+c.toNat%128*2^(7*i))
def dX(l:List UInt8):Nat×Nat:=iZ l 0 0
theorem vY:∀(k m u:Nat),u<128^(k+1)->k<=m->lU m u=lU k u
 |0,0,u,_,_=>rfl
 |0,m+1,u,h,_=>by rw[show lU (m+1) u=if u<128 then[UInt8.ofNat u] else UInt8.ofNat (u%128+128)::lU m (u / 128) from rfl,if_pos Co];rfl
 |k+1,0,u,_,h=>by omega
 |k+1,m+1,u,h,hm=>by
  rw[lU,lU];split
  ·rfl
  ·rw[vY k m (u / 128) (by rw[Nat.pow_succ] at h;omega) O0]
theorem iw{u:Nat}(h:u<128):cS u=[UInt8.ofNat u]:=by unfold cS;rw[lU,if_pos h]
theorem ib{u:Nat}(h:¬u<128)(hu:u<18446744073709551616):cS u=UInt8.ofNat (u%128+128)::cS (u / 128):=by
 unfold cS;rw[lU,if_neg h,vY 8 9 (u / 128) (by rw[show(128:Nat)^(8+1)=9223372036854775808 by decide];omega) O2]
theorem zC:∀(k u:Nat),(lU k u).length<=k+1∧0<(lU k u).length
 |0,u=>by simp[lU]
 |k+1,u=>by
  rw[lU];split
  ·simp
  ·have:=zC k (u / 128);simp;omega
theorem jd(u:Nat):(cS u).length<=10∧0<(cS u).length:=zC 9 u
theorem CA(r:List UInt8):∀(v i u:Nat),v*2^(7*i)<18446744073709551616->(i=0∨0<v)->iZ (cS v++r) i u=(u+v*2^(7*i),i+(cS v).length):=by
 intro v;induction v using Nat.strongRecOn with
 |ind v ih=>
  intro i u h h0;have OB:v<18446744073709551616:=Xh (Nat.le_mul_of_pos_right _ (Wq _)) h
  have hi:i<=9:=by
   rcases Zk i 10 with hi|hi
   ·omega
   ·exfalso;have h1:2^(7*10)<=2^(7*i):=Vm O2 O0;have h2:1*2^(7*i)<=v*2^(7*i):=Uv _ O0;have h3:(2:Nat)^(7*10)=1180591620717411303424:=by decide
    omega
  by_cases hv:v<128
  ·rw[iw hv];have hc:(UInt8.ofNat v).toNat=v:=by rw[UInt8.toNat_ofNat',Un O0]
   show iZ (UInt8.ofNat v::r) i u=_;rw[iZ,hc,if_neg,if_pos hv]
   ·rfl
   ·rintro(h1|⟨h1,h2⟩|⟨h1,h2⟩)
    ·omega
    ·subst h1;have:(2:Nat)^(7*9)=9223372036854775808:=by decide
     rw[this] at h;omega
    ·omega
  ·rw[ib hv OB];have hc:(UInt8.ofNat (v%128+128)).toNat=v%128+128:=by rw[UInt8.toNat_ofNat',Un O0]
   have XR:i<=8:=by
    rcases Zk i 9 with hi|hi
    ·omega
    ·exfalso;obtain rfl:i=9:=by omega
     have:(2:Nat)^(7*9)=9223372036854775808:=by decide
     rw[this] at h;omega
   have hp:(2:Nat)^(7*(i+1))=128*2^(7*i):=by rw[Nat.mul_add,Za,Wm]
   have SC:v=128*(v / 128)+v%128:=(Nat.div_add_mod v 128).symm;show iZ (UInt8.ofNat (v%128+128)::(cS (v / 128)++r)) i u=_;rw[iZ,hc,if_neg O0,if_neg O0,ih (v / 128) O0 (i+1) _ ?_ O0]
   ·rw[Uj];refine Prod.ext ?_ GH;dsimp only;rw[show(v%128+128)%128=v%128 by omega,hp,Nat.add_assoc]
    congr 1;have e:v / 128*(128*2^(7*i))=128*(v / 128)*2^(7*i):=by rw[Wm 128 (v / 128),Nat.mul_assoc]
    rw[e,<- Vj,Wy,<- SC]
   ·rw[hp];have e:v / 128*(128*2^(7*i))=128*(v / 128)*2^(7*i):=by rw[Wm 128 (v / 128),Nat.mul_assoc]
    rw[e];refine Xh (Uv _ O0) h
theorem vd{v:Nat}(h:v<18446744073709551616)(r:List UInt8):dX (cS v++r)=(v,(cS v).length):=by
 have:=CA r v 0 0 Co (.inl rfl);simpa[dX] using this
theorem Bp:∀(l:List UInt8) (i u:Nat),i<=10->(iZ l i u).2=0∨(i<(iZ l i u).2∧(iZ l i u).2<=i+l.length∧(iZ l i u).2<=10)
 |[],i,u,_=>.inl rfl
 |c::r,i,u,hi=>by
  rw[iZ];split
  ·exact .inl rfl
  ·rename_i h
   have h9:i<=9:=by omega
   split
   ·exact .inr ⟨Wz i,by rw[Uj];omega,gH⟩
   ·rcases Bp r (i+1) (u+c.toNat%128*2^(7*i)) O0 with h1|⟨h1,h2,h3⟩
    ·exact .inl h1
    ·exact .inr ⟨cI,by rw[Uj];omega,h3⟩
theorem im(l:List UInt8):(dX l).2<=l.length:=by
 rcases Bp l 0 0 O2 with h|⟨_,h,_⟩
 ·unfold dX;omega
 ·unfold dX;omega
theorem Bq:∀(l:List UInt8) (i u:Nat),u<2^(7*i)->i<=10->(iZ l i u).1<18446744073709551616
 |[],i,u,_,_=>(by decide:(0:Nat)<18446744073709551616)
 |c::r,i,u,hu,hi=>by
  rw[iZ];split
  ·exact(by decide:(0:Nat)<18446744073709551616)
  ·rename_i h
   have hp:(2:Nat)^(7*(i+1))=128*2^(7*i):=by rw[Nat.mul_add,Za,Wm]
   have hc:=c.toNat_lt;split
   ·rename_i h1
    dsimp only;have h9:i<=9:=by omega
    rcases Zk i 9 with h2|h2
    ·have h3:(2:Nat)^(7*i)<=2^56:=Vm O2 O0;have h4:c.toNat*2^(7*i)<=127*2^56:=Ke O0 h3;omega
    ·obtain rfl:i=9:=by omega
     have h3:c.toNat<=1:=by omega
     have h4:c.toNat*2^(7*9)<=1*2^(7*9):=Uv _ h3;have h5:(2:Nat)^(7*9)=9223372036854775808:=by decide
     omega
   ·refine Bq r (i+1) _ ?_ O0;rw[hp];have h4:c.toNat%128*2^(7*i)<=127*2^(7*i):=Uv _ O0;omega
theorem ip(l:List UInt8):(dX l).1<18446744073709551616:=Bq l 0 0 O2 O2
def us(t:Int):Nat:=(t%18446744073709551616).toNat
def sg(u:Nat):Int:=if u<9223372036854775808 then u else(u:Int)-18446744073709551616
def rM(t:Int):Prop:=-9223372036854775808<=t∧t<9223372036854775808
theorem yg(t:Int):us t<18446744073709551616:=by unfold us;omega
theorem OC{t:Int}(h:rM t):sg (us t)=t:=by obtain⟨h1,h2⟩:=h;unfold sg us;split <;> omega
theorem LL{u:Nat}(h:u<18446744073709551616):us (sg u)=u:=by unfold sg us;split <;> omega
theorem HV{u:Nat}(h:u<18446744073709551616):rM (sg u):=by unfold sg rM;split <;> omega
theorem kn(t:Int):IntKind.u64.wrap t=(us t:Int):=by
 unfold IntKind.wrap us;simp[IntKind.signed,IntKind.bits];omega
theorem zq{u:Nat}(h:u<18446744073709551616):IntKind.i64.wrap (u:Int)=sg u:=by
 unfold IntKind.wrap sg;simp[IntKind.signed,IntKind.bits];omega
structure QS where
 ahead:Nat
 cR:Nat
 bits:Nat
def which(d:Int):QS:=if d=0 then⟨0,1,0⟩ else if -64<=d∧d<=63 then⟨2,2,7⟩ else if -256<=d∧d<=255 then⟨6,3,9⟩ else if -2048<=d∧d<=2047 then⟨14,4,12⟩ else⟨15,4,64⟩
abbrev diff(a b:Nat):Nat:=(a+18446744073709551616-b)%18446744073709551616
abbrev jR(a b:Nat):Nat:=(a+b)%18446744073709551616
def fD(was step:Nat):List Int->List Bool
 |[]=>[]
 |t::r=>bitsOf (which (sg (diff (diff (us t) was) step))).ahead (which (sg (diff (diff (us t) was) step))).cR++(bitsOf (diff (diff (us t) was) step) (which (sg (diff (diff (us t) was) step))).bits++fD (us t) (diff (us t) was) r)
def bX:List Int->List Bool
 |[]=>[]
 |t::r=>bitsOf (us t) 64++fD (us t) 0 r
def cB:Nat->RS->Nat×RS
 |0,s=>(0,s)
 |k+1,s=>if(s.get 1).1=1 then((cB k (s.get 1).2).1+1,(cB k (s.get 1).2).2) else(0,(s.get 1).2)
theorem zD:∀(k:Nat) (s:RS),(cB k s).1<=k
 |0,s=>Ug _
 |k+1,s=>by
  rw[cB];split
  ·have:=zD k (s.get 1).2;dsimp only;omega
  ·exact Uf _
def fF(k:Nat):Nat:=[0,7,9,12,64].getD k 0
def uS(g cR:Nat):Int:=if cR=0 then 0 else if g<2^(cR-1) then g else(g:Int)-2^cR
def gT(s:RS):Int×RS:=(uS ((cB 4 s).2.get (fF (cB 4 s).1)).1 (fF (cB 4 s).1),((cB 4 s).2.get (fF (cB 4 s).1)).2)
def mJ(s:RS):Bool:=decide ((which (gT s).1).bits=fF (cB 4 s).1)
def fE:Nat->Nat->Nat->RS->Option (List Int×RS)
 |0,_,_,s=>some ([],s)
 |k+1,was,step,s=>if mJ s=true∧(gT s).2.bad=false then(fE k (jR was (jR step (us (gT s).1))) (jR step (us (gT s).1)) (gT s).2).map fun r=>(sg (jR was (jR step (us (gT s).1)))::r.1,r.2) else none
def dU(n:Nat)(s:RS):Option (List Int×RS):=match n with
 |0=>if s.bad then none else some ([],s)
 |k+1=>if(s.get 64).2.bad then none else(fE k (s.get 64).1 0 (s.get 64).2).map fun r=>(sg (s.get 64).1::r.1,r.2)
theorem ja(b:Bool)(r:List Bool):RS.get ⟨b::r,false⟩ 1=(b.toNat,⟨r,false⟩):=by
 cases b <;> simp[RS.get,num,qL]
theorem x9(d:Int):(which d=⟨0,1,0⟩∧d=0)∨(which d=⟨2,2,7⟩∧-64<=d∧d<=63∧d≠0)∨(which d=⟨6,3,9⟩∧-256<=d∧d<=255)∨(which d=⟨14,4,12⟩∧-2048<=d∧d<=2047)∨which d=⟨15,4,64⟩:=by
 unfold which;split
 ·exact .inl ⟨rfl,‹_›⟩
 ·split
  ·exact .inr (.inl ⟨rfl,cI,cI,cI⟩)
  ·split
   ·exact .inr (.inr (.inl ⟨rfl,cI,cI⟩))
   ·split
    ·exact .inr (.inr (.inr (.inl ⟨rfl,cI,cI⟩)))
    ·exact .inr (.inr (.inr (.inr rfl)))
theorem CB{d:Nat}(hd:d<18446744073709551616)(r:List Bool):gT ⟨bitsOf (which (sg d)).ahead (which (sg d)).cR++(bitsOf d (which (sg d)).bits++r),false⟩=(sg d,⟨r,false⟩)∧mJ ⟨bitsOf (which (sg d)).ahead (which (sg d)).cR++(bitsOf d (which (sg d)).bits++r),false⟩=true:=by
 have fin:∀(s:RS) (k:Nat) (n:Nat),cB 4 s=(k,⟨bitsOf d n++r,false⟩)->fF k=n->(which (sg d)).bits=n->uS (d%2^n) n=sg d->gT s=(sg d,⟨r,false⟩)∧mJ s=true:=by
  intro s k n h1 h2 h3 h4
  have hT:gT s=(sg d,⟨r,false⟩):=by
   unfold gT;rw[h1];dsimp only;rw[h2,RS.kM,h4]
  refine⟨hT,?_⟩;unfold mJ;rw[hT,h1];dsimp only;rw[h2,h3];simp
 rcases x9 (sg d) with⟨hw,h1⟩|⟨hw,h1,h2,h3⟩|⟨hw,h1,h2⟩|⟨hw,h1,h2⟩|hw
 ·rw[hw];refine fin _ 0 0 ?_ rfl (by rw[hw]) (by rw[h1];rfl)
  show cB 4 ⟨false::_,false⟩=_;rw[cB,ja];rfl
 ·rw[hw];refine fin _ 1 7 ?_ rfl (by rw[hw]) ?_
  ·show cB 4 ⟨true::false::_,false⟩=_;rw[cB,ja,cB,ja];rfl
  ·unfold uS sg at *;simp only[Nat.reducePow,Nat.reduceSub,Int.reducePow,Nat.reduceEqDiff,if_false,reduceIte] at *;split at h1 <;> split <;> omega
 ·rw[hw];refine fin _ 2 9 ?_ rfl (by rw[hw]) ?_
  ·show cB 4 ⟨true::true::false::_,false⟩=_;rw[cB,ja,cB,ja,cB,ja];rfl
  ·unfold uS sg at *;simp only[Nat.reducePow,Nat.reduceSub,Int.reducePow,Nat.reduceEqDiff,if_false,reduceIte] at *;split at h1 <;> split <;> omega
 ·rw[hw];refine fin _ 3 12 ?_ rfl (by rw[hw]) ?_
  ·show cB 4 ⟨true::true::true::false::_,false⟩=_;rw[cB,ja,cB,ja,cB,ja,cB,ja];rfl
  ·unfold uS sg at *;simp only[Nat.reducePow,Nat.reduceSub,Int.reducePow,Nat.reduceEqDiff,if_false,reduceIte] at *;split at h1 <;> split <;> omega
 ·rw[hw];refine fin _ 4 64 ?_ rfl (by rw[hw]) ?_
  ·show cB 4 ⟨true::true::true::true::_,false⟩=_;rw[cB,ja,cB,ja,cB,ja,cB,ja];rfl
  ·unfold uS sg at *;simp only[Nat.reducePow,Nat.reduceSub,Int.reducePow,Nat.reduceEqDiff,if_false,reduceIte] at *;rw[Un hd]
theorem oQ(r:List Bool):∀(ts:List Int) (was step:Nat),was<18446744073709551616->step<18446744073709551616->(∀t∈ts,rM t)->fE ts.length was step ⟨fD was step ts++r,false⟩=some (ts,⟨r,false⟩)
 |[],_,_,_,_,_=>rfl
 |t::ts,was,step,hw,hs,hi=>by
  have ht:=yg t;have Cf:=hi t (Ud ..);have hd:diff (diff (us t) was) step<18446744073709551616:=Vw _ O2;obtain⟨h1,h2⟩:=CB hd (fD (us t) (diff (us t) was) ts++r);have ih:=oQ r ts (us t) (diff (us t) was) ht (Vw _ O2) fun x hx=>hi x (Uh _ hx);rw[fD,Uo,Uo,Uj,fE,h2,h1];have e1:jR step (us (sg (diff (diff (us t) was) step)))=diff (us t) was:=by rw[LL hd];unfold jR diff;omega
  have e2:jR was (diff (us t) was)=us t:=by unfold jR diff;omega
  dsimp only;rw[e1,e2,ih,OC Cf];rfl
theorem xZ(ts:List Int)(hi:∀t∈ts,rM t)(r:List Bool):dU ts.length ⟨bX ts++r,false⟩=some (ts,⟨r,false⟩):=by
 cases ts with
 |nil=>rfl
 |cons t ts=>
  have ht:=yg t;show dU (ts.length+1) ⟨(bitsOf (us t) 64++fD (us t) 0 ts)++r,false⟩=_;rw[Uo,dU,RS.kM,Un (show us t<2^64 from ht)];dsimp only;rw[oQ r ts (us t) 0 ht O2 fun x hx=>hi x (Uh _ hx),OC (hi t (Ud ..))];rfl
theorem pX:∀(k was step:Nat) (s:RS) (x:List Int×RS),fE k was step s=some x->x.1.length=k
 |0,_,_,_,x,h=>by cases h;rfl
 |k+1,was,step,s,x,h=>by
  rw[fE] at h;split at h
  ·obtain⟨y,h1,rfl⟩:=Ve.1 h;simp[pX k _ _ _ y h1]
  ·cases h
theorem zZ{n:Nat}{s:RS}{x:List Int×RS}(h:dU n s=some x):x.1.length=n:=by
 cases n with
 |zero=>unfold dU at h;dsimp only at h;split at h <;> cases h;rfl
 |succ k=>
  unfold dU at h;dsimp only at h;split at h
  ·cases h
  ·obtain⟨y,h1,rfl⟩:=Ve.1 h;simp[pX k _ _ _ y h1]
end
section
abbrev eE(l:List Nat):List Value:=l.map fun v:Nat=>Value.int .u64 (v:Int)
abbrev gU(l:List Int):List Value:=l.map fun v=>.iz v
theorem rN(l:List Nat):∀u∈eE l,u.oneCell'=true:=by
 intro u hu;obtain⟨v,_,rfl⟩:=Va.1 hu;rfl
theorem rO(l:List Int):∀u∈gU l,u.oneCell'=true:=by
 intro u hu;obtain⟨v,_,rfl⟩:=Va.1 hu;rfl
theorem vZ{l:List Nat}{j v:Nat}(h:l[j]?=some v):(eE l)[j]?=some (.int .u64 (v:Int)):=by simp[eE,h]
theorem Br{l:List Int}{j:Nat}{v:Int}(h:l[j]?=some v):(gU l)[j]?=some (.iz v):=by simp[gU,h]
theorem Ff(a:Int):(BitVec.ofInt 64 a).toNat=us a:=by
 rw[BitVec.toNat_ofInt];rfl
theorem SD(a b:Int):eS .and .i64 a b=sg (us a &&& us b)∧eS .or .i64 a b=sg (us a ||| us b)∧eS .xor .i64 a b=sg (us a ^^^ us b):=by
 have e:IntKind.i64.bits=64:=rfl;refine⟨?_,?_,?_⟩ <;> unfold eS <;> simp only[e,BitVec.toNat_and,BitVec.toNat_or,BitVec.toNat_xor,Ff]
 ·exact zq (Nat.and_lt_two_pow (n:=64) _ (yg b))
 ·exact zq (Nat.or_lt_two_pow (n:=64) (yg a) (yg b))
 ·exact zq (Wu (n:=64) (yg a) (yg b))
theorem pm{x:Nat}(h:x<18446744073709551616):x ^^^ 18446744073709551615=18446744073709551615-x:=by
 have h1:(BitVec.ofNat 64 x ^^^ BitVec.allOnes 64).toNat=x ^^^ 18446744073709551615:=by
  rw[BitVec.toNat_xor,BitVec.toNat_ofNat,Un h,BitVec.toNat_allOnes]
 rw[<- h1,BitVec.xor_allOnes,BitVec.toNat_not,BitVec.toNat_ofNat,Un h]
theorem pp{a b i:Nat}(h:a<2^i):a ||| b*2^i=a+b*2^i:=by
 have:=Nat.two_pow_add_eq_or_of_lt h b;rw[Nat.or_comm,Wm,<- this,Wy]
theorem SE(a k:Nat):a &&& (2^k-1)=a%2^k:=Nat.and_two_pow_sub_one_eq_mod a k
end
section
theorem LM{P:Program}{n:Nat}{ops:Array Oper}{Q:Post}{rest:List Oper}{e:Env}{w:World}{c:Nat}{k:IntKind}{b:Int}(h:∀b':Int,b'=b->Rn P n ops Q rest (upd e c (.int k b')) w):Rn P n ops Q rest (upd e c (.int k b)) w:=h b rfl
section
variable{P:Program}{e:Env}{w:World}{d:Option Nat}{ty:TypeId}{pos:String}{af:Array Edge}{g:Option (Nat×Bool)}
theorem SF{t ft o f:Nat}{fields:Array Field}{z:List Value}{bytes:Nat}[hi:cM P ft z false bytes]{x:Operand}{vs:List Value}{v:Value}
  (hu:P.underlying t=some (.struct fields)) (hf:(fields[f]?).map (fun fl=>(fl.type,fl.offset))=some (ft,o)) (hx:ev e x=.agg vs.toArray) (hv:vs[o]?=some v):Qv P e ⟨d,.field t x f,ty,pos,af,g⟩ w v:=by
 obtain⟨fl,h1,h2⟩:=Ve.1 hf;simp only[Prod.mk.injEq] at h2;obtain⟨rfl,rfl⟩:=h2;unfold Qv;have h3:=hi.isAgg w;simp[execOp,hx,Instr.field,run_underlying hu,h1,part,h3,asAgg,hv]
end
end
section
def nI(a:Option Addr)(off:Nat)(same:Bool):Option Addr:=bif same then a else a.map fun x=>x.add off
section
variable{P:Program}{e:Env}{w:World}{d:Option Nat}{ty:TypeId}{pos:String}{af:Array Edge}{g:Option (Nat×Bool)}
theorem gu{t T:TypeId}[ht:eV P t (.slice T)]{z:List Value}{agg:Bool}{bytes:Nat}[hi:cM P T z agg bytes]{x y:Operand}{a:Option Addr}{m c i:Nat}{k:IntKind}
  (hx:ev e x=.slice a m c) (hy:ev e y=.int k (i:Int)) (h:i<=m):Qv P e ⟨d,.slice t x (some y) none none,ty,pos,af,g⟩ w (.slice (nI a (i*z.length) (Nat.beq c i)) (m-i) (c-i)):=by
 unfold Qv;have hz:=hi.sizeOf w
 have e2:(Instr.sliceBound (.int k (i:Int)) m .sliceB).run P w=.ok i w:=by
  simp[Instr.sliceBound,asIntOf,h]
 have e3:(Instr.sliceBounds true m c (some (.int k (i:Int))) none none).run P w=.ok (i,m,c) w:=by
  simp[Instr.sliceBounds,e2]
 have key:(Instr.sliceAt t (.slice a m c) (some (.int k (i:Int))) none none).run P w=.ok (.slice (nI a (i*z.length) (Nat.beq c i)) (m-i) (c-i)) w:=by
  simp[Instr.sliceAt,Instr.slice,run_underlying ht.h,e3,hz,nI]
 simp only[execOp,hx,hy,Option.map_none,Ww,Sem.run_bind,key,Result.andThen_ok];rfl
theorem HW{t T:TypeId}[ht:eV P t (.slice T)]{z:List Value}{agg:Bool}{bytes:Nat}[hi:cM P T z agg bytes]{x y y':Operand}{a:Option Addr}{m c i j:Nat}{k k':IntKind}
  (hx:ev e x=.slice a m c) (hy:ev e y=.int k (i:Int)) (hy':ev e y'=.int k' (j:Int)) (h:i<=j) (hj:j<=c):Qv P e ⟨d,.slice t x (some y) (some y') none,ty,pos,af,g⟩ w (.slice (nI a (i*z.length) (Nat.beq c i)) (j-i) (c-i)):=by
 unfold Qv;have hz:=hi.sizeOf w
 have e1:(Instr.sliceBound (.int k' (j:Int)) c .sliceAcap).run P w=.ok j w:=by
  simp[Instr.sliceBound,asIntOf,hj]
 have e2:(Instr.sliceBound (.int k (i:Int)) j .sliceB).run P w=.ok i w:=by
  simp[Instr.sliceBound,asIntOf,h]
 have e3:(Instr.sliceBounds true m c (some (.int k (i:Int))) (some (.int k' (j:Int))) none).run P w=.ok (i,j,c) w:=by
  simp[Instr.sliceBounds,e1,e2]
 have key:(Instr.sliceAt t (.slice a m c) (some (.int k (i:Int))) (some (.int k' (j:Int))) none).run P w=.ok (.slice (nI a (i*z.length) (Nat.beq c i)) (j-i) (c-i)) w:=by
  simp[Instr.sliceAt,Instr.slice,run_underlying ht.h,e3,hz,nI]
 simp only[execOp,hx,hy,hy',Option.map_none,Ww,Sem.run_bind,key,Result.andThen_ok];rfl
end
section
variable{w0 w:World}{l:List aC}{sz n c:Nat}{a:Option Addr}{xs:List Value}
theorem Rd.cut(h:Rd w sz a n xs){i j:Nat}(hij:i<=j)(hj:j<=n)(hc:n<=c):Rd w sz (nI a (i*sz) (Nat.beq c i)) (j-i) ((xs.drop (i*sz)).take ((j-i)*sz)):=by
 have hl:=h.1;refine⟨?_,?_⟩
 ·rw[Ul,Um,hl,<- Nat.sub_mul];exact Vn (Uv _ O0)
 ·rcases Wb (j-i) with h0|h0
  ·exact .inl h0
  ·rcases h.2 with h1|⟨b,o,rfl,gO⟩
   ·omega
   ·have hb:Nat.beq c i=false:=by
     cases hb:Nat.beq c i with
     |false=>rfl
     |true=>have:=Vg hb;omega
    refine .inr ⟨b,o+i*sz,by rw[hb];simp[nI,Addr.add],fun k v hk=>?_⟩
    rw[Zu] at hk;split at hk
    ·rw[List.getElem?_drop] at hk;have:=gO _ v hk
     rwa [<- Nat.add_assoc] at this
    ·cases hk
theorem Rd.tail(h:Rd w sz a n xs){i:Nat}(hi:i<=n)(hc:n<=c):Rd w sz (nI a (i*sz) (Nat.beq c i)) (n-i) (xs.drop (i*sz)):=by
 have:=h.cut hi (Ug _) hc
 rwa [Uu (by rw[Um,h.1,<- Nat.sub_mul];exact Ug _)] at this
theorem St.wA:∀{L:List aC} {l:List aC},St w0 (L++l) w->St w0 l w
 |[],_,h=>h
 |_::L,_,h=>St.wA (L:=L) h.drop
def Reads(w0:World)(l:List aC)(sz:Nat)(a:Option Addr)(n:Nat)(xs:List Value):Prop:=∀L w',St w0 (L++l) w'->Rd w' sz a n xs
theorem Reads.rd(h:Reads w0 l sz a n xs):∀w',St w0 l w'->Rd w' sz a n xs:=fun w' h'=>h [] w' h'
theorem Reads.at_(h:Reads w0 l sz a n xs)(h':St w0 l w):Rd w sz a n xs:=h [] w h'
theorem Reads.more(h:Reads w0 l sz a n xs)(M:List aC):Reads w0 (M++l) sz a n xs:=fun L w' h'=>h (L++M) w' (by rw[Uo];exact h')
theorem Reads.cons(h:Reads w0 l sz a n xs){Q:aC}:Reads w0 (Q::l) sz a n xs:=h.more [Q]
theorem Reads.own{T:Nat}:Reads w0 (eW T sz a n c xs::l) sz a n xs:=fun _ _ h'=>h'.wA.bU
theorem Reads.pt{b m:Nat}{cur:List Value}{T:TypeId}(hl:xs.length=n*sz)(hc:cur.take xs.length=xs):Reads w0 (pt b (.cells cur.toArray T (0,0))::l) sz (sQ b) n xs:=fun _ _ h'=>
 ⟨hl,.inr ⟨b,0,rfl,qw (h'.wA.b 0 rfl) (by rw[Xg,hc])⟩⟩
theorem Reads.nil:Reads w0 l sz none 0 []:=fun _ _ _=>⟨by simp,.inl rfl⟩
theorem Reads.old(hr:Rd w0 sz a n xs)(hb:∀b o,a=some ⟨b,o,none⟩->0<n->b<w0.heap.size):Reads w0 l sz a n xs:=fun _ _ h'=>Rd.old h' hr hb
theorem Reads.cut(h:Reads w0 l sz a n xs){i j:Nat}(hij:i<=j)(hj:j<=n)(hc:n<=c):Reads w0 l sz (nI a (i*sz) (Nat.beq c i)) (j-i) ((xs.drop (i*sz)).take ((j-i)*sz)):=fun L w' h'=>(h L w' h').cut hij hj hc
theorem Reads.tail(h:Reads w0 l sz a n xs){i:Nat}(hi:i<=n)(hc:n<=c):Reads w0 l sz (nI a (i*sz) (Nat.beq c i)) (n-i) (xs.drop (i*sz)):=fun L w' h'=>(h L w' h').tail hi hc
theorem Reads.head(h:Reads w0 l sz a n xs){i:Nat}(hi:i<=n):Reads w0 l sz a i (xs.take (i*sz)):=fun L w' h'=>by
 obtain⟨h1,h2⟩:=h L w' h';refine⟨by rw[Ul,h1];exact Vn (Uv _ hi),?_⟩
 rcases h2 with h2|⟨b,o,rfl,gO⟩
 ·exact .inl O0
 ·refine .inr ⟨b,o,rfl,fun k v hk=>?_⟩;rw[Zu] at hk;split at hk
  ·exact gO _ v hk
  ·cases hk
theorem Reads.swap(h:Reads w0 l sz a n xs){m:List aC}(e:all m=all l):Reads w0 m sz a n xs:=fun L w' h'=>h L w' (h'.eH (by rw[vq,vq,e]))
end
end
end Go.Hw
namespace Go.Proofs.YtngdfdangkdgcaaGreatDoor
open Go.Hw _root_.Go.Proofs.Tryz
section
instance{P:Program}{kt:TypeId}{ik:IntKind}[h:eV P kt (.int ik)]:MK P kt Int (Value.int ik):=MK.int h.h
instance:eV prog 2 (.int .i64):=⟨underlying2⟩
instance mK:cM prog 2 [V0] false 8:=mF underlying2
instance:eV prog 3 (.int .i64):=⟨underlying3⟩
instance cN:cM prog 3 [V0] false 8:=mF underlying3
instance:eV prog 4 (.bool):=⟨underlying4⟩
instance iB:cM prog 4 [V2] false 1:=mF underlying4
instance:eV prog 5 (.int .u8):=⟨underlying5⟩
instance SG:cM prog 5 [V5] false 1:=mF underlying5
instance:eV prog 9 (.string):=⟨underlying9⟩
instance OD:cM prog 9 [V6] false 16:=mF underlying9
instance:eV prog 12 (.int .u64):=⟨underlying12⟩
instance LN:cM prog 12 [V4] false 8:=mF underlying12
instance LO:cM prog 13 [V6,V4] true 24:=mT underlying13
instance:eV prog 21 (.int .i32):=⟨underlying21⟩
instance QT:cM prog 21 [Value.int .i32 0] false 4:=mF underlying21
instance:eV prog 22 (.pointer 79):=⟨underlying22⟩
instance QU:cM prog 22 [V3] false 8:=mF underlying22
instance:eV prog 25 (.int .i64):=⟨underlying25⟩
instance HX:cM prog 25 [V0] false 8:=mF underlying25
instance:eV prog 26 (.slice 57):=⟨underlying26⟩
instance nA:cM prog 26 [V1] false 24:=mF underlying26
instance LP:cM prog 27 [V0,V0,V1] true 40:=mT underlying27
instance Fg:cM prog 28 [V0,V0,V1] true 40:=mT underlying28
instance:eV prog 31 (.int .u64):=⟨underlying31⟩
instance Bs:cM prog 31 [V4] false 8:=mF underlying31
instance LQ:cM prog 32 [V0,V0,V0,V0,V4,V0,V0,V0] true 64:=mT underlying32
instance Fh:cM prog 33 [V0,V0,V0,V0,V4,V0,V0,V0] true 64:=mT underlying33
instance:eV prog 34 (.pointer 90):=⟨underlying34⟩
instance QV:cM prog 34 [V3] false 8:=mF underlying34
instance:eV prog 36 (.int .i64):=⟨underlying36⟩
instance QW:cM prog 36 [V0] false 8:=mF underlying36
instance:eV prog 39 (.pointer 96):=⟨underlying39⟩
instance LR:cM prog 39 [V3] false 8:=mF underlying39
instance:eV prog 43 (.pointer 100):=⟨underlying43⟩
instance LS:cM prog 43 [V3] false 8:=mF underlying43
instance:eV prog 47 (.pointer 110):=⟨underlying47⟩
instance LU:cM prog 47 [V3] false 8:=mF underlying47
instance LV:cM prog 50 [V0,V0,V0] true 24:=mT underlying50
instance Dp:cM prog 51 [V0,V0,V0] true 24:=mT underlying51
instance:eV prog 54 (.slice 3):=⟨underlying54⟩
instance QX:cM prog 54 [V1] false 24:=mF underlying54
instance LW:cM prog 56 [V0,V4] true 16:=mT underlying56
instance LX:cM prog 57 [V0,V4] true 16:=mT underlying57
instance:eV prog 62 (.slice 31):=⟨underlying62⟩
instance QY:cM prog 62 [V1] false 24:=mF underlying62
instance:eV prog 64 (.slice 33):=⟨underlying64⟩
instance QZ:cM prog 64 [V1] false 24:=mF underlying64
instance:eV prog 65 (.slice 119):=⟨underlying65⟩
instance LY:cM prog 65 [V1] false 24:=mF underlying65
instance:eV prog 66 (.slice 124):=⟨underlying66⟩
instance LZ:cM prog 66 [V1] false 24:=mF underlying66
instance L0:cM prog 68 [V1,V1,V0] true 56:=mT underlying68
instance:eV prog 69 (.int .u64):=⟨underlying69⟩
instance Q0:cM prog 69 [V4] false 8:=mF underlying69
instance:eV prog 74 (.pointer 129):=⟨underlying74⟩
instance L3:cM prog 74 [V3] false 8:=mF underlying74
instance L4:cM prog 79 [V3,V3,V3,V3] true 32:=mT underlying79
instance:eV prog 80 (.int .i64):=⟨underlying80⟩
instance HY:cM prog 80 [V0] false 8:=mF underlying80
instance Fi:cM prog 82 [V2,V0,V1] true 40:=mT underlying82
instance:eV prog 83 (.slice 168):=⟨underlying83⟩
instance Dq:cM prog 83 [V1] false 24:=mF underlying83
instance L5:cM prog 84 [V2,V2,V0,V0,V2,V0,V1,V1] true 88:=mT underlying84
instance zE:cM prog 85 [V2,V2,V0,V0,V2,V0,V1,V1] true 88:=mT underlying85
instance L6:cM prog 86 [V0,V0,V0,V0,V1,V1] true 80:=mT underlying86
instance Dr:cM prog 87 [V0,V0,V0,V0,V1,V1] true 80:=mT underlying87
instance:eV prog 88 (.pointer 187):=⟨underlying88⟩
instance HZ:cM prog 88 [V3] false 8:=mF underlying88
instance L7:cM prog 89 [V0,V0,V0,V0,V0,V4,V0,V0,V0,V0,V2,V2,V0,V0,V2,V0,V1,V1,V2,V2,V0,V0,V2,V0,V1,V1,V2,V2,V2,V0,V0,V0,V0,V1,V1,V0,V3,V0,V1,V0,V2,V0,V0,V1] true 448:=mT underlying89
instance L8:cM prog 90 [V0,V0,V0,V0,V0,V4,V0,V0,V0,V0,V2,V2,V0,V0,V2,V0,V1,V1,V2,V2,V0,V0,V2,V0,V1,V1,V2,V2,V2,V0,V0,V0,V0,V1,V1,V0,V3,V0,V1,V0,V2,V0,V0,V1] true 448:=mT underlying90
instance:eV prog 93 (.slice 4):=⟨underlying93⟩
instance Q1:cM prog 93 [V1] false 24:=mF underlying93
instance:eV prog 94 (.map 3 203):=⟨underlying94⟩
instance H6:cM prog 94 [Value.map none] false 8:=mF underlying94
instance L9:cM prog 95 [V0,V0,V0,V0,Value.map none] true 40:=mT underlying95
instance Ma:cM prog 96 [V0,V0,V0,V0,Value.map none] true 40:=mT underlying96
instance:eV prog 98 (.map 3 178):=⟨underlying98⟩
instance H7:cM prog 98 [Value.map none] false 8:=mF underlying98
instance Mb:cM prog 99 [V0,Value.map none] true 16:=mT underlying99
instance I7:cM prog 100 [V0,Value.map none] true 16:=mT underlying100
instance:eV prog 102 (.slice 113):=⟨underlying102⟩
instance Fj:cM prog 102 [V1] false 24:=mF underlying102
instance I8:cM prog 103 [V0,V0,V1,V0,V0,V0] true 64:=mT underlying103
instance Fk:cM prog 104 [V0,V0,V1,V0,V0,V0] true 64:=mT underlying104
instance:eV prog 105 (.slice 51):=⟨underlying105⟩
instance OE:cM prog 105 [V1] false 24:=mF underlying105
instance:eV prog 108 (.map 51 26):=⟨underlying108⟩
instance I9:cM prog 108 [Value.map none] false 8:=mF underlying108
instance Ja:cM prog 110 [V0,V0,V1,V0,V0,V0,Value.map none] true 72:=mT underlying110
instance Jb:cM prog 112 [V0,V0,V0,V0,V2,V2,V0] true 48:=mT underlying112
instance Jc:cM prog 113 [V0,V0,V0,V0,V2,V2,V0] true 48:=mT underlying113
instance Jd:cM prog 118 [V0,V2,V2,V0,V1] true 48:=mT underlying118
instance Je:cM prog 119 [V0,V2,V2,V0,V1] true 48:=mT underlying119
instance Jf:cM prog 124 [V0,V1] true 32:=mT underlying124
instance Jg:cM prog 126 [V2,V2,V0,V0,V2,V0,V1,V1,V2,V0] true 104:=mT underlying126
instance Fl:cM prog 127 [V2,V2,V0,V0,V2,V0,V1,V1,V2,V0,V2,V2,V0,V0,V2,V0,V1,V1,V2,V0,V2,V2,V0,V0,V2,V0,V1,V1,V2,V0,V2,V2,V0,V0,V2,V0,V1,V1,V2,V0,V2,V2,V0,V0,V2,V0,V1,V1,V2,V0,V2,V2,V0,V0,V2,V0,V1,V1,V2,V0,V2,V2,V0,V0,V2,V0,V1,V1,V2,V0,V2,V2,V0,V0,V2,V0,V1,V1,V2,V0,V2,V2,V0,V0,V2,V0,V1,V1,V2,V0,V2,V2,V0,V0,V2,V0,V1,V1,V2,V0,V2,V2,V0,V0,V2,V0,V1,V1,V2,V0,V2,V2,V0,V0,V2,V0,V1,V1,V2,V0,V2,V2,V0,V0,V2,V0,V1,V1,V2,V0,V2,V2,V0,V0,V2,V0,V1,V1,V2,V0,V2,V2,V0,V0,V2,V0,V1,V1,V2,V0,V2,V2,V0,V0,V2,V0,V1,V1,V2,V0] true 1664:=mT underlying127
instance Jh:cM prog 128 [V2,V2,V0,V0,V2,V0,V1,V1,V2,V0,V2,V2,V0,V0,V2,V0,V1,V1,V2,V0,V2,V2,V0,V0,V2,V0,V1,V1,V2,V0,V2,V2,V0,V0,V2,V0,V1,V1,V2,V0,V2,V2,V0,V0,V2,V0,V1,V1,V2,V0,V2,V2,V0,V0,V2,V0,V1,V1,V2,V0,V2,V2,V0,V0,V2,V0,V1,V1,V2,V0,V2,V2,V0,V0,V2,V0,V1,V1,V2,V0,V2,V2,V0,V0,V2,V0,V1,V1,V2,V0,V2,V2,V0,V0,V2,V0,V1,V1,V2,V0,V2,V2,V0,V0,V2,V0,V1,V1,V2,V0,V2,V2,V0,V0,V2,V0,V1,V1,V2,V0,V2,V2,V0,V0,V2,V0,V1,V1,V2,V0,V2,V2,V0,V0,V2,V0,V1,V1,V2,V0,V2,V2,V0,V0,V2,V0,V1,V1,V2,V0,V2,V2,V0,V0,V2,V0,V1,V1,V2,V0] true 1664:=mT underlying128
instance Ji:cM prog 129 [V2,V2,V0,V0,V2,V0,V1,V1,V2,V0,V2,V2,V0,V0,V2,V0,V1,V1,V2,V0,V2,V2,V0,V0,V2,V0,V1,V1,V2,V0,V2,V2,V0,V0,V2,V0,V1,V1,V2,V0,V2,V2,V0,V0,V2,V0,V1,V1,V2,V0,V2,V2,V0,V0,V2,V0,V1,V1,V2,V0,V2,V2,V0,V0,V2,V0,V1,V1,V2,V0,V2,V2,V0,V0,V2,V0,V1,V1,V2,V0,V2,V2,V0,V0,V2,V0,V1,V1,V2,V0,V2,V2,V0,V0,V2,V0,V1,V1,V2,V0,V2,V2,V0,V0,V2,V0,V1,V1,V2,V0,V2,V2,V0,V0,V2,V0,V1,V1,V2,V0,V2,V2,V0,V0,V2,V0,V1,V1,V2,V0,V2,V2,V0,V0,V2,V0,V1,V1,V2,V0,V2,V2,V0,V0,V2,V0,V1,V1,V2,V0,V2,V2,V0,V0,V2,V0,V1,V1,V2,V0] true 1664:=mT underlying129
instance:eV prog 161 (.pointer 104):=⟨underlying161⟩
instance OF:cM prog 161 [V3] false 8:=mF underlying161
instance Jj:cM prog 168 [V0,V0,V0,V0,V0] true 40:=mT underlying168
instance:eV prog 172 (.pointer 126):=⟨underlying172⟩
instance OG:cM prog 172 [V3] false 8:=mF underlying172
instance:eV prog 178 (.pointer 181):=⟨underlying178⟩
instance OH:cM prog 178 [V3] false 8:=mF underlying178
instance Jl:cM prog 181 [V0,V0,V0,V0,V0,V0,V1,V1,V2,V0] true 112:=mT underlying181
instance:eV prog 185 (.pointer 222):=⟨underlying185⟩
instance Jm:cM prog 185 [V3] false 8:=mF underlying185
instance Jn:cM prog 187 [V0,V0,V0,V0,V0,V3,V2,V2,V2,V1,V1] true 104:=mT underlying187
instance:eV prog 188 (.slice 26):=⟨underlying188⟩
instance OI:cM prog 188 [V1] false 24:=mF underlying188
instance:eV prog 195 (.slice 197):=⟨underlying195⟩
instance OJ:cM prog 195 [V1] false 24:=mF underlying195
instance:eV prog 197 (.pointer 3):=⟨underlying197⟩
instance OK:cM prog 197 [V3] false 8:=mF underlying197
instance:eV prog 198 (.pointer 113):=⟨underlying198⟩
instance OL:cM prog 198 [V3] false 8:=mF underlying198
instance:eV prog 203 (.pointer 207):=⟨underlying203⟩
instance OM:cM prog 203 [V3] false 8:=mF underlying203
instance:eV prog 205 (.slice 5):=⟨underlying205⟩
instance wB:cM prog 205 [V1] false 24:=mF underlying205
instance Jo:cM prog 207 [V1,V0] true 32:=mT underlying207
instance Fm:cM prog 220 [V2,V2,V0] true 16:=mT underlying220
instance Jp:cM prog 222 [V2,V2,V0,V1,V1,V2] true 72:=mT underlying222
instance Jq:cM prog 229 [V0,V0,V0,V0] true 32:=mT underlying229
instance:eV prog 238 (.pointer 220):=⟨underlying238⟩
instance ON:cM prog 238 [V3] false 8:=mF underlying238
instance OO:cM prog 240 [V4,V4,V4] true 24:=mT underlying240
instance:eV prog 244 (.slice 2):=⟨underlying244⟩
instance OP:cM prog 244 [V1] false 24:=mF underlying244
instance:eV prog 247 (.pointer 261):=⟨underlying247⟩
instance OQ:cM prog 247 [V3] false 8:=mF underlying247
instance:eV prog 253 (.int .u32):=⟨underlying253⟩
instance OR:cM prog 253 [Value.int .u32 0] false 4:=mF underlying253
instance OS:cM prog 255 (List.replicate 256 (Value.int .u32 0)) true 1024:=⟨by kernel_rfl,(fun h=>by cases h),⟨_,underlying255,rfl⟩,by simp[Value.oneCell']⟩
instance Jr:cM prog 261 [V1,V0,V2] true 40:=mT underlying261
instance:eV prog 269 (.pointer 296):=⟨underlying269⟩
instance OT:cM prog 269 [V3] false 8:=mF underlying269
instance Js:cM prog 276 [V4,V0,V0] true 24:=mT underlying276
instance Jt:cM prog 279 [V2,V0,V0] true 24:=mT underlying279
instance:eV prog 282 (.pointer 279):=⟨underlying282⟩
instance OU:cM prog 282 [V3] false 8:=mF underlying282
instance Ju:cM prog 295 [V1,V0] true 32:=mT underlying295
instance Jv:cM prog 296 [V1,V0] true 32:=mT underlying296
instance OV:cM prog 309 (List.replicate 64 (V5)) true 64:=⟨by kernel_rfl,(fun h=>by cases h),⟨_,underlying309,rfl⟩,by simp[Value.oneCell']⟩
instance:FA prog 13 0 0:=fA underlying13 OD
instance:FA prog 13 1 1:=fA underlying13 LN
instance:Pl prog 13 [V6,V4] [(0,1),(1,1)]:=Pl.mk' underlying13 LO O1
instance:FA prog 27 0 0:=fA underlying27 HX
instance:FA prog 27 1 1:=fA underlying27 cN
instance:FA prog 27 2 2:=fA underlying27 nA
instance:Pl prog 27 [V0,V0,V1] [(0,1),(1,1),(2,1)]:=Pl.mk' underlying27 LP O1
instance:FA prog 28 0 0:=fA underlying28 HX
instance:FA prog 28 1 1:=fA underlying28 cN
instance:FA prog 28 2 2:=fA underlying28 nA
instance:Pl prog 28 [V0,V0,V1] [(0,1),(1,1),(2,1)]:=Pl.mk' underlying28 Fg O1
instance:FA prog 32 0 0:=fA underlying32 cN
instance:FA prog 32 1 1:=fA underlying32 cN
instance:FA prog 32 2 2:=fA underlying32 cN
instance:FA prog 32 3 3:=fA underlying32 mK
instance:FA prog 32 4 4:=fA underlying32 Bs
instance:FA prog 32 5 5:=fA underlying32 mK
instance:FA prog 32 6 6:=fA underlying32 mK
instance:FA prog 32 7 7:=fA underlying32 cN
instance:Pl prog 32 [V0,V0,V0,V0,V4,V0,V0,V0] [(0,1),(1,1),(2,1),(3,1),(4,1),(5,1),(6,1),(7,1)]:=Pl.mk' underlying32 LQ O1
instance:FA prog 33 0 0:=fA underlying33 cN
instance:FA prog 33 1 1:=fA underlying33 cN
instance:FA prog 33 2 2:=fA underlying33 cN
instance:FA prog 33 3 3:=fA underlying33 mK
instance:FA prog 33 4 4:=fA underlying33 Bs
instance:FA prog 33 5 5:=fA underlying33 mK
instance:FA prog 33 6 6:=fA underlying33 mK
instance:FA prog 33 7 7:=fA underlying33 cN
instance:Pl prog 33 [V0,V0,V0,V0,V4,V0,V0,V0] [(0,1),(1,1),(2,1),(3,1),(4,1),(5,1),(6,1),(7,1)]:=Pl.mk' underlying33 Fh O1
instance:FA prog 50 0 0:=fA underlying50 cN
instance:FA prog 50 1 1:=fA underlying50 cN
instance:FA prog 50 2 2:=fA underlying50 cN
instance:Pl prog 50 [V0,V0,V0] [(0,1),(1,1),(2,1)]:=Pl.mk' underlying50 LV O1
instance:FA prog 51 0 0:=fA underlying51 cN
instance:FA prog 51 1 1:=fA underlying51 cN
instance:FA prog 51 2 2:=fA underlying51 cN
instance:Pl prog 51 [V0,V0,V0] [(0,1),(1,1),(2,1)]:=Pl.mk' underlying51 Dp O1
instance:FA prog 56 0 0:=fA underlying56 mK
instance:FA prog 56 1 1:=fA underlying56 Bs
instance:Pl prog 56 [V0,V4] [(0,1),(1,1)]:=Pl.mk' underlying56 LW O1
instance:FA prog 57 0 0:=fA underlying57 mK
instance:FA prog 57 1 1:=fA underlying57 Bs
instance:Pl prog 57 [V0,V4] [(0,1),(1,1)]:=Pl.mk' underlying57 LX O1
instance:FA prog 68 0 0:=fA underlying68 LY
instance:FA prog 68 1 1:=fA underlying68 LZ
instance:FA prog 68 2 2:=fA underlying68 cN
instance:Pl prog 68 [V1,V1,V0] [(0,1),(1,1),(2,1)]:=Pl.mk' underlying68 L0 O1
instance:FA prog 79 0 0:=fA underlying79 L3
instance:FA prog 79 1 1:=fA underlying79 LU
instance:FA prog 79 2 2:=fA underlying79 LR
instance:FA prog 79 3 3:=fA underlying79 LS
instance:Pl prog 79 [V3,V3,V3,V3] [(0,1),(1,1),(2,1),(3,1)]:=Pl.mk' underlying79 L4 O1
instance:FA prog 82 0 0:=fA underlying82 iB
instance:FA prog 82 1 1:=fA underlying82 mK
instance:FA prog 82 2 2:=fA underlying82 nA
instance:Pl prog 82 [V2,V0,V1] [(0,1),(1,1),(2,1)]:=Pl.mk' underlying82 Fi O1
instance:FA prog 84 0 0:=fA underlying84 iB
instance:FA prog 84 1 1:=fA underlying84 iB
instance:FA prog 84 2 2:=fA underlying84 cN
instance:FA prog 84 3 3:=fA underlying84 cN
instance:FA prog 84 4 4:=fA underlying84 Fi
instance:FA prog 84 5 7:=fA underlying84 Dq
instance:Pl prog 84 [V2,V2,V0,V0,V2,V0,V1,V1] [(0,1),(1,1),(2,1),(3,1),(4,3),(7,1)]:=Pl.mk' underlying84 L5 O1
instance:FA prog 85 0 0:=fA underlying85 iB
instance:FA prog 85 1 1:=fA underlying85 iB
instance:FA prog 85 2 2:=fA underlying85 cN
instance:FA prog 85 3 3:=fA underlying85 cN
instance:FA prog 85 4 4:=fA underlying85 Fi
instance:FA prog 85 5 7:=fA underlying85 Dq
instance:Pl prog 85 [V2,V2,V0,V0,V2,V0,V1,V1] [(0,1),(1,1),(2,1),(3,1),(4,3),(7,1)]:=Pl.mk' underlying85 zE O1
instance:FA prog 86 0 0:=fA underlying86 cN
instance:FA prog 86 1 1:=fA underlying86 cN
instance:FA prog 86 2 2:=fA underlying86 mK
instance:FA prog 86 3 3:=fA underlying86 mK
instance:FA prog 86 4 4:=fA underlying86 Dq
instance:FA prog 86 5 5:=fA underlying86 nA
instance:Pl prog 86 [V0,V0,V0,V0,V1,V1] [(0,1),(1,1),(2,1),(3,1),(4,1),(5,1)]:=Pl.mk' underlying86 L6 O1
instance:FA prog 87 0 0:=fA underlying87 cN
instance:FA prog 87 1 1:=fA underlying87 cN
instance:FA prog 87 2 2:=fA underlying87 mK
instance:FA prog 87 3 3:=fA underlying87 mK
instance:FA prog 87 4 4:=fA underlying87 Dq
instance:FA prog 87 5 5:=fA underlying87 nA
instance:Pl prog 87 [V0,V0,V0,V0,V1,V1] [(0,1),(1,1),(2,1),(3,1),(4,1),(5,1)]:=Pl.mk' underlying87 Dr O1
instance:FA prog 89 0 0:=fA underlying89 cN
instance:FA prog 89 1 1:=fA underlying89 Fh
instance:FA prog 89 2 9:=fA underlying89 HY
instance:FA prog 89 3 10:=fA underlying89 zE
instance:FA prog 89 4 18:=fA underlying89 zE
instance:FA prog 89 5 26:=fA underlying89 iB
instance:FA prog 89 6 27:=fA underlying89 iB
instance:FA prog 89 7 28:=fA underlying89 iB
instance:FA prog 89 8 29:=fA underlying89 Dr
instance:FA prog 89 9 35:=fA underlying89 cN
instance:FA prog 89 10 36:=fA underlying89 HZ
instance:FA prog 89 11 37:=fA underlying89 cN
instance:FA prog 89 12 38:=fA underlying89 nA
instance:FA prog 89 13 39:=fA underlying89 cN
instance:FA prog 89 14 40:=fA underlying89 iB
instance:FA prog 89 15 41:=fA underlying89 Fg
instance:Pl prog 89 [V0,V0,V0,V0,V0,V4,V0,V0,V0,V0,V2,V2,V0,V0,V2,V0,V1,V1,V2,V2,V0,V0,V2,V0,V1,V1,V2,V2,V2,V0,V0,V0,V0,V1,V1,V0,V3,V0,V1,V0,V2,V0,V0,V1] [(0,1),(1,8),(9,1),(10,8),(18,8),(26,1),(27,1),(28,1),(29,6),(35,1),(36,1),(37,1),(38,1),(39,1),(40,1),(41,3)]:=Pl.mk' underlying89 L7 O1
instance:FA prog 90 0 0:=fA underlying90 cN
instance:FA prog 90 1 1:=fA underlying90 Fh
instance:FA prog 90 2 9:=fA underlying90 HY
instance:FA prog 90 3 10:=fA underlying90 zE
instance:FA prog 90 4 18:=fA underlying90 zE
instance:FA prog 90 5 26:=fA underlying90 iB
instance:FA prog 90 6 27:=fA underlying90 iB
instance:FA prog 90 7 28:=fA underlying90 iB
instance:FA prog 90 8 29:=fA underlying90 Dr
instance:FA prog 90 9 35:=fA underlying90 cN
instance:FA prog 90 10 36:=fA underlying90 HZ
instance:FA prog 90 11 37:=fA underlying90 cN
instance:FA prog 90 12 38:=fA underlying90 nA
instance:FA prog 90 13 39:=fA underlying90 cN
instance:FA prog 90 14 40:=fA underlying90 iB
instance:FA prog 90 15 41:=fA underlying90 Fg
instance:Pl prog 90 [V0,V0,V0,V0,V0,V4,V0,V0,V0,V0,V2,V2,V0,V0,V2,V0,V1,V1,V2,V2,V0,V0,V2,V0,V1,V1,V2,V2,V2,V0,V0,V0,V0,V1,V1,V0,V3,V0,V1,V0,V2,V0,V0,V1] [(0,1),(1,8),(9,1),(10,8),(18,8),(26,1),(27,1),(28,1),(29,6),(35,1),(36,1),(37,1),(38,1),(39,1),(40,1),(41,3)]:=Pl.mk' underlying90 L8 O1
instance:FA prog 95 0 0:=fA underlying95 cN
instance:FA prog 95 1 1:=fA underlying95 cN
instance:FA prog 95 2 2:=fA underlying95 cN
instance:FA prog 95 3 3:=fA underlying95 cN
instance:FA prog 95 4 4:=fA underlying95 H6
instance:Pl prog 95 [V0,V0,V0,V0,Value.map none] [(0,1),(1,1),(2,1),(3,1),(4,1)]:=Pl.mk' underlying95 L9 O1
instance:FA prog 96 0 0:=fA underlying96 cN
instance:FA prog 96 1 1:=fA underlying96 cN
instance:FA prog 96 2 2:=fA underlying96 cN
instance:FA prog 96 3 3:=fA underlying96 cN
instance:FA prog 96 4 4:=fA underlying96 H6
instance:Pl prog 96 [V0,V0,V0,V0,Value.map none] [(0,1),(1,1),(2,1),(3,1),(4,1)]:=Pl.mk' underlying96 Ma O1
instance:FA prog 99 0 0:=fA underlying99 cN
instance:FA prog 99 1 1:=fA underlying99 H7
instance:Pl prog 99 [V0,Value.map none] [(0,1),(1,1)]:=Pl.mk' underlying99 Mb O1
instance:FA prog 100 0 0:=fA underlying100 cN
instance:FA prog 100 1 1:=fA underlying100 H7
instance:Pl prog 100 [V0,Value.map none] [(0,1),(1,1)]:=Pl.mk' underlying100 I7 O1
instance:FA prog 103 0 0:=fA underlying103 cN
instance:FA prog 103 1 1:=fA underlying103 cN
instance:FA prog 103 2 2:=fA underlying103 Fj
instance:FA prog 103 3 3:=fA underlying103 cN
instance:FA prog 103 4 4:=fA underlying103 cN
instance:FA prog 103 5 5:=fA underlying103 cN
instance:Pl prog 103 [V0,V0,V1,V0,V0,V0] [(0,1),(1,1),(2,1),(3,1),(4,1),(5,1)]:=Pl.mk' underlying103 I8 O1
instance:FA prog 104 0 0:=fA underlying104 cN
instance:FA prog 104 1 1:=fA underlying104 cN
instance:FA prog 104 2 2:=fA underlying104 Fj
instance:FA prog 104 3 3:=fA underlying104 cN
instance:FA prog 104 4 4:=fA underlying104 cN
instance:FA prog 104 5 5:=fA underlying104 cN
instance:Pl prog 104 [V0,V0,V1,V0,V0,V0] [(0,1),(1,1),(2,1),(3,1),(4,1),(5,1)]:=Pl.mk' underlying104 Fk O1
instance:FA prog 110 0 0:=fA underlying110 Fk
instance:FA prog 110 1 6:=fA underlying110 I9
instance:Pl prog 110 [V0,V0,V1,V0,V0,V0,Value.map none] [(0,6),(6,1)]:=Pl.mk' underlying110 Ja O1
instance:FA prog 112 0 0:=fA underlying112 Dp
instance:FA prog 112 1 3:=fA underlying112 cN
instance:FA prog 112 2 4:=fA underlying112 iB
instance:FA prog 112 3 5:=fA underlying112 iB
instance:FA prog 112 4 6:=fA underlying112 cN
instance:Pl prog 112 [V0,V0,V0,V0,V2,V2,V0] [(0,3),(3,1),(4,1),(5,1),(6,1)]:=Pl.mk' underlying112 Jb O1
instance:FA prog 113 0 0:=fA underlying113 Dp
instance:FA prog 113 1 3:=fA underlying113 cN
instance:FA prog 113 2 4:=fA underlying113 iB
instance:FA prog 113 3 5:=fA underlying113 iB
instance:FA prog 113 4 6:=fA underlying113 cN
instance:Pl prog 113 [V0,V0,V0,V0,V2,V2,V0] [(0,3),(3,1),(4,1),(5,1),(6,1)]:=Pl.mk' underlying113 Jc O1
instance:FA prog 118 0 0:=fA underlying118 cN
instance:FA prog 118 1 1:=fA underlying118 iB
instance:FA prog 118 2 2:=fA underlying118 iB
instance:FA prog 118 3 3:=fA underlying118 mK
instance:FA prog 118 4 4:=fA underlying118 nA
instance:Pl prog 118 [V0,V2,V2,V0,V1] [(0,1),(1,1),(2,1),(3,1),(4,1)]:=Pl.mk' underlying118 Jd O1
instance:FA prog 119 0 0:=fA underlying119 cN
instance:FA prog 119 1 1:=fA underlying119 iB
instance:FA prog 119 2 2:=fA underlying119 iB
instance:FA prog 119 3 3:=fA underlying119 mK
instance:FA prog 119 4 4:=fA underlying119 nA
instance:Pl prog 119 [V0,V2,V2,V0,V1] [(0,1),(1,1),(2,1),(3,1),(4,1)]:=Pl.mk' underlying119 Je O1
instance:FA prog 124 0 0:=fA underlying124 cN
instance:FA prog 124 1 1:=fA underlying124 nA
instance:Pl prog 124 [V0,V1] [(0,1),(1,1)]:=Pl.mk' underlying124 Jf O1
instance:FA prog 126 0 0:=fA underlying126 zE
instance:FA prog 126 1 8:=fA underlying126 iB
instance:FA prog 126 2 9:=fA underlying126 cN
instance:Pl prog 126 [V2,V2,V0,V0,V2,V0,V1,V1,V2,V0] [(0,8),(8,1),(9,1)]:=Pl.mk' underlying126 Jg O1
instance:FA prog 128 0 0:=fA underlying128 Fl
instance:Pl prog 128 [V2,V2,V0,V0,V2,V0,V1,V1,V2,V0,V2,V2,V0,V0,V2,V0,V1,V1,V2,V0,V2,V2,V0,V0,V2,V0,V1,V1,V2,V0,V2,V2,V0,V0,V2,V0,V1,V1,V2,V0,V2,V2,V0,V0,V2,V0,V1,V1,V2,V0,V2,V2,V0,V0,V2,V0,V1,V1,V2,V0,V2,V2,V0,V0,V2,V0,V1,V1,V2,V0,V2,V2,V0,V0,V2,V0,V1,V1,V2,V0,V2,V2,V0,V0,V2,V0,V1,V1,V2,V0,V2,V2,V0,V0,V2,V0,V1,V1,V2,V0,V2,V2,V0,V0,V2,V0,V1,V1,V2,V0,V2,V2,V0,V0,V2,V0,V1,V1,V2,V0,V2,V2,V0,V0,V2,V0,V1,V1,V2,V0,V2,V2,V0,V0,V2,V0,V1,V1,V2,V0,V2,V2,V0,V0,V2,V0,V1,V1,V2,V0,V2,V2,V0,V0,V2,V0,V1,V1,V2,V0] [(0,160)]:=Pl.mk' underlying128 Jh O1
instance:FA prog 129 0 0:=fA underlying129 Fl
instance:Pl prog 129 [V2,V2,V0,V0,V2,V0,V1,V1,V2,V0,V2,V2,V0,V0,V2,V0,V1,V1,V2,V0,V2,V2,V0,V0,V2,V0,V1,V1,V2,V0,V2,V2,V0,V0,V2,V0,V1,V1,V2,V0,V2,V2,V0,V0,V2,V0,V1,V1,V2,V0,V2,V2,V0,V0,V2,V0,V1,V1,V2,V0,V2,V2,V0,V0,V2,V0,V1,V1,V2,V0,V2,V2,V0,V0,V2,V0,V1,V1,V2,V0,V2,V2,V0,V0,V2,V0,V1,V1,V2,V0,V2,V2,V0,V0,V2,V0,V1,V1,V2,V0,V2,V2,V0,V0,V2,V0,V1,V1,V2,V0,V2,V2,V0,V0,V2,V0,V1,V1,V2,V0,V2,V2,V0,V0,V2,V0,V1,V1,V2,V0,V2,V2,V0,V0,V2,V0,V1,V1,V2,V0,V2,V2,V0,V0,V2,V0,V1,V1,V2,V0,V2,V2,V0,V0,V2,V0,V1,V1,V2,V0] [(0,160)]:=Pl.mk' underlying129 Ji O1
instance:FA prog 168 0 0:=fA underlying168 cN
instance:FA prog 168 1 1:=fA underlying168 cN
instance:FA prog 168 2 2:=fA underlying168 cN
instance:FA prog 168 3 3:=fA underlying168 mK
instance:FA prog 168 4 4:=fA underlying168 mK
instance:Pl prog 168 [V0,V0,V0,V0,V0] [(0,1),(1,1),(2,1),(3,1),(4,1)]:=Pl.mk' underlying168 Jj O1
instance:FA prog 181 0 0:=fA underlying181 cN
instance:FA prog 181 1 1:=fA underlying181 cN
instance:FA prog 181 2 2:=fA underlying181 Dr
instance:FA prog 181 3 8:=fA underlying181 iB
instance:FA prog 181 4 9:=fA underlying181 cN
instance:Pl prog 181 [V0,V0,V0,V0,V0,V0,V1,V1,V2,V0] [(0,1),(1,1),(2,6),(8,1),(9,1)]:=Pl.mk' underlying181 Jl O1
instance:FA prog 187 0 0:=fA underlying187 Dp
instance:FA prog 187 1 3:=fA underlying187 mK
instance:FA prog 187 2 4:=fA underlying187 mK
instance:FA prog 187 3 5:=fA underlying187 Jm
instance:FA prog 187 4 6:=fA underlying187 iB
instance:FA prog 187 5 7:=fA underlying187 iB
instance:FA prog 187 6 8:=fA underlying187 iB
instance:FA prog 187 7 9:=fA underlying187 nA
instance:FA prog 187 8 10:=fA underlying187 nA
instance:Pl prog 187 [V0,V0,V0,V0,V0,V3,V2,V2,V2,V1,V1] [(0,3),(3,1),(4,1),(5,1),(6,1),(7,1),(8,1),(9,1),(10,1)]:=Pl.mk' underlying187 Jn O1
instance:FA prog 207 0 0:=fA underlying207 wB
instance:FA prog 207 1 1:=fA underlying207 cN
instance:Pl prog 207 [V1,V0] [(0,1),(1,1)]:=Pl.mk' underlying207 Jo O1
instance:FA prog 220 0 0:=fA underlying220 iB
instance:FA prog 220 1 1:=fA underlying220 iB
instance:FA prog 220 2 2:=fA underlying220 cN
instance:Pl prog 220 [V2,V2,V0] [(0,1),(1,1),(2,1)]:=Pl.mk' underlying220 Fm O1
instance:FA prog 222 0 0:=fA underlying222 Fm
instance:FA prog 222 1 3:=fA underlying222 wB
instance:FA prog 222 2 4:=fA underlying222 nA
instance:FA prog 222 3 5:=fA underlying222 iB
instance:Pl prog 222 [V2,V2,V0,V1,V1,V2] [(0,3),(3,1),(4,1),(5,1)]:=Pl.mk' underlying222 Jp O1
instance:FA prog 229 0 0:=fA underlying229 cN
instance:FA prog 229 1 1:=fA underlying229 cN
instance:FA prog 229 2 2:=fA underlying229 mK
instance:FA prog 229 3 3:=fA underlying229 mK
instance:Pl prog 229 [V0,V0,V0,V0] [(0,1),(1,1),(2,1),(3,1)]:=Pl.mk' underlying229 Jq O1
instance:FA prog 261 0 0:=fA underlying261 wB
instance:FA prog 261 1 1:=fA underlying261 cN
instance:FA prog 261 2 2:=fA underlying261 iB
instance:Pl prog 261 [V1,V0,V2] [(0,1),(1,1),(2,1)]:=Pl.mk' underlying261 Jr O1
instance:FA prog 276 0 0:=fA underlying276 Bs
instance:FA prog 276 1 1:=fA underlying276 cN
instance:FA prog 276 2 2:=fA underlying276 cN
instance:Pl prog 276 [V4,V0,V0] [(0,1),(1,1),(2,1)]:=Pl.mk' underlying276 Js O1
instance:FA prog 279 0 0:=fA underlying279 iB
instance:FA prog 279 1 1:=fA underlying279 cN
instance:FA prog 279 2 2:=fA underlying279 cN
instance:Pl prog 279 [V2,V0,V0] [(0,1),(1,1),(2,1)]:=Pl.mk' underlying279 Jt O1
instance:FA prog 295 0 0:=fA underlying295 wB
instance:FA prog 295 1 1:=fA underlying295 cN
instance:Pl prog 295 [V1,V0] [(0,1),(1,1)]:=Pl.mk' underlying295 Ju O1
instance:FA prog 296 0 0:=fA underlying296 wB
instance:FA prog 296 1 1:=fA underlying296 cN
instance:Pl prog 296 [V1,V0] [(0,1),(1,1)]:=Pl.mk' underlying296 Jv O1
instance:cC prog 10:=fB func10
instance:cC prog 11:=fB func11
instance:cC prog 12:=fB func12
instance:cC prog 13:=fB func13
instance:cC prog 14:=fB func14
instance:cC prog 15:=fB func15
instance:cC prog 16:=fB func16
instance:cC prog 17:=fB func17
instance:cC prog 18:=fB func18
instance:cC prog 19:=fB func19
instance:cC prog 20:=fB func20
instance:cC prog 21:=fB func21
instance:cC prog 22:=fB func22
instance:cC prog 23:=fB func23
instance:cC prog 24:=fB func24
instance:cC prog 25:=fB func25
instance:cC prog 26:=fB func26
instance:cC prog 27:=fB func27
instance:cC prog 28:=fB func28
instance:cC prog 29:=fB func29
instance:cC prog 30:=fB func30
instance:cC prog 31:=fB func31
instance:cC prog 32:=fB func32
instance:cC prog 33:=fB func33
instance:cC prog 34:=fB func34
instance:cC prog 35:=fB func35
instance:cC prog 36:=fB func36
instance:cC prog 37:=fB func37
instance:cC prog 38:=fB func38
instance:cC prog 39:=fB func39
instance:cC prog 40:=fB func40
instance:cC prog 41:=fB func41
instance:cC prog 42:=fB func42
instance:cC prog 43:=fB func43
instance:cC prog 44:=fB func44
instance:cC prog 45:=fB func45
instance:cC prog 46:=fB func46
instance:cC prog 47:=fB func47
instance:cC prog 48:=fB func48
instance:cC prog 49:=fB func49
instance:cC prog 50:=fB func50
instance:cC prog 51:=fB func51
instance:cC prog 52:=fB func52
instance:cC prog 53:=fB func53
instance:cC prog 54:=fB func54
instance:cC prog 55:=fB func55
instance:cC prog 56:=fB func56
instance:cC prog 57:=fB func57
instance:cC prog 58:=fB func58
instance:cC prog 59:=fB func59
instance:cC prog 60:=fB func60
instance:cC prog 61:=fB func61
instance:cC prog 62:=fB func62
instance:cC prog 63:=fB func63
instance:cC prog 64:=fB func64
instance:cC prog 65:=fB func65
instance:cC prog 66:=fB func66
instance:cC prog 67:=fB func67
instance:cC prog 68:=fB func68
instance:cC prog 69:=fB func69
instance:cC prog 70:=fB func70
instance:cC prog 71:=fB func71
instance:cC prog 72:=fB func72
instance:cC prog 73:=fB func73
instance:cC prog 74:=fB func74
instance:cC prog 75:=fB func75
instance:cC prog 76:=fB func76
instance:cC prog 77:=fB func77
instance:cC prog 78:=fB func78
instance:cC prog 79:=fB func79
instance:cC prog 80:=fB func80
instance:cC prog 81:=fB func81
instance:cC prog 82:=fB func82
instance:cC prog 83:=fB func83
instance:cC prog 84:=fB func84
instance:cC prog 85:=fB func85
instance:cC prog 86:=fB func86
instance:cC prog 87:=fB func87
instance:cC prog 88:=fB func88
instance:cC prog 89:=fB func89
instance:cC prog 90:=fB func90
instance:cC prog 91:=fB func91
instance:cC prog 92:=fB func92
instance:cC prog 93:=fB func93
instance:cC prog 94:=fB func94
instance:cC prog 95:=fB func95
instance:cC prog 96:=fB func96
instance:cC prog 97:=fB func97
instance:cC prog 98:=fB func98
instance:cC prog 99:=fB func99
instance:cC prog 100:=fB func100
instance:cC prog 101:=fB func101
instance:cC prog 102:=fB func102
instance:cC prog 103:=fB func103
instance:cC prog 104:=fB func104
instance:cC prog 105:=fB func105
instance:cC prog 106:=fB func106
instance:cC prog 107:=fB func107
instance:cC prog 108:=fB func108
instance:cC prog 109:=fB func109
instance:cC prog 110:=fB func110
instance:cC prog 111:=fB func111
instance:cC prog 112:=fB func112
instance:cC prog 113:=fB func113
instance:cC prog 114:=fB func114
instance:cC prog 115:=fB func115
instance:cC prog 116:=fB func116
instance:cC prog 117:=fB func117
instance:cC prog 118:=fB func118
instance:cC prog 119:=fB func119
instance:cC prog 120:=fB func120
instance:cC prog 121:=fB func121
instance:cC prog 122:=fB func122
instance:cC prog 123:=fB func123
instance:cC prog 124:=fB func124
instance:cC prog 125:=fB func125
instance:cC prog 126:=fB func126
instance:cC prog 127:=fB func127
instance:cC prog 128:=fB func128
instance:cC prog 129:=fB func129
instance:cC prog 130:=fB func130
instance:cC prog 131:=fB func131
instance:cC prog 132:=fB func132
instance:cC prog 133:=fB func133
instance:cC prog 134:=fB func134
instance:cC prog 136:=fB func136
instance:cC prog 137:=fB func137
instance:cC prog 138:=fB func138
instance:cC prog 139:=fB func139
instance:cC prog 140:=fB func140
instance:cC prog 141:=fB func141
instance:cC prog 142:=fB func142
instance:cC prog 143:=fB func143
instance:cC prog 144:=fB func144
instance:cC prog 145:=fB func145
instance:cC prog 146:=fB func146
instance:cC prog 148:=fB func148
instance:cC prog 149:=fB func149
instance:cC prog 150:=fB func150
instance:cC prog 151:=fB func151
instance:cC prog 152:=fB func152
instance:cC prog 153:=fB func153
instance:cC prog 155:=fB func155
instance:cC prog 156:=fB func156
instance:cC prog 157:=fB func157
instance:cC prog 158:=fB func158
instance:cC prog 159:=fB func159
instance:cC prog 160:=fB func160
instance:cC prog 161:=fB func161
instance:cC prog 162:=fB func162
instance:cC prog 163:=fB func163
instance:cC prog 164:=fB func164
instance:cC prog 165:=fB func165
instance:cC prog 166:=fB func166
instance:cC prog 167:=fB func167
instance:cC prog 168:=fB func168
instance:cC prog 169:=fB func169
instance:cC prog 170:=fB func170
instance:cC prog 171:=fB func171
instance:cC prog 172:=fB func172
instance:cC prog 173:=fB func173
instance:cC prog 174:=fB func174
instance:cC prog 175:=fB func175
instance:cC prog 176:=fB func176
instance:cC prog 177:=fB func177
instance:cC prog 178:=fB func178
instance:cC prog 179:=fB func179
instance:cC prog 180:=fB func180
instance:cC prog 181:=fB func181
instance:cC prog 182:=fB func182
instance:cC prog 183:=fB func183
instance:cC prog 184:=fB func184
instance:cC prog 185:=fB func185
instance:cC prog 187:=fB func187
instance:cC prog 189:=fB func189
instance:cC prog 192:=fB func192
instance:cC prog 193:=fB func193
instance:cC prog 194:=fB func194
instance:cC prog 195:=fB func195
instance:cC prog 196:=fB func196
instance:cC prog 197:=fB func197
instance:cC prog 198:=fB func198
instance:cC prog 199:=fB func199
instance:cC prog 200:=fB func200
instance:cC prog 201:=fB func201
instance:cC prog 204:=fB func204
instance:cC prog 209:=fB func209
instance:cC prog 210:=fB func210
end
section
abbrev Jw(p:Nat)(a:Option Addr)(m c n:Nat):aC:=pt p (.cells [.slice a m c,.iz n].toArray 296 (0,0))
def mL(p:Nat)(bs:List Bool):aC:=ex fun q:Option Addr×Nat=>all [Jw p q.1 ((bs.length+7) / 8) q.2 bs.length,eW 5 1 q.1 ((bs.length+7) / 8) q.2 (aY (pack bs))]
section
variable{w0 w:World}{l:List aC}{p:Nat}{bs:List Bool}
theorem St.bw:St w0 (mL p bs::l) w↔∃a c,St w0 (Jw p a ((bs.length+7) / 8) c bs.length::eW 5 1 a ((bs.length+7) / 8) c (aY (pack bs))::l) w:=by
 unfold mL;rw[St.ex];exact⟨fun⟨q,h⟩=>⟨q.1,q.2,h.join⟩,fun⟨a,c,h⟩=>⟨(a,c),St.fold [_,_] h⟩⟩
theorem yv(h:St w0 l w):bP prog 177 [] w fun v w'=>∃p,v=.pz p∧St w0 (mL p []::l) w':=by
 refine en func177 results177 ntmps177 ?_;refine Y1 ?_;refine tW ?_;refine Yl ?_;refine aD (qc (r:=[.slice none 0 0,.iz 0]) rfl) rfl ?_;refine aF rfl (jk h (show _=Value.agg [.slice none 0 0,.iz 0].toArray from rfl) fun p w h=>?_);refine DU ?_;refine qk (bQ ⟨p,rfl,St.bw.2 ⟨none,0,?_⟩⟩);exact(St.aZ 5 1 h).f 1
theorem sp(n:Int)(h:St w0 l w):bP prog 181 [.iz n] w fun v w'=>v=.iz (eY n)∧St w0 l w':=by
 refine en func181 results181 ntmps181 ?_;refine Yr ?_;refine LH ?_;refine qz (.iz (eY n)) (by unfold eY;congr 1;omega) ?_
 refine Y5 ?_;exact qk (bQ ⟨rfl,h⟩)
theorem Bt(n:Int):eY n<=64:=by unfold eY;omega
theorem testBit_toNat(v k:Nat):v / 2^k%2=(v.testBit k).toNat:=by
 rw[Nat.toNat_testBit]
theorem gt(v:Nat)(n:Int)(hv:v<18446744073709551616)(hlen:bs.length<=70368744177664)(h:St w0 (mL p bs::l) w):
  bP prog 198 [.pz p,.int .u64 v,.iz n] w fun v' w'=>v'=.tuple #[]∧St w0 (mL p (bs++bitsOf v (eY n))::l) w':=by
 refine en func198 results198 ntmps198 ?_;have hle:=Bt n;refine Yb ?_;refine aF rfl (qg rfl (sp n h) ?_);rintro _ w ⟨rfl,h⟩;refine AQ ?_;refine qz (.iz ((eY n:Int)-1)) Ce ?_;refine Y5 ?_;refine Yg ?_
 refine jy (Γ:=Nat×List Bool) (fun k=>[(0,.pz p),(1,.int .u64 v),(6,.iz ((k.1:Int)-1))])
  (fun k w=>k.1<=64∧k.2++bitsOf v k.1=bs++bitsOf v (eY n)∧St w0 (mL p k.2::l) w) (fun k=>k.1) (eY n,bs) kK ⟨hle,rfl,h⟩ ?_
 clear h;rintro⟨k,cur⟩ w e ⟨hk,lC,h⟩;dsimp only at hk lC h ⊢
 have xP:cur.length+k=bs.length+eY n:=by
  have:=congrArg List.length lC;simpa[bO] using this
 refine vT ?_;refine tX ?_;cases k with
 |zero=>
  refine qz (.bool false) O7 ?_;refine Df ?_;refine ju ?_;rw[<- lC,bitsOf,Ux];exact(show(rF []:Value)=.tuple #[]∧_ from⟨rfl,h⟩)
 |succ k=>
 refine qz (.bool true) (by simp <;> omega) ?_
 refine E7 ?_;obtain⟨a,c,h⟩:=St.bw.1 h;refine Ch ?_
 refine qf (Γ:=Option Addr×Nat) (fun q=>[(0,.pz p),(1,.int .u64 v),(6,.iz (((k+1:Nat):Int)-1))])
  (fun q w=>St w0 (Jw p q.1 (cur.length / 8+1) q.2 cur.length::eW 5 1 q.1 (cur.length / 8+1) q.2 (aY (xY cur))::l) w) ?_ ?_
 ·refine Y7 ?_;refine aD (qq rfl (h.b 0) rfl) rfl ?_;refine aD (pj rfl rfl O2) rfl ?_;refine qz (.iz ((cur.length%8:Nat):Int)) (by exact congrArg Value.iz (zr _ _)) ?_
  refine Yi ?_;by_cases h8:cur.length%8=0
  ·refine qz (.bool true) (by simp[h8]) ?_
   refine E8 ?_;refine vE ?_;refine aD (qq rfl (h.b 0) rfl) rfl ?_;refine aF rfl (jq (r:=[.int .u8 0]) h rfl rfl rfl fun b w h=>?_);refine aF rfl (ql (ys:=[.int .u8 0]) (zs:=aY (xY cur)) (m3:=cur.length / 8+1) (h.f 2) rfl rfl ⟨rfl,.inr ⟨b,0,rfl,qw (h.b 0 rfl) rfl⟩⟩ (fun u hu=>by rw[Vi.1 hu];rfl) O0 (by rw[ld h8];simp[aY]) O0 O0 rfl fun a' c' w _ h=>?_)
   refine Yk ?_;refine aF rfl (qb 2 h rfl (show _=Value.slice _ _ _ from rfl) rfl rfl rfl rfl fun w h=>?_);refine qv ⟨(a',c'),kK,?_⟩;exact(h.f 1).drop.f 1
  ·refine qz (.bool false) O5 ?_;refine qv (qt rfl (qa ⟨(a,c),kK,?_⟩));rw[SA h8];have e:cur.length / 8+1=(cur.length+7) / 8:=by omega
   rw[e];exact h
 clear h;rintro⟨a,c⟩ w e h;dsimp only at h;obtain⟨g,rfl⟩:=(h.f 1).dF O0;have OW:k<64:=by omega
 have IU:(v.testBit k).toNat<=1:=by cases v.testBit k <;> decide
 have OX:(v.testBit k).toNat*2^(7-cur.length%8)<256:=by
  have:2^(7-cur.length%8)<=2^7:=Vm O2 O0;have:=Ke IU this;omega
 refine qi (jz (some 25) (fun w=>St w0 _ w) O1 O1 h.drew fun w h=>?_);refine Y6 ?_;refine qj rfl rfl rfl rfl h (fun _ h=>qh rfl (qq rfl (h.b 0) rfl)) ?_;refine Y6 ?_;refine qj rfl rfl rfl rfl h (fun _ h=>qh rfl (qq rfl (h.b 0) rfl)) ?_;refine cD rfl rfl rfl rfl h rfl (q9 (v':=.iz ((cur.length / 8:Nat):Int)) (HM rfl rfl O2) (by rw[show((cur.length:Nat):Int).tdiv 8=((cur.length / 8:Nat):Int) from pb _ 8,wrap64 O0 O0])) ?_
 refine cD rfl rfl rfl rfl h rfl (jj (o':=cur.length / 8) rfl rfl rfl O0 O7) ?_;refine qj rfl rfl rfl rfl h (fun w h=>qh rfl (qr (v:=.int .u8 (gB cur (cur.length / 8)).toNat) rfl (by have:=(h.f 1).bU.cell (jG (Sz cur));simpa using this))) ?_
 refine Yt ?_;refine Yt ?_;refine cD rfl rfl rfl rfl h rfl (q9 (v':=.int .u64 ((v / 2^k:Nat):Int)) (j2 rfl rfl O0) (by rw[show(((k+1:Nat):Int)-1)=(k:Int) by omega];exact congrArg (Value.int .u64) (j3 v k _ (Nat.le_of_lt OW)))) ?_
 refine cD rfl rfl rfl rfl h rfl (q9 (v':=.int .u64 (((v.testBit k).toNat:Nat):Int)) (gx rfl rfl) (by
  rw[show eS .and .u64 ((v / 2^k:Nat):Int) 1=((v / 2^k &&& 1:Nat):Int) from(v7 (Xh (Nat.div_le_self _ _) hv) O2).1,Nat.and_one_is_mod,testBit_toNat])) ?_
 refine cD rfl rfl rfl rfl h rfl (q9 (v':=.int .u8 (((v.testBit k).toNat:Nat):Int)) (zn rfl) (by rw[um,Un O0])) ?_
 refine Y6 ?_;refine qj rfl rfl rfl rfl h (fun _ h=>qh rfl (qq rfl (h.b 0) rfl)) ?_;refine cD rfl rfl rfl rfl h rfl (q9 (v':=.iz ((cur.length%8:Nat):Int)) (pj rfl rfl O2) (congrArg Value.iz (zr _ 8))) ?_;refine cD rfl rfl rfl rfl h rfl (q9 (v':=.iz ((7-cur.length%8:Nat):Int)) (vk rfl rfl) O9) ?_;refine cD rfl rfl rfl rfl h rfl (q9 (v':=.int .u8 (((v.testBit k).toNat*2^(7-cur.length%8):Nat):Int)) (x8 rfl rfl O0) (by rw[I6 _ _ O0,Un OX])) ?_
 refine cD rfl rfl rfl rfl h rfl (q9 (v':=.int .u8 ((gB cur (cur.length / 8) ||| UInt8.ofNat ((v.testBit k).toNat*2^(7-cur.length%8))).toNat:Int)) (E1 rfl rfl) (by
  rw[<- Sy,UInt8.toNat_ofNat',Un OX])) ?_
 refine cD rfl rfl rfl rfl h rfl (jj (o':=cur.length / 8) rfl rfl rfl O0 O7) ?_;refine Ym ?_;refine jv 25 rfl rfl rfl ?_;refine jo (v:=.int .u8 ((gB cur (cur.length / 8) ||| UInt8.ofNat ((v.testBit k).toNat*2^(7-cur.length%8))).toNat:Int)) (h.f 1) rfl rfl O0 rfl fun w h=>?_;rw[Cx,<- lh] at h;refine AV ?_;refine aD (qq (v:=.iz cur.length) rfl (h.b 1 rfl) rfl) rfl ?_;refine tC ?_;refine qz (.iz ((cur.length+1:Nat):Int)) O8 ?_;refine Yk ?_;refine aF rfl (qb 1 h rfl (show _=Value.int _ _ from rfl) rfl rfl rfl rfl fun w h=>?_);refine Y2 ?_;refine AT ?_;refine AQ ?_;refine qz (.iz ((k:Int)-1)) O9 ?_;refine Y4 ?_;refine qv ⟨(k,cur++[v.testBit k]),kK,⟨gH,?_,St.bw.2 ⟨some ⟨g,0,none⟩,c,?_⟩⟩,gH⟩
 ·rw[<- lC,Uo];rfl
 ·have e1:((cur++[v.testBit k]).length+7) / 8=cur.length / 8+1:=by simp;omega
  rw[e1,Ua];exact h.f 1
end
end
end Go.Proofs.YtngdfdangkdgcaaGreatDoor
