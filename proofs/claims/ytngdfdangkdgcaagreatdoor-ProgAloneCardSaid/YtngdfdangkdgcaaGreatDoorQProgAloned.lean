/- What the proof of ProgAlone needs, part 4: plain lemmas, and what each function does. -/
import Derived.Test.YtngdfdangkdgcaaGreatDoorQProgAlonec
set_option linter.unusedVariables false
set_option linter.unusedSimpArgs false
set_option linter.unnecessarySimpa false
set_option maxRecDepth 100000
set_option maxHeartbeats 4000000
namespace Go.Hw
section
def within(L:List bZ)(fr to:Int):List bZ:=L.filter fun s=>decide (fr<=s.T)&&decide (s.T<=to)
theorem wv{L:List bZ}{k:Nat}{s:bZ}(hs:L[k]?=some s)(fr to:Int):within (L.take (k+1)) fr to=within (L.take k) fr to++(if fr<=s.T∧s.T<=to then[s] else[]):=by
 rw[Vk,hs,within,List.filter_append];congr 1;by_cases h:fr<=s.T∧s.T<=to
 ·rw[if_pos h];simp[h.1,h.2]
 ·rw[if_neg h];simp only[Option.toList,Vz,List.filter_nil];rw[if_neg];simpa using h
theorem my(l:List bZ)(i:Nat):(aW l).take (i*2)=aW (l.take i):=by
 induction l generalizing i with
 |nil=>simp
 |cons a l ih=>
  cases i with
  |zero=>simp
  |succ i=>
   rw[Vu,aW,aW,Ui,Ui,Zv,Wy,Zt,jt,Xx,Uu (by rw[jt];omega)]
   exact congrArg _ (ih i)
theorem mz(l:List bZ)(i:Nat):(aW l).drop (i*2)=aW (l.drop i):=by
 induction l generalizing i with
 |nil=>simp
 |cons a l ih=>
  cases i with
  |zero=>simp
  |succ i=>
   rw[Wg,aW,aW,Ui,Zv,Wy,Zs,jt,Xx,Vv (by rw[jt];omega),Us]
   exact ih i
end
end Go.Hw
namespace Go.Proofs.YtngdfdangkdgcaaGreatDoor
open Go.Hw _root_.Go.Proofs.Tryz
section
structure lI where
 bs:List UInt8
 s:vK
namespace lI
def new(bs:List UInt8):lI:=⟨bs,⟨false,false,0,false⟩⟩
def on(d:lI):vK:=if d.s.bg then d.s else fJ d.bs
def step(d:lI)(n:Int):lI:=⟨d.bs,d.on.step n⟩
def more(d:lI)(n:Int):Bool:=d.on.more n
def rows(d:lI):List bZ:=if d.s.bg then jV d.bs else[]
def told(d:lI):Option (List bZ):=if d.s.ov=true∧d.s.bad=false then some d.rows else none
structure Ok(d:lI):Prop where
 bs:d.bs.length<=140737488355328
 rows:d.rows.length<=65535
 lf:-65535<=d.s.lf∧d.s.lf<=65535
 pos:d.s.ov=false->0<=d.s.lf
 fresh:d.s.bg=false->d.s=⟨false,false,0,false⟩
end lI
def oG(q:Nat)(d:lI):aC:=ex fun x:(Option Addr×Nat)×(Option Addr×Nat)=>all [lift (d.Ok∧(d.s.bg=false->x.2=(none,0))),nE q d.s x.1.1 d.bs.length x.1.2 x.2.1 d.rows.length x.2.2,aB x.2.1 x.2.2 d.rows,gI x.1.1 x.1.2 d.bs]
theorem vK.AA{s:vK}(n:Int)(h1:-65535<=s.lf∧s.lf<=65535)(h2:s.ov=false->0<=s.lf):(-65535<=(s.step n).lf∧(s.step n).lf<=65535)∧((s.step n).ov=false->0<=(s.step n).lf):=by
 have hc:=zO n;obtain⟨bg,ov,lf,bad⟩:=s;cases ov with
 |true=>exact⟨h1,fun h=>by simp[vK.step] at h⟩
 |false=>
  have:=h2 rfl;simp only[vK.step,Bool.false_or,Xi,if_false,decide_eq_false_iff_not] at h1 this ⊢;exact⟨cI,fun h=>by omega⟩
section
variable{w0 w:World}{l:List aC}{q:Nat}{d:lI}
theorem St.dec:St w0 (oG q d::l) w↔∃ba bc la lc,(d.Ok∧(d.s.bg=false->la=none∧lc=0))∧St w0 (nE q d.s ba d.bs.length bc la d.rows.length lc::aB la lc d.rows::gI ba bc d.bs::l) w:=by
 unfold oG;rw[St.ex];constructor
 ·rintro⟨⟨⟨ba,bc⟩,la,lc⟩,h⟩;have h:=h.join;have h:=St.lift.1 h;exact⟨ba,bc,la,lc,⟨h.1.1,fun hb=>by have:=h.1.2 hb;simpa using this⟩,h.2⟩
 ·rintro⟨ba,bc,la,lc,⟨h1,h2⟩,h⟩;refine⟨((ba,bc),(la,lc)),St.fold [_,_,_,_] (St.lift.2 ⟨⟨h1,fun hb=>?_⟩,h⟩)⟩;obtain⟨rfl,rfl⟩:=h2 hb;rfl
theorem TN{sl:Option Addr}{c:Nat}{bs:List UInt8}(hn:bs.length<=140737488355328)(hr:Reads w0 l 1 sl bs.length (aY bs))(h:St w0 l w):
  bP prog 140 [.slice sl bs.length c] w fun v w'=>∃p,v=.pz p∧St w0 (oG p (lI.new bs)::l) w':=
 (wz hn hr h).mono fun v w' ⟨p,ba,bc,hv,h⟩=>⟨p,hv,St.dec.2 ⟨ba,bc,none,0,⟨⟨hn,by simp[lI.rows,lI.new],by simp[lI.new],fun _=>by simp[lI.new],fun _=>rfl⟩,fun _=>⟨rfl,rfl⟩⟩,(St.aZ 57 2 h).f 1⟩⟩
theorem eh(hT:Tz w0)(n:Int)(hV:d.s.bg=false->wW d.bs)(h:St w0 (oG q d::l) w):
  bP prog 123 [.pz q,.iz n] w fun v w'=>v=.bool (d.more n)∧St w0 (oG q (d.step n)::l) w':=by
 obtain⟨ba,bc,la,lc,⟨hd,hf⟩,h⟩:=St.dec.1 h;obtain⟨bs,s⟩:=d;cases hb:s.bg with
 |true=>
  have e1:lI.on ⟨bs,s⟩=s:=by unfold lI.on;exact if_pos hb
  have h1:=hd.lf;have h2:=hd.pos;refine(TG n hb (by dsimp only at h1;omega) h).mono fun v w' ⟨hv,h⟩=>⟨by unfold lI.more;rw[e1];exact hv,?_⟩
  have hk:=vK.AA n h1 h2;have e2:lI.step ⟨bs,s⟩ n=⟨bs,s.step n⟩:=by unfold lI.step;rw[e1]
  have e3:lI.rows ⟨bs,s.step n⟩=lI.rows ⟨bs,s⟩:=rfl;rw[e2];have MC:(s.step n).bg=true:=hb;refine St.dec.2 ⟨ba,bc,la,lc,⟨⟨hd.bs,hd.rows,hk.1,hk.2,fun h=>?_⟩,fun h=>?_⟩,h⟩
  ·dsimp only at h;rw[MC] at h;cases h
  ·dsimp only at h;rw[MC] at h;cases h
 |false=>
  obtain⟨rfl,rfl⟩:=hf hb;have e0:=hd.fresh hb;dsimp only at e0;subst e0;have e1:lI.on ⟨bs,⟨false,false,0,false⟩⟩=fJ bs:=rfl;refine(tg hT n (hV hb) hd.bs (h.x [1])).mono fun v w' ⟨la,lc,hv,hlen,h⟩=>⟨hv,St.dec.2 ⟨ba,bc,la,lc,⟨⟨hd.bs,hlen,?_,?_,fun h=>by cases h⟩,fun h=>by cases h⟩,h⟩⟩
  ·exact(vK.AA n (s:=fJ bs) (by have h9:(jV bs).length<=65535:=hlen;unfold fJ;dsimp only;omega) (fun _=>by unfold fJ;dsimp only;omega)).1
  ·exact(vK.AA n (s:=fJ bs) (by have h9:(jV bs).length<=65535:=hlen;unfold fJ;dsimp only;omega) (fun _=>by unfold fJ;dsimp only;omega)).2
theorem TO(h:St w0 (oG q d::l) w):
  bP prog 143 [.pz q] w fun v w'=>∃a c,v=.tuple [.slice a (d.told.getD []).length c,.bool d.told.isSome].toArray∧St w0 (aB a c (d.told.getD [])::oG q d::l) w':=by
 obtain⟨ba,bc,la,lc,⟨hd,hf⟩,h⟩:=St.dec.1 h;have hl:=hd.rows;refine(TH O0 Reads.own.cons h).mono fun v w' ⟨a,c,hv,h⟩=>⟨a,c,?_,?_⟩
 ·rw[hv];unfold lI.told;by_cases hc:d.s.ov=true∧d.s.bad=false
  ·rw[if_pos hc,if_pos hc,hc.1,hc.2];rfl
  ·rw[if_neg hc,if_neg hc];congr 4;simp only[Option.isSome_none];cases h1:d.s.ov <;> cases h2:d.s.bad <;> simp_all
 ·have e:(if d.s.ov=true∧d.s.bad=false then d.rows else[])=d.told.getD []:=by unfold lI.told;split <;> rfl
  rw[e] at h;exact(St.dec.2 ⟨ba,bc,la,lc,⟨hd,hf⟩,h.f 0 |>.o [1,2,3,0]⟩).f 1
theorem mx{a:Option Addr}{c n:Nat}{xs:List Value}(h:St w0 (eW 57 2 a n c xs::l) w):bP prog 96 [.slice a n c] w fun v w'=>v=.slice a n n∧St w0 (eW 57 2 a n n xs::l) w':=by
 have hc:=h.bT.2.1;refine en func96 results96 ntmps96 ?_;refine Bl ?_;refine Yd ?_;refine sV ?_;refine sV ?_;refine aD (xx rfl rfl rfl (Ug _) hc) rfl ?_;refine Yz ?_;exact qk (bQ ⟨rfl,h.mY⟩)
theorem fq{sl:Option Addr}{c:Nat}{L:List bZ}(fr to:Int)(hn:L.length<=1073741824)(hr:Reads w0 l 2 sl L.length (aW L))(h:St w0 l w):
  bP prog 148 [.slice sl L.length c,.iz fr,.iz to] w fun v w'=>∃a,v=.slice a (within L fr to).length (within L fr to).length∧St w0 (aB a (within L fr to).length (within L fr to)::l) w':=by
 refine en func148 results148 ntmps148 ?_;refine Bl ?_;refine Bl ?_;refine qf (Γ:=Option Addr×Nat) (fun y=>[(7,.slice y.1 (within L fr to).length y.2)]) (fun y w=>St w0 (aB y.1 y.2 (within L fr to)::l) w) ?_ ?_
 ·refine I3 ?_
  refine jy (Γ:=Nat×Option Addr×Nat) (fun x=>[(1,.iz fr),(2,.iz to),(7,.slice x.2.1 (within (L.take x.1) fr to).length x.2.2),(10,.slice sl L.length c),(11,.iz L.length),(12,.iz x.1)])
   (fun x w=>x.1<=L.length∧St w0 (aB x.2.1 x.2.2 (within (L.take x.1) fr to)::l) w) (fun x=>L.length-x.1) (0,none,0) kX ⟨Uf _,St.aZ 57 2 h⟩ ?_
  clear h;rintro⟨i,a,ac⟩ w e ⟨hi,h⟩;dsimp only at hi h;refine E5 ?_;by_cases hlt:i<L.length
  ·refine qz (.bool true) O3 ?_;refine Gj ?_;refine Yu ?_;obtain⟨s,hs⟩:∃s,L[i]?=some s:=⟨L[i],Ub hlt⟩;have lC:=h;obtain⟨b2,o2,rfl⟩:=((hr.more [_]).at_ h).some O0
   have h:=lC;have hw:=wv hs fr to;have Hl:(within (L.take i) fr to).length<=i:=by unfold within;exact Uw (Wl _ _) (by rw[Ul];omega)
   refine Ch ?_;refine Y1 ?_;refine aD (jj (j:=i) (o':=o2+i*2) rfl rfl rfl hlt rfl) rfl ?_;refine aD (qx (l:=s.cells) rfl rfl (((hr.more [_]).at_ h).elem jt hs)) rfl ?_
   refine aF rfl (qn h fun b9 w h=>?_);refine aF rfl (qy (vs:=s.cells) 0 h rfl rfl rfl rfl rfl rfl rfl fun w h=>?_);replace h:St w0 (pt b9 (.cells s.cells.toArray 57 (0,0))::aB a ac (within (L.take i) fr to)::l) w:=h;refine Cv ?_;refine aD (qq (v:=.iz s.T) rfl (h.b 0 rfl) rfl) rfl ?_;refine Y0 ?_;have hpost:∀(e':Env) (w':World),True:=fun _ _=>trivial;by_cases h1:fr<=s.T
   ·refine aD (q9 (v':=.bool true) (ka rfl rfl) (congrArg Value.bool (decide_eq_true h1))) rfl ?_;refine pV ?_;refine aD (qq (v:=.iz s.T) rfl (h.b 0 rfl) rfl) rfl ?_;refine xW ?_;by_cases h2:s.T<=to
    ·refine aD (q9 (v':=.bool true) (wt rfl rfl) (congrArg Value.bool (decide_eq_true h2))) rfl ?_;rw[if_pos ⟨h1,h2⟩] at hw;refine Ye ?_;refine Yh ?_;refine IZ ?_;refine aD (qx (l:=s.cells) rfl rfl (qw (h.b 0 rfl) rfl)) rfl ?_;refine aF rfl (jq (r:=aW [s]) h rfl rfl rfl fun b5 w h=>?_);refine aF rfl (ql (ys:=aW [s]) (zs:=aW (within (L.take (i+1)) fr to)) (m3:=(within (L.take (i+1)) fr to).length) (h.f 2) rfl rfl ⟨rfl,.inr ⟨b5,0,rfl,qw (h.b 0 rfl) rfl⟩⟩ (jm _) (by rw[hw];simp) (by rw[hw];simp[aW]) (by rw[hw];simp;omega) (by rw[hw];simp;omega) rfl fun a2 c2 w _ h=>?_)
     refine Yz ?_;refine Yw ?_;refine qz (.iz (i+1:Nat)) C8 ?_;refine Y0 ?_;exact qv ⟨(i+1,a2,c2),kX,⟨hlt,(h.x [1,2])⟩,gH⟩
    ·refine aD (q9 (v':=.bool false) (wt rfl rfl) (congrArg Value.bool (decide_eq_false h2))) rfl ?_;rw[if_neg (fun hh=>h2 hh.2),Ux] at hw;refine Ye ?_;refine Y8 ?_;refine Yw ?_;refine qz (.iz (i+1:Nat)) C8 ?_;refine Y0 ?_;refine qv ⟨(i+1,a,ac),⟨rfl,rfl,?_,rfl,rfl,rfl,trivial⟩,⟨hlt,?_⟩,gH⟩
     ·dsimp only;rw[hw];rfl
     ·dsimp only;rw[hw];exact h.drop
   ·refine aD (q9 (v':=.bool false) (ka rfl rfl) (congrArg Value.bool (decide_eq_false h1))) rfl ?_;rw[if_neg (fun hh=>h1 hh.1),Ux] at hw;refine zX ?_;refine Y9 ?_;refine Y8 ?_;refine Yw ?_;refine qz (.iz (i+1:Nat)) C8 ?_;refine Y0 ?_;refine qv ⟨(i+1,a,ac),⟨rfl,rfl,?_,rfl,rfl,rfl,trivial⟩,⟨hlt,?_⟩,gH⟩
    ·dsimp only;rw[hw];rfl
    ·dsimp only;rw[hw];exact h.drop
  ·refine qz (.bool false) O4 ?_;refine qv (qi (qt rfl (ju ?_)));obtain rfl:i=L.length:=by omega
   rw[Xa] at h;refine Eq.mpr (if_pos rfl) ⟨(a,ac),⟨?_,trivial⟩,h⟩;show Value.slice a (within (L.take L.length) fr to).length ac=_;rw[Xa]
 rintro⟨a,ac⟩ w e h;refine Yd ?_;refine aF rfl (qg rfl (mx h) ?_);clear h;rintro _ w ⟨rfl,h⟩;refine Yo ?_;exact qv (qk (bQ ⟨a,rfl,h⟩))
end
end
section
structure Tk where
 key:bL
 fr:Int
 to:Int
 d:Option lI
 dec:Bool
 fS:Bool
 done:Bool
 row:List bZ
 i:Nat
 out:List bZ
namespace Tk
def new(s f bB fr to:Int):Tk:=⟨⟨s,f,bB⟩,fr,to,none,false,false,false,[],0,[]⟩
def rest(x:Tk):List bZ:=x.row.drop x.i
def pinned(x:Tk)(L:List bZ):Tk:={ x with fS:=true,d:=none,row:=within L x.fr x.to,i:=0 }
def cP(x:Tk)(S:eR)(C:eC):Tk×eC×Int:=match (C.get x.key).2 with
 |some L=>(x.pinned L,((C.get x.key).1.eN x.key 1).1,0)
 |none=>match aH x.key.bB S.l with
  |none=>(x,(C.get x.key).1,7)
  |some e=>({ x with d:=some (lI.new e.bs) },(C.get x.key).1,0)
def put(x:Tk)(d:lI)(C:eC):Tk×eC×Int:=match d.told with
 |none=>(x,C,7)
 |some L=>if(C.put x.key L).2 then(x.pinned L,((C.put x.key L).1.eN x.key 1).1,0) else(x,(C.put x.key L).1,6)
def kH(x:Tk):Tk:={ x with out:=x.out++x.rest.take (min 4 x.rest.length),i:=x.i+min 4 x.rest.length }
def step(x:Tk)(S:eR)(C:eC):Tk×eC×Int:=
 if x.done then(x,C,0)
 else if x.fS then(if x.kH.rest.length=0 then({ x.kH with fS:=false,done:=true },(C.gD x.key).1,0) else(x.kH,C,0))
 else match x.d with
  |none=>x.cP S C
  |some d=>if x.dec then x.put d C else({ x with d:=some (d.step 4),dec:=!(d.more 4) },C,0)
def leave(x:Tk)(C:eC):Tk×eC:=if x.fS then({ x with fS:=false },(C.gD x.key).1) else(x,C)
end Tk
abbrev Tk.C(x:Tk)(dp ra:Option Addr)(rc:Nat)(oa:Option Addr)(oc:Nat):List Value:=
 [.iz x.key.aA,.iz x.key.bN,.iz x.key.bB,.iz x.fr,.iz x.to,.pointer dp,.bool x.dec,.bool x.fS,.bool x.done,.slice ra x.rest.length rc,.slice oa x.out.length oc]
abbrev AB(t:Nat)(x:Tk)(dp ra:Option Addr)(rc:Nat)(oa:Option Addr)(oc:Nat):aC:=pt t (.cells (x.C dp ra rc oa oc).toArray 187 (0,0))
def yK(dp:Option Addr):Option lI->aC
 |none=>lift (dp=none)
 |some d=>ex fun q:Nat=>all [lift (dp=some ⟨q,0,none⟩),oG q d]
def Ej(wa:Option Addr)(wc:Nat)(W:List bZ)(i:Nat)(ra:Option Addr)(rc:Nat):Prop:=i<=W.length∧W.length<=wc∧rc=wc-i∧(i<W.length->ra=nI wa (i*2) (Nat.beq wc i))
structure TP where
 dp:Option Addr
 ra:Option Addr
 rc:Nat
 oa:Option Addr
 oc:Nat
 wa:Option Addr
 wc:Nat
def gW(t:Nat)(x:Tk):aC:=ex fun y:TP=>all [lift (Ej y.wa y.wc x.row x.i y.ra y.rc),AB t x y.dp y.ra y.rc y.oa y.oc,yK y.dp x.d,aB y.wa y.wc x.row,aB y.oa y.oc x.out]
section
variable{w0 w:World}{l:List aC}{t p b:Nat}{x:Tk}{C:eC}{S:eR}
theorem St.tk:St w0 (gW t x::l) w↔∃dp ra rc oa oc wa wc,Ej wa wc x.row x.i ra rc∧St w0 (AB t x dp ra rc oa oc::yK dp x.d::aB wa wc x.row::aB oa oc x.out::l) w:=by
 unfold gW;rw[St.ex];constructor
 ·rintro⟨y,h⟩;have h:=St.lift.1 h.join;exact⟨_,_,_,_,_,_,_,h.1,h.2⟩
 ·rintro⟨dp,ra,rc,oa,oc,wa,wc,h1,h⟩;exact⟨⟨dp,ra,rc,oa,oc,wa,wc⟩,St.fold [_,_,_,_,_] (St.lift.2 ⟨h1,h⟩)⟩
theorem St.FF{dp:Option Addr}:St w0 (yK dp none::l) w↔dp=none∧St w0 l w:=St.lift
theorem St.wZ{dp:Option Addr}{d:lI}:St w0 (yK dp (some d)::l) w↔∃q,dp=some ⟨q,0,none⟩∧St w0 (oG q d::l) w:=by
 unfold yK;rw[St.ex];exact⟨fun⟨q,h⟩=>⟨q,(St.lift.1 h.join).1,(St.lift.1 h.join).2⟩,fun⟨q,h1,h⟩=>⟨q,St.fold [_,_] (St.lift.2 ⟨h1,h⟩)⟩⟩
theorem Il{wa:Option Addr}{wc:Nat}{W:List bZ}(hc:W.length<=wc):Ej wa wc W 0 wa wc:=⟨Uf _,hc,rfl,fun _=>by
 unfold nI
 cases Nat.beq wc 0 <;> cases wa <;> simp[Addr.add]⟩
theorem TQ{wa ra:Option Addr}{wc rc i n:Nat}{W:List bZ}(ht:Ej wa wc W i ra rc)(h:Rd w 2 wa W.length (aW W))(hn:n<=W.length-i):Rd w 2 ra n (aW ((W.drop i).take n)):=by
 obtain⟨h1,h2,h3,h4⟩:=ht;rcases Wb n with rfl|hpos
 ·exact⟨by simp,.inl rfl⟩
 ·rw[h4 O0];have:=h.cut (i:=i) (j:=i+n) O0 O0 h2;rw[mz,Xx,my] at this;exact this
theorem TR{wa ra:Option Addr}{wc rc i n:Nat}{W:List bZ}(ht:Ej wa wc W i ra rc)(hn:n<=W.length-i):Ej wa wc W (i+n) (nI ra (n*2) (Nat.beq rc n)) (rc-n):=by
 obtain⟨h1,h2,h3,h4⟩:=ht;refine⟨cI,h2,cI,fun hlt=>?_⟩;rw[h4 O0];have e1:Nat.beq wc i=false:=by rw[<- Ko,Nat.beq_eq];omega
 have e2:Nat.beq wc (i+n)=false:=by rw[<- Ko,Nat.beq_eq];omega
 have e3:Nat.beq rc n=false:=by rw[<- Ko,Nat.beq_eq];omega
 rw[e1,e2,e3];unfold nI;cases wa with
 |none=>rfl
 |some a=>
  simp only[cond_false,Ww,Addr.add];by_cases h5:n=0
  ·subst h5;simp
  ·by_cases h6:i=0
   ·subst h6;simp
   ·have h7:¬n*2=0:=by omega
    have h8:¬i*2=0:=by omega
    have h9:¬(i+n)*2=0:=by omega
    rw[if_neg h7,if_neg h8,if_neg h9,Vj,Nat.add_assoc]
theorem TS(s f:Int)(q:gP)(fr to:Int)(h:St w0 l w):bP prog 90 [.iz s,.iz f,.agg q.cells.toArray,.iz fr,.iz to] w fun v w'=>∃t,v=.pz t∧St w0 (gW t (Tk.new s f q.bB fr to)::l) w':=by
 refine en func90 results90 ntmps90 ?_;refine Y1 ?_;refine aF rfl (jk h (show _=Value.agg q.cells.toArray from rfl) fun b7 w h=>?_);refine DU ?_;refine Gk ?_;refine Yc ?_;refine aD (qq (v:=.iz q.bB) rfl (h.b 0 rfl) rfl) rfl ?_;refine aD (qc (r:=(bL.mk s f q.bB).C) rfl) rfl ?_;refine DV ?_;refine aD (qc (r:=(Tk.new s f q.bB fr to).C none none 0 none 0) rfl) rfl ?_;refine aF rfl (jk h (show _=Value.agg ((Tk.new s f q.bB fr to).C none none 0 none 0).toArray from rfl) fun t w h=>?_);refine tW ?_;refine qv (qk (bQ ⟨t,rfl,St.tk.2 ⟨none,none,0,none,0,none,0,Il (Ug _),?_⟩⟩));have h1:=(St.aZ 57 2 (St.aZ 57 2 (St.FF.2 ⟨rfl,h.x [1]⟩)));exact h1.o [3,2,0,1]
theorem eC.Dn(hC:C.Ok){k:bL}{L:List bZ}(h:(C.get k).2=some L):L.length<=1073741824:=by
 unfold eC.get at h;split at h
 ·simp only[Vr] at h;subst h;cases hg:aH k C.rows with
  |none=>simp
  |some M=>exact hC.rows k M hg
 ·cases h
theorem fj{L:List bZ}{sl:Option Addr}{c:Nat}(hC:C.Ok)(hn:L.length<=1073741824)(hr:Reads w0 l 2 sl L.length (aW L))(h:St w0 (gW t x::aK p C::l) w):
  bP prog 138 [.pz t,.pz p,.slice sl L.length c] w fun v w'=>St w0 (gW t (x.pinned L)::aK p (C.eN x.key 1).1::l) w':=by
 obtain⟨dp,ra,rc,oa,oc,wa,wc,ht,h⟩:=St.tk.1 h;refine en func138 results138 ntmps138 ?_;refine AW ?_;refine aD (qx (l:=x.key.C) rfl rfl (qw (h.b 0 rfl) rfl)) rfl ?_;refine aF rfl (qg rfl (TJ hC (h.f 4)) ?_);clear h;rintro _ w ⟨rfl,h⟩;refine Y2 ?_;refine vr [0,14,18,1,2,3,4,5,6,7,8,9,10,11,12,13,15,16,17,19,20,21] (some 15) (fun w=>St w0 (aK p (C.eN x.key 1).1::AB t x dp ra rc oa oc::yK dp x.d::aB wa wc x.row::aB oa oc x.out::l) w) O1 O1 h.drew fun w h=>?_;refine tY ?_;refine tY ?_;refine tY ?_;refine AR ?_;refine Y6 ?_;refine qj rfl rfl rfl rfl h (fun _ h=>qh rfl (qq (v:=.iz x.fr) rfl (h.b 1 rfl) rfl)) ?_;refine Y6 ?_;refine qj rfl rfl rfl rfl h (fun _ h=>qh rfl (qq (v:=.iz x.to) rfl (h.b 1 rfl) rfl)) ?_;refine nJ ?_;refine xO ?_;refine qd 12 rfl rfl rfl rfl ?_;refine qg rfl (fq x.fr x.to hn (hr.more [_,_,_,_,_]) h) ?_;clear h;rintro _ w ⟨a9,rfl,h1⟩;have h:=h1.drop;refine⟨fun _=>h,?_⟩;refine Cg ?_;refine Fa ?_;refine jx 15 (some 18) rfl rfl rfl rfl ?_;refine qb 2 h1 rfl (show _=Value.bool true from rfl) rfl rfl rfl rfl fun w h=>?_;refine jh h ?_;clear h1;refine Cg ?_;refine nJ ?_;refine jx 18 (some 21) rfl rfl rfl rfl ?_;refine qb 2 h rfl (show _=Value.pointer none from rfl) rfl rfl rfl rfl fun w h=>?_;refine jh h ?_;refine Cg ?_;refine Ym ?_;refine jv 21 rfl rfl rfl ?_;refine qb 2 h rfl (show _=Value.slice a9 (within L x.fr x.to).length (within L x.fr x.to).length from rfl) rfl rfl rfl rfl fun w h=>?_;refine uN (St.tk.2 ⟨none,a9,_,oa,oc,a9,_,Il (Ug _),?_⟩);replace h:St w0 (aB a9 (within L x.fr x.to).length (within L x.fr x.to)::aK p (C.eN x.key 1).1::AB t (x.pinned L) none a9 (within L x.fr x.to).length oa oc::yK dp x.d::aB wa wc x.row::aB oa oc x.out::l) w:=h
 have h1:=St.FF.2 ⟨rfl,h.x [3,4]⟩;exact h1.o [3,0,1,4,2]
theorem tv(hC:C.Ok)(hG:(C.get x.key).1.Ok)(hS:∀id e,aH id S.l=some e->e.bs.length<=140737488355328)(h:St w0 (gW t x::aE b S::aK p C::l) w):
  bP prog 122 [.pz t,.pz b,.pz p] w fun v w'=>v=.iz (x.cP S C).2.2∧St w0 (gW t (x.cP S C).1::aE b S::aK p (x.cP S C).2.1::l) w':=by
 obtain⟨dp,ra,rc,oa,oc,wa,wc,ht,h⟩:=St.tk.1 h;refine en func122 results122 ntmps122 ?_;refine Yr ?_;refine qi ?_;refine AW ?_;refine aD (qx (l:=x.key.C) rfl rfl (qw (h.b 0 rfl) rfl)) rfl ?_;have fM:=TM (k:=x.key) hC (h.f 5);clear h;cases hg:(C.get x.key).2 with
 |some L=>
  have hL:=eC.Dn hC hg;rw[hg] at fM;have e1:x.cP S C=(x.pinned L,((C.get x.key).1.eN x.key 1).1,0):=by unfold Tk.cP;rw[hg]
  refine aF rfl (qg rfl fM ?_);rintro _ w ⟨a',c',rfl,h⟩;refine Ck ?_;refine EI ?_;refine Yh ?_;refine oE ?_;refine Yp ?_;have h:=St.tk.2 ⟨dp,ra,rc,oa,oc,wa,wc,ht,h.o [2,3,4,5,1,0]⟩;refine aF rfl (qg rfl (fj (L:=L) hG hL Reads.own h) ?_);clear h;rintro _ w h;refine Yl ?_;refine Y4 ?_;rw[e1];exact qv (qk (bQ ⟨rfl,(h.x [2]).o [0,2,1]⟩))
 |none=>
  rw[hg] at fM;refine aF rfl (qg rfl fM ?_);rintro _ w ⟨a',c',rfl,h⟩;replace h:=h.drop;refine Ck ?_;refine EI ?_;refine Y8 ?_;refine AW ?_;refine Yc ?_;refine aD (qq (v:=.iz x.key.bB) rfl (h.b 1 rfl) rfl) rfl ?_;cases hb:aH x.key.bB S.l with
  |none=>
   have e1:x.cP S C=(x,(C.get x.key).1,7):=by unfold Tk.cP;rw[hg];dsimp only;rw[hb]
   refine aF rfl (qg rfl (ls _ (h.f 5) hb) ?_);clear h;rintro _ w ⟨rfl,h⟩;refine Ck ?_;refine vU ?_;refine Yy ?_;refine Y4 ?_;rw[e1];exact qv (qk (bQ ⟨rfl,St.tk.2 ⟨dp,ra,rc,oa,oc,wa,wc,ht,h.o [2,3,4,5,0,1]⟩⟩))
  |some e=>
   have e1:x.cP S C=({ x with d:=some (lI.new e.bs) },(C.get x.key).1,0):=by unfold Tk.cP;rw[hg];dsimp only;rw[hb]
   refine aF rfl (qg rfl (lm _ (h.f 5) hb (hS _ _ hb)) ?_);clear h;rintro _ w ⟨a2,c2,rfl,h⟩;refine Ck ?_;refine vU ?_;refine Y8 ?_;refine Yq ?_;refine Yp ?_;refine aF rfl (qg rfl (TN (hS _ _ hb) Reads.own h) ?_);clear h;rintro _ w ⟨q,rfl,h⟩;refine Yk ?_;refine aF rfl (qb 4 h rfl (show _=Value.pz q from rfl) rfl rfl rfl rfl fun w h=>?_);replace h:St w0 (oG q (lI.new e.bs)::gI a2 c2 e.bs::aE b S::aK p (C.get x.key).1::AB t { x with d:=some (lI.new e.bs) } (sQ q) ra rc oa oc::yK dp x.d::aB wa wc x.row::aB oa oc x.out::l) w:=h
   refine Yl ?_;refine Y4 ?_;rw[e1];have h1:=St.wZ.2 ⟨q,rfl,h.x [1,5]⟩;exact qv (qk (bQ ⟨rfl,St.tk.2 ⟨_,ra,rc,oa,oc,wa,wc,ht,h1.o [3,0,4,5,1,2]⟩⟩))
end
end
section
section
variable{w0 w:World}{l:List aC}{t p b:Nat}{x:Tk}{C:eC}{S:eR}
theorem lI.FG{d:lI}{L:List bZ}(hr:d.rows.length<=65535)(h:d.told=some L):L.length<=65535:=by
 unfold lI.told at h;split at h
 ·simp only[Vr] at h;subst h;exact hr
 ·cases h
theorem TT{d:lI}(hd:x.d=some d)(hC:C.Ok)(hP:∀L,L.length<=65535->(C.put x.key L).1.Ok)(h:St w0 (gW t x::aK p C::l) w):
  bP prog 124 [.pz t,.pz p] w fun v w'=>v=.iz (x.put d C).2.2∧St w0 (gW t (x.put d C).1::aK p (x.put d C).2.1::l) w':=by
 obtain⟨dp,ra,rc,oa,oc,wa,wc,ht,h⟩:=St.tk.1 h;have h1:=h.f 1;rw[hd] at h1;obtain⟨q,rfl,h⟩:=St.wZ.1 h1;clear h1
 have hrows:d.rows.length<=65535:=by
  obtain⟨_,_,_,_,⟨h9,_⟩,_⟩:=St.dec.1 h;exact h9.rows
 refine en func124 results124 ntmps124 ?_;refine Yr ?_;refine Y7 ?_;refine aD (qq (v:=.pz q) rfl (h.b 1 rfl) rfl) rfl ?_;have hdn:=TO h;clear h;cases ho:d.told with
 |none=>
  rw[ho] at hdn;have e1:x.put d C=(x,C,7):=by unfold Tk.put;rw[ho]
  refine aF rfl (qg rfl hdn ?_);rintro _ w ⟨a5,c5,rfl,h⟩;refine Ck ?_;refine Ch ?_;refine Y1 ?_;refine vC ?_;refine vD ?_;refine rC ?_;rw[e1];refine qv (qk (bQ ⟨rfl,?_⟩));refine St.tk.2 ⟨some ⟨q,0,none⟩,ra,rc,oa,oc,wa,wc,ht,?_⟩;rw[hd];exact(St.wZ.2 ⟨q,rfl,h.drop⟩).f 1
 |some L=>
  rw[ho] at hdn;have hL:=lI.FG hrows ho;refine aF rfl (qg rfl hdn ?_);rintro _ w ⟨a5,c5,rfl,h⟩;replace h:St w0 (aB a5 c5 L::oG q d::AB t x (sQ q) ra rc oa oc::aB wa wc x.row::aB oa oc x.out::aK p C::l) w:=h;refine Ck ?_
  refine qf (Γ:=Unit) (fun _=>[(0,.pz t),(1,.pz p),(5,.slice a5 L.length c5)])
   (fun _ w=>(C.put x.key L).2=true∧St w0 (aB a5 c5 L::oG q d::AB t x (sQ q) ra rc oa oc::aB wa wc x.row::aB oa oc x.out::aK p (C.put x.key L).1::l) w) ?_ ?_
  ·refine Yg ?_;refine Y1 ?_;refine vC ?_;refine Bj ?_;refine AW ?_;refine aD (qx (l:=x.key.C) rfl rfl (qw (h.b 2 rfl) rfl)) rfl ?_;refine Yp ?_;refine aF rfl (qg rfl (TL (k:=x.key) (L:=L) hC (Reads.own.more []) O0 (h.f 5)) ?_);clear h;rintro _ w ⟨rfl,h⟩;refine oO ?_;refine Ya ?_;cases hk:(C.put x.key L).2 with
   |false=>
    have e1:x.put d C=(x,(C.put x.key L).1,6):=by unfold Tk.put;rw[ho];dsimp only;rw[hk];rfl
    refine vB ?_;refine rC ?_;rw[e1];refine qv (qk (bQ ⟨rfl,?_⟩));refine St.tk.2 ⟨some ⟨q,0,none⟩,ra,rc,oa,oc,wa,wc,ht,?_⟩;rw[hd];have h1:=St.wZ.2 ⟨q,rfl,(h.x [1]).f 1⟩;exact h1.o [2,0,3,4,1]
   |true=>
    refine xU ?_;exact⟨(),kK,rfl,h.o [1,2,3,4,5,0]⟩
  rintro-w e ⟨hk,h⟩;have e1:x.put d C=(x.pinned L,((C.put x.key L).1.eN x.key 1).1,0):=by unfold Tk.put;rw[ho];dsimp only;rw[hk];rfl
  refine oE ?_;refine Yp ?_;have h1:=St.wZ.2 ⟨q,rfl,h.f 1⟩;rw[<- hd] at h1;have h2:=St.tk.2 ⟨_,ra,rc,oa,oc,wa,wc,ht,h1.o [2,0,3,4,5,1]⟩;refine aF rfl (qg rfl (fj (L:=L) (hP L hL) O0 Reads.own h2) ?_);clear h h1 h2;rintro _ w h;refine Yl ?_;refine Y4 ?_;rw[e1];exact qv (qk (bQ ⟨rfl,h.x [2]⟩))
theorem eb(hx:x.out.length<=1073741824)(h:St w0 (gW t x::l) w):
  bP prog 92 [.pz t] w fun v w'=>∃a c,v=.tuple [.slice a (if x.done then x.out else[]).length c,.bool x.done].toArray∧St w0 (aB a c (if x.done then x.out else[])::gW t x::l) w':=by
 obtain⟨dp,ra,rc,oa,oc,wa,wc,ht,h⟩:=St.tk.1 h;refine en func92 results92 ntmps92 ?_;refine yZ ?_;refine Bm ?_;refine aD (qq (v:=.bool x.done) rfl (h.b 0 rfl) rfl) rfl ?_;refine oO ?_;refine Y2 ?_;cases hd:x.done with
 |false=>
  refine vB ?_;refine xV ?_;refine Y3 ?_;exact qv (qk (jQ ⟨none,0,rfl,St.aZ 57 2 (St.tk.2 ⟨_,_,_,_,_,_,_,ht,h⟩)⟩))
 |true=>
  refine xU ?_;refine Y7 ?_;refine aD (qq (v:=.slice oa x.out.length oc) rfl (h.b 0 rfl) rfl) rfl ?_;refine aF rfl (qg rfl (uy (L:=x.out) h (Reads.own.more [_,_,_]) hx) ?_);clear h;rintro _ w ⟨a,c,rfl,h⟩;refine Yo ?_;refine Y3 ?_;refine qv (qk (jQ ⟨a,c,rfl,?_⟩));exact(St.tk.2 ⟨dp,ra,rc,oa,oc,wa,wc,ht,h.o [1,2,3,4,0]⟩).f 1
theorem dr(hC:C.Ok)(h:St w0 (gW t x::aK p C::l) w):
  bP prog 68 [.pz t,.pz p] w fun v w'=>St w0 (gW t (x.leave C).1::aK p (x.leave C).2::l) w':=by
 obtain⟨dp,ra,rc,oa,oc,wa,wc,ht,h⟩:=St.tk.1 h;refine en func68 results68 ntmps68 ?_;refine Y7 ?_;refine aD (qq (v:=.bool x.fS) rfl (h.b 0 rfl) rfl) rfl ?_;refine Y2 ?_;cases hp:x.fS with
 |false=>
  have e1:x.leave C=(x,C):=by unfold Tk.leave;rw[hp];rfl
  refine qt rfl (qa (uN ?_));rw[e1];exact St.tk.2 ⟨_,_,_,_,_,_,_,ht,h⟩
 |true=>
  have e1:x.leave C=({ x with fS:=false },(C.gD x.key).1):=by unfold Tk.leave;rw[hp];rfl
  refine vB ?_;refine AW ?_;refine aD (qx (l:=x.key.C) rfl rfl (qw (h.b 0 rfl) rfl)) rfl ?_;refine aF rfl (qg rfl (de (k:=x.key) hC (h.f 4)) ?_);clear h;rintro _ w ⟨rfl,h⟩;refine Y2 ?_;refine AV ?_;refine aF rfl (qb 1 h rfl (show _=Value.bool false from rfl) rfl rfl rfl rfl fun w h=>?_);refine qv (uN ?_);rw[e1];exact St.tk.2 ⟨dp,ra,rc,oa,oc,wa,wc,ht,h.o [1,2,3,4,0]⟩
end
end
section
def Tk.takeN(x:Tk)(n:Nat):Tk:={ x with out:=x.out++x.rest.take n,i:=x.i+n }
section
variable{w0 w:World}{l:List aC}{t p b:Nat}{x:Tk}{C:eC}{S:eR}
theorem tu(hT:Tz w0)(hV:∀d,x.d=some d->x.fS=false->x.dec=false->wW d.bs)(hx:x.row.length+x.out.length<=1000000000)(hC:C.Ok)(hG:(C.get x.key).1.Ok)(hP:∀L,L.length<=65535->(C.put x.key L).1.Ok)(hS:∀id e,aH id S.l=some e->e.bs.length<=140737488355328)(h:St w0 (gW t x::aE b S::aK p C::l) w):
  bP prog 91 [.pz t,.pz b,.pz p] w fun v w'=>v=.iz (x.step S C).2.2∧St w0 (gW t (x.step S C).1::aE b S::aK p (x.step S C).2.1::l) w':=by
 obtain⟨dp,ra,rc,oa,oc,wa,wc,ht,h⟩:=St.tk.1 h;refine en func91 results91 ntmps91 ?_;refine Yr ?_;refine qf (Γ:=Unit) (fun _=>[]) (fun _ w=>(x.step S C).2.2=0∧St w0 (gW t (x.step S C).1::aE b S::aK p (x.step S C).2.1::l) w) ?_ ?_;rotate_left
 ·rintro-w e ⟨h0,h⟩;refine rC ?_;exact qv (qk (bQ ⟨by rw[h0];rfl,h⟩))
 refine Yg ?_;refine Y7 ?_;refine aD (qq (v:=.bool x.done) rfl (h.b 0 rfl) rfl) rfl ?_;refine Ya ?_;cases hd:x.done with
 |true=>
  have e1:x.step S C=(x,C,0):=by unfold Tk.step;rw[hd];rfl
  refine j6 rfl (qa ⟨(),trivial,?_⟩);rw[e1];exact⟨rfl,St.tk.2 ⟨dp,ra,rc,oa,oc,wa,wc,ht,h⟩⟩
 |false=>
  refine qt rfl ?_;refine Y7 ?_;refine aD (qq (v:=.bool x.fS) rfl (h.b 0 rfl) rfl) rfl ?_;refine Ya ?_;cases hp:x.fS with
  |true=>
   have e1:x.step S C=if x.kH.rest.length=0 then({ x.kH with fS:=false,done:=true },(C.gD x.key).1,0) else(x.kH,C,0):=by unfold Tk.step;rw[hd,hp];rfl
   obtain⟨n,hn⟩:∃n,n=min 4 x.rest.length:=⟨_,rfl⟩;have e2:x.kH=x.takeN n:=by rw[hn];rfl
   rw[e2] at e1;have hrl:x.rest.length=x.row.length-x.i:=Um;have TU:n<=x.rest.length:=by omega
   have AZ:n<=4:=by omega
   have hrc:n<=rc:=by have:=ht.2.1;have:=ht.2.2.1;omega
   have Am:x.rest.length-n=(x.takeN n).rest.length:=by
    show x.rest.length-n=(x.row.drop (x.i+n)).length;rw[Um];omega
   have Ft:(x.takeN n).out.length=x.out.length+n:=by
    show(x.out++x.rest.take n).length=_;rw[Ua,Ul];omega
   refine vB ?_;refine Y7 ?_;refine aD (qq (v:=.slice ra x.rest.length rc) rfl (h.b 0 rfl) rfl) rfl ?_;refine rJ ?_;refine K1 ?_;refine qz (.iz (n:Nat)) (by congr 1;omega) ?_
   refine Y5 ?_;refine qi (jb [0,21,1,2,3,4,5,6,7,8,9,10,11,12,13,14,15,16,17,18,19,20,22,23,24] (some 21) (fun w=>St w0 (AB t x dp ra rc oa oc::yK dp x.d::aB wa wc x.row::aE b S::aK p C::l) w) O1 O1 ?_);have hw:=h.drew;clear h;generalize w.drew=w1 at hw ⊢;have h:=hw.x [3];refine tY ?_;refine tY ?_;refine Y6 ?_;refine qj rfl rfl rfl rfl h (fun _ h=>qh rfl (qq (v:=.slice oa x.out.length oc) rfl (h.b 0 rfl) rfl)) ?_;refine Y6 ?_;refine qj rfl rfl rfl rfl h (fun _ h=>qh rfl (qq (v:=.slice ra x.rest.length rc) rfl (h.b 0 rfl) rfl)) ?_;refine Yt ?_;refine cD rfl rfl rfl rfl h rfl (vh (h:=n) rfl rfl hrc) ?_;refine Ym ?_;refine Y6 ?_;refine qj rfl rfl rfl rfl h (fun _ h=>qh rfl (qq (v:=.slice ra x.rest.length rc) rfl (h.b 0 rfl) rfl)) ?_;refine Yt ?_;refine qu (v:=.slice (nI ra (n*2) (Nat.beq rc n)) (x.takeN n).rest.length (rc-n)) rfl rfl rfl rfl (fun _=>h) (fun _=>qh rfl (q9 (gu (i:=n) rfl rfl TU) (congrArg (fun m=>Value.slice (nI ra (n*2) (Nat.beq rc n)) m (rc-n)) Am))) ?_;refine xO ?_;refine qd 12 rfl rfl rfl rfl ?_;have hrow:Rd w1 2 wa x.row.length (aW x.row):=(hw.f 2).bU;refine ql (ys:=aW (x.rest.take n)) (zs:=aW (x.takeN n).out) (m3:=(x.takeN n).out.length) (hw.f 3) rfl rfl (TQ ht hrow O0) (jm _) Ft.symm (by show _=aW (x.out++x.rest.take n);simp[aW]) (by rw[Ft];omega) (by rw[Ft];omega) rfl fun a2 c2 w _ hw=>?_
   have h:=hw.drop;refine⟨fun _=>h,?_⟩;refine Cg ?_;refine nJ ?_;refine jx 21 (some 24) rfl rfl rfl rfl ?_;refine qb 1 hw rfl (show _=Value.slice a2 (x.takeN n).out.length c2 from rfl) rfl rfl rfl rfl fun w h=>?_;refine jh h ?_;refine Cg ?_;refine Ym ?_;refine jv 24 rfl rfl rfl ?_;refine qb 1 h rfl (show _=Value.slice (nI ra (n*2) (Nat.beq rc n)) (x.takeN n).rest.length (rc-n) from rfl) rfl rfl rfl rfl fun w h=>?_;replace h:St w0 (aB a2 c2 (x.takeN n).out::AB t (x.takeN n) dp (nI ra (n*2) (Nat.beq rc n)) (rc-n) a2 c2::yK dp x.d::aB wa wc x.row::aE b S::aK p C::l) w:=h;have Gv:=TR ht (n:=n) O0;refine Y7 ?_;refine aD (qq (v:=.slice (nI ra (n*2) (Nat.beq rc n)) (x.takeN n).rest.length (rc-n)) rfl (h.b 1 rfl) rfl) rfl ?_;refine rJ ?_;refine Yi ?_;by_cases h0:(x.takeN n).rest.length=0
   ·rw[if_pos h0] at e1;refine qz (.bool true) HH ?_;refine Yh ?_;refine AW ?_;refine aD (qx (l:=x.key.C) rfl rfl (qw (h.b 1 rfl) rfl)) rfl ?_;refine aF rfl (qg rfl (de (k:=x.key) hC (h.f 5)) ?_);clear h;rintro _ w ⟨rfl,h⟩;refine GO ?_;refine vE ?_;refine aF rfl (qb 2 h rfl (show _=Value.bool false from rfl) rfl rfl rfl rfl fun w h=>?_);refine Yk ?_;refine aF rfl (qb 2 h rfl (show _=Value.bool true from rfl) rfl rfl rfl rfl fun w h=>?_);refine qv ⟨(),trivial,?_⟩;rw[e1];exact⟨rfl,St.tk.2 ⟨dp,_,_,a2,c2,wa,wc,Gv,h.o [2,3,4,1,5,0]⟩⟩
   ·rw[if_neg h0] at e1;refine qz (.bool false) O6 ?_;refine qv (qt rfl (qa ⟨(),trivial,?_⟩));rw[e1];exact⟨rfl,St.tk.2 ⟨dp,_,_,a2,c2,wa,wc,Gv,h.o [1,2,3,0,4,5]⟩⟩
  |false=>
   have e0:x.step S C=match x.d with
    |none=>x.cP S C
    |some d=>if x.dec then x.put d C else({ x with d:=some (d.step 4),dec:=!(d.more 4) },C,0):=by unfold Tk.step;rw[hd,hp];rfl
   refine qt rfl ?_;refine Y7 ?_;refine aD (qq (v:=.pointer dp) rfl (h.b 0 rfl) rfl) rfl ?_;cases Lg:x.d with
   |none=>
    rw[Lg] at e0;have h1:=h.f 1;rw[Lg] at h1;obtain⟨rfl,h2⟩:=St.FF.1 h1;clear h1 h2;refine aD (ze rfl rfl) rfl ?_;refine Gn ?_;refine AO ?_;refine aF rfl (qg rfl (tv hC hG hS (St.tk.2 ⟨none,ra,rc,oa,oc,wa,wc,ht,h⟩)) ?_);clear h;rintro _ w ⟨rfl,h⟩;refine Y4 ?_;rw[e0];exact qv (qk (bQ ⟨rfl,h⟩))
   |some d=>
    rw[Lg] at e0;have h1:=h.f 1;rw[Lg] at h1;obtain⟨q,rfl,h2⟩:=St.wZ.1 h1;clear h1;refine aD (ze rfl rfl) rfl ?_;refine Bj ?_;refine Y7 ?_;refine aD (qq (v:=.bool x.dec) rfl (h.b 0 rfl) rfl) rfl ?_;refine oO ?_;refine Ya ?_;cases NJ:x.dec with
    |true=>
     rw[NJ] at e0;refine qt rfl ?_;refine oE ?_;refine aF rfl (qg rfl (TT Lg hC hP ((St.tk.2 ⟨_,ra,rc,oa,oc,wa,wc,ht,h⟩).o [0,2,1])) ?_);clear h h2;rintro _ w ⟨rfl,h⟩;refine Y4 ?_;rw[show x.step S C=x.put d C from e0];exact qv (qk (bQ ⟨rfl,h.o [0,2,1]⟩))
    |false=>
     rw[NJ] at e0;refine vB ?_;refine Ci ?_;refine vE ?_;refine aD (qq (v:=.pz q) rfl (h.b 0 rfl) rfl) rfl ?_;refine aF rfl (qg rfl (eh hT 4 (fun _=>hV _ Lg hp NJ) h2) ?_);clear h h2;rintro _ w ⟨rfl,h⟩;refine oO ?_;refine Yk ?_;refine aF rfl (qb 1 h rfl (show _=Value.bool (!(d.more 4)) from rfl) rfl rfl rfl rfl fun w h=>?_);refine qv ⟨(),trivial,?_⟩;rw[show x.step S C=({ x with d:=some (d.step 4),dec:=!(d.more 4) },C,0) from e0]
     have h1:=St.wZ.2 ⟨q,rfl,h⟩;exact⟨rfl,St.tk.2 ⟨some ⟨q,0,none⟩,ra,rc,oa,oc,wa,wc,ht,h1.f 1⟩⟩
end
end
end Go.Proofs.YtngdfdangkdgcaaGreatDoor
namespace Go.Hw
section
structure gR where
 kind:Int
 aA:Int
 iter:Int
 T:Int
 V:Nat
 F:Int
 To:Int
 N:Int
def gR.Wf(o:gR):Prop:=rM o.kind∧rM o.aA∧rM o.iter∧rM o.T∧o.V<18446744073709551616∧rM o.F∧rM o.To∧rM o.N
def gR.zero:gR:=⟨0,0,0,0,0,0,0,0⟩
def gR.C(o:gR):List Value:=[.iz o.kind,.iz o.aA,.iz o.iter,.iz o.T,.int .u64 o.V,.iz o.F,.iz o.To,.iz o.N]
structure iS where
 err:Int
 iter:Int
 list:List bZ
def iS.C(a:Option Addr)(c:Nat)(r:iS):List Value:=[.iz r.err,.iz r.iter,.slice a r.list.length c]
end
end Go.Hw
namespace Go.Proofs.YtngdfdangkdgcaaGreatDoor
open Go.Hw _root_.Go.Proofs.Tryz
section
abbrev wI:Int->Int:=IntKind.i64.wrap
def aG.zero:aG:=⟨false,false,0,0,false,0,[],[]⟩
structure iU where
 s:aG
 taken:Bool
 who:Int
structure mE where
 bN:Int
 cW:Int
 lX:Int
 upto:Int
 parts:List gP
 tail:List bZ
def mE.V(x:mE):jA:=⟨x.bN,x.cW,x.lX,x.upto,x.parts.length,dP x.parts,x.tail.length,aW x.tail⟩
def mE.zero:mE:=⟨0,0,0,0,[],[]⟩
def aG.snap(s:aG)(f t:Int):mE:=⟨s.bN,s.cW,f,t,fN f t s.chunks,iN f t s.aQ⟩
structure On where
 aA:Int
 told:Int
 x:mE
 used:Bool
 who:Int
def On.V(o:On):One:=⟨o.aA,o.told,o.x.V,o.used,o.who⟩
structure Tb where
 last:Int
 l:List (Int×On)
def Tb.V(T:Tb):Mn:=⟨T.last,T.l.map fun p=>(p.1,p.2.V)⟩
namespace dM
def at_(D:List iU)(id:Int):Option iU:=if 0<=id∧id<16 then D[id.toNat]? else none
def look(D:List iU)(id:Int):Option aG:=match at_ D id with
 |some p=>if p.s.cW.tmod 2=1 then none else some p.s
 |none=>none
def take(D:List iU)(id who:Int):Option (List iU):=match at_ D id with
 |some p=>if p.taken then none else some (D.set id.toNat ⟨{ p.s with cW:=wI (p.s.cW+1) },true,who⟩)
 |none=>none
def leave(D:List iU)(id who:Int)(s:aG):Option (List iU):=match at_ D id with
 |some p=>if p.taken=true∧p.who=who then some (D.set id.toNat ⟨{ s with cW:=wI (p.s.cW+1) },false,0⟩) else none
 |none=>none
end dM
def aG.add(s:aG)(x:bZ):aG:=if s.any=true∧x.T<=s.last then s else { s with any:=true,last:=x.T,aQ:=s.aQ++[x] }
def aG.size(s:aG):Int:=wI (16*(s.aQ.length:Int))
def eR.jD(S:eR)(n:Int):Bool×eR:=if n>0∧n>wI (S.bA-wI (S.bytes+S.aR)) then(false,S) else(true,S.nQ n)
def eR.add(S:eR)(bs:List UInt8):Option (eR×Int):=
 if wI (S.bA-wI (S.bytes+S.aR))<bs.length then none
 else some (⟨S.bA,wI (S.last+1),wI (S.bytes+bs.length),S.aR,aX (wI (S.last+1)) ⟨bs,1⟩ S.l⟩,wI (S.last+1))
structure cG where
 d:List iU
 c:eC
 b:eR
 t:Tb
structure aP where
 who:Int
 o:gR
 ph:Int
 slot:aG
 next:aG
 flag:Bool
 using_:Bool
 held:Bool
 x:mE
 told:Int
 one:Option Tk
 i:Int
 got:List bZ
 dH:Int
 over:Bool
 res:iS
namespace aP
def new(who:Int)(o:gR):aP:=⟨who,o,0,aG.zero,aG.zero,false,false,false,mE.zero,0,none,0,[],0,false,⟨0,0,[]⟩⟩
def stop(r:aP)(s:cG)(res:iS)(Gy:Int):aP×cG×Int:=({ r with over:=true,res:=res },s,Gy)
def refuse(r:aP)(s:cG)(e:Int):aP×cG×Int:=r.stop s ⟨e,0,[]⟩ 2
def take(r:aP)(s:cG):aP×cG×Bool:=match dM.look s.d r.o.aA with
 |none=>(r,s,false)
 |some sl=>match dM.take s.d r.o.aA r.who with
  |none=>(r,s,false)
  |some D=>({ r with slot:=sl,flag:=true,ph:=1 },{ s with d:=D },true)
def cF(r:aP)(s:cG)(sl:aG):aP×cG:=({ r with flag:=false },{ s with d:=(dM.leave s.d r.o.aA r.who sl).getD s.d })
def wrong(r:aP):Int:=
 if r.o.kind≠1∧r.slot.there=false then 3
 else if r.o.kind≠4∧r.slot.there=true∧r.slot.closed=true then 2
 else if r.o.kind=1∧r.slot.there=true∧r.slot.any=true∧r.o.T<=r.slot.last then 1
 else 0
def close(r:aP)(s:cG):aP×cG×Bool:=
 let size:=r.next.size
 let bs:=(dG 1 r.next.aQ).getD []
 let b1:=(s.b.jD (wI (0-size))).2
 match b1.add bs with
 |none=>(r,{ s with b:=(b1.jD size).2 },false)
 |some (b2,id)=>
  let h:=((fO bs).map (·.1)).getD ⟨0,0,0,0⟩
  ({ r with next:={ r.next with chunks:=r.next.chunks++[⟨id,h.tag,h.count,h.f,h.t⟩],aQ:=[] } },{ s with b:=b2 },true)
def add(r:aP)(s:cG):aP×cG×Bool:=
 let n0:=if r.next.there then r.next else { aG.zero with there:=true,bN:=r.slot.bN }
 let r:={ r with next:=n0.add ⟨r.o.T,(r.o.V:Int)⟩ }
 match s.b.jD 16 with
 |(false,_)=>(r,s,false)
 |(true,b)=>
  if r.next.aQ.length<8 then(r,{ s with b:=b },true)
  else match r.close { s with b:=b } with
   |(r,s,true)=>(r,s,true)
   |(r,s,false)=>(r,{ s with b:=(s.b.jD (-16)).2 },false)
def drop(r:aP)(s:cG):aP×cG×Bool:=
 ({ r with next:={ aG.zero with bN:=wI (r.slot.bN+1) } },{ s with b:=((s.b.jD (wI (0-r.slot.size))).2).leave r.slot.chunks },true)
def uG(r:aP)(s:cG):aP×cG×Bool:=
 let r:={ r with next:={ r.next with closed:=true } }
 if r.next.aQ.length=0 then(r,s,true) else r.close s
def make(r:aP)(s:cG):aP×cG×Bool:=
 let r:={ r with next:=r.slot }
 if r.o.kind=1 then r.add s else if r.o.kind=3 then r.uG s else r.drop s
def write(r:aP)(s:cG):aP×cG×Int:=
 if r.ph=0 then match r.take s with
  |(r,s,true)=>(r,s,1)
  |(r,s,false)=>(r,s,0)
 else if r.ph=1 then
  if r.wrong≠0 then let q:=r.cF s r.slot;q.1.refuse q.2 r.wrong
  else match r.make s with
   |(r,s,false)=>let q:=r.cF s r.slot;q.1.stop q.2 ⟨9,0,[]⟩ 3
   |(r,s,true)=>({ r with ph:=3 },s,1)
 else let q:=r.cF s r.next;q.1.stop q.2 ⟨0,0,[]⟩ 2
def leave(r:aP)(s:cG):aP×cG:=
 let C:=match r.one with|none=>s.c|some x=>(x.leave s.c).2
 let s:={ s with c:=C }
 let s:=if r.held then { s with b:=s.b.leave r.x.parts } else s
 let r:={ r with held:=false }
 let q:=if r.flag then r.cF s r.slot else(r,s)
 ({ q.1 with one:=none,i:=0,got:=[] },q.2)
def part(r:aP)(s:cG)(aA:Int):aP×cG×Int:=
 let x:=match r.one with
  |some x=>x
  |none=>let p:=r.x.parts.getD r.i.toNat ⟨0,0,0,0,0⟩;Tk.new aA r.x.bN p.bB r.x.lX r.x.upto
 let q:=x.step s.b s.c
 let s:={ s with c:=q.2.1 }
 if q.2.2≠0 then({ r with one:=some q.1 },s,q.2.2)
 else if q.1.done then({ r with one:=none,got:=r.got++q.1.out,i:=wI (r.i+1) },s,0)
 else({ r with one:=some q.1 },s,0)
def cP(r:aP)(s:cG)(sl:aG):aP×cG×Int:=
 if sl.there=false then let q:=r.leave s;q.1.refuse q.2 3
 else
  let r:={ r with x:=sl.snap r.o.F r.o.To }
  match s.b.hold [] r.x.parts with
  |(false,b)=>let q:=r.leave { s with b:=b };q.1.stop q.2 ⟨7,0,[]⟩ 3
  |(true,b)=>({ r with held:=true,ph:=if r.x.parts.length=0 then 3 else 2 },{ s with b:=b },1)
def answer(r:aP)(s:cG):aP×cG×Int:=
 let L:=r.got++r.x.tail
 let q:=r.leave s
 q.1.stop q.2 ⟨0,0,L⟩ 2
def look(r:aP)(s:cG):aP×cG×Int:=
 if r.dH ≥ 3 then match r.take s with
  |(r,s,true)=>(r,s,1)
  |(r,s,false)=>(r,s,0)
 else match dM.look s.d r.o.aA with
  |none=>(r,s,0)
  |some sl=>r.cP s sl
def read(r:aP)(s:cG):aP×cG×Int:=
 if r.ph=0 then r.look s
 else if r.ph=1 then r.cP s r.slot
 else if r.ph=2 then match r.part s r.o.aA with
  |(r,s,e)=>if e≠0 then let q:=r.leave s;q.1.stop q.2 ⟨e,0,[]⟩ 3
   else({ r with ph:=if r.i=(r.x.parts.length:Int) then 3 else 2 },s,1)
 else if r.flag then r.answer s
 else match dM.look s.d r.o.aA with
  |some sl=>if sl.bN=r.x.bN∧sl.cW=r.x.cW then r.answer s else let q:=r.leave s;({ q.1 with dH:=wI (q.1.dH+1),ph:=0 },q.2,1)
  |none=>let q:=r.leave s;({ q.1 with dH:=wI (q.1.dH+1),ph:=0 },q.2,1)
def open_(r:aP)(s:cG):aP×cG×Int:=match dM.look s.d r.o.aA with
 |none=>(r,s,0)
 |some sl=>
  if sl.there=false then r.refuse s 3
  else if s.t.l.length ≥ 8 then r.refuse s 5
  else
   let x:=sl.snap r.o.F r.o.To
   match s.b.hold [] x.parts with
   |(false,b)=>r.stop { s with b:=b } ⟨7,0,[]⟩ 3
   |(true,b)=>r.stop { s with b:=b,t:=⟨s.t.last+1,aX (s.t.last+1) ⟨r.o.aA,0,x,false,0⟩ s.t.l⟩ } ⟨0,s.t.last+1,[]⟩ 2
def use(r:aP)(s:cG):aP×cG×Int×Bool:=match aH r.o.iter s.t.l with
 |none=>let q:=r.refuse s 3;(q.1,q.2.1,q.2.2,false)
 |some o=>if o.used=true∧o.who≠r.who then(r,s,0,false)
  else({ r with using_:=true },{ s with t:=⟨s.t.last,aX r.o.iter { o with used:=true,who:=r.who } s.t.l⟩ },1,true)
def mine(r:aP)(s:cG):Option On:=match aH r.o.iter s.t.l with
 |none=>none
 |some o=>if o.used=true∧o.who=r.who then some o else none
def free(r:aP)(s:cG):aP×cG:=
 ({ r with using_:=false },match r.mine s with|none=>s|some o=>{ s with t:=⟨s.t.last,aX r.o.iter { o with used:=false } s.t.l⟩ })
def hand(r:aP)(s:cG)(L:List bZ):aP×cG×Int:=
 let s:=match r.mine s with|none=>s|some o=>{ s with t:=⟨s.t.last,aX r.o.iter { o with told:=wI (o.told+max (L.length:Int) 0) } s.t.l⟩ }
 let q:=r.free s
 q.1.stop q.2 ⟨0,0,L⟩ 2
def tell(r:aP)(s:cG):aP×cG×Int:=
 let n:=min (max r.o.N 0) 1000
 let on:=(aH r.o.iter s.t.l).getD ⟨0,0,mE.zero,false,0⟩
 if r.ph=0 then match r.use s with
  |(r,s,Gy,false)=>(r,s,Gy)
  |(r,s,_,true)=>
   let r:={ r with x:=on.x,told:=on.told,ph:=2 }
   if n=0 then r.hand s [] else({ r with ph:=if on.x.parts.length=0 then 3 else 2 },s,1)
 else if r.ph=2 then match r.part s on.aA with
  |(r,s,e)=>if e≠0 then
    let s:=match r.one with|none=>s|some x=>{ s with c:=(x.leave s.c).2 }
    let r:=match r.one with|none=>r|some x=>{ r with one:=some (x.leave s.c).1 }
    let q:=r.free s;q.1.stop q.2 ⟨e,0,[]⟩ 3
   else({ r with ph:=if r.i=(on.x.parts.length:Int)∨(r.got.length:Int) ≥ wI (r.told+n) then 3 else 2 },s,1)
 else
  let L:=if r.i=(on.x.parts.length:Int) then r.got++on.x.tail else r.got
  let L:=L.drop (min r.told (L.length:Int)).toNat
  r.hand s (L.take (min n (L.length:Int)).toNat)
def shut(r:aP)(s:cG):aP×cG×Int:=match r.use s with
 |(r,s,Gy,false)=>(r,s,Gy)
 |(r,s,_,true)=>
  let x:=((r.mine s).map (·.x)).getD mE.zero
  let s:={ s with t:=⟨s.t.last,bY r.o.iter s.t.l⟩ }
  ({ r with using_:=false }).stop { s with b:=s.b.leave x.parts } ⟨0,0,[]⟩ 2
def bad(o:gR):Bool:=if 1<=o.kind∧o.kind<=5 then decide (o.aA<0)||decide (o.aA ≥ 16) else !(o.kind==6)&&!(o.kind==7)
def step(r:aP)(s:cG):aP×cG×Int:=
 if r.over then(r,s,0)
 else if bad r.o then r.refuse s 4
 else if r.o.kind=2 then r.read s
 else if r.o.kind=5 then r.open_ s
 else if r.o.kind=6 then r.tell s
 else if r.o.kind=7 then r.shut s
 else r.write s
def holds(r:aP):Int:=(if r.flag then 1 else 0)+(if r.using_ then 1 else 0)+(if r.held then 1 else 0)
end aP
end
end Go.Proofs.YtngdfdangkdgcaaGreatDoor
