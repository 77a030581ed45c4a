/- What the proof of ProgAlone needs, part 7: plain lemmas, and what each function does. -/
import Derived.Test.YtngdfdangkdgcaaGreatDoorQProgAlonef
import Derived.KernelRfl
set_option linter.unusedVariables false
set_option linter.unusedSimpArgs false
set_option linter.unnecessarySimpa false
set_option maxRecDepth 100000
set_option maxHeartbeats 4000000
namespace Go.Proofs.YtngdfdangkdgcaaGreatDoor
open Go.Hw _root_.Go.Proofs.Tryz
section
variable{s s' s2:cG}{a:Ag}{A:List Ag}{acc:List aG}{al:Int->Bool}{G G':Int->fZ}{n n':Nat}{r:aP}{ps pn:List bL}{b b':Int}{who aA:Int}{k:Nat}
structure dN(who:Int)(s s':cG):Prop where
 dir:∀(i:Nat) (p:iU),s.d[i]?=some p->p.taken=true->p.who≠who->s'.d[i]?=some p
 jC:∀(id:Int) (o:On),aH id s.t.l=some o->o.used=true->o.who≠who->aH id s'.t.l=some o
theorem dN.refl(who:Int)(s:cG):dN who s s:=⟨fun _ _ h _ _=>h,fun _ _ h _ _=>h⟩
theorem dN.trans(h:dN who s s')(h':dN who s' s2):dN who s s2:=⟨fun i p h1 h2 h3=>h'.dir i p (h.dir i p h1 h2 h3) h2 h3,fun i o h1 h2 h3=>h'.jC i o (h.jC i o h1 h2 h3) h2 h3⟩
theorem dN.same(hd:s'.d=s.d)(ht:s'.t=s.t):dN who s s':=⟨fun i p h _ _=>by rw[hd];exact h,fun i p h _ _=>by rw[ht];exact h⟩
theorem dN.here{i:Nat}{p q:iU}(hp:s.d[i]?=some p)(hw:p.taken=false∨p.who=who)(hd:s'.d=s.d.set i q)(ht:s'.t=s.t):dN who s s':=by
 refine⟨fun j x hx h1 h2=>?_,fun j o h _ _=>by rw[ht];exact h⟩
 rw[hd,gr]
 ·exact hx
 ·rintro rfl;rw[hp] at hx;obtain rfl:=Uk hx;rcases hw with hw|hw
  ·rw[hw] at h1;cases h1
  ·exact h2 hw
theorem dN.on{id:Int}{o o':On}(hg:aH id s.t.l=some o)(hw:o.used=false∨o.who=who)(hd:s'.d=s.d)(ht:s'.t.l=aX id o' s.t.l):dN who s s':=by
 refine⟨fun i p h _ _=>by rw[hd];exact h,fun j x hx h1 h2=>?_⟩
 rw[ht,jg,if_neg]
 ·exact hx
 ·rintro rfl;rw[hg] at hx;obtain rfl:=Uk hx;rcases hw with hw|hw
  ·rw[hw] at h1;cases h1
  ·exact h2 hw
def eD(G:Int->fZ)(x:mE)(aA:Int)(one:Option Tk)(i:Int)(got:List bZ)(pn:List bL)(k:Nat):Prop:=
 ∃j:Nat,i=(j:Int)∧j<=x.parts.length∧got=((x.parts.take j).flatMap fun p=>within (G p.bB).L x.lX x.upto)∧
  ((one=none∧pn=[]∧k=6*(x.parts.length-j))∨
   (∃y p kk,one=some y∧x.parts[j]?=some p∧y.key=⟨aA,x.bN,p.bB⟩∧y.fr=x.lX∧y.to=x.upto∧vN G y pn kk∧k=kk+6*(x.parts.length-j-1)))
theorem eD.new(G:Int->fZ)(x:mE)(aA:Int):eD G x aA none 0 [] [] (6*x.parts.length):=⟨0,rfl,Uf _,by rw[Xn];rfl,.inl ⟨rfl,rfl,rfl⟩⟩
theorem nq{x:mE}(hG:∀id,id<=b->G' id=G id):∀{l:List gP},(∀p∈l,gE G b p)->(l.flatMap fun p=>within (G' p.bB).L x.lX x.upto)=l.flatMap fun p=>within (G p.bB).L x.lX x.upto
 |[],_=>rfl
 |p::l,h=>by rw[Ui,Ui,nq hG fun q hq=>h q (Uh _ hq),hG _ (h p (Ud ..)).Iz]
theorem eD.more{x:mE}{one:Option Tk}{i:Int}{got:List bZ}(h:eD G x aA one i got pn k)(hx:∀p∈x.parts,gE G b p)(hG:∀id,id<=b->G' id=G id):eD G' x aA one i got pn k:=by
 obtain⟨j,h1,h2,h3,h4⟩:=h;refine⟨j,h1,h2,?_,?_⟩
 ·rw[h3,nq hG fun p hp=>hx p (Vl hp)]
 ·rcases h4 with h4|⟨y,p,kk,e1,e2,e3,e4,e5,e6,e7⟩
  ·exact .inl h4
  ·refine .inr ⟨y,p,kk,e1,e2,e3,e4,e5,e6.same ?_,e7⟩;rw[e3];exact hG _ (hx p (Ue e2)).Iz
theorem eT{f:gP->List bZ}:∀{l:List gP},(∀p∈l,(f p).length<=8)->(l.flatMap f).length<=8*l.length
 |[],_=>Uf _
 |p::l,h=>by
  rw[Ui,Ua,Uj];have h1:=h p (Ud ..);have h2:=eT (l:=l) fun q hq=>h q (Uh _ hq);omega
theorem F1{p:gP}(h:gE G b p)(f t:Int):(within (G p.bB).L f t).length<=8:=Uw (zi _ _ _) h.len
theorem eD.vO{x:mE}{one:Option Tk}{i:Int}{got:List bZ}(h:eD G x aA one i got pn k)(hx:∀p∈x.parts,gE G b p):got.length<=8*x.parts.length:=by
 obtain⟨j,h1,h2,h3,h4⟩:=h;rw[h3];have:=eT (f:=fun p=>within (G p.bB).L x.lX x.upto) (l:=x.parts.take j) fun p hp=>F1 (hx p (Vl hp)) _ _;rw[Ul] at this;omega
theorem mE.len{x:mE}(hx:mH G b x):(x.all G).length<=8*x.parts.length+7:=by
 unfold mE.all;rw[Ua];have:=eT (f:=fun p=>within (G p.bB).L x.lX x.upto) (l:=x.parts) fun p hp=>F1 (hx.kS p hp) _ _;have:=hx.tail;omega
theorem eD.full{x:mE}{one:Option Tk}{got:List bZ}(h:eD G x aA one (x.parts.length:Int) got pn k):got++x.tail=x.all G∧one=none∧pn=[]:=by
 obtain⟨j,h1,h2,h3,h4⟩:=h;have hj:j=x.parts.length:=by omega
 refine⟨?_,?_⟩
 ·rw[h3,hj,Xa];rfl
 ·rcases h4 with h4|⟨y,p,kk,_,e2,_⟩
  ·exact⟨h4.1,h4.2.1⟩
  ·rw[hj,Vq (Ug _)] at e2;cases e2
theorem eD.pre{x:mE}{one:Option Tk}{i:Int}{got:List bZ}(h:eD G x aA one i got pn k):got <+: x.all G:=by
 obtain⟨j,h1,h2,h3,h4⟩:=h;refine⟨((x.parts.drop j).flatMap fun p=>within (G p.bB).L x.lX x.upto)++x.tail,?_⟩;rw[h3,<- Uo,<- Xp,Xs];rfl
theorem eD.F3{x:mE}{one:Option Tk}{i:Int}{got:List bZ}(h:eD G x aA one i got pn k):pn.length<=1:=by
 obtain⟨j,_,_,_,⟨_,h,_⟩|⟨y,p,kk,_,_,_,_,_,h,_⟩⟩:=h
 ·rw[h];exact Uf _
 ·rcases h with⟨_,h,_⟩|⟨_,_,_,_,h,_⟩|⟨_,h,_⟩|⟨_,h,_⟩ <;> rw[h] <;> exact Wk rfl
theorem eD.cur(h:eD G r.x aA r.one r.i r.got pn k)(hx:∀p∈r.x.parts,gE G b p)(hi:r.i≠(r.x.parts.length:Int)):
  ∃(j:Nat) (p:gP) (kk:Nat),r.i=(j:Int)∧j<r.x.parts.length∧r.got=((r.x.parts.take j).flatMap fun p=>within (G p.bB).L r.x.lX r.x.upto)∧r.x.parts[j]?=some p∧gE G b p∧(r.cur aA).key=⟨aA,r.x.bN,p.bB⟩∧(r.cur aA).fr=r.x.lX∧(r.cur aA).to=r.x.upto∧vN G (r.cur aA) pn kk∧kk+6*(r.x.parts.length-j-1)<=k:=by
 obtain⟨j,h1,h2,h3,h4⟩:=h;have hj:j<r.x.parts.length:=by omega
 rcases h4 with⟨e1,e2,e3⟩|⟨y,p,kk,e1,e2,e3,e4,e5,e6,e7⟩
 ·obtain⟨p,hp⟩:∃p,r.x.parts[j]?=some p:=⟨_,Ub hj⟩;have hpk:=hx p (Ue hp)
  have hgd:r.x.parts.getD r.i.toNat ⟨0,0,0,0,0⟩=p:=by
   rw[h1,show((j:Int)).toNat=j from by omega,Kc,hp];rfl
  have hc:r.cur aA=Tk.new aA r.x.bN p.bB r.x.lX r.x.upto:=by
   unfold aP.cur;rw[e1,hgd]
  rw[hc];have hT:=vN.new (G:=G) aA r.x.bN r.x.lX r.x.upto p.bB;have hs:=(hT.sizes hpk.len).2.2;refine⟨j,p,_,h1,hj,h3,hp,hpk,rfl,rfl,rfl,by rw[e2];exact hT,?_⟩
  omega
 ·have hpk:=hx p (Ue e2);have hc:r.cur aA=y:=by unfold aP.cur;rw[e1]
  rw[hc];exact⟨j,p,kk,h1,hj,h3,e2,hpk,e3,e4,e5,e6,cI⟩
theorem xl(h:eD G r.x aA r.one r.i r.got pn k)(hx:mH G b r.x)(hb:b<=100000)(hi:r.i≠(r.x.parts.length:Int))(hal:al aA=false)(hC:dA s.c (pn++ps) al G b)(hS:∀p∈r.x.parts,∃e,aH p.bB s.b.l=some e∧(G p.bB).Ok e.bs):
  ((r.cur aA).row.length<=8∧(r.cur aA).out.length<=8∧((r.cur aA).step s.b s.c).1.out.length<=8)∧
  ((∃one i got Es k' C,r.part s aA=({ r with one:=one,i:=i,got:=got },{ s with c:=C },0)∧eD G r.x aA one i got Es k'∧k'<k∧dA C (Es++ps) al G b∧C.bE.most=s.c.bE.most)∨
   (∃y kk,r.part s aA=({ r with one:=some y },s,6)∧pn=[]∧vN G y [] kk∧s.c.bE.most<=(s.c.bE.res.length:Int)∧∀j a,s.c.pins j=some a->a≠0)):=by
 obtain⟨j,p,kk,h1,h2,h3,h4,h5,h6,h7,h8,h9,h10⟩:=h.cur hx.kS hi;have hlen:(G (r.cur aA).key.bB).L.length<=8:=by rw[h6];exact h5.len
 obtain⟨z1,z2,_⟩:=h9.sizes hlen;have xA:=hx.gQ
 have hwi:wI ((j:Int)+1)=((j+1:Nat):Int):=by
  show IntKind.i64.wrap _=_;rw[jf O0 O0];omega
 rcases h9.step (ps:=ps) (S:=s.b) hC (by rw[h6];exact hal) (by rw[h6];exact h5.Iz) (by rw[h6];exact hS p (Ue h4)) hlen with⟨q1,q2,q3,q4,q5,⟨Es,k',q6,q7,q8⟩|⟨q6,q7⟩⟩|⟨q1,q2,q3,q4⟩
 ·have hz:=q6.sizes (by rw[q2];exact hlen)
  refine⟨⟨z1,z2,hz.2.1⟩,.inl ⟨some ((r.cur aA).step s.b s.c).1,r.i,r.got,Es,k'+6*(r.x.parts.length-j-1),((r.cur aA).step s.b s.c).2.1,?_,?_,cI,q8,q5⟩⟩
  ·rw[aP.part_eq,q1,if_neg (fun e=>e rfl),q6.Hx,if_neg O2]
  ·exact⟨j,h1,cI,h3,.inr ⟨_,p,k',rfl,h4,by rw[q2,h6],by rw[q3,h7],by rw[q4,h8],q6,rfl⟩⟩
 ·have hw:within (G (r.cur aA).key.bB).L (r.cur aA).fr (r.cur aA).to=within (G p.bB).L r.x.lX r.x.upto:=by rw[h6,h7,h8]
  rw[hw] at q6;refine⟨⟨z1,z2,by rw[q6.out];exact F1 h5 _ _⟩,.inl ⟨none,((j+1:Nat):Int),r.got++within (G p.bB).L r.x.lX r.x.upto,[],6*(r.x.parts.length-(j+1)),((r.cur aA).step s.b s.c).2.1,?_,?_,?_,q7,q5⟩⟩
  ·rw[aP.part_eq,q1,if_neg (fun e=>e rfl),q6.done,if_pos rfl,q6.out,h1,hwi]
  ·refine⟨j+1,rfl,h2,?_,.inl ⟨rfl,rfl,rfl⟩⟩;rw[Vk,h4,Xp,h3];show _=_++(within (G p.bB).L r.x.lX r.x.upto++[]);rw[Ux]
  ·have:=h9.pos;omega
 ·have hq:(r.cur aA).step s.b s.c=(r.cur aA,s.c,6):=q1;refine⟨⟨z1,z2,by rw[hq];exact z2⟩,.inr ⟨r.cur aA,kk,?_,q4,by rw[<- q4];exact h9,q2,q3⟩⟩
  rw[aP.part_eq,hq];rfl
end
section
variable{s s' s2:cG}{a:Ag}{A:List Ag}{acc:List aG}{al:Int->Bool}{G G':Int->fZ}{n n':Nat}{r:aP}{ps pn:List bL}{b b':Int}{who aA:Int}{k:Nat}
theorem Inv.look(h:Inv s A acc al G n){id:Int}(h0:0<=id)(h1:id<16):∃(i:Nat) (p:iU),id=(i:Int)∧i<16∧s.d[i]?=some p∧dM.at_ s.d id=some p∧
  ((p.taken=true∧dM.look s.d id=none)∨(p.taken=false∧dM.look s.d id=some p.s∧p.s.cW.tmod 2=0∧acc[i]?=some p.s)):=by
 have hl:=h.dir.len;obtain⟨p,hp⟩:∃p,s.d[id.toNat]?=some p:=⟨_,Ub O0⟩;have gO:dM.at_ s.d id=some p:=by rw[P1 h0 h1];exact hp
 refine⟨id.toNat,p,cI,cI,hp,gO,?_⟩;unfold dM.look;rw[gO];cases ht:p.taken with
 |true=>exact .inl ⟨rfl,if_pos (h.dir.busy _ p hp ht).1⟩
 |false=>
  obtain⟨v1,v2⟩:=h.dir.idle _ p hp ht;exact .inr ⟨rfl,if_neg (by rw[v1];decide),v1,v2⟩
def iT(s:cG)(r:aP):Prop:=∃i:Nat,r.o.aA=(i:Int)∧i<16∧s.d[i]?=some ⟨{ r.slot with cW:=r.slot.cW+1 },true,r.who⟩
def NW(A:List Ag)(o:gR):Prop:=(1<=o.kind∧o.kind<=5∧∃x∈A,∃f,x.flag=some f∧f.1=o.aA)∨((o.kind=6∨o.kind=7)∧∃x∈A,x.use=some o.iter)
theorem Inv.P3(h:Inv s (a::A) acc al G n)(ha:a.flag=none){i:Nat}{p:iU}(hp:s.d[i]?=some p)(ht:p.taken=true):∃x∈A,∃f,x.flag=some f∧f.1=(i:Int):=by
 obtain⟨_,f,hf,he⟩:=h.dir.busy i p hp ht;rw[Ui,ko ha,Us,Xk] at hf;obtain⟨x,hx,hf⟩:=hf;unfold Ag.flags at hf;split at hf
 ·cases hf
 ·rename_i g hg
  rw[Vi] at hf;subst hf;exact⟨x,hx,g,hg,he⟩
theorem fh(h:Inv s (a::A) acc al G n)(ha:a.flag=none)(hw:a.who=r.who)(h0:0<=r.o.aA)(h1:r.o.aA<16)(hn:n+1<=1000000000):
  (r.take s=(r,s,false)∧dM.look s.d r.o.aA=none∧∃x∈A,∃f,x.flag=some f∧f.1=r.o.aA)∨
  ∃(i:Nat) (p:iU),r.o.aA=(i:Int)∧i<16∧s.d[i]?=some p∧p.taken=false∧p.s.cW.tmod 2=0∧dM.look s.d r.o.aA=some p.s∧
   r.take s=({ r with slot:=p.s,flag:=true,ph:=1 },{ s with d:=s.d.set i ⟨{ p.s with cW:=p.s.cW+1 },true,r.who⟩ },true)∧
   Inv { s with d:=s.d.set i ⟨{ p.s with cW:=p.s.cW+1 },true,r.who⟩ } ({ a with flag:=some (r.o.aA,p.s) }::A) acc al G (n+1)∧
   iT { s with d:=s.d.set i ⟨{ p.s with cW:=p.s.cW+1 },true,r.who⟩ } { r with slot:=p.s,flag:=true,ph:=1 }∧
   dN r.who s { s with d:=s.d.set i ⟨{ p.s with cW:=p.s.cW+1 },true,r.who⟩ }∧abs { s with d:=s.d.set i ⟨{ p.s with cW:=p.s.cW+1 },true,r.who⟩ } G=abs s G:=by
 obtain⟨i,p,e,hi,hp,gO,⟨ht,hl⟩|⟨ht,hl,hv,hacc⟩⟩:=h.look h0 h1
 ·refine .inl ⟨?_,hl,?_⟩
  ·unfold aP.take;rw[hl]
  ·obtain⟨x,hx,f,hf,he⟩:=h.P3 ha hp ht;exact⟨x,hx,f,hf,he.trans e.symm⟩
 ·obtain⟨_,_,v0,v1,_⟩:=h.dir.ok i p hp;have P4:wI (p.s.cW+1)=p.s.cW+1:=jf O0 O0
  have yL:dM.take s.d r.o.aA r.who=some (s.d.set i ⟨{ p.s with cW:=p.s.cW+1 },true,r.who⟩):=by
   unfold dM.take;rw[gO];dsimp only;rw[ht,if_neg O2,P4,e,show((i:Int)).toNat=i from by omega]
  have hI:=h.take ha hp ht hn;rw[<- e] at hI;refine .inr ⟨i,p,e,hi,hp,ht,hv,hl,?_,(by rw[<- hw];exact hI),⟨i,e,hi,ve hp⟩,dN.here hp (.inl ht) rfl rfl,?_⟩
  ·unfold aP.take;rw[hl];dsimp only;rw[yL]
  ·unfold abs;rw[show dJ (s.d.set i ⟨{ p.s with cW:=p.s.cW+1 },true,r.who⟩) G=dJ s.d G from Et hp hi rfl]
theorem iT.ok(h:Inv s A acc al G n)(hf:iT s r):cL G s.b.last r.slot∧(r.slot.chunks.length:Int)<=s.b.last∧0<=r.slot.bN∧r.slot.bN<=n∧dJ s.d G r.o.aA=r.slot.cX G:=by
 obtain⟨i,e,hi,hd⟩:=hf;obtain⟨h1,h2,h3,h4,h5,h6⟩:=h.dir.ok i _ hd;exact⟨h1.cW r.slot.cW,h2,h5,h6,by rw[e,nH hd hi];rfl⟩
theorem uo(h:Inv s (a::A) acc al G n)(hf:iT s r)(hw:a.who=r.who){x sl:aG}(ha:a.flag=some (r.o.aA,x))(hok:cL G s.b.last sl)(e1:sl.chunks=x.chunks)(e2:sl.aQ=x.aQ)(vI:0<=sl.bN)(rV:sl.bN<=n)(hn:n+1<=1000000000):
  ∃D acc',r.cF s sl=({ r with flag:=false },{ s with d:=D })∧Inv { s with d:=D } ({ a with flag:=none }::A) acc' al G (n+1)∧dN r.who s { s with d:=D }∧dJ D G=qZ (dJ s.d G) r.o.aA (sl.cX G):=by
 obtain⟨i,e,hi,hd⟩:=hf;rw[e] at ha;obtain⟨p,hp,A2,GB,FW,NO,Ap,hI⟩:=h.Kp ha hok e1 e2 vI rV hn;have hn0:=h.FX;have P4:wI (p.s.cW+1)=p.s.cW+1:=jf O0 O0;refine⟨s.d.set i ⟨{ sl with cW:=p.s.cW+1 },false,0⟩,_,?_,hI,dN.here hp (.inr (GB.trans hw)) rfl rfl,?_⟩
 ·unfold aP.cF
  have:dM.leave s.d r.o.aA r.who sl=some (s.d.set i ⟨{ sl with cW:=p.s.cW+1 },false,0⟩):=by
   unfold dM.leave;rw[e,tl hi,hp];dsimp only;rw[if_pos ⟨A2,GB.trans hw⟩,P4,show((i:Int)).toNat=i from by omega]
  rw[this];rfl
 ·rw[e,zS hp hi];rfl
def mV(G:Int->fZ)(b:Int)(L:List bZ)(id:Int):fZ:=if id=b+1 then⟨1,L⟩ else G id
theorem bz{L:List bZ}:∀id,id<=b->mV G b L id=G id:=fun id h=>if_neg O0
theorem kg{L:List bZ}:mV G b L (b+1)=⟨1,L⟩:=if_pos rfl
theorem ar{S:eR}{cnt:Int->Nat}{ch k:Nat}{L:List bZ}(h:cV S cnt ch G)(hb:S.last<=100000)(hk:L.length=k)(hk1:1<=k)(Ld:k<=8)(hc:k<=ch)(hwf:∀x∈L,x.Wf)(hr:jY L):
  ∃bs,dG 1 L=some bs∧(fO bs).map (·.1)=some ⟨1,L.length,fV L,eG L⟩∧
  ((((S.jD (-(16*(k:Int)))).2.add bs=none)∧((S.jD (-(16*(k:Int)))).2.jD (16*(k:Int))).2=S∧S.room+16*(k:Int)<bs.length)∨
   ∃S',(S.jD (-(16*(k:Int)))).2.add bs=some (S',S.last+1)∧cV S' (fun j=>cnt j+if S.last+1=j then 1 else 0) (ch-k) (mV G S.last L)∧S'.last=S.last+1∧S'.bA=S.bA):=by
 have hne:L≠[]:=fun e=>by rw[e] at hk;simp at hk;omega
 obtain⟨bs,m1,m2,m3⟩:=made hne hwf hr O0;refine⟨bs,m1,m3,?_⟩;obtain⟨f1,f2⟩:=h.free k hc O0;rw[f1];dsimp only;rcases f2.add (G':=mV G S.last L) (bs:=bs) (iD:=fun j=>cnt j+if S.last+1=j then 1 else 0) (by show S.last<_;unfold Er;omega) (by show((mV G S.last L) (S.last+1)).Ok bs;rw[kg];exact m2) (fun id hid=>bz id hid) (fun j=>rfl) with⟨a1,a2⟩|⟨S',a1,a2,a3,a4,_⟩
 ·refine .inl ⟨a1,?_,?_⟩
  ·have ho:=h.ok;have xR:=h.jD;rcases f2.nQ k O0 with⟨c1,c2⟩|⟨S',c1,c2,_⟩
   ·exfalso;have e:(({ S with aR:=S.aR-16*(k:Int) }:eR)).room=S.bA-S.bytes-(S.aR-16*(k:Int)):=rfl
    have:=ho.sum;omega
   ·rw[c1,c2];show({ S with aR:=S.aR-16*(k:Int)+16*(k:Int) }:eR)=S
    rw[show S.aR-16*(k:Int)+16*(k:Int)=S.aR by omega]
  ·have e:(({ S with aR:=S.aR-16*(k:Int) }:eR)).room=S.bA-S.bytes-(S.aR-16*(k:Int)):=rfl
   have e':S.room=S.bA-S.bytes-S.aR:=rfl;omega
 ·exact .inr ⟨S',a1,a2,a3,a4⟩
theorem nj{cnt:Int->Nat}{ch:Nat}(h:cV s.b cnt ch G)(hb:s.b.last<=100000)(hk1:1<=r.next.aQ.length)(Ld:r.next.aQ.length<=8)(hc:r.next.aQ.length<=ch)(hwf:∀x∈r.next.aQ,x.Wf)(hr:jY r.next.aQ):
  (r.close s=(r,s,false)∧∃bs,dG 1 r.next.aQ=some bs∧s.b.room+16*(r.next.aQ.length:Int)<bs.length)∨
  ∃S',r.close s=({ r with next:=r.next.shut (partOf (s.b.last+1) r.next.aQ) },{ s with b:=S' },true)∧cV S' (fun j=>cnt j+if s.b.last+1=j then 1 else 0) (ch-r.next.aQ.length) (mV G s.b.last r.next.aQ)∧S'.last=s.b.last+1∧S'.bA=s.b.bA:=by
 obtain⟨bs,m1,m2,m3⟩:=ar h hb rfl hk1 Ld hc hwf hr;have hz:r.next.size=16*(r.next.aQ.length:Int):=by show IntKind.i64.wrap _=_;exact jf O0 O0
 have Ib:wI (0-16*(r.next.aQ.length:Int))=-(16*(r.next.aQ.length:Int)):=by show IntKind.i64.wrap _=_;rw[jf O0 O0];omega
 unfold aP.close;rw[hz,m1];dsimp only[Option.getD];rw[Ib];rcases m3 with⟨k1,k2,k3⟩|⟨S',k1,k2⟩
 ·refine .inl ⟨?_,bs,rfl,k3⟩;rw[k1];dsimp only;rw[k2]
 ·refine .inr ⟨S',?_,k2⟩;rw[k1];dsimp only;rw[m2];rfl
theorem F4{S:eR}{L:List bZ}(h0:0<=S.last)(hne:L≠[])(hl:L.length<=8)(hwf:∀x∈L,x.Wf)(hr:jY L):gE (mV G S.last L) (S.last+1) (partOf (S.last+1) L):=by
 have e:mV G S.last L (partOf (S.last+1) L).bB=⟨1,L⟩:=kg;exact⟨by show 1<=S.last+1;omega,Ut _,by rw[e];exact hne,by rw[e];exact hwf,by rw[e];exact hr,by rw[e];exact hl,by rw[e];rfl,by rw[e];rfl,by rw[e];rfl,by rw[e];rfl⟩
end
section
variable{s s' s2:cG}{a:Ag}{A:List Ag}{acc:List aG}{al:Int->Bool}{G G':Int->fZ}{n n':Nat}{r:aP}{ps pn:List bL}{b b':Int}{who aA:Int}{k:Nat}
def aP.need(r:aP)(s:cG):Nat:=
 if r.o.kind=2 then 3+6*(match dM.at_ s.d r.o.aA with|none=>0|some p=>p.s.chunks.length)
 else if r.o.kind=6 then 2+6*(match aH r.o.iter s.t.l with|none=>0|some o=>o.x.parts.length)
 else if r.o.kind=5∨r.o.kind=7 then 1 else 3
structure pH(al:Int->Bool)(r:aP):Prop where
 over:r.over=false
 bad:aP.bad r.o=false
 wf:r.o.Wf
 al:r.o.kind<=5->al r.o.aA=false
 s4:r.slot.aQ.length<=8
 s5:r.slot.chunks.length<=100000
 n4:r.next.aQ.length<=8
 n5:r.next.chunks.length<=100000
 xp:r.x.parts.length<=100000
 f0:0<=r.dH
 f3:r.dH<=3
structure aP.F5(r:aP):Prop where
 using_:r.using_=false
 held:r.held=false
 one:r.one=none
 i:r.i=0
 got:r.got=[]
def NX(G:Int->fZ)(r:aP):Prop:=∀m:qI,m.oB r.o.aA=r.slot.cX G->m.act r.o=({ m with oB:=qZ m.oB r.o.aA (r.next.cX G) },⟨0,0,[]⟩)
abbrev aP.Cc(r:aP):Prop:=r.o.kind=1∨r.o.kind=3∨r.o.kind=4
def aP.cap(r:aP):Int:=min (max r.o.N 0) 1000
def aP.oK(r:aP):Int:=if(r.o.kind=1∨r.o.kind=3∨r.o.kind=4)∧r.ph=1 then 1 else 0
inductive Rel(G:Int->fZ)(s:cG)(r:aP):Ag->Nat->Prop
 |idle (h0:r.ph=0) (hf:r.flag=false) (hb:r.F5):Rel G s r (Ag.idle r.who) (r.need s)
 |make (hk:r.Cc) (h0:r.ph=1) (hf:r.flag=true) (hb:r.F5) (hd:iT s r):Rel G s r ⟨r.who,some (r.o.aA,r.slot),[],[],none,none⟩ 2
 |put (hk:r.Cc) (h0:r.ph=3) (hf:r.flag=true) (hb:r.F5) (hd:iT s r) (hs:cL G s.b.last r.next) (vI:0<=r.next.bN) (hl:r.next.bN<=r.slot.bN+1) (he:NX G r):Rel G s r ⟨r.who,some (r.o.aA,r.next),[],[],none,none⟩ 1
 |hard (hk:r.o.kind=2) (h0:r.ph=1) (hf:r.flag=true) (hb:r.F5) (hd:iT s r):Rel G s r ⟨r.who,some (r.o.aA,r.slot),[],[],none,none⟩ (2+6*r.slot.chunks.length)
 |read (hk:r.o.kind=2) (hh:r.held=true) (hu:r.using_=false) {sl:aG} {fl se:Option (Int×aG)} {pn:List bL} {k:Nat}
   (mW:(r.flag=true∧iT s r∧sl=r.slot∧fl=some (r.o.aA,r.slot)∧se=none)∨(r.flag=false∧fl=none∧se=some (r.o.aA,sl)∧r.dH<=2))
   (ht:sl.there=true) (hs:cL G s.b.last sl) (hx:r.x=sl.snap r.o.F r.o.To) (hp:eD G r.x r.o.aA r.one r.i r.got pn k)
   (xQ:(r.ph=2∧r.i≠(r.x.parts.length:Int))∨(r.ph=3∧r.i=(r.x.parts.length:Int))):Rel G s r ⟨r.who,fl,r.x.parts,pn,none,se⟩ (k+1)
 |next (hk:r.o.kind=6) (hf:r.flag=false) (hh:r.held=false) (hu:r.using_=true) {o:On} {pn:List bL} {k:Nat}
   (hg:aH r.o.iter s.t.l=some o) (Ks:o.used=true) (how:o.who=r.who) (ID:o.x=r.x) (bK:o.told=r.told) (hp:eD G r.x o.aA r.one r.i r.got pn k) (hn0:r.cap≠0)
   (xQ:(r.ph=2∧r.i≠(r.x.parts.length:Int)∧(r.got.length:Int)<r.told+r.cap)∨(r.ph=3∧r.one=none∧pn=[]∧(r.i=(r.x.parts.length:Int)∨r.told+r.cap<=(r.got.length:Int)))):Rel G s r ⟨r.who,none,[],pn,some r.o.iter,none⟩ (k+1)
theorem Hy(c:Prop)[Decidable c]:(if c then(3:Int) else 2)≠0:=by split <;> decide
def kV(A:List Ag)(C:eC):Prop:=∃ks:List bL,ks.Nodup∧C.bE.most<=(ks.length:Int)∧∀k∈ks,k∈A.flatMap Ag.pins
theorem sO{C:eC}(hC:dA C (A.flatMap Ag.pins) al G b)(h1:C.bE.most<=(C.bE.res.length:Int))(h2:∀j a,C.pins j=some a->a≠0):kV A C:=by
 refine⟨keys C.bE.res,hC.good.bE.gY,by unfold keys;rw[Vf];exact h1,fun k hk=>?_⟩
 cases hp:C.pins k with
 |none=>exact absurd hk (dD.1 hp)
 |some x=>
  have h3:=hC.fS k x hp;have h4:=h2 k x hp;exact List.count_pos_iff.1 O0
inductive U3(A:List Ag)(al:Int->Bool)(s:cG)(G:Int->fZ)(r:aP)(k:Nat)(a':Ag)(G':Int->fZ)(q:aP×cG×Int):Prop
 |none (h:q=(r,s,0)) (hp:r.ph=0) (hb:NW A r.o)
 |some (h:q.2.2=1) (ho:pH al q.1) (k':Nat) (hr:Rel G' q.2.1 q.1 a' k') (hk:(k'<k∧q.1.dH=r.dH∧q.1.ph≠0)∨(r.o.kind=2∧q.1.ph=0∧q.1.dH=r.dH+1∧k=1∧r.flag=false)) (ha:abs q.2.1 G'=abs s G) (hw:r.Cc->(r.ph=0∧q.1.ph=1∧q.2.1.b=s.b∧dM.look s.d r.o.aA=Option.some q.1.slot)∨(r.ph=1∧q.1.ph=3))
 |gF (h:q.2.2=2) (ho:q.1.over=true) (hh:q.1.holds=0) (ha':a'=Ag.idle r.who) (ha:(abs s G).act r.o=(abs q.2.1 G',q.1.res))
 |full (h:q.2.2=3) (h1:r.ph=1) (ho:q.1.over=true) (hh:q.1.holds=0) (ha':a'=Ag.idle r.who) (ha:abs q.2.1 G'=abs s G) (he:q.1.res=⟨9,0,[]⟩) (hs:q.2.1.b=s.b) (hw:(r.o.kind=1∧(s.b.room<16∨r.slot.aQ.length=7))∨(r.o.kind=3∧r.slot.aQ≠[])) (hroom:s.b.room<300)
 |busy (h:q.2.2=3) (ho:q.1.over=true) (hh:q.1.holds=0) (ha':a'=Ag.idle r.who) (ha:abs q.2.1 G'=abs s G) (he:q.1.res=⟨6,0,[]⟩) (hc:kV A s.c) (hr:r.o.kind=2∨r.o.kind=6)
structure Out(A:List Ag)(al:Int->Bool)(s:cG)(G:Int->fZ)(n:Nat)(r:aP)(k:Nat)(q:aP×cG×Int)(a':Ag)(acc':List aG)(G':Int->fZ):Prop where
 inv:Inv q.2.1 (a'::A) acc' al G' (n+2)
 same:∀id,id<=s.b.last->G' id=G id
 le:s.b.last<=q.2.1.b.last
 U4:q.2.1.b.last<=s.b.last+r.oK
 tag:∀id,s.b.last<id->id<=q.2.1.b.last->(G' id).tag=1∧(G' id).L.length<=8
 keeps:dN r.who s q.2.1
 who:q.1.who=r.who
 o:q.1.o=r.o
 most:q.2.1.c.bE.most=s.c.bE.most
 bA:q.2.1.b.bA=s.b.bA
 Gy:U3 A al s G r k a' G' q
theorem Inv.fits(h:Inv s A acc al G n):dM.Fits s.d:=by
 intro p hp;obtain⟨i,hi⟩:=We.1 hp;obtain⟨h1,h2,_⟩:=h.dir.ok i p hi;have:=h1.gQ;have:=h.last;omega
theorem Inv.Hz(h:Inv s A acc al G n):aH (wI (s.b.last+1)) s.b.l=none:=by
 have h0:=h.b0;have h1:=h.last;have hw:wI (s.b.last+1)=s.b.last+1:=jf (by have:=h.b0;dsimp only[List.length] at this;omega) O0
 rw[hw];exact dD.2 fun hk=>by have:=(h.oM.Gz _ hk).2;omega
theorem Inv.F6(h:Inv s (a::A) acc al G n){i:Nat}{x:aG}(ha:a.flag=some ((i:Int),x)):acc[i]?=some x:=by
 have hd:=h.dir;rw[Ui,ud ha] at hd;obtain⟨_,_,p,_,_,_,hpa⟩:=hd.GA _ (Ud ..);exact hpa
theorem F7{α:Type}(f:α->Nat){l:List α}{i:Nat}{x:α}(h:l[i]?=some x):f x<=fC f l:=DL f (Ue h)
theorem jr{m:qI}{o:gR}(hb:aP.bad o=false)(h6:o.kind≠6)(h7:o.kind≠7):m.act o=match m.oB o.aA with
  |none=>if o.kind=1 then({ m with oB:=qZ m.oB o.aA (some (false,[⟨o.T,(o.V:Int)⟩])) },⟨0,0,[]⟩) else m.err 3
  |some (cl,L)=>
   if o.kind=1 then if cl then m.err 2 else if o.T<=eG L then m.err 1 else({ m with oB:=qZ m.oB o.aA (some (false,L++[⟨o.T,(o.V:Int)⟩])) },⟨0,0,[]⟩)
   else if o.kind=2 then(m,⟨0,0,within L o.F o.To⟩)
   else if o.kind=3 then if cl then m.err 2 else({ m with oB:=qZ m.oB o.aA (some (true,L)) },⟨0,0,[]⟩)
   else if o.kind=4 then({ m with oB:=qZ m.oB o.aA none },⟨0,0,[]⟩)
   else if m.its.length ≥ 8 then m.err 5
   else({ m with its:=m.its++[(m.next+1,within L o.F o.To)],next:=m.next+1 },⟨0,m.next+1,[]⟩):=by
 unfold qI.act;rw[hb,if_neg O2,if_neg h6,if_neg h7];all_goals rfl
theorem yp(r:aP):(r.slot.there=false∧r.o.kind≠1∧r.wrong=3)∨(r.slot.there=true∧r.o.kind≠4∧r.slot.closed=true∧r.wrong=2)∨
  (r.slot.there=true∧r.slot.closed=false∧r.o.kind=1∧r.o.T<=r.slot.last∧r.wrong=1)∨
  (r.wrong=0∧(r.o.kind≠1->r.slot.there=true)∧(r.slot.there=true->r.o.kind≠4->r.slot.closed=false)∧(r.o.kind=1->r.slot.there=true->r.slot.any=true->r.slot.last<r.o.T)):=by
 obtain⟨w,hw⟩:∃w,r.wrong=w:=⟨_,rfl⟩;have hw':=hw;rw[hw];unfold aP.wrong at hw';by_cases c1:r.o.kind≠1∧r.slot.there=false
 ·rw[if_pos c1] at hw';exact .inl ⟨c1.2,c1.1,hw'.symm⟩
 ·rw[if_neg c1] at hw';by_cases c2:r.o.kind≠4∧r.slot.there=true∧r.slot.closed=true
  ·rw[if_pos c2] at hw';exact .inr (.inl ⟨c2.2.1,c2.1,c2.2.2,hw'.symm⟩)
  ·rw[if_neg c2] at hw';by_cases c3:r.o.kind=1∧r.slot.there=true∧r.slot.any=true∧r.o.T<=r.slot.last
   ·rw[if_pos c3] at hw';refine .inr (.inr (.inl ⟨c3.2.1,?_,c3.1,c3.2.2.2,hw'.symm⟩));rw[<- Ko];exact fun h=>c2 ⟨by have:=c3.1;omega,c3.2.1,h⟩
   ·rw[if_neg c3] at hw';refine .inr (.inr (.inr ⟨hw'.symm,fun h=>?_,fun h1 h2=>?_,fun h1 h2 h3=>?_⟩))
    ·cases ht:r.slot.there with
     |true=>rfl
     |false=>exact absurd ⟨h,ht⟩ c1
    ·rw[<- Ko];exact fun h=>c2 ⟨h2,h1,h⟩
    ·exact Xc fun h=>c3 ⟨h1,h2,h3,cI⟩
theorem fd(h:r.slot.there=false):r.slot.cX G=none:=by unfold aG.cX;rw[h];rfl
theorem ku(h:r.slot.there=true):r.slot.cX G=some (r.slot.closed,r.slot.all G):=by unfold aG.cX;rw[h];rfl
theorem rq{m:qI}(hk:r.Cc)(hb:aP.bad r.o=false)(hs:cL G b r.slot)(hm:m.oB r.o.aA=r.slot.cX G)(hw:r.wrong≠0):m.act r.o=(m,⟨r.wrong,0,[]⟩):=by
 have h6:r.o.kind≠6:=by rcases hk with h|h|h <;> omega
 have h7:r.o.kind≠7:=by rcases hk with h|h|h <;> omega
 have h2:r.o.kind≠2:=by rcases hk with h|h|h <;> omega
 have h5:r.o.kind≠5:=by rcases hk with h|h|h <;> omega
 rw[jr hb h6 h7,hm];rcases yp r with⟨h1,hk1,hw1⟩|⟨h1,hk1,hc,hw1⟩|⟨h1,hc,hk1,hT,hw1⟩|⟨hw1,_⟩
 ·rw[fd h1,hw1];dsimp only;rw[if_neg hk1];rfl
 ·rw[ku h1,hw1,hc];dsimp only;by_cases h1:r.o.kind=1
  ·rw[if_pos h1,if_pos rfl];rfl
  ·rw[if_neg h1,if_neg h2,if_pos (by rcases hk with h|h|h;exact absurd h h1;exact h;exact absurd h hk1),if_pos rfl];rfl
 ·rw[ku h1,hw1,hc];dsimp only;rw[if_pos hk1,if_neg O2,if_pos (by rw[<- (hs.yes h1).2.2];exact hT)];rfl
 ·exact absurd hw1 hw
theorem add_eq(hk:r.o.kind=1)(hs:cL G b r.slot)(hw:r.wrong=0):
  (if r.slot.there then r.slot else { aG.zero with there:=true,bN:=r.slot.bN }:aG).add ⟨r.o.T,(r.o.V:Int)⟩=r.slot.more ⟨r.o.T,(r.o.V:Int)⟩∧(r.slot.there=true->r.slot.closed=false)∧(r.slot.all G=[]∨eG (r.slot.all G)<r.o.T):=by
 rcases yp r with⟨_,_,hw1⟩|⟨_,_,_,hw1⟩|⟨_,_,_,_,hw1⟩|⟨_,_,xP,hT⟩
 ·rw[hw] at hw1;cases hw1
 ·rw[hw] at hw1;cases hw1
 ·rw[hw] at hw1;cases hw1
 unfold aG.more;cases ht:r.slot.there with
 |false=>
  obtain⟨h1,h2⟩:=hs.no ht;refine⟨?_,fun h=>(by cases h),.inl ?_⟩
  ·rw[if_neg O2,h1];rfl
  ·unfold aG.all;rw[h1,h2];rfl
 |true=>
  obtain⟨ha,hne,jE⟩:=hs.yes ht;have hT:=hT hk ht ha;refine⟨?_,fun _=>xP ht O0,.inr (by rw[<- jE];exact hT)⟩
  rw[if_pos rfl];unfold aG.add;rw[if_neg (fun h=>by have:=h.2;dsimp only at this;omega)]
theorem bx{x:bZ}{sl:aG}(hs:cL G b sl)(hx:x.Wf)(hr:sl.all G=[]∨eG (sl.all G)<x.T)(xP:sl.there=true->sl.closed=false):
  jY (sl.all G++[x])∧(∀y∈(sl.more x).aQ,y.Wf)∧jY (sl.more x).aQ∧(sl.more x).closed=false∧(sl.more x).cX G=some (false,sl.all G++[x]):=by
 obtain⟨e1,e2,e3,e4,e5,e6⟩:=hs.xI x;have hall:=hs.sL x;have jU:=ae hs.xH hr
 have hc:(sl.more x).closed=false:=by
  unfold aG.more;cases ht:sl.there with
  |true=>exact xP ht
  |false=>rfl
 refine⟨jU,fun y hy=>?_,?_,hc,?_⟩
 ·rw[e1] at hy;rcases Vc.1 hy with hy|hy
  ·exact hs.wf y hy
  ·rw[Vi] at hy;rw[hy];exact hx
 ·rw[e1];refine jU.sublist ?_;unfold aG.all;rw[Uo];exact List.sublist_append_right _ _
 ·unfold aG.cX;rw[e3,if_pos rfl,hc,hall]
theorem U5{x:bZ}{sl:aG}(hs:cL G b sl)(hx:x.Wf)(hr:sl.all G=[]∨eG (sl.all G)<x.T)(xP:sl.there=true->sl.closed=false)(h7:sl.aQ.length<7):cL G b (sl.more x):=by
 obtain⟨e1,e2,e3,e4,e5,e6⟩:=hs.xI x;have hall:=hs.sL x;obtain⟨m1,m2,m3,m4,m5⟩:=bx hs hx hr xP;exact⟨fun h=>(by rw[e3] at h;cases h),fun _=>⟨e4,by rw[hall];exact Ze _ (List.cons_ne_nil _ _),by rw[e5,hall,nY]⟩,by rw[e1,Ua];show _+1<=7;omega,fun h=>(by rw[m4] at h;cases h),m2,fun p hp=>hs.kS p (by rw[<- e2];exact hp),by rw[hall];exact m1⟩
theorem lq{sl:aG}{p:gP}(ht:sl.there=true)(ha:sl.any=true)(hl:sl.last=eG (sl.all G))(hne:sl.all G≠[])(hr:jY (sl.all G))(hp:gE G b p)(hps:∀q∈sl.chunks,gE G b q)(he:(G p.bB).L=sl.aQ):cL G b (sl.shut p):=by
 have hall:=sl.xJ he;refine⟨fun h=>?_,fun _=>⟨ha,by rw[hall];exact hne,by rw[hall];exact hl⟩,Uf _,fun _=>rfl,fun x hx=>(by cases hx),fun q hq=>?_,by rw[hall];exact hr⟩
 ·have h':sl.there=false:=h;rw[ht] at h';cases h'
 ·rcases Vc.1 (show q∈sl.chunks++[p] from hq) with hq|hq
  ·exact hps q hq
  ·rw[Vi] at hq;rw[hq];exact hp
end
section
variable{s s' s2:cG}{a:Ag}{A:List Ag}{acc:List aG}{al:Int->Bool}{G G':Int->fZ}{n n':Nat}{r:aP}{ps pn:List bL}{b b':Int}{who aA:Int}{k:Nat}
theorem iE(h1:r.flag=false)(h2:r.using_=false)(h3:r.held=false):r.holds=0:=by unfold aP.holds;rw[h1,h2,h3];rfl
theorem RB(hk:r.Cc):r.o.kind≠2∧r.o.kind≠5∧r.o.kind≠6∧r.o.kind≠7∧1<=r.o.kind∧r.o.kind<=5:=by rcases hk with h|h|h <;> omega
theorem xe(hb:aP.bad r.o=false)(h1:1<=r.o.kind)(h5:r.o.kind<=5):0<=r.o.aA∧r.o.aA<16:=by
 unfold aP.bad at hb;rw[if_pos ⟨h1,h5⟩,Zl,decide_eq_false_iff_not,decide_eq_false_iff_not] at hb;omega
theorem rj(hI:Inv s (a::A) acc al G n)(hr:pH al r)(hk:r.Cc)(hd:iT s r)(hw:r.wrong=0)(ha:a=⟨r.who,some (r.o.aA,r.slot),[],[],none,none⟩)(hn:n+2<=1000000000)(hb:s.b.last<100000):
  (∃nx,r.make s=({ r with next:=nx },s,false)∧((r.o.kind=1∧(s.b.room<16∨r.slot.aQ.length=7))∨(r.o.kind=3∧r.slot.aQ≠[]))∧s.b.room<300)∨
  ∃nx S' G' acc',r.make s=({ r with next:=nx },{ s with b:=S' },true)∧Inv { s with b:=S' } ({ a with flag:=some (r.o.aA,nx) }::A) acc' al G' n∧(∀id,id<=s.b.last->G' id=G id)∧s.b.last<=S'.last∧S'.last<=s.b.last+1∧S'.bA=s.b.bA∧
   cL G' S'.last nx∧0<=nx.bN∧nx.bN<=r.slot.bN+1∧NX G' { r with next:=nx }∧nx.aQ.length<=8∧nx.chunks.length<=100000∧∀id,s.b.last<id->id<=S'.last->(G' id).tag=1∧(G' id).L.length<=8:=by
 obtain⟨hs,xR,vI,rV,rA⟩:=hd.ok hI;obtain⟨n2,n5,n6,n7,k1,k5⟩:=RB hk;obtain⟨i,e,hi,X7⟩:=hd;have Lo:a.flag=some ((i:Int),r.slot):=by rw[ha,<- e]
 have hacc:=hI.F6 Lo;have hb0:0<=s.b.last:=hI.oM.ok.l0;have P5:r.slot.aQ.length<=lK acc:=F7 (fun x:aG=>x.aQ.length) hacc;have jU:jY r.slot.aQ:=hs.xH.sublist (by unfold aG.all;exact List.sublist_append_right _ _)
 unfold aP.make;dsimp only
 obtain⟨w3,w4,w5⟩:(r.o.kind≠1->r.slot.there=true)∧(r.slot.there=true->r.o.kind≠4->r.slot.closed=false)∧True:=by
  rcases yp r with⟨_,_,hw1⟩|⟨_,_,_,hw1⟩|⟨_,_,_,_,hw1⟩|⟨_,q1,q2,_⟩
  ·rw[hw] at hw1;cases hw1
  ·rw[hw] at hw1;cases hw1
  ·rw[hw] at hw1;cases hw1
  ·exact⟨q1,q2,trivial⟩
 by_cases hk1:r.o.kind=1
 ·rw[if_pos hk1];obtain⟨uY,xP,hT⟩:=add_eq hk1 hs hw;have MG:(⟨r.o.T,(r.o.V:Int)⟩:bZ).Wf:=⟨hr.wf.2.2.2.1,⟨gH,by have:=hr.wf.2.2.2.2.1;dsimp only;omega⟩⟩
  obtain⟨x,hx⟩:∃x:bZ,(⟨r.o.T,(r.o.V:Int)⟩:bZ)=x:=⟨_,rfl⟩;have U6:x.T=r.o.T:=by rw[<- hx]
  rw[hx] at uY MG;rw[<- U6] at hT;obtain⟨m1,m2,m3,m4,m5⟩:=bx hs MG hT xP;obtain⟨f1,f2,f3,f4,f5,f6⟩:=hs.xI x;have RC:=hs.sL x;have RD:(r.slot.more x).aQ.length=r.slot.aQ.length+1:=by rw[f1,Ua];rfl
  have h7:=hs.gQ
  have F8:∀(nx:aG) (G2:Int->fZ),r.slot.cX G2=r.slot.cX G->nx.cX G2=some (false,r.slot.all G++[x])->NX G2 { r with next:=nx }:=by
   intro nx G2 Gv EO m hm;dsimp only at hm ⊢;rw[jr hr.bad n6 n7,hm,Gv,EO,hx];cases ht:r.slot.there with
   |false=>
    rw[fd ht];obtain⟨h1,h2⟩:=hs.no ht;have he:r.slot.all G=[]:=by unfold aG.all;rw[h1,h2];rfl
    rw[he];dsimp only;rw[if_pos hk1];rfl
   |true=>
    rw[ku ht,xP ht];dsimp only;rw[if_pos hk1,if_neg O2,if_neg];intro hle;rcases hT with hT|hT
    ·exact(hs.yes ht).2.1 hT
    ·omega
  have iX:∀z,({ r with next:=r.slot }:aP).add z=match z.b.jD 16 with
    |(false,_)=>({ r with next:=r.slot.more x },z,false)
    |(true,b)=>if(r.slot.more x).aQ.length<8 then({ r with next:=r.slot.more x },{ z with b:=b },true)
     else match ({ r with next:=r.slot.more x }:aP).close { z with b:=b } with
      |(r,s,true)=>(r,s,true)
      |(r,s,false)=>(r,{ s with b:=(s.b.jD (-16)).2 },false):=by
   intro z;unfold aP.add;dsimp only;rw[hx,uY];rfl
  rw[iX];rcases hI.oM.nQ 1 O0 with⟨c1,c2⟩|⟨S1,c1,c2,c3,c4⟩
  ·have uV:s.b.jD 16=(false,s.b):=c1;rw[uV];exact .inl ⟨_,rfl,.inl ⟨hk1,.inl O0⟩,cI⟩
  ·have uV:s.b.jD 16=(true,S1):=c1;rw[uV];dsimp only;have Kt:S1.last=s.b.last:=by rw[c2]
   have M3:S1.bA=s.b.bA:=by rw[c2]
   by_cases h8:(r.slot.more x).aQ.length<8
   ·rw[if_pos h8];have hok:=U5 hs MG hT xP O0;have CY:=xi (y:=r.slot.more x) hacc
    have sP:=hI.nZ (y:=r.slot.more x) (S:=S1) (G':=G) (n':=n) Lo (by
     have hc0:lK (acc.set i (r.slot.more x))=lK acc+1:=by omega
     rw[hc0];refine c3.eqv fun id=>?_;have:=zx (y:=r.slot.more x) (A:=a::A) hacc s.t id;rw[f2] at this
     omega) O0 O0 (fun _ _=>rfl) (Ug _) O0 (by rw[f2,Kt];exact xR) O0
    rw[<- e] at sP;exact .inr ⟨_,S1,G,_,rfl,sP,fun _ _=>rfl,cI,cI,M3,by rw[Kt];exact hok,by rw[f6];exact vI,by rw[f6];omega,F8 _ _ rfl m5,cI,by rw[f2];exact hr.s5,fun _ h1 h2=>by omega⟩
   ·rw[if_neg h8];have U7:r.slot.aQ.length=7:=by omega
    rcases nj (s:={ s with b:=S1 }) (r:={ r with next:=r.slot.more x }) (cnt:=dI acc (a::A) s.t) (ch:=lK acc+1) (G:=G) c3 GH GH GH GH m2 m3 with⟨k1,bs,P6,P7⟩|⟨S',k1,k2,k3,k4⟩
    ·have Gu:=nX P6
     (try dsimp only at Gu P7)
     have hroom:S1.room=s.b.room-16:=by
      rw[c2];show s.b.bA-s.b.bytes-(s.b.aR+16*((1:Nat):Int))=s.b.bA-s.b.bytes-s.b.aR-16;omega
     rw[k1];dsimp only;have hf:=(c3.free 1 O0 O0).1;have hf':S1.jD (-16)=(true,{ S1 with aR:=S1.aR-16 }):=hf
     rw[hf',c2];refine .inl ⟨r.slot.more x,?_,.inl ⟨hk1,.inr U7⟩,cI⟩;show(({ r with next:=r.slot.more x }:aP),({ s with b:={ s.b with aR:=s.b.aR+16*((1:Nat):Int)-16 } }:cG),false)=_
     rw[show s.b.aR+16*((1:Nat):Int)-16=s.b.aR by omega]
    ·dsimp only at k1 k2 k3 k4 ⊢;rw[Kt] at k1 k2 k3;rw[k1];dsimp only;have hpk:gE (mV G s.b.last (r.slot.more x).aQ) (s.b.last+1) (partOf (s.b.last+1) (r.slot.more x).aQ):=F4 hb0 (by rw[f1];exact Ze _ (List.cons_ne_nil _ _)) O0 m2 m3
     have hold:∀id,id<=s.b.last->mV G s.b.last (r.slot.more x).aQ id=G id:=fun id hid=>bz id hid;obtain⟨hs',B4⟩:=hs.more (b':=s.b.last+1) O0 hold
     have xK:(mV G s.b.last (r.slot.more x).aQ (partOf (s.b.last+1) (r.slot.more x).aQ).bB).L=(r.slot.more x).aQ:=by
      show(mV G s.b.last (r.slot.more x).aQ (s.b.last+1)).L=_;rw[kg]
     have AH:(r.slot.more x).all (mV G s.b.last (r.slot.more x).aQ)=r.slot.all G++[x]:=by rw[hs'.sL x,B4]
     have Ku:cL (mV G s.b.last (r.slot.more x).aQ) (s.b.last+1) ((r.slot.more x).shut (partOf (s.b.last+1) (r.slot.more x).aQ)):=
      lq f3 f4 (by rw[AH,f5,nY]) (by rw[AH];exact Ze _ (List.cons_ne_nil _ _)) (by rw[AH];exact m1) hpk (fun q hq=>hs'.kS q (by rw[<- f2];exact hq)) xK
     have CY:=xi (y:=(r.slot.more x).shut (partOf (s.b.last+1) (r.slot.more x).aQ)) hacc;have hsc:((r.slot.more x).shut (partOf (s.b.last+1) (r.slot.more x).aQ)).chunks=r.slot.chunks++[partOf (s.b.last+1) (r.slot.more x).aQ]:=by show(r.slot.more x).chunks++_=_;rw[f2]
     have P8:((r.slot.more x).shut (partOf (s.b.last+1) (r.slot.more x).aQ)).aQ.length=0:=rfl;have jE:=hI.last
     have sP:=hI.nZ (y:=(r.slot.more x).shut (partOf (s.b.last+1) (r.slot.more x).aQ)) (S:=S') (G':=mV G s.b.last (r.slot.more x).aQ) (n':=n) Lo (by
      have hc0:lK (acc.set i ((r.slot.more x).shut (partOf (s.b.last+1) (r.slot.more x).aQ)))=lK acc+1-(r.slot.more x).aQ.length:=by omega
      rw[hc0];refine k2.eqv fun id=>?_;have:=zx (y:=(r.slot.more x).shut (partOf (s.b.last+1) (r.slot.more x).aQ)) (A:=a::A) hacc s.t id;rw[hsc,ma,zk,uh] at this;have e3:(partOf (s.b.last+1) (r.slot.more x).aQ).bB=s.b.last+1:=rfl;rw[e3] at this
      omega) O0 O0 hold (Ug _) O0 (by rw[hsc,Ua];show((r.slot.chunks.length+1:Nat):Int)<=_;omega) O0
     rw[<- e] at sP
     refine .inr ⟨_,S',_,_,rfl,sP,hold,cI,cI,k4.trans M3,by rw[k3];exact Ku,?_,?_,F8 _ _ ?_ ?_,cI,by rw[hsc,Ua];show r.slot.chunks.length+1<=_;omega,fun id h1 h2=>by
      obtain rfl:id=s.b.last+1:=by omega
      rw[kg]
      exact⟨rfl,by show(r.slot.more x).aQ.length<=8;omega⟩⟩
     ·show 0<=(r.slot.more x).bN;rw[f6];exact vI
     ·show(r.slot.more x).bN<=_;rw[f6];omega
     ·unfold aG.cX;rw[B4]
     ·unfold aG.cX;rw[aG.xJ _ xK,AH];show(if(r.slot.more x).there then some ((r.slot.more x).closed,_) else none)=_
      rw[f3,m4];rfl
 ·have ht:=w3 hk1;rw[if_neg hk1];by_cases D7:r.o.kind=3
  ·rw[if_pos D7];have xP:=w4 ht O0;obtain⟨P9,hne,U8⟩:=hs.yes ht
   have F8:∀(nx:aG) (G2:Int->fZ),r.slot.cX G2=r.slot.cX G->nx.cX G2=some (true,r.slot.all G)->NX G2 { r with next:=nx }:=by
    intro nx G2 Gv EO m hm;dsimp only at hm ⊢;rw[jr hr.bad n6 n7,hm,Gv,EO,ku ht,xP];dsimp only;rw[if_neg hk1,if_neg n2,if_pos D7,if_neg O2]
   unfold aP.uG;dsimp only
   have U9:cL G s.b.last { r.slot with closed:=true }∨r.slot.aQ≠[]:=by
    by_cases ho:r.slot.aQ=[]
    ·exact .inl ⟨hs.no,hs.yes,hs.gQ,fun _=>ho,hs.wf,hs.kS,hs.xH⟩
    ·exact .inr ho
   by_cases hz:r.slot.aQ.length=0
   ·rw[if_pos hz];have ho:r.slot.aQ=[]:=List.length_eq_zero_iff.1 hz;have hok:cL G s.b.last { r.slot with closed:=true }:=⟨hs.no,hs.yes,hs.gQ,fun _=>ho,hs.wf,hs.kS,hs.xH⟩
    have CY:=xi (y:={ r.slot with closed:=true }) hacc
    have sP:=hI.nZ (y:={ r.slot with closed:=true }) (S:=s.b) (G':=G) (n':=n) Lo (by
     have hc0:lK (acc.set i { r.slot with closed:=true })=lK acc:=Kk CY
     rw[hc0]
     exact hI.oM.eqv fun id=>Kk (zx (y:={ r.slot with closed:=true }) (A:=a::A) hacc s.t id)) (Ut _) O0 (fun _ _=>rfl) (Ug _) O0 xR (by have:=hs.gQ;(try dsimp only);omega)
    rw[<- e] at sP;refine .inr ⟨_,s.b,G,_,rfl,sP,fun _ _=>rfl,Ut _,cI,rfl,hok,vI,Cb,F8 _ _ rfl ?_,hr.s4,hr.s5,fun _ h1 h2=>by omega⟩
    unfold aG.cX;dsimp only;rw[ht];rfl
   ·rw[if_neg hz];have hone:r.slot.aQ≠[]:=fun h=>hz (by rw[h];rfl)
    have h7:=hs.gQ;rcases nj (s:=s) (r:={ r with next:={ r.slot with closed:=true } }) (cnt:=dI acc (a::A) s.t) (ch:=lK acc) (G:=G) hI.oM O0 GH GH GH hs.wf jU with⟨k1,bs,P6,P7⟩|⟨S',k1,k2,k3,k4⟩
    ·have Gu:=nX P6
     (try dsimp only at Gu P7)
     exact .inl ⟨_,k1,.inr ⟨D7,hone⟩,cI⟩
    ·dsimp only at k1 k2;have hpk:gE (mV G s.b.last r.slot.aQ) (s.b.last+1) (partOf (s.b.last+1) r.slot.aQ):=F4 hb0 hone O0 hs.wf jU;have hold:∀id,id<=s.b.last->mV G s.b.last r.slot.aQ id=G id:=fun id hid=>bz id hid;obtain⟨hs',B4⟩:=hs.more (b':=s.b.last+1) O0 hold
     have xK:(mV G s.b.last r.slot.aQ (partOf (s.b.last+1) r.slot.aQ).bB).L=r.slot.aQ:=by
      show(mV G s.b.last r.slot.aQ (s.b.last+1)).L=_;rw[kg]
     obtain⟨q1,q2,q3⟩:=hs'.yes ht
     have Ku:cL (mV G s.b.last r.slot.aQ) (s.b.last+1) (({ r.slot with closed:=true }:aG).shut (partOf (s.b.last+1) r.slot.aQ)):=
      lq ht P9 q3 q2 hs'.xH hpk hs'.kS xK
     have CY:=xi (y:=({ r.slot with closed:=true }:aG).shut (partOf (s.b.last+1) r.slot.aQ)) hacc
     have jE:=hI.last
     have sP:=hI.nZ (y:=({ r.slot with closed:=true }:aG).shut (partOf (s.b.last+1) r.slot.aQ)) (S:=S') (G':=mV G s.b.last r.slot.aQ) (n':=n) Lo (by
      have hc0:lK (acc.set i (({ r.slot with closed:=true }:aG).shut (partOf (s.b.last+1) r.slot.aQ)))=lK acc-r.slot.aQ.length:=by
       have Ib:(({ r.slot with closed:=true }:aG).shut (partOf (s.b.last+1) r.slot.aQ)).aQ.length=0:=rfl
       omega
      rw[hc0];refine k2.eqv fun id=>?_;have:=zx (y:=({ r.slot with closed:=true }:aG).shut (partOf (s.b.last+1) r.slot.aQ)) (A:=a::A) hacc s.t id
      have hsc:(({ r.slot with closed:=true }:aG).shut (partOf (s.b.last+1) r.slot.aQ)).chunks=r.slot.chunks++[partOf (s.b.last+1) r.slot.aQ]:=rfl
      rw[hsc,ma,zk,uh] at this;have e3:(partOf (s.b.last+1) r.slot.aQ).bB=s.b.last+1:=rfl;rw[e3] at this
      omega) O0 O0 hold (Ug _) O0 (by show((r.slot.chunks++[_]).length:Int)<=_;rw[Ua];show((r.slot.chunks.length+1:Nat):Int)<=_;omega) (by show 0<=8;omega)
     rw[<- e] at sP
     refine .inr ⟨_,S',_,_,k1,sP,hold,cI,cI,k4,by rw[k3];exact Ku,vI,?_,F8 _ _ ?_ ?_,Uf _,by show(r.slot.chunks++[_]).length<=_;rw[Ua];show r.slot.chunks.length+1<=_;omega,fun id h1 h2=>by
      obtain rfl:id=s.b.last+1:=by omega
      rw[kg]
      exact⟨rfl,by show r.slot.aQ.length<=8;omega⟩⟩
     ·show r.slot.bN<=_;omega
     ·unfold aG.cX;rw[B4]
     ·unfold aG.cX;rw[aG.xJ ({ r.slot with closed:=true }:aG) xK]
      show(if r.slot.there then some (true,r.slot.all _) else none)=_
      rw[ht,B4];rfl
  ·rw[if_neg D7];have VA:r.o.kind=4:=by rcases hk with h|h|h;exact absurd h hk1;exact absurd h D7;exact h
   unfold aP.drop;have h7:=hs.gQ;have Hl:wI (r.slot.bN+1)=r.slot.bN+1:=jf O0 O0
   have hz:wI (0-r.slot.size)=-(16*(r.slot.aQ.length:Int)):=by
    have hz:r.slot.size=16*(r.slot.aQ.length:Int):=by show IntKind.i64.wrap _=_;exact jf O0 O0
    rw[hz];show IntKind.i64.wrap _=_;rw[jf O0 O0];omega
   rw[Hl,hz];obtain⟨f1,f2⟩:=hI.oM.free r.slot.aQ.length P5 O0;rw[f1];dsimp only;obtain⟨nx,EO⟩:∃nx:aG,({ aG.zero with bN:=r.slot.bN+1 }:aG)=nx:=⟨_,rfl⟩
   rw[EO];have hnc:nx.chunks=[]:=by rw[<- EO];rfl
   have hno:nx.aQ=[]:=by rw[<- EO];rfl
   have hnt:nx.there=false:=by rw[<- EO];rfl
   have RE:nx.bN=r.slot.bN+1:=by rw[<- EO]
   have xP:nx.closed=false:=by rw[<- EO];rfl
   have hall:nx.all G=[]:=by unfold aG.all;rw[hnc,hno];rfl
   have hok:cL G s.b.last nx:=⟨fun _=>⟨hno,hnc⟩,fun h=>(by rw[hnt] at h;cases h),by rw[hno];exact Uf _,fun _=>hno,fun x hx=>(by rw[hno] at hx;cases hx),fun p hp=>(by rw[hnc] at hp;cases hp),by rw[hall];exact List.Pairwise.nil⟩
   obtain⟨l1,l2,l3⟩:=cV.leave (ps:=r.slot.chunks) (iD:=dI (acc.set i nx) (a::A) s.t) f2 fun id=>by
    have:=zx (y:=nx) (A:=a::A) hacc s.t id;rw[hnc,uh] at this;omega
   have CY:=xi (y:=nx) hacc;have jE:=hI.last
   have sP:=hI.nZ (y:=nx) (S:=({ s.b with aR:=s.b.aR-16*(r.slot.aQ.length:Int) }:eR).leave r.slot.chunks) (G':=G) (n':=n) Lo (by
    have hc0:lK (acc.set i nx)=lK acc-r.slot.aQ.length:=by rw[hno] at CY;dsimp only[List.length] at CY;omega
    rw[hc0]
    exact l1) (by rw[l2];exact Ut _) (by rw[l2];exact jE) (fun _ _=>rfl) (Ug _) O0 (by rw[hnc,l2];exact hb0) (by rw[hno];exact Uf _)
   rw[<- e] at sP;refine .inr ⟨nx,_,G,_,rfl,sP,fun _ _=>rfl,by rw[l2];exact Ut _,by rw[l2];(try dsimp only);omega,l3,by rw[l2];exact hok,cI,cI,?_,by rw[hno];exact Uf _,by rw[hnc];exact Uf _,fun _ h1 h2=>by rw[l2] at h2;(try dsimp only at h2);omega⟩
   intro m hm;dsimp only at hm ⊢;rw[jr hr.bad n6 n7,hm,ku ht];dsimp only;rw[if_neg hk1,if_neg n2,if_neg D7,if_pos VA];unfold aG.cX;rw[hnt];rfl
end
section
variable{s s' s2:cG}{a:Ag}{A:List Ag}{acc:List aG}{al:Int->Bool}{G G':Int->fZ}{n n':Nat}{r:aP}{ps pn:List bL}{b b':Int}{who aA:Int}{k:Nat}
theorem CZ(h:Inv s A acc al G n)(hf:iT s r):dJ s.d G r.o.aA=r.slot.cX G:=(hf.ok h).2.2.2.2
theorem Inv.kJ(h:Inv s A acc al G n)(hn:n+2<=1000000000):Inv s A acc al G (n+1)∧Inv s A acc al G (n+2):=⟨h.mono (Nat.le_add_right _ _) O0,h.mono (Nat.le_add_right _ _) O0⟩
theorem aG.len{sl:aG}(hs:cL G b sl)(hc:(sl.chunks.length:Int)<=b)(hb:b<=100000):sl.aQ.length<=8∧sl.chunks.length<=100000:=⟨by have:=hs.gQ;omega,cI⟩
theorem te(hI:Inv s (a::A) acc al G n)(hr:pH al r)(hk:r.Cc)(hR:Rel G s r a k)(hn:n+2<=1000000000)(hb:s.b.last<100000):r.AE s∧∃a' acc' G',Out A al s G n r k (r.write s) a' acc' G':=by
 obtain⟨n2,n5,n6,n7,k1,k5⟩:=RB hk;obtain⟨s0,s1⟩:=xe hr.bad k1 k5;refine⟨⟨hI.fits,fun hp hw=>?_,by have:=hr.s4;omega,by have:=hr.s5;omega,by have:=hr.n4;omega,by have:=hr.n5;omega⟩,?_⟩
 ·cases hR with
  |idle h0=>omega
  |put hk' h0=>omega
  |hard hk'=>exact absurd hk' n2
  |read hk'=>exact absurd hk' n2
  |next hk'=>exact absurd hk' n6
  |make hk' h0 hf AI hd=>
   obtain⟨q1,q2,_⟩:=hd.ok hI;exact⟨q1.wf,hr.wf,by have:=hr.s4;omega,by have:=hr.s5;omega,hI.Hz⟩
 ·have RF:0<=r.oK:=by unfold aP.oK;split <;> decide
  have vI:s.b.last<=s.b.last+r.oK:=by omega
  cases hR with
  |hard hk'=>exact absurd hk' n2
  |read hk'=>exact absurd hk' n2
  |next hk'=>exact absurd hk' n6
  |idle h0 hf AI=>
   have DM:r.write s=if(r.take s).2.2 then((r.take s).1,(r.take s).2.1,1) else((r.take s).1,(r.take s).2.1,0):=by
    unfold aP.write;rw[if_pos h0];generalize r.take s=z;obtain⟨z1,z2,z3⟩:=z;cases z3 <;> rfl
   have uJ:r.need s=3:=by unfold aP.need;rw[if_neg n2,if_neg n6,if_neg (fun h=>by rcases h with h|h;exact n5 h;exact n7 h)]
   rcases fh (r:=r) hI rfl rfl s0 s1 O0 with⟨t1,t2,t3⟩|⟨i,p,e,hi,hp,ht,hv,hlk,t1,t2,t3,t4,t5⟩
   ·rw[DM,t1];refine⟨_,_,G,(hI.kJ hn).2,fun _ _=>rfl,Ut _,vI,fun _ h1 h2=>absurd h1 (Vp.2 h2),dN.refl _ _,rfl,rfl,rfl,rfl,.none rfl h0 (.inl ⟨k1,k5,t3⟩)⟩
   ·rw[DM,t1];obtain⟨o1,o2,_⟩:=hI.dir.ok i p hp;obtain⟨l1,l2⟩:=aG.len o1 o2 O0;refine⟨_,_,G,t2.mono O0 O0,fun _ _=>rfl,Ut _,vI,fun _ h1 h2=>absurd h1 (Vp.2 h2),t4,rfl,rfl,rfl,rfl,.some rfl ⟨hr.over,hr.bad,hr.wf,hr.al,l1,l2,hr.n4,hr.n5,hr.xp,hr.f0,hr.f3⟩ 2 ?_ (.inl ⟨by rw[uJ];omega,rfl,by show(1:Int)≠0;decide⟩) t5 (fun _=>.inl ⟨h0,rfl,rfl,hlk⟩)⟩
    exact Rel.make (r:={ r with slot:=p.s,flag:=true,ph:=1 }) hk rfl rfl ⟨AI.1,AI.2,AI.3,AI.4,AI.5⟩ t3
  |make hk' h0 hf AI hd=>
   obtain⟨hs,xR,HA,rV,rA⟩:=hd.ok hI
   have DM:r.write s=if r.wrong≠0 then(r.cF s r.slot).1.refuse (r.cF s r.slot).2 r.wrong else if(r.make s).2.2 then({ (r.make s).1 with ph:=3 },(r.make s).2.1,1) else((r.make s).1.cF (r.make s).2.1 (r.make s).1.slot).1.stop ((r.make s).1.cF (r.make s).2.1 (r.make s).1.slot).2 ⟨9,0,[]⟩ 3:=by
    unfold aP.write;rw[if_neg O0,if_pos h0];by_cases hw:r.wrong≠0
    ·rw[if_pos hw,if_pos hw]
    ·rw[if_neg hw,if_neg hw];generalize r.make s=z;obtain⟨z1,z2,z3⟩:=z;cases z3 <;> rfl
   rw[DM];by_cases hw:r.wrong≠0
   ·rw[if_pos hw];obtain⟨D,acc',p1,p2,p3,p4⟩:=uo hI hd rfl (sl:=r.slot) rfl hs rfl rfl HA rV O0;rw[p1];have F9:dJ D G=dJ s.d G:=by rw[p4,<- rA,sN]
    have hab:abs { s with d:=D } G=abs s G:=by unfold abs;rw[show dJ D G=dJ s.d G from F9]
    refine⟨_,acc',G,p2.mono O0 O0,fun _ _=>rfl,Ut _,vI,fun _ h1 h2=>absurd h1 (Vp.2 h2),p3,rfl,rfl,rfl,rfl,.gF rfl rfl (iE rfl AI.using_ AI.held) rfl ?_⟩;rw[rq hk hr.bad hs rA hw];show(abs s G,_)=(abs { s with d:=D } G,_)
    rw[hab];rfl
   ·rw[if_neg hw];have hw:r.wrong=0:=Xc hw;rcases rj hI hr hk hd hw rfl hn hb with⟨nx,m1,m2⟩|⟨nx,S',G',acc',m1,m2,m3,m4,m5,m6,m7,m8,m9,VB,VC,VD,VE⟩
    ·rw[m1,if_neg Vt];dsimp only;obtain⟨D,acc',p1,p2,p3,p4⟩:=uo (r:={ r with next:=nx }) hI hd rfl (sl:=r.slot) rfl hs rfl rfl HA rV O0
     rw[p1];have F9:dJ D G=dJ s.d G:=by rw[p4];show qZ _ r.o.aA _=_;rw[<- rA,sN]
     have hab:abs { s with d:=D } G=abs s G:=by unfold abs;rw[show dJ D G=dJ s.d G from F9]
     exact⟨_,acc',G,p2.mono O0 O0,fun _ _=>rfl,Ut _,vI,fun _ h1 h2=>absurd h1 (Vp.2 h2),p3,rfl,rfl,rfl,rfl,.full rfl h0 rfl (iE rfl AI.using_ AI.held) rfl hab rfl rfl m2.1 m2.2⟩
    ·rw[m1,if_pos rfl];dsimp only;have uY:r.oK=1:=if_pos ⟨hk,h0⟩;refine⟨_,acc',G',m2.mono O0 O0,m3,m4,(by rw[uY];exact m5),VE,dN.same rfl rfl,rfl,rfl,rfl,m6,.some rfl ⟨hr.over,hr.bad,hr.wf,hr.al,hr.s4,hr.s5,VC,VD,hr.xp,hr.f0,hr.f3⟩ 1 ?_ (.inl ⟨cI,rfl,by show(3:Int)≠0;decide⟩) ?_ (fun _=>.inr ⟨h0,rfl⟩)⟩
     ·exact Rel.put (r:={ r with next:=nx,ph:=3 }) hk rfl hf ⟨AI.1,AI.2,AI.3,AI.4,AI.5⟩ hd m7 m8 m9 VB
     ·exact(show abs s G'=abs s G from U2 hI m3)
  |put hk' h0 hf AI hd hs HA hl he=>
   obtain⟨hs0,xR,VF,rV,rA⟩:=hd.ok hI
   have DM:r.write s=(r.cF s r.next).1.stop (r.cF s r.next).2 ⟨0,0,[]⟩ 2:=by
    unfold aP.write;rw[if_neg O0,if_neg O0]
   rw[DM];obtain⟨D,acc',p1,p2,p3,p4⟩:=uo (hI.kJ hn).1 hd rfl (sl:=r.next) rfl hs rfl rfl HA O0 O0
   rw[p1];refine⟨_,acc',G,p2,fun _ _=>rfl,Ut _,vI,fun _ h1 h2=>absurd h1 (Vp.2 h2),p3,rfl,rfl,rfl,rfl,.gF rfl rfl (iE rfl AI.using_ AI.held) rfl ?_⟩;rw[he _ rA];show _=(abs { s with d:=D } G,_)
   unfold abs;rw[show dJ D G=_ from p4];rfl
end
section
variable{s s' s2:cG}{a:Ag}{A:List Ag}{acc:List aG}{al:Int->Bool}{G G':Int->fZ}{n n':Nat}{r:aP}{ps pn:List bL}{b b':Int}{who aA:Int}{k:Nat}{fl se:Option (Int×aG)}{held:List gP}
theorem ki:∀(l:List gP) (S:eR),(S.leave l).bA=S.bA
 |[],S=>rfl
 |p::l,S=>by
  rw[eR.leave,ki l];split
  ·rfl
  ·unfold eR.left;split <;> rfl
theorem fb:∀{A:List Ag},(∀x∈A,x.pins.length<=100)->(A.flatMap Ag.pins).length<=100*A.length
 |[],_=>Uf _
 |x::A,h=>by
  rw[Ui,Ua,Uj];have h1:=h x (Ud ..);have h2:=fb (A:=A) fun y hy=>h y (Uh _ hy);omega
theorem Inv.vP(h:Inv s A acc al G n):(A.flatMap Ag.pins).length<=10000:=by
 have h1:=fb fun x hx=>(h.lN x hx).pins;have h2:=h.gQ;omega
theorem Inv.B5(h:Inv s A acc al G n):s.c.Ok:=by
 have:=h.vP;exact h.oL.good.ok O0
theorem dA.ok(h:dA s.c ps al G b)(hp:ps.length<=100000):s.c.Ok:=h.good.ok O0
def IE(G:Int->fZ)(one:Option Tk)(pn:List bL):Prop:=(one=none∧pn=[])∨∃y kk,one=some y∧vN G y pn kk
theorem eD.one{x:mE}{one:Option Tk}{i:Int}{got:List bZ}(h:eD G x aA one i got pn k):IE G one pn:=by
 obtain⟨j,_,_,_,⟨h1,h2,_⟩|⟨y,p,kk,h1,_,_,_,_,h2,_⟩⟩:=h
 ·exact .inl ⟨h1,h2⟩
 ·exact .inr ⟨y,kk,h1,h2⟩
theorem xr(hI:Inv s (⟨r.who,fl,held,pn,none,se⟩::A) acc al G n)(ho:IE G r.one pn)(hh:(r.held=true∧held=r.x.parts)∨(r.held=false∧held=[]))
  (hf:(r.flag=true∧iT s r∧fl=some (r.o.aA,r.slot))∨(r.flag=false∧fl=none)) (hn:n+1<=1000000000):
  ∃s' acc',r.leave s=({ r with flag:=false,held:=false,one:=none,i:=0,got:=[] },s')∧Inv s' (Ag.idle r.who::A) acc' al G (n+1)∧dN r.who s s'∧abs s' G=abs s G∧s'.b.last=s.b.last∧s'.c.bE.most=s.c.bE.most∧s'.b.bA=s.b.bA:=by
 have hC:∃C,(match r.one with|none=>s.c|some x=>(x.leave s.c).2)=C∧dA C (A.flatMap Ag.pins) al G s.b.last∧C.bE.most=s.c.bE.most:=by
  have hc:=hI.qY;rcases ho with⟨h1,h2⟩|⟨y,kk,h1,h2⟩
  ·rw[h1];have Fb:dA s.c (pn++A.flatMap Ag.pins) al G s.b.last:=hc;rw[h2] at Fb;exact⟨_,rfl,Fb,rfl⟩
  ·rw[h1];obtain⟨q1,q2⟩:=h2.leave (ps:=A.flatMap Ag.pins) hc;exact⟨_,rfl,q1,q2⟩
 obtain⟨C,IB,VG,RG⟩:=hC;have h1:=hI.cache (pn:=[]) (Uf _) VG
 have h2:∃S,(if r.held then s.b.leave r.x.parts else s.b)=S∧Inv { s with c:=C,b:=S } (⟨r.who,fl,[],[],none,se⟩::A) acc al G n∧S.last=s.b.last∧S.bA=s.b.bA:=by
  rcases hh with⟨q1,q2⟩|⟨q1,q2⟩
  ·rw[q1,if_pos rfl];obtain⟨k1,k2⟩:=h1.FY (ps:=r.x.parts) q2;exact⟨_,rfl,k2,k1,ki _ _⟩
  ·rw[q1,if_neg O2];refine⟨_,rfl,?_,rfl,rfl⟩;rw[q2] at h1;exact h1
 obtain⟨S,VH,Qa,Ia,NY⟩:=h2;have h3:=Qa.Rx (f:=none) fun x hx=>by cases hx
 have key:r.leave s=({ (if r.flag then({ r with held:=false }:aP).cF { s with c:=C,b:=S } r.slot else({ r with held:=false },{ s with c:=C,b:=S })).1 with one:=none,i:=0,got:=[] },
   (if r.flag then({ r with held:=false }:aP).cF { s with c:=C,b:=S } r.slot else({ r with held:=false },{ s with c:=C,b:=S })).2):=by
  rw[<- VH,<- IB];unfold aP.leave;dsimp only;cases r.held <;> cases r.one <;> rfl
 rw[key];rcases hf with⟨q1,q2,q3⟩|⟨q1,q2⟩
 ·rw[if_pos q1];obtain⟨o1,o2,o3,o4,o5⟩:=q2.ok hI;obtain⟨D,acc',p1,p2,p3,p4⟩:=uo (r:={ r with held:=false }) (s:={ s with c:=C,b:=S }) (sl:=r.slot) h3 q2 rfl q3 (by dsimp only;rw[Ia];exact o1) rfl rfl o3 o4 hn
  rw[p1];refine⟨{ s with c:=C,b:=S,d:=D },acc',rfl,p2,p3.trans (dN.refl _ _) |>.dir |> fun h=>⟨h,fun id o h1 _ _=>h1⟩,?_,Ia,RG,NY⟩
  have VI:dJ D G=dJ s.d G:=by
   rw[p4];show qZ (dJ s.d G) r.o.aA _=_;rw[<- o5,sN]
  unfold abs;rw[show dJ ({ s with c:=C,b:=S,d:=D }:cG).d G=dJ s.d G from VI]
 ·rw[if_neg (by rw[q1];decide)]
  rw[q2] at h3;refine⟨{ s with c:=C,b:=S },acc,?_,h3.mono (Nat.le_succ _) hn,dN.same rfl rfl,rfl,Ia,RG,NY⟩
  rw[q1]
theorem rg(hk:r.o.kind=2){p:iU}(hp:dM.at_ s.d r.o.aA=some p):r.need s=3+6*p.s.chunks.length:=by unfold aP.need;rw[if_pos hk,hp]
theorem bn{sl:aG}(hI:Inv s (⟨r.who,fl,[],[],none,none⟩::A) acc al G n)(hr:pH al r)(hk:r.o.kind=2)(hb:r.F5)(hn:n+2<=1000000000)
  (mW:(r.flag=true∧iT s r∧sl=r.slot∧fl=some (r.o.aA,r.slot))∨(r.flag=false∧fl=none∧r.dH<=2∧∃(i:Nat) (p:iU),r.o.aA=(i:Int)∧i<16∧s.d[i]?=some p∧p.taken=false∧sl=p.s)) (hkk:6*sl.chunks.length+1<k):
  r.sG s sl∧∃a' acc' G',Out A al s G n r k (r.cP s sl) a' acc' G':=by
 have Qb:cL G s.b.last sl∧(sl.chunks.length:Int)<=s.b.last∧dJ s.d G r.o.aA=sl.cX G∧sl∈acc:=by
  rcases mW with⟨h1,h2,h3,h4⟩|⟨h1,h2,h3,i,p,h4,h5,h6,h7,h8⟩
  ·obtain⟨o1,o2,o3,o4,o5⟩:=h2.ok hI;obtain⟨i,e,_⟩:=h2;have:=hI.F6 (i:=i) (x:=r.slot) (by rw[<- e];exact h4)
   rw[h3];exact⟨o1,o2,o5,Ue this⟩
  ·obtain⟨o1,o2,_⟩:=hI.dir.ok i p h6;rw[h8,h4,nH h6 h5];exact⟨o1,o2,rfl,Ue (hI.dir.idle i p h6 h7).2⟩
 obtain⟨hs,xR,rA,hacc⟩:=Qb;have jE:=hI.last;have h7:=hs.gQ;refine⟨⟨⟨hI.B5,by have:=hr.xp;omega,by have:=hr.s4;omega,by have:=hr.s5;omega⟩,cI,cI⟩,?_⟩
 have key:r.cP s sl=if sl.there=false then(r.leave s).1.refuse (r.leave s).2 3 else if(s.b.hold [] (sl.snap r.o.F r.o.To).parts).1
   then({ r with x:=sl.snap r.o.F r.o.To,held:=true,ph:=if(sl.snap r.o.F r.o.To).parts.length=0 then 3 else 2 },{ s with b:=(s.b.hold [] (sl.snap r.o.F r.o.To).parts).2 },1)
   else(({ r with x:=sl.snap r.o.F r.o.To }:aP).leave { s with b:=(s.b.hold [] (sl.snap r.o.F r.o.To).parts).2 }).1.stop (({ r with x:=sl.snap r.o.F r.o.To }:aP).leave { s with b:=(s.b.hold [] (sl.snap r.o.F r.o.To).parts).2 }).2 ⟨7,0,[]⟩ 3:=by
  unfold aP.cP;by_cases ht:sl.there=false
  ·rw[if_pos ht,if_pos ht]
  ·rw[if_neg ht,if_neg ht];dsimp only;generalize s.b.hold [] (sl.snap r.o.F r.o.To).parts=z;obtain⟨z1,z2⟩:=z;cases z1 <;> rfl
 rw[key];have uY:r.oK=0:=if_neg O0;have AJ:s.b.last<=s.b.last+r.oK:=by omega
 by_cases ht:sl.there=false
 ·rw[if_pos ht]
  obtain⟨s',acc',l1,l2,l3,l4,l5,l6,l7⟩:=xr (n:=n) hI (.inl ⟨hb.one,rfl⟩) (.inr ⟨hb.held,rfl⟩) (by
   rcases mW with⟨h1,h2,_,h4⟩|⟨h1,h2,_⟩
   ·exact .inl ⟨h1,h2,h4⟩
   ·exact .inr ⟨h1,h2⟩) O0
  rw[l1];refine⟨_,acc',G,l2.mono O0 O0,fun _ _=>rfl,by show _<=s'.b.last;omega,by show s'.b.last<=_;omega,fun _ h1 h2=>absurd h1 (Vp.2 (Wd h2 KV)),l3,rfl,rfl,l6,l7,.gF rfl rfl (iE rfl hb.using_ rfl) rfl ?_⟩
  have Am:sl.cX G=none:=by unfold aG.cX;rw[ht];rfl
  rw[jr hr.bad O0 O0,show(abs s G).oB r.o.aA=none from rA.trans Am];dsimp only;rw[if_neg O0];show(abs s G,_)=(abs s' G,_);rw[l4];rfl
 ·rw[if_neg ht];have ht:sl.there=true:=by cases h:sl.there with|true=>rfl|false=>exact absurd h ht
  obtain⟨X,hX⟩:∃X,sl.snap r.o.F r.o.To=X:=⟨_,rfl⟩;have PS:∀p∈X.parts,gE G s.b.last p:=by rw[<- hX];exact hs.tQ _ _
  have M4:∀p∈X.parts,p∈sl.chunks:=by rw[<- hX];exact fun p hp=>(Xy.1 hp).1
  have X8:X.parts.length<=sl.chunks.length:=by rw[<- hX];exact lH _ _ _
  rw[hX];obtain⟨q1,q2,q3⟩:=hI.hold (ps:=X.parts) rfl PS (fun p hp=>na hacc (M4 p hp) _) O0;rw[q1,if_pos rfl]
  have Ey:(s.b.hold [] X.parts).2.bA=s.b.bA:=by
   have hc:∀j,dI acc (⟨r.who,fl,X.parts,[],none,none⟩::A) s.t j=dI acc (⟨r.who,fl,[],[],none,none⟩::A) s.t j+rc j X.parts:=by
    intro j;unfold dI;rw[fC,fC,uh]
    (try dsimp only)
    omega
   have:=hI.oM.hold (iD:=dI acc (⟨r.who,fl,X.parts,[],none,none⟩::A) s.t) [] (ps:=X.parts) (fun p hp=>na hacc (M4 p hp) _) hc fun j=>by
    have e1:=hI.CV j;have e2:=mr j X.parts;rw[hc];unfold Er;omega
   exact this.2.2.2.1
  obtain⟨se,Qc,Qd⟩:∃se:Option (Int×aG),((r.flag=true∧iT s r∧sl=r.slot∧fl=some (r.o.aA,r.slot)∧se=none)∨(r.flag=false∧fl=none∧se=some (r.o.aA,sl)∧r.dH<=2))∧∀f,se=some f->oA s.d G s.b.last f:=by
   rcases mW with⟨h1,h2,h3,h4⟩|⟨h1,h2,h3,i,p,h4,h5,h6,h7,h8⟩
   ·exact⟨none,.inl ⟨h1,h2,h3,h4,rfl⟩,fun f hf=>by cases hf⟩
   ·refine⟨some (r.o.aA,sl),.inr ⟨h1,h2,rfl,h3⟩,fun f hf=>?_⟩;obtain rfl:=Uk hf;refine⟨gH,gH,hs,by dsimp only;rw[h8];exact(hI.dir.idle i p h6 h7).1,p,?_,?_,?_⟩
    ·dsimp only;rw[h4,show((i:Int)).toNat=i from by omega];exact h6
    ·dsimp only;rw[h8];exact Ut _
    ·dsimp only;rw[h8];exact fun _=>rfl
  have q4:=q3.Rx (f:=se) fun f hf=>by
   have:=Qd f hf
   (try dsimp only)
   rw[q2];exact this
  refine⟨_,acc,G,q4.mono O0 O0,fun _ _=>rfl,by show _<=(s.b.hold [] X.parts).2.last;omega,by show(s.b.hold [] X.parts).2.last<=_;omega,fun _ h1 h2=>absurd h1 (Vp.2 (Wd h2 (by show(s.b.hold [] X.parts).2.last<=_;omega))),dN.same rfl rfl,rfl,rfl,rfl,Ey,.some rfl ⟨hr.over,hr.bad,hr.wf,hr.al,hr.s4,hr.s5,hr.n4,hr.n5,Cb,hr.f0,hr.f3⟩ (6*X.parts.length+1) ?_ (.inl ⟨cI,rfl,Hy _⟩) rfl (fun h=>absurd h C9)⟩
  have hps:=eD.new G X r.o.aA;refine Rel.read (r:={ r with x:=X,held:=true,ph:=if X.parts.length=0 then 3 else 2 }) hk rfl hb.using_ (sl:=sl) Qc ht (by(try dsimp only);rw[q2];exact hs) hX.symm (k:=6*X.parts.length) (pn:=[]) ?_ ?_
  ·show eD G X r.o.aA r.one r.i r.got [] _;rw[hb.one,hb.i,hb.got];exact hps
  ·show(((if X.parts.length=0 then(3:Int) else 2)=2∧r.i≠_)∨((if X.parts.length=0 then(3:Int) else 2)=3∧r.i=(X.parts.length:Int)))
   rw[hb.i];by_cases h0:X.parts.length=0
   ·rw[if_pos h0];exact .inr ⟨rfl,cI⟩
   ·rw[if_neg h0];exact .inl ⟨rfl,by show(0:Int)≠(X.parts.length:Int);omega⟩
end
section
variable{s s' s2:cG}{a:Ag}{A:List Ag}{acc:List aG}{al:Int->Bool}{G G':Int->fZ}{n n':Nat}{r:aP}{ps pn:List bL}{b b':Int}{who aA:Int}{k:Nat}{fl se:Option (Int×aG)}{held:List gP}
theorem Inv.HB(h:Inv s A acc al G n):∀id e,aH id s.b.l=some e->e.bs.length<=140737488355328:=fun id e he=>by have:=(h.oM.has id e he).2.gQ;omega
theorem fp(hI:Inv s (a::A) acc al G n)(hap:a.pins=pn)(hP:eD G r.x aA r.one r.i r.got pn k)(hx:mH G s.b.last r.x)(hi:r.i≠(r.x.parts.length:Int))(hal:al aA=false)
  (hS:∀p∈r.x.parts,∃e,aH p.bB s.b.l=some e∧(G p.bB).Ok e.bs) (DN:∀id,1<=id->id<=s.b.last->sM (G id).tag):r.AG s aA:=by
 have hc:dA s.c (pn++A.flatMap Ag.pins) al G s.b.last∧(A.flatMap Ag.pins).length<=10000∧s.b.last<=100000∧∀id e,aH id s.b.l=some e->e.bs.length<=140737488355328:=by
  have:=hI.vP;rw[Ui,Ua] at this;exact⟨by rw[<- hap];exact hI.qY,cI,hI.last,hI.HB⟩
 obtain⟨hC,H8,jE,mW⟩:=hc;obtain⟨⟨z1,z2,z3⟩,_⟩:=xl (s:=s) hP hx jE hi hal hC hS;have A0:=hP.F3;have hg:=hP.vO hx.kS;have xA:=hx.gQ;obtain⟨j,p,kk,h1,h2,_,h4,h5,h6,_,_,h9,_⟩:=hP.cur hx.kS hi;exact⟨⟨_,hC.good,Int.natCast_nonneg _,by rw[Ua];omega⟩,mW,fun _=>by omega,cI,cI,cI,fun d e1 e2 e3=>(h9.dec d e1 e2 e3).MW (DN _ (by rw[h6];exact h5.Rw) (by rw[h6];exact h5.Iz))⟩
theorem VJ{sl:aG}{f t:Int}(hs:cL G b sl)(hc:(sl.chunks.length:Int)<=b):mH G b (sl.snap f t):=
 ⟨hs.tQ _ _,Wd (Int.ofNat_le.2 (lH f t sl.chunks)) hc,Uw (Wl _ _) hs.gQ⟩
theorem rv(hI:Inv s (a::A) acc al G n)(hr:pH al r)(hk:r.o.kind=2)(hR:Rel G s r a k)(hn:n+2<=1000000000)(DN:∀id,1<=id->id<=s.b.last->sM (G id).tag):r.nW s∧∃a' acc' G',Out A al s G n r k (r.read s) a' acc' G':=by
 obtain⟨s0,s1⟩:=xe hr.bad O0 O0;have hal:=hr.al O0;have jE:=hI.last;have uY:r.oK=0:=if_neg O0;have AJ:s.b.last<=s.b.last+r.oK:=by omega
 cases hR with
 |make hk'=>exact absurd hk' C9
 |put hk'=>exact absurd hk' C9
 |next hk'=>omega
 |idle h0 hf hb=>
  have hrd:r.read s=r.look s:=by unfold aP.read;rw[if_pos h0]
  rw[hrd];obtain⟨i,p,e,hi,hp,gO,hc⟩:=hI.look s0 s1;have uJ:=rg hk gO;have hlv:r.pR s:=⟨hI.B5,by have:=hr.xp;omega,by have:=hr.s4;omega,by have:=hr.s5;omega⟩
  refine⟨⟨hI.fits,fun _ sl mW=>?_,fun h=>by omega,fun h=>by omega,fun h=>absurd h0 h⟩,?_⟩
  ·rcases hc with⟨_,hc⟩|⟨ht,hc,_⟩
   ·rw[hc] at mW;cases mW
   ·rw[hc] at mW;obtain rfl:=Uk mW;obtain⟨o1,o2,_⟩:=hI.dir.ok i p hp;have:=o1.gQ;exact⟨hlv,cI,cI⟩
  ·by_cases hfl:r.dH ≥ 3
   ·have hlk:r.look s=if(r.take s).2.2 then((r.take s).1,(r.take s).2.1,1) else((r.take s).1,(r.take s).2.1,0):=by
     unfold aP.look;rw[if_pos hfl];generalize r.take s=z;obtain⟨z1,z2,z3⟩:=z;cases z3 <;> rfl
    rw[hlk];rcases fh (r:=r) hI rfl rfl s0 s1 O0 with⟨t1,t2,t3⟩|⟨i,q,e,hi,hq,ht,hv,hlk,t1,t2,t3,t4,t5⟩
    ·rw[t1];exact⟨_,_,G,(hI.kJ hn).2,fun _ _=>rfl,Ut _,AJ,fun _ h1 h2=>absurd h1 (Vp.2 h2),dN.refl _ _,rfl,rfl,rfl,rfl,.none rfl h0 (.inl ⟨cI,cI,t3⟩)⟩
    ·rw[t1];obtain⟨o1,o2,_⟩:=hI.dir.ok i q hq;obtain⟨l1,l2⟩:=aG.len o1 o2 O0;have Qe:dM.at_ s.d r.o.aA=some q:=by rw[e,tl hi];exact hq
     rw[Qe] at gO;obtain rfl:=Uk gO;refine⟨_,_,G,t2.mono O0 O0,fun _ _=>rfl,Ut _,AJ,fun _ h1 h2=>absurd h1 (Vp.2 h2),t4,rfl,rfl,rfl,rfl,.some rfl ⟨hr.over,hr.bad,hr.wf,hr.al,l1,l2,hr.n4,hr.n5,hr.xp,hr.f0,hr.f3⟩ _ (Rel.hard (r:={ r with slot:=q.s,flag:=true,ph:=1 }) hk rfl rfl ⟨hb.1,hb.2,hb.3,hb.4,hb.5⟩ t3) (.inl ⟨?_,rfl,by show(1:Int)≠0;decide⟩) t5 (fun h=>absurd h C9)⟩
     rw[uJ];show 2+6*q.s.chunks.length<_;omega
   ·have hlk:r.look s=match dM.look s.d r.o.aA with|none=>(r,s,0)|some sl=>r.cP s sl:=by
     unfold aP.look;rw[if_neg hfl];rfl
    rw[hlk];rcases hc with⟨ht,hc⟩|⟨ht,hc,hv,hacc⟩
    ·rw[hc];obtain⟨x,hx,f,hf,he⟩:=hI.P3 rfl hp ht;exact⟨_,_,G,(hI.kJ hn).2,fun _ _=>rfl,Ut _,AJ,fun _ h1 h2=>absurd h1 (Vp.2 h2),dN.refl _ _,rfl,rfl,rfl,rfl,.none rfl h0 (.inl ⟨cI,cI,x,hx,f,hf,he.trans e.symm⟩)⟩
    ·rw[hc];exact(bn hI hr hk hb hn (.inr ⟨hf,rfl,cI,i,p,e,hi,hp,ht,rfl⟩) (by rw[uJ];omega)).2
 |hard hk' h0 hf hb hd=>
  have hrd:r.read s=r.cP s r.slot:=by unfold aP.read;rw[if_neg O0,if_pos h0]
  rw[hrd];obtain⟨q1,q2⟩:=bn (k:=2+6*r.slot.chunks.length) hI hr hk hb hn (.inl ⟨hf,hd,rfl,rfl⟩) O0;exact⟨⟨hI.fits,fun h=>by omega,fun _=>q1,fun h=>by omega,fun _ h=>absurd h0 h⟩,q2⟩
 |@read _ hh hu sl fl se pn k mW ht hs hx hp xQ=>
  have tT:mH G s.b.last r.x:=⟨by rw[hx];exact hs.tQ _ _,(hI.lN _ (Ud ..)).gQ,by rw[hx];exact Uw (Wl _ _) hs.gQ⟩
  have hS:∀p∈r.x.parts,∃e,aH p.bB s.b.l=some e∧(G p.bB).Ok e.bs:=fun p hp=>by
   obtain⟨e,he,ho,_⟩:=hI.oM.alive (U0 (a:=⟨r.who,fl,r.x.parts,pn,none,se⟩) (show p∈_ from hp) s.t);exact⟨e,he,ho⟩
  have hlv:∀C:eC,C.Ok->∀(one:Option Tk) (i:Int) (got:List bZ),({ r with one:=one,i:=i,got:=got }:aP).pR { s with c:=C }:=fun C hC one i got=>⟨hC,by have:=hr.xp;(try dsimp only);omega,by have:=hr.s4;(try dsimp only);omega,by have:=hr.s5;(try dsimp only);omega⟩
  have Ih:=hp.vO tT.kS;have Rv:=tT.gQ;have UM:=tT.tail
  have DI:(r.flag=true∧iT s r∧fl=some (r.o.aA,r.slot))∨(r.flag=false∧fl=none):=by
   rcases mW with⟨h1,h2,_,h4,_⟩|⟨h1,h2,_⟩
   ·exact .inl ⟨h1,h2,h4⟩
   ·exact .inr ⟨h1,h2⟩
  rcases xQ with⟨h2,hi⟩|⟨h3,hi⟩
  ·obtain⟨z,hz⟩:∃z,r.part s r.o.aA=z:=⟨_,rfl⟩
   have hrd:r.read s=if z.2.2≠0 then(z.1.leave z.2.1).1.stop (z.1.leave z.2.1).2 ⟨z.2.2,0,[]⟩ 3 else({ z.1 with ph:=if z.1.i=(z.1.x.parts.length:Int) then 3 else 2 },z.2.1,1):=by
    unfold aP.read;rw[if_neg O0,if_neg O0,if_pos h2,hz]
   have Iq:=fp hI rfl hp tT hi hal hS DN;obtain⟨_,hst⟩:=xl (s:=s) hp tT jE hi hal hI.qY hS;have Ga:=hI.vP;rw[Ui,Ua] at Ga;rw[hrd];rcases hst with⟨one,i,got,Es,k',C,e1,e2,e3,e4,e5⟩|⟨y,kk,e1,e2,e3,e4,e5⟩
   ·have A0:=e2.F3;refine⟨⟨hI.fits,fun h=>by omega,fun h=>by omega,fun _=>⟨Iq,by rw[e1];exact hlv C (e4.good.ok Lu) _ _ _⟩,fun _ _ h=>absurd h2 h⟩,?_⟩
    rw[e1] at hz;rw[<- hz,if_neg (fun h=>h rfl)];dsimp only;have M5:=hI.cache (pn:=Es) O0 e4;refine⟨_,acc,G,M5.mono O0 O0,fun _ _=>rfl,Ut _,AJ,fun _ h1 h2=>absurd h1 (Vp.2 h2),dN.same rfl rfl,rfl,rfl,e5,rfl,.some rfl ⟨hr.over,hr.bad,hr.wf,hr.al,hr.s4,hr.s5,hr.n4,hr.n5,hr.xp,hr.f0,hr.f3⟩ (k'+1) ?_ (.inl ⟨cI,rfl,Hy _⟩) rfl (fun h=>absurd h C9)⟩;refine Rel.read (r:={ r with one:=one,i:=i,got:=got,ph:=if i=(r.x.parts.length:Int) then 3 else 2 }) hk hh hu (sl:=sl) mW ht hs hx e2 ?_
    show((if i=(r.x.parts.length:Int) then(3:Int) else 2)=2∧i≠_)∨((if i=(r.x.parts.length:Int) then(3:Int) else 2)=3∧i=_)
    by_cases h0:i=(r.x.parts.length:Int)
    ·rw[if_pos h0];exact .inr ⟨rfl,h0⟩
    ·rw[if_neg h0];exact .inl ⟨rfl,h0⟩
   ·refine⟨⟨hI.fits,fun h=>by omega,fun h=>by omega,fun _=>⟨Iq,by rw[e1];exact hlv s.c hI.B5 (some y) r.i r.got⟩,fun _ _ h=>absurd h2 h⟩,?_⟩
    rw[e1] at hz;rw[<- hz,if_pos (show(6:Int)≠0 by decide)]
    dsimp only;obtain⟨s',acc',l1,l2,l3,l4,l5,l6,l7⟩:=xr (r:={ r with one:=some y }) (n:=n) hI (.inr ⟨y,kk,rfl,by rw[e2];exact e3⟩) (.inl ⟨hh,rfl⟩) DI O0
    rw[l1]
    exact⟨_,acc',G,l2.mono O0 O0,fun _ _=>rfl,by show _<=s'.b.last;omega,by show s'.b.last<=_;omega,fun _ h1 h2=>absurd h1 (Vp.2 (Wd h2 KV)),l3,rfl,rfl,l6,l7,.busy rfl rfl (iE rfl hu rfl) rfl l4 rfl (sO (al:=al) (G:=G) (b:=s.b.last) (by
     have Hs:=hI.qY
     (try dsimp only at Hs)
     rw[e2] at Hs
     exact Hs) e4 e5) (.inl hk)⟩
  ·have hi':=hi;rw[hi] at hp;obtain⟨f1,f2,f3⟩:=hp.full
   have Rt:k=0:=by
    obtain⟨j,q1,q2,q3,⟨_,_,q4⟩|⟨y,p,kk,_,q4,_⟩⟩:=hp
    ·omega
    ·rw[Vq O0] at q4;cases q4
   have FR:r.xE s:=⟨hlv s.c hI.B5 r.one r.i r.got,cI,cI⟩;refine⟨⟨hI.fits,fun h=>by omega,fun h=>by omega,fun h=>by omega,fun _ _ _=>FR⟩,?_⟩
   obtain⟨s',acc',l1,l2,l3,l4,l5,l6,l7⟩:=xr (n:=n) hI (.inl ⟨f2,f3⟩) (.inl ⟨hh,rfl⟩) DI O0
   have IF:dJ s.d G r.o.aA=sl.cX G->r.read s=r.answer s->∃a' acc' G',Out A al s G n r (k+1) (r.read s) a' acc' G':=by
    intro rA hrd;rw[hrd];unfold aP.answer;dsimp only;rw[l1];refine⟨_,acc',G,l2.mono O0 O0,fun _ _=>rfl,by show _<=s'.b.last;omega,by show s'.b.last<=_;omega,fun _ h1 h2=>absurd h1 (Vp.2 (Wd h2 KV)),l3,rfl,rfl,l6,l7,.gF rfl rfl (iE rfl hu rfl) rfl ?_⟩
    have Am:sl.cX G=some (sl.closed,sl.all G):=by unfold aG.cX;rw[ht];rfl
    rw[jr hr.bad O0 O0,show(abs s G).oB r.o.aA=some (sl.closed,sl.all G) from rA.trans Am];dsimp only;rw[if_neg O0,if_pos hk,f1,hx,hs.snap];show(abs s G,_)=(abs s' G,_);rw[l4];rfl
   have hrd:r.read s=if r.flag then r.answer s else match dM.look s.d r.o.aA with
     |some sl=>if sl.bN=r.x.bN∧sl.cW=r.x.cW then r.answer s else({ (r.leave s).1 with dH:=wI ((r.leave s).1.dH+1),ph:=0 },(r.leave s).2,1)
     |none=>({ (r.leave s).1 with dH:=wI ((r.leave s).1.dH+1),ph:=0 },(r.leave s).2,1):=by
    unfold aP.read;rw[if_neg O0,if_neg O0,if_neg O0];rfl
   rcases mW with⟨h1,h2,e3,e4,e5⟩|⟨h1,h2,e3,h4⟩
   ·exact IF (by rw[e3];exact CZ hI h2) (by rw[hrd,if_pos h1])
   ·rw[if_neg (by rw[h1];decide)] at hrd
    have Gb:r.read s=({ (r.leave s).1 with dH:=wI ((r.leave s).1.dH+1),ph:=0 },(r.leave s).2,1)->∃a' acc' G',Out A al s G n r (k+1) (r.read s) a' acc' G':=by
     intro hrd;rw[hrd,l1];have X9:=hr.f0;have hwf:wI (r.dH+1)=r.dH+1:=jf O0 O0;dsimp only;rw[hwf];refine⟨_,acc',G,l2.mono O0 O0,fun _ _=>rfl,by show _<=s'.b.last;omega,by show s'.b.last<=_;omega,fun _ h1 h2=>absurd h1 (Vp.2 (Wd h2 KV)),l3,rfl,rfl,l6,l7,.some rfl ⟨hr.over,hr.bad,hr.wf,hr.al,hr.s4,hr.s5,hr.n4,hr.n5,hr.xp,Cb,Cb⟩ _ (Rel.idle rfl rfl ⟨hu,rfl,rfl,rfl,rfl⟩) (.inr ⟨hk,rfl,rfl,cI,h1⟩) l4 (fun h=>absurd h C9)⟩
    obtain⟨i,p,e,Qf,RH,gO,⟨Gv,hc⟩|⟨Gv,hc,hv,hacc⟩⟩:=hI.look s0 s1
    ·rw[hc] at hrd;exact Gb hrd
    ·rw[hc] at hrd;dsimp only at hrd;by_cases hsame:p.s.bN=r.x.bN∧p.s.cW=r.x.cW
     ·rw[if_pos hsame] at hrd;obtain⟨_,_,_,_,p',hp',_,hps⟩:=(hI.lN _ (Ud ..)).seen _ e3;dsimp only at hp' hps;rw[e,show((i:Int)).toNat=i from by omega,RH] at hp'
      obtain rfl:=Uk hp';have Qg:=hps (by rw[hsame.2,hx];rfl)
      exact IF (by rw[e,nH RH Qf,Qg]) hrd
     ·rw[if_neg hsame] at hrd;exact Gb hrd
end
section
theorem ng{κ β:Type}[DecidableEq κ](k:κ)(u v:β):∀m:List (κ×β),aX k v (aX k u m)=aX k v m
 |[]=>by simp[aX]
 |(j,x)::r=>by
  by_cases e:j=k
  ·simp[aX,e]
  ·simp[aX,e,ng k u v r]
variable{s s' s2:cG}{a:Ag}{A:List Ag}{acc:List aG}{al:Int->Bool}{G G':Int->fZ}{n n':Nat}{r:aP}{ps pn:List bL}{b b':Int}{who aA:Int}{k:Nat}{fl se:Option (Int×aG)}{held:List gP}
theorem Inv.B6(h:Inv s A acc al G n):s.t.Fits:=by
 intro id o ho;obtain⟨h1,h2,h3,_⟩:=h.jC.on id o ho;have:=h.last;have:=h1.gQ;have:=h1.tail;have:=mE.len h1;omega
theorem Inv.C1(h:Inv s (a::A) acc al G n)(ha:a.use=none){id:Int}{o:On}(hg:aH id s.t.l=some o)(hu:o.used=true):∃x∈A,x.use=some id:=by
 have hm:=(h.jC.on id o hg).2.2.2.2 hu;rw[Ui,kj ha,Us,Xk] at hm;obtain⟨x,hx,FZ⟩:=hm;unfold Ag.uses at FZ;split at FZ
 ·cases FZ
 ·rename_i i hi
  rw[Vi] at FZ;have:=congrArg Prod.snd FZ;dsimp only at this;exact⟨x,hx,by rw[hi,this]⟩
theorem lj(hI:Inv s (Ag.idle r.who::A) acc al G n):
  (aH r.o.iter s.t.l=none∧r.use s=((r.refuse s 3).1,(r.refuse s 3).2.1,(r.refuse s 3).2.2,false))∨
  ((∃x∈A,x.use=some r.o.iter)∧r.use s=(r,s,0,false))∨
  ∃o,aH r.o.iter s.t.l=some o∧o.used=false∧r.use s=({ r with using_:=true },{ s with t:=⟨s.t.last,aX r.o.iter { o with used:=true,who:=r.who } s.t.l⟩ },1,true)∧
   Inv { s with t:=⟨s.t.last,aX r.o.iter { o with used:=true,who:=r.who } s.t.l⟩ } (⟨r.who,none,[],[],some r.o.iter,none⟩::A) acc al G n∧
   aH r.o.iter (aX r.o.iter { o with used:=true,who:=r.who } s.t.l)=some { o with used:=true,who:=r.who }∧
   dN r.who s { s with t:=⟨s.t.last,aX r.o.iter { o with used:=true,who:=r.who } s.t.l⟩ }∧abs { s with t:=⟨s.t.last,aX r.o.iter { o with used:=true,who:=r.who } s.t.l⟩ } G=abs s G:=by
 unfold aP.use;cases hg:aH r.o.iter s.t.l with
 |none=>exact .inl ⟨rfl,rfl⟩
 |some o=>
  dsimp only;by_cases hu:o.used=true∧o.who≠r.who
  ·rw[if_pos hu];exact .inr (.inl ⟨hI.C1 rfl hg hu.1,rfl⟩)
  ·rw[if_neg hu];obtain⟨h1,h2⟩:=hI.uses rfl hg hu;refine .inr (.inr ⟨o,rfl,h1,rfl,h2,by rw[jg,if_pos rfl],dN.on hg (.inl h1) rfl rfl,?_⟩)
   unfold abs;rw[show dV (aX r.o.iter { o with used:=true,who:=r.who } s.t.l) G=dV s.t.l G from xL hg rfl rfl]
theorem fc{m:qI}{o:gR}(hb:aP.bad o=false)(h6:o.kind=6):m.act o=match aH o.iter m.its with
  |none=>m.err 3
  |some L=>({ m with its:=aX o.iter (L.drop (min (max o.N 0) 1000).toNat) m.its },⟨0,0,L.take (min (max o.N 0) 1000).toNat⟩):=by
 unfold qI.act;rw[hb,if_neg O2,if_pos h6];all_goals rfl
theorem nv{m:qI}{o:gR}(hb:aP.bad o=false)(h7:o.kind=7):m.act o=match aH o.iter m.its with
  |none=>m.err 3
  |some _=>({ m with its:=bY o.iter m.its },⟨0,0,[]⟩):=by
 unfold qI.act;rw[hb,if_neg O2,if_neg O0,if_pos h7];all_goals rfl
theorem bo{m:qI}{o:gR}(hb:aP.bad o=false)(hk:o.kind=6∨o.kind=7)(hn:aH o.iter m.its=none):m.act o=m.err 3:=by
 rcases hk with hk|hk
 ·rw[fc hb hk,hn]
 ·rw[nv hb hk,hn]
theorem nu(hI:Inv s (⟨r.who,none,[],[],some r.o.iter,none⟩::A) acc al G n){o:On}(hg:aH r.o.iter s.t.l=some o)(Ks:o.used=true)(how:o.who=r.who)(hb:aP.bad r.o=false)(hk:r.o.kind=6){L:List bZ}(hL:L=((o.x.all G).drop o.told.toNat).take r.cap.toNat):
  ∃s',r.hand s L=({ r with using_:=false,over:=true,res:=⟨0,0,L⟩ },s',2)∧Inv s' (Ag.idle r.who::A) acc al G n∧dN r.who s s'∧s'.b=s.b∧s'.c=s.c∧(abs s G).act r.o=(abs s' G,⟨0,0,L⟩):=by
 obtain⟨o',h1,_,_,h4,h5,h6,h7⟩:=hI.mine rfl;rw[hg] at h1;obtain rfl:=Uk h1;have mW:=mE.len h4;have xA:=h4.gQ;have jE:=hI.last;have hcap:0<=r.cap∧r.cap<=1000:=by unfold aP.cap;omega
 have YA:L.length=min r.cap.toNat ((o.x.all G).length-o.told.toNat):=by rw[hL,Ul,Um]
 have Qh:wI (o.told+max (L.length:Int) 0)=o.told+(L.length:Int):=by
  rw[show max (L.length:Int) 0=(L.length:Int) by omega]
  exact jf O0 O0
 have VK:(s.t.move r.o.iter r.who (L.length:Int)).free r.o.iter r.who=⟨s.t.last,aX r.o.iter { o with used:=false,told:=o.told+(L.length:Int) } s.t.l⟩:=by
  have hm:s.t.mine r.o.iter r.who=some o:=by
   unfold Tb.mine;rw[hg];dsimp only;rw[if_pos ⟨Ks,how⟩]
  have e1:s.t.move r.o.iter r.who (L.length:Int)=⟨s.t.last,aX r.o.iter { o with told:=o.told+(L.length:Int) } s.t.l⟩:=by
   unfold Tb.move;rw[hm];dsimp only;rw[Qh]
  rw[e1]
  have hm2:Tb.mine ⟨s.t.last,aX r.o.iter { o with told:=o.told+(L.length:Int) } s.t.l⟩ r.o.iter r.who=some { o with told:=o.told+(L.length:Int) }:=by
   unfold Tb.mine;dsimp only;rw[jg,if_pos rfl];dsimp only;rw[if_pos ⟨Ks,how⟩]
  unfold Tb.free;rw[hm2];dsimp only;rw[ng]
 have M5:=hI.IC (told:=o.told+(L.length:Int)) rfl hg O0 O0;refine⟨{ s with t:=⟨s.t.last,aX r.o.iter { o with used:=false,told:=o.told+(L.length:Int) } s.t.l⟩ },?_,M5,dN.on hg (.inr how) rfl rfl,rfl,rfl,?_⟩
 ·rw[aP.hand_eq,VK]
 ·have fM:aH r.o.iter (abs s G).its=some ((o.x.all G).drop o.told.toNat):=by
   show aH r.o.iter (dV s.t.l G)=_;rw[kU,hg];rfl
  rw[fc hb hk,fM];dsimp only
  have Dx:((o.x.all G).drop o.told.toNat).drop r.cap.toNat=(o.x.all G).drop (o.told+(L.length:Int)).toNat:=by
   rw[List.drop_drop];by_cases hc:r.cap.toNat<=(o.x.all G).length-o.told.toNat
   ·congr 1;omega
   ·rw[Xz O0,Xz O0]
  have Kv:aX r.o.iter (((o.x.all G).drop o.told.toNat).drop r.cap.toNat) (dV s.t.l G)=dV (aX r.o.iter { o with used:=false,told:=o.told+(L.length:Int) } s.t.l) G:=by
   rw[zT hg,Dx]
  rw[show(min (max r.o.N 0) 1000)=r.cap from rfl,show(abs s G).its=dV s.t.l G from rfl,Kv,<- hL];rfl
theorem ru(hk:r.o.kind=6){o:On}(ho:aH r.o.iter s.t.l=some o):r.need s=2+6*o.x.parts.length:=by unfold aP.need;rw[if_neg O0,if_pos hk,ho]
theorem VL{id:Int}{o:On}{T:Tb}(hg:aH id T.l=some o){p:gP}(hp:p∈o.x.parts):0<dI acc A T p.bB:=by
 have h1:=i9 (fun o:On=>rc p.bB o.x.parts) hg;have h2:=ti hp;unfold dI
 (try dsimp only at h1)
 omega
theorem ry(hI:Inv s (a::A) acc al G n)(hr:pH al r)(hk:r.o.kind=5)(hR:Rel G s r a k)(hn:n+2<=1000000000):r.CN s∧∃a' acc' G',Out A al s G n r k (r.open_ s) a' acc' G':=by
 obtain⟨s0,s1⟩:=xe hr.bad O0 O0;have hal:=hr.al O0;have jE:=hI.last;have uY:r.oK=0:=if_neg O0;have AJ:s.b.last<=s.b.last+r.oK:=by omega
 have ht:=hI.jC;have Ll:=ht.sJ;have Gq:=ht.uI;have hnk:aH (s.t.last+1) s.t.l=none:=dD.2 fun hm=>by have:=(ht.ids _ hm).2;omega
 refine⟨⟨hI.fits,hnk,Ll,cI⟩,?_⟩;cases hR with
 |make hk'=>exact absurd hk' C9
 |put hk'=>exact absurd hk' C9
 |hard hk'=>omega
 |read hk'=>omega
 |next hk'=>omega
 |idle h0 hf hb=>
  obtain⟨i,p,e,hi,hp,gO,hc⟩:=hI.look s0 s1
  have key:r.open_ s=match dM.look s.d r.o.aA with
   |none=>(r,s,0)
   |some sl=>if sl.there=false then r.refuse s 3 else if s.t.l.length ≥ 8 then r.refuse s 5 else if(s.b.hold [] (sl.snap r.o.F r.o.To).parts).1
    then r.stop { s with b:=(s.b.hold [] (sl.snap r.o.F r.o.To).parts).2,t:=⟨s.t.last+1,aX (s.t.last+1) ⟨r.o.aA,0,sl.snap r.o.F r.o.To,false,0⟩ s.t.l⟩ } ⟨0,s.t.last+1,[]⟩ 2
    else r.stop { s with b:=(s.b.hold [] (sl.snap r.o.F r.o.To).parts).2 } ⟨7,0,[]⟩ 3:=by
   unfold aP.open_;cases dM.look s.d r.o.aA with
   |none=>rfl
   |some sl=>
    dsimp only;by_cases h1:sl.there=false
    ·rw[if_pos h1,if_pos h1]
    ·rw[if_neg h1,if_neg h1];by_cases h2:s.t.l.length ≥ 8
     ·rw[if_pos h2,if_pos h2]
     ·rw[if_neg h2,if_neg h2];generalize s.b.hold [] (sl.snap r.o.F r.o.To).parts=z;obtain⟨z1,z2⟩:=z;cases z1 <;> rfl
  rw[key];rcases hc with⟨yL,hc⟩|⟨yL,hc,hv,hacc⟩
  ·rw[hc];obtain⟨x,hx,f,hf,he⟩:=hI.P3 rfl hp yL;exact⟨_,_,G,(hI.kJ hn).2,fun _ _=>rfl,Ut _,AJ,fun _ h1 h2=>absurd h1 (Vp.2 h2),dN.refl _ _,rfl,rfl,rfl,rfl,.none rfl h0 (.inl ⟨cI,cI,x,hx,f,hf,he.trans e.symm⟩)⟩
  ·rw[hc];dsimp only;obtain⟨hs,xR,_⟩:=hI.dir.ok i p hp;have rA:(abs s G).oB r.o.aA=p.s.cX G:=by show dJ s.d G r.o.aA=_;rw[e];exact nH hp hi
   have hlen:(abs s G).its.length=s.t.l.length:=Ew _;by_cases IG:p.s.there=false
   ·rw[if_pos IG];refine⟨_,_,G,(hI.kJ hn).2,fun _ _=>rfl,Ut _,AJ,fun _ h1 h2=>absurd h1 (Vp.2 h2),dN.refl _ _,rfl,rfl,rfl,rfl,.gF rfl rfl (iE hf hb.using_ hb.held) rfl ?_⟩;rw[jr hr.bad O0 O0,rA,show p.s.cX G=none from by unfold aG.cX;rw[IG];rfl]
    dsimp only;rw[if_neg O0];rfl
   ·rw[if_neg IG];have IG:p.s.there=true:=by cases h:p.s.there with|true=>rfl|false=>exact absurd h IG
    have hact:(abs s G).act r.o=if s.t.l.length ≥ 8 then(abs s G).err 5 else({ abs s G with its:=(abs s G).its++[((abs s G).next+1,within (p.s.all G) r.o.F r.o.To)],next:=(abs s G).next+1 },⟨0,(abs s G).next+1,[]⟩):=by
     rw[jr hr.bad O0 O0,rA,show p.s.cX G=some (p.s.closed,p.s.all G) from by unfold aG.cX;rw[IG];rfl]
     dsimp only;rw[if_neg O0,if_neg O0,if_neg O0,if_neg O0,hlen]
    by_cases h8:s.t.l.length ≥ 8
    ·rw[if_pos h8];refine⟨_,_,G,(hI.kJ hn).2,fun _ _=>rfl,Ut _,AJ,fun _ h1 h2=>absurd h1 (Vp.2 h2),dN.refl _ _,rfl,rfl,rfl,rfl,.gF rfl rfl (iE hf hb.using_ hb.held) rfl ?_⟩;rw[hact,if_pos h8];rfl
    ·rw[if_neg h8];rw[if_neg h8] at hact;obtain⟨X,hX⟩:∃X,p.s.snap r.o.F r.o.To=X:=⟨_,rfl⟩;have HC:mH G s.b.last X:=by rw[<- hX];exact VJ hs xR
     have M4:∀q∈X.parts,0<dI acc (Ag.idle r.who::A) s.t q.bB:=fun q hq=>na (Ue hacc) (by rw[<- hX] at hq;exact(Xy.1 hq).1) _
     rw[hX];obtain⟨q1,q2,q3⟩:=hI.hold (ps:=X.parts) rfl HC.kS M4 HC.gQ;rw[q1,if_pos rfl]
     have Ey:(s.b.hold [] X.parts).2.bA=s.b.bA:=by
      have M6:∀j,dI acc (⟨r.who,none,X.parts,[],none,none⟩::A) s.t j=dI acc (Ag.idle r.who::A) s.t j+rc j X.parts:=by
       intro j;unfold dI;rw[fC,fC];show _+(rc j X.parts+_)+_=_+(0+_)+_+_;omega
      have:=hI.oM.hold (iD:=dI acc (⟨r.who,none,X.parts,[],none,none⟩::A) s.t) [] (ps:=X.parts) M4 M6 fun j=>by
       have e1:=hI.CV j;have e2:=mr j X.parts;have e3:=HC.gQ;rw[M6];unfold Er;omega
      exact this.2.2.2.1
     obtain⟨w1,w2⟩:=q3.opens (aA:=r.o.aA) (x:=X) (by(try dsimp only);rw[q2];exact HC) rfl hal (by(try dsimp only);omega) O0
     refine⟨_,acc,G,w2.mono O0 O0,fun _ _=>rfl,by show _<=(s.b.hold [] X.parts).2.last;omega,by show(s.b.hold [] X.parts).2.last<=_;omega,fun _ h1 h2=>absurd h1 (Vp.2 (Wd h2 (by show(s.b.hold [] X.parts).2.last<=_;omega))),⟨fun _ _ h _ _=>h,fun id o ho _ _=>?_⟩,rfl,rfl,rfl,Ey,.gF rfl rfl (iE hf hb.using_ hb.held) rfl ?_⟩
     ·show aH id (aX (s.t.last+1) _ s.t.l)=some o;rw[jg,if_neg]
      ·exact ho
      ·rintro rfl;rw[hnk] at ho;cases ho
     ·rw[hact];have hin:dV (aX (s.t.last+1) (⟨r.o.aA,0,X,false,0⟩:On) s.t.l) G=dV s.t.l G++[(s.t.last+1,X.all G)]:=Eu hnk rfl;have M7:X.all G=within (p.s.all G) r.o.F r.o.To:=by rw[<- hX];exact hs.snap _ _
      rw[M7] at hin;show _=((⟨dJ s.d G,dV (aX (s.t.last+1) (⟨r.o.aA,0,X,false,0⟩:On) s.t.l) G,s.t.last+1⟩:qI),_);rw[hin];rfl
theorem rz(hI:Inv s (a::A) acc al G n)(hr:pH al r)(hk:r.o.kind=7)(hR:Rel G s r a k)(hn:n+2<=1000000000):s.t.Fits∧∃a' acc' G',Out A al s G n r k (r.shut s) a' acc' G':=by
 refine⟨hI.B6,?_⟩;have jE:=hI.last;have uY:r.oK=0:=if_neg O0;have AJ:s.b.last<=s.b.last+r.oK:=by omega
 cases hR with
 |make hk'=>exact absurd hk' C9
 |put hk'=>exact absurd hk' C9
 |hard hk'=>omega
 |read hk'=>omega
 |next hk'=>omega
 |idle h0 hf hb=>
  rcases lj hI with⟨u1,u2⟩|⟨u1,u2⟩|⟨o,u1,u2,u3,u4,u5,u6,u7⟩
  ·unfold aP.shut;rw[u2];refine⟨_,_,G,(hI.kJ hn).2,fun _ _=>rfl,Ut _,AJ,fun _ h1 h2=>absurd h1 (Vp.2 h2),dN.refl _ _,rfl,rfl,rfl,rfl,.gF rfl rfl (iE hf hb.using_ hb.held) rfl ?_⟩;rw[bo hr.bad (.inr hk) (by show aH r.o.iter (dV s.t.l G)=none;rw[kU,u1];rfl)];rfl
  ·unfold aP.shut;rw[u2];exact⟨_,_,G,(hI.kJ hn).2,fun _ _=>rfl,Ut _,AJ,fun _ h1 h2=>absurd h1 (Vp.2 h2),dN.refl _ _,rfl,rfl,rfl,rfl,.none rfl h0 (.inr ⟨.inr hk,u1⟩)⟩
  ·have hm:({ r with using_:=true }:aP).mine { s with t:=⟨s.t.last,aX r.o.iter { o with used:=true,who:=r.who } s.t.l⟩ }=some { o with used:=true,who:=r.who }:=by
    unfold aP.mine;dsimp only;rw[u5];dsimp only;rw[if_pos ⟨rfl,rfl⟩]
   have key:r.shut s=({ r with using_:=false,over:=true,res:=⟨0,0,[]⟩ },{ s with b:=s.b.leave o.x.parts,t:=⟨s.t.last,bY r.o.iter s.t.l⟩ },2):=by
    unfold aP.shut;rw[u3];dsimp only;rw[hm,y8];rfl
   rw[key];have h1:=u4.Kq rfl rfl u5;obtain⟨h2,h3⟩:=h1.FY (ps:=o.x.parts) rfl
   have h4:Inv { s with b:=s.b.leave o.x.parts,t:=⟨s.t.last,bY r.o.iter s.t.l⟩ } (Ag.idle r.who::A) acc al G n:=by
    rw[y8] at h3;exact h3
   refine⟨_,_,G,(h4.kJ hn).2,fun _ _=>rfl,by show _<=(s.b.leave o.x.parts).last;rw[h2];exact Ut _,by show(s.b.leave o.x.parts).last<=_;rw[h2];exact AJ,fun _ h1' h2'=>absurd h1' (Vp.2 (Wd h2' (by show(s.b.leave o.x.parts).last<=_;rw[h2];exact Ut _))),⟨fun _ _ h _ _=>h,fun id o' ho' M0 _=>?_⟩,rfl,rfl,rfl,ki _ _,.gF rfl rfl (iE hf rfl hb.held) rfl ?_⟩
   ·show aH id (bY r.o.iter s.t.l)=some o';rw[j7 _ _ _ hI.jC.nd,if_neg]
    ·exact ho'
    ·rintro rfl;rw[u1] at ho';obtain rfl:=Uk ho';rw[u2] at M0;cases M0
   ·rw[nv hr.bad hk,show aH r.o.iter (abs s G).its=some ((o.x.all G).drop o.told.toNat) from by show aH r.o.iter (dV s.t.l G)=_;rw[kU,u1];rfl]
    dsimp only;have hd:dV (bY r.o.iter s.t.l) G=bY r.o.iter (dV s.t.l G):=Ev _;show _=((⟨dJ s.d G,dV (bY r.o.iter s.t.l) G,s.t.last⟩:qI),_);rw[hd];rfl
end
section
variable{s s' s2:cG}{a:Ag}{A:List Ag}{acc:List aG}{al:Int->Bool}{G G':Int->fZ}{n n':Nat}{r:aP}{ps pn:List bL}{b b':Int}{who aA:Int}{k:Nat}{fl se:Option (Int×aG)}{held:List gP}
theorem yN{L M:List bZ}(h:L <+: M){d c:Nat}(hl:d+c<=L.length):(M.drop d).take c=(L.drop d).take c:=by
 obtain⟨t,rfl⟩:=h;rw[List.drop_append_of_le_length O0,Xw KU]
theorem VM(r:aP):0<=r.cap∧r.cap<=1000:=by unfold aP.cap;omega
theorem rx(hI:Inv s (a::A) acc al G n)(hr:pH al r)(hk:r.o.kind=6)(hR:Rel G s r a k)(hn:n+2<=1000000000)(DN:∀id,1<=id->id<=s.b.last->sM (G id).tag):r.CP s∧∃a' acc' G',Out A al s G n r k (r.tell s) a' acc' G':=by
 have jE:=hI.last;have uY:r.oK=0:=if_neg O0;have AJ:s.b.last<=s.b.last+r.oK:=by omega
 have hcap:=VM r;have PM:min (max r.o.N 0) 1000=r.cap:=rfl;have hte:=aP.DK r s;rw[PM] at hte;cases hR with
 |make hk'=>exact absurd hk' C9
 |put hk'=>exact absurd hk' C9
 |hard hk'=>omega
 |read hk'=>omega
 |idle h0 hf hb=>
  refine⟨⟨hI.B6,fun h=>by omega,by rw[hb.got];exact Uf _,fun h=>absurd h0 h⟩,?_⟩
  rw[if_pos h0] at hte;rw[hte];rcases lj hI with⟨u1,u2⟩|⟨u1,u2⟩|⟨o,u1,u2,u3,u4,u5,u6,u7⟩
  ·rw[u2,if_neg Vt];refine⟨_,_,G,(hI.kJ hn).2,fun _ _=>rfl,Ut _,AJ,fun _ h1 h2=>absurd h1 (Vp.2 h2),dN.refl _ _,rfl,rfl,rfl,rfl,.gF rfl rfl (iE hf hb.using_ hb.held) rfl ?_⟩;rw[bo hr.bad (.inl hk) (by show aH r.o.iter (dV s.t.l G)=none;rw[kU,u1];rfl)];rfl
  ·rw[u2,if_neg Vt];exact⟨_,_,G,(hI.kJ hn).2,fun _ _=>rfl,Ut _,AJ,fun _ h1 h2=>absurd h1 (Vp.2 h2),dN.refl _ _,rfl,rfl,rfl,rfl,.none rfl h0 (.inr ⟨.inl hk,u1⟩)⟩
  ·rw[u3,if_pos rfl];have M8:s.t.on r.o.iter=o:=by unfold Tb.on;rw[u1];rfl
   rw[M8];by_cases hc:r.cap=0
   ·rw[if_pos hc];obtain⟨s',h1,h2,h3,h4,h5,h6⟩:=nu (r:={ r with using_:=true,x:=o.x,told:=o.told,ph:=2 }) (L:=[]) u4 u5 rfl rfl hr.bad hk (by show[]=(_:List bZ).take r.cap.toNat;rw[hc];rfl)
    rw[h1];have h4':s'.b.last=s.b.last∧s'.b.bA=s.b.bA:=by rw[h4];exact⟨rfl,rfl⟩
    refine⟨_,acc,G,(h2.kJ hn).2,fun _ _=>rfl,by show _<=s'.b.last;omega,by show s'.b.last<=_;omega,fun _ h1 h2=>absurd h1 (Vp.2 (Wd h2 KV)),u6.trans h3,rfl,rfl,?_,h4'.2,.gF rfl rfl (iE hf rfl hb.held) rfl ?_⟩
    ·show s'.c.bE.most=_;rw[h5]
    ·rw[u7] at h6;exact h6
   ·rw[if_neg hc];obtain⟨o1,o2,o3,o4,_⟩:=hI.jC.on _ _ u1;have xA:=o1.gQ;refine⟨_,acc,G,(u4.kJ hn).2,fun _ _=>rfl,Ut _,AJ,fun _ h1 h2=>absurd h1 (Vp.2 h2),u6,rfl,rfl,rfl,rfl,.some rfl ⟨hr.over,hr.bad,hr.wf,hr.al,hr.s4,hr.s5,hr.n4,hr.n5,Cb,hr.f0,hr.f3⟩ (6*o.x.parts.length+1) ?_ (.inl ⟨by rw[ru hk u1];omega,rfl,Hy _⟩) u7 (fun h=>absurd h C9)⟩
    refine Rel.next (r:={ r with using_:=true,x:=o.x,told:=o.told,ph:=if o.x.parts.length=0 then 3 else 2 }) hk hf hb.held rfl (o:={ o with used:=true,who:=r.who }) (pn:=[]) u5 rfl rfl rfl rfl ?_ hc ?_
    ·show eD G o.x o.aA r.one r.i r.got [] _;rw[hb.one,hb.i,hb.got];exact eD.new G o.x o.aA
    ·show(((if o.x.parts.length=0 then(3:Int) else 2)=2∧r.i≠_∧(r.got.length:Int)<o.told+r.cap)∨((if o.x.parts.length=0 then(3:Int) else 2)=3∧r.one=none∧_∧(r.i=(o.x.parts.length:Int)∨_)))
     rw[hb.i,hb.got,hb.one];by_cases h0:o.x.parts.length=0
     ·rw[if_pos h0];exact .inr ⟨rfl,rfl,rfl,.inl O0⟩
     ·rw[if_neg h0];exact .inl ⟨rfl,by show(0:Int)≠(o.x.parts.length:Int);omega,by show(0:Int)<o.told+r.cap;omega⟩
 |@next _ hf hh hu o pn k hg Ks how ID bK hp hn0 xQ=>
  obtain⟨o',h1,_,_,o1,o2,o3,o4⟩:=hI.mine rfl;rw[hg] at h1;obtain rfl:=Uk h1;have tT:mH G s.b.last r.x:=by rw[<- ID];exact o1
  have xA:=tT.gQ;have MR:=tT.tail;have mW:=mE.len tT;have Ih:=hp.vO tT.kS;have M8:s.t.on r.o.iter=o:=by unfold Tb.on;rw[hg];rfl
  rw[M8] at hte;rw[ID] at o3;have Ll:0<=r.told∧r.told<=800007:=by omega
  have hS:∀p∈r.x.parts,∃e,aH p.bB s.b.l=some e∧(G p.bB).Ok e.bs:=fun p hp=>by
   obtain⟨e,he,ho,_⟩:=hI.oM.alive (VL hg (show p∈o.x.parts by rw[ID];exact hp))
   exact⟨e,he,ho⟩
  have Ga:=hI.vP;rw[Ui,Ua] at Ga;rcases xQ with⟨h2,hi,hlt⟩|⟨h3,hone,xK,hfull⟩
  ·obtain⟨z,hz⟩:∃z,r.part s o.aA=z:=⟨_,rfl⟩;rw[if_neg O0,if_pos h2,hz] at hte;have Iq:=fp hI rfl hp tT hi o4 hS DN;obtain⟨_,hst⟩:=xl (s:=s) hp tT jE hi o4 hI.qY hS;rw[hte];rcases hst with⟨one,i,got,Es,k',C,e1,e2,e3,e4,e5⟩|⟨y,kk,e1,e2,e3,e4,e5⟩
   ·have A0:=e2.F3;refine⟨⟨hI.B6,fun _=>by rw[M8];exact⟨Iq,by rw[e1];exact e4.good.ok Lu⟩,cI,fun _ h=>absurd h2 h⟩,?_⟩
    rw[e1] at hz;rw[<- hz,if_neg (fun h=>h rfl)];dsimp only;have Qh:wI (r.told+r.cap)=r.told+r.cap:=jf O0 O0;rw[Qh,ID];have M5:=hI.cache (pn:=Es) O0 e4;have VN:=e2.vO tT.kS;refine⟨_,acc,G,M5.mono O0 O0,fun _ _=>rfl,Ut _,AJ,fun _ h1 h2=>absurd h1 (Vp.2 h2),dN.same rfl rfl,rfl,rfl,e5,rfl,.some rfl ⟨hr.over,hr.bad,hr.wf,hr.al,hr.s4,hr.s5,hr.n4,hr.n5,hr.xp,hr.f0,hr.f3⟩ (k'+1) ?_ (.inl ⟨cI,rfl,Hy _⟩) rfl (fun h=>absurd h C9)⟩;refine Rel.next (r:={ r with one:=one,i:=i,got:=got,ph:=if i=(r.x.parts.length:Int)∨(got.length:Int) ≥ r.told+r.cap then 3 else 2 }) hk hf hh hu hg Ks how ID bK e2 hn0 ?_
    show((if i=(r.x.parts.length:Int)∨(got.length:Int) ≥ r.told+r.cap then(3:Int) else 2)=2∧i≠_∧(got.length:Int)<r.told+r.cap)∨((if i=(r.x.parts.length:Int)∨(got.length:Int) ≥ r.told+r.cap then(3:Int) else 2)=3∧one=none∧Es=[]∧(i=(r.x.parts.length:Int)∨r.told+r.cap<=(got.length:Int)))
    by_cases h0:i=(r.x.parts.length:Int)∨(got.length:Int) ≥ r.told+r.cap
    ·rw[if_pos h0]
     have hnone:one=none∧Es=[]:=by
      rcases h0 with h0|h0
      ·rw[h0] at e2;exact⟨e2.full.2.1,e2.full.2.2⟩
      ·obtain⟨j,q1,q2,q3,⟨q4,q5,_⟩|⟨y,p,kk,q4,q5,_⟩⟩:=e2
       ·exact⟨q4,q5⟩
       ·exfalso;rw[aP.part_eq] at e1;split at e1
        ·have:=congrArg (fun z=>z.2.2) e1;dsimp only at this
         rename_i hne
         exact hne this
        ·split at e1
         ·have:=congrArg (fun z:aP×cG×Int=>z.1.one) e1;dsimp only at this;rw[<- this] at q4;cases q4
         ·have:=congrArg (fun z:aP×cG×Int=>z.1.got) e1;dsimp only at this;rw[<- this] at h0;omega
     exact .inr ⟨rfl,hnone.1,hnone.2,h0⟩
    ·rw[if_neg h0];exact .inl ⟨rfl,fun h=>h0 (.inl h),cI⟩
   ·refine⟨⟨hI.B6,fun _=>by rw[M8];exact⟨Iq,by rw[e1];exact hI.B5⟩,cI,fun _ h=>absurd h2 h⟩,?_⟩
    rw[e1] at hz;rw[<- hz,if_pos (show(6:Int)≠0 by decide)]
    obtain⟨c1,c2⟩:=e3.leave (ps:=A.flatMap Ag.pins) (C:=s.c) (by
     have:=hI.qY
     (try dsimp only at this)
     rw[e2] at this
     exact this)
    have NZ:=hI.cache (pn:=[]) (Uf _) c1
    have hm:Tb.mine s.t r.o.iter r.who=some o:=by
     unfold Tb.mine;rw[hg];dsimp only;rw[if_pos ⟨Ks,how⟩]
    have N0:=NZ.IC (o:=o) (told:=o.told) rfl hg o2 (by rw[ID];exact o3)
    have key:((({ r with one:=some y }:aP).fail s).1.free (({ r with one:=some y }:aP).fail s).2)=({ r with one:=some (y.leave s.c).1,using_:=false },{ s with c:=(y.leave s.c).2,t:=⟨s.t.last,aX r.o.iter { o with used:=false } s.t.l⟩ }):=by
     rw[aP.free_eq];unfold aP.fail Tb.free;dsimp only;rw[hm]
    dsimp only;rw[key]
    refine⟨_,acc,G,(N0.kJ hn).2,fun _ _=>rfl,Ut _,AJ,fun _ h1 h2=>absurd h1 (Vp.2 h2),dN.on hg (.inr how) rfl rfl,rfl,rfl,c2,rfl,.busy rfl rfl (iE hf rfl hh) rfl ?_ rfl (sO (al:=al) (G:=G) (b:=s.b.last) (by
     have Hs:=hI.qY
     (try dsimp only at Hs)
     rw[e2] at Hs
     exact Hs) e4 e5) (.inr hk)⟩
    show(⟨dJ s.d G,dV (aX r.o.iter { o with used:=false } s.t.l) G,s.t.last⟩:qI)=_
    rw[show dV (aX r.o.iter { o with used:=false } s.t.l) G=dV s.t.l G from xL hg rfl rfl];rfl
  ·rw[if_neg O0,if_neg O0] at hte;refine⟨⟨hI.B6,fun h=>by omega,cI,fun _ _=>Ll.1⟩,?_⟩
   rw[hte];rw[xK] at hI hp;have hpre:=hp.pre
   have hL:r.BZ o r.cap=((o.x.all G).drop o.told.toNat).take r.cap.toNat:=by
    unfold aP.BZ;dsimp only;rw[ID,bK];by_cases hi:r.i=(r.x.parts.length:Int)
    ·rw[if_pos hi];rw[hi] at hp;rw[hp.full.1];rw[show(min r.told ((r.x.all G).length:Int))=r.told by omega]
     generalize (r.x.all G).drop r.told.toNat=M;by_cases hm:r.cap<=(M.length:Int)
     ·rw[show min r.cap (M.length:Int)=r.cap by omega]
     ·rw[show min r.cap (M.length:Int)=(M.length:Int) by omega,Uu O0,Uu O0]
    ·rw[if_neg hi]
     have YB:r.told+r.cap<=(r.got.length:Int):=by
      rcases hfull with h|h
      ·exact absurd h hi
      ·exact h
     rw[show min r.told (r.got.length:Int)=r.told by omega,yN hpre (d:=r.told.toNat) (c:=r.cap.toNat) O0]
     have:((r.got.drop r.told.toNat).length:Int)=(r.got.length:Int)-r.told:=by rw[Um];omega
     rw[show min r.cap ((r.got.drop r.told.toNat).length:Int)=r.cap by omega]
   obtain⟨s',h1,h2,h3,h4,h5,h6⟩:=nu hI hg Ks how hr.bad hk hL;rw[h1];have h4':s'.b.last=s.b.last∧s'.b.bA=s.b.bA:=by rw[h4];exact⟨rfl,rfl⟩
   refine⟨_,acc,G,(h2.kJ hn).2,fun _ _=>rfl,by show _<=s'.b.last;omega,by show s'.b.last<=_;omega,fun _ h1 h2=>absurd h1 (Vp.2 (Wd h2 KV)),h3,rfl,rfl,?_,h4'.2,.gF rfl rfl (iE hf rfl hh) rfl h6⟩
   show s'.c.bE.most=_;rw[h5]
theorem VO(hI:Inv s (a::A) acc al G n)(hr:pH al r)(hR:Rel G s r a k)(hn:n+2<=1000000000)(hb:s.b.last<100000)(DN:∀id,1<=id->id<=s.b.last->sM (G id).tag):r.mU s∧∃a' acc' G',Out A al s G n r k (r.step s) a' acc' G':=by
 have hst:r.step s=if r.o.kind=2 then r.read s else if r.o.kind=5 then r.open_ s else if r.o.kind=6 then r.tell s else if r.o.kind=7 then r.shut s else r.write s:=by
  unfold aP.step;rw[hr.over,if_neg Vt,hr.bad,if_neg Vt]
 rw[hst];by_cases h2:r.o.kind=2
 ·rw[if_pos h2];obtain⟨q1,q2⟩:=rv hI hr h2 hR hn DN;exact⟨⟨fun _ _ _=>q1,fun _ _ h=>by omega,fun _ _ h=>by omega,fun _ _ h=>by omega,fun _ _ h=>absurd h2 h⟩,q2⟩
 rw[if_neg h2];by_cases h5:r.o.kind=5
 ·rw[if_pos h5];obtain⟨q1,q2⟩:=ry hI hr h5 hR hn;exact⟨⟨fun _ _ h=>absurd h h2,fun _ _ _=>q1,fun _ _ h=>by omega,fun _ _ h=>by omega,fun _ _ _ h=>absurd h5 h⟩,q2⟩
 rw[if_neg h5];by_cases h6:r.o.kind=6
 ·rw[if_pos h6];obtain⟨q1,q2⟩:=rx hI hr h6 hR hn DN;exact⟨⟨fun _ _ h=>absurd h h2,fun _ _ h=>absurd h h5,fun _ _ _=>q1,fun _ _ h=>by omega,fun _ _ _ _ h=>absurd h6 h⟩,q2⟩
 rw[if_neg h6];by_cases h7:r.o.kind=7
 ·rw[if_pos h7];obtain⟨q1,q2⟩:=rz hI hr h7 hR hn;exact⟨⟨fun _ _ h=>absurd h h2,fun _ _ h=>absurd h h5,fun _ _ h=>absurd h h6,fun _ _ _=>q1,fun _ _ _ _ _ h=>absurd h7 h⟩,q2⟩
 rw[if_neg h7]
 have hw:r.Cc:=by
  have hb:=hr.bad;unfold aP.bad at hb;by_cases hk:1<=r.o.kind∧r.o.kind<=5
  ·unfold aP.Cc;omega
  ·rw[if_neg hk] at hb;simp[h6,h7] at hb
 obtain⟨q1,q2⟩:=te hI hr hw hR hn hb;exact⟨⟨fun _ _ h=>absurd h h2,fun _ _ h=>absurd h h5,fun _ _ h=>absurd h h6,fun _ _ h=>absurd h h7,fun _ _ _ _ _ _=>q1⟩,q2⟩
end
section
section
variable{w0 w:World}{l:List aC}{t p:Nat}{r:aP}{s:cG}{q:gX}
theorem bi(h:St w0 (bH t r::l) w):
  bP prog 16 [.pz t] w fun v w'=>v=.iz r.holds∧St w0 (bH t r::l) w':=by
 obtain⟨P,hP⟩:∃P:Nat->Int,P=fun k=>(if 1<=k∧r.flag=true then 1 else 0)+(if 2<=k∧r.using_=true then 1 else 0)+(if 3<=k∧r.held=true then 1 else 0):=⟨_,rfl⟩
 have p0:P 0=0:=by rw[hP];rfl
 have Lp:∀k,0<=P k∧P k<=3:=by
  intro k;rw[hP];dsimp only;split <;> split <;> split <;> omega
 have p3:P 3=r.holds:=by
  rw[hP];unfold aP.holds;cases r.flag <;> cases r.using_ <;> cases r.held <;> rfl
 have hh:=h;obtain⟨q,h⟩:=(St.run (r:=r)).1 h;replace h:St w0 (aM t r q::(r.rows q++l)) w:=h;generalize hX:r.rows q++l=X at h;refine en func16 results16 ntmps16 ?_;refine Yr ?_;refine Yr ?_;refine qi (qi (jz none (fun w=>St w0 (aM t r q::X) w) O1 O1 h.drew fun w h=>?_));refine Y6 ?_;refine qj rfl rfl rfl rfl h (fun _ h=>qh rfl (qq (v:=.bool r.flag) rfl (h.b 0 rfl) rfl)) ?_;refine Y6 ?_;refine qj rfl rfl rfl rfl h (fun _ h=>qh rfl (qq (v:=.bool r.using_) rfl (h.b 0 rfl) rfl)) ?_;refine Y6 ?_;refine qj rfl rfl rfl rfl h (fun _ h=>qh rfl (qq (v:=.bool r.held) rfl (h.b 0 rfl) rfl)) ?_;refine Yn ?_;refine Yt ?_;refine qd 12 rfl rfl rfl rfl ?_;refine jq (r:=[.bool r.flag,.bool r.using_,.bool r.held]) h rfl rfl rfl fun b w h=>⟨fun _=>h.drop,?_⟩;have hφ:=h.drop;refine qu rfl rfl rfl rfl (fun _=>hφ) (fun _=>qh rfl (iy rfl)) ?_;refine qm ?_;refine Yg ?_;refine jy (Γ:=Nat) (fun i=>[(3,.iz (P i)),(18,.slice (sQ b) 3 3),(19,.iz 3),(20,.iz (i:Int))]) (fun i w=>i<=3∧St w0 (pt b (.cells [.bool r.flag,.bool r.using_,.bool r.held].toArray 4 (0,0))::aM t r q::X) w) (fun i=>3-i) 0 ⟨by rw[p0];rfl,rfl,rfl,rfl,trivial⟩ ⟨Uf _,h⟩ ?_
 clear h;rintro i w e ⟨hi,h⟩;refine E5 ?_;by_cases hlt:i<3
 ·refine qz (.bool true) O3 ?_;refine Gj ?_;refine Yu ?_;refine qf (Γ:=Unit) (fun _=>[(3,.iz (P (i+1))),(18,.slice (sQ b) 3 3),(19,.iz 3),(20,.iz (i:Int))]) (fun _ w=>St w0 (pt b (.cells [.bool r.flag,.bool r.using_,.bool r.held].toArray 4 (0,0))::aM t r q::X) w) (yt ?_) ?_;rotate_left
  ·rintro _ w e h;refine Yw ?_;refine qz (.iz ((i+1:Nat):Int)) KS ?_;refine Y0 ?_;exact qv ⟨i+1,iA,⟨cI,h⟩,cI⟩
  obtain rfl|rfl|rfl:i=0∨i=1∨i=2:=by omega
  ·have hp:P 1=P 0+(if r.flag=true then 1 else 0):=by
    rw[hP];dsimp only;cases r.flag <;> cases r.using_ <;> cases r.held <;> rfl
   refine Y1 ?_;refine aD (jj (j:=0) (o':=0) rfl rfl rfl O2 rfl) rfl ?_;refine aD (qq (v:=.bool r.flag) rfl (h.b 0 rfl) rfl) rfl ?_;refine Ya ?_;refine EI ?_;refine qv (qo r.flag rfl (fun hc=>?_) (fun hc=>?_))
   ·rw[if_pos hc] at hp;refine Bk ?_;refine qz (.iz (P 1)) (by rw[hp,wrap64 (by have:=Lp 0;omega) (by have:=Lp 0;omega)]) ?_
    refine Y4 ?_;exact qv ⟨(),iA,h⟩
   ·rw[if_neg (by rw[hc];decide),Int.add_zero] at hp
    exact qa ⟨(),⟨by rw[hp];rfl,rfl,rfl,rfl,trivial⟩,h⟩
  ·have hp:P 2=P 1+(if r.using_=true then 1 else 0):=by
    rw[hP];dsimp only;cases r.flag <;> cases r.using_ <;> cases r.held <;> rfl
   refine Y1 ?_;refine aD (jj (j:=1) (o':=1) rfl rfl rfl O2 rfl) rfl ?_;refine aD (qq (v:=.bool r.using_) rfl (h.b 0 rfl) rfl) rfl ?_;refine Ya ?_;refine EI ?_;refine qv (qo r.using_ rfl (fun hc=>?_) (fun hc=>?_))
   ·rw[if_pos hc] at hp;refine Bk ?_;refine qz (.iz (P 2)) (by rw[hp,wrap64 (by have:=Lp 1;omega) (by have:=Lp 1;omega)]) ?_
    refine Y4 ?_;exact qv ⟨(),iA,h⟩
   ·rw[if_neg (by rw[hc];decide),Int.add_zero] at hp
    exact qa ⟨(),⟨by rw[hp];rfl,rfl,rfl,rfl,trivial⟩,h⟩
  ·have hp:P 3=P 2+(if r.held=true then 1 else 0):=by
    rw[hP];dsimp only;cases r.flag <;> cases r.using_ <;> cases r.held <;> rfl
   refine Y1 ?_;refine aD (jj (j:=2) (o':=2) rfl rfl rfl O2 rfl) rfl ?_;refine aD (qq (v:=.bool r.held) rfl (h.b 0 rfl) rfl) rfl ?_;refine Ya ?_;refine EI ?_;refine qv (qo r.held rfl (fun hc=>?_) (fun hc=>?_))
   ·rw[if_pos hc] at hp;refine Bk ?_;refine qz (.iz (P 3)) (by rw[hp,wrap64 (by have:=Lp 2;omega) (by have:=Lp 2;omega)]) ?_
    refine Y4 ?_;exact qv ⟨(),iA,h⟩
   ·rw[if_neg (by rw[hc];decide),Int.add_zero] at hp
    exact qa ⟨(),⟨by rw[hp];rfl,rfl,rfl,rfl,trivial⟩,h⟩
 ·refine qz (.bool false) O4 ?_;refine qv (qi (qt rfl (ju ?_)));obtain rfl:i=3:=by omega
  refine GX ?_;refine qv (qk (bQ ⟨by rw[p3];rfl,?_⟩))
  rw[<- hX] at h;exact(St.run (r:=r)).2 ⟨q,h.drop⟩
end
end
section
section
variable{w0 w:World}{l:List aC}{t p:Nat}{r r':aP}{s s':cG}{n:Nat}{d:Int}
inductive rB:aP->cG->Nat->aP->cG->Int->Prop
 |last {r:aP} {s:cG} {d:Int} (hok:r.mU s) (hd:(r.step s).2.2=d) (h:d=2∨d=3):rB r s 1 (r.step s).1 (r.step s).2.1 d
 |more {r:aP} {s:cG} {n:Nat} {r':aP} {s':cG} {d:Int} (hok:r.mU s) (hd:(r.step s).2.2=1) (h:rB (r.step s).1 (r.step s).2.1 n r' s' d):rB r s (n+1) r' s' d
theorem uK(h:St w0 (aU p s::l) w):bP prog 12 [.pz p] w fun v w'=>v=.bool true∧St w0 (aU p s::l) w':=by
 refine en func12 results12 ntmps12 ?_;refine pL ?_;refine Yq ?_;refine aD (v6 rfl rfl) rfl ?_;refine DY ?_;refine aF rfl (qg rfl (TX h) ?_);clear h;rintro _ w ⟨q,rfl,h⟩;replace h:=St.lJ.2 ⟨q,h⟩;refine Yf ?_;refine aD (v6 rfl rfl) rfl ?_;refine Ye ?_;refine DY ?_;refine aF rfl (qg rfl (ms h) ?_);clear h;rintro _ w ⟨q,rfl,h⟩;replace h:=St.lJ.2 ⟨q,h⟩;refine Yf ?_;refine aD (v6 rfl rfl) rfl ?_;refine Ye ?_;refine DY ?_;refine aF rfl (qg rfl (mn h) ?_);clear h;rintro _ w ⟨q,rfl,h⟩;replace h:=St.lJ.2 ⟨q,h⟩;refine Yf ?_;refine aD (v6 rfl rfl) rfl ?_;refine Ye ?_;refine DY ?_;refine aF rfl (qg rfl (ef h) ?_);clear h;rintro _ w ⟨q,rfl,h⟩;replace h:=St.lJ.2 ⟨q,h⟩;refine Yf ?_;refine aD (v6 rfl rfl) rfl ?_;refine Dh ?_;exact qv (qk (bQ ⟨rfl,h⟩))
theorem iF(hT:Tz w0){o:gR}(hs:rB (aP.new 0 o) s n r' s' d)(hn:n<=3000)(ho:r'.over=true)(hh:r'.holds=0)(hl:r'.res.list.length<=1073741824)(h:St w0 (aU p s::l) w):
  bP prog 13 [.pz p,.agg o.C.toArray] w fun v w'=>∃a c,v=.tuple [.agg (r'.res.C a c).toArray,.iz (n:Int),.bool true].toArray∧St w0 (aB a c r'.res.list::aU p s'::l) w':=by
 have hout:r'.out=r'.res:=by unfold aP.out;rw[ho];rfl
 refine en func13 results13 ntmps13 ?_;refine Y1 ?_;refine aF rfl (jk h (show _=Value.agg o.C.toArray from rfl) fun b3 w h=>?_);refine aF rfl (qn h fun b4 w h=>?_);refine tZ ?_;refine Y1 ?_;refine aD (qx (l:=o.C) rfl rfl (qw (h.b 1 rfl) rfl)) rfl ?_;refine aF rfl (qg rfl (fv 0 o h) ?_);clear h;rintro _ w ⟨t,rfl,h⟩;obtain⟨VP,YC⟩:∃v:List Value,[.iz 0,.iz 0,.slice none 0 0]=v:=⟨_,rfl⟩;replace h:St w0 (bH t (aP.new 0 o)::pt b4 (.cells [.iz 0,.iz 0,.slice none 0 0].toArray 28 (0,0))::pt b3 (.cells o.C.toArray 33 (0,0))::aU p s::l) w:=h;replace h:St w0 (bH t (aP.new 0 o)::aU p s::pt b4 (.cells [.iz 0,.iz 0,.slice none 0 0].toArray 28 (0,0))::l) w:=(h.x [2]).o [0,2,1];refine D0 ?_;refine Y8 ?_;refine qi ?_;refine GR ?_
 refine jy (Γ:=Nat×Nat×aP×cG) (fun g=>[(0,.pz p),(4,.pz b4),(7,.pz t),(8,.iz ((g.1+1:Nat):Int))])
  (fun g w=>g.1+g.2.1=n∧rB g.2.2.1 g.2.2.2 g.2.1 r' s' d∧St w0 (bH t g.2.2.1::aU p g.2.2.2::pt b4 (.cells [.iz 0,.iz 0,.slice none 0 0].toArray 28 (0,0))::l) w) (fun g=>g.2.1) (0,n,aP.new 0 o,s) iA ⟨Uz _,hs,h⟩ ?_
 clear h hs;rintro⟨i,m,r,s⟩ w e ⟨HJ,hs,h⟩;dsimp only at HJ hs h ⊢;have hm1:1<=m:=by cases hs <;> omega
 refine vT ?_;refine EF ?_;refine qz (.bool true) O3 ?_;refine Yh ?_;refine DW ?_;refine oE ?_;have hok:r.mU s:=by cases hs with|last hok=>exact hok|more hok=>exact hok
 refine aF rfl (qg rfl (kq hT hok h) ?_);clear h;rintro _ w ⟨rfl,h⟩;obtain⟨dd,N1⟩:∃dd,(r.step s).2.2=dd:=⟨_,rfl⟩;rw[N1]
 have EN:dd≠0:=by
  rw[<- N1];cases hs with
  |last _ hd h=>omega
  |more _ hd=>omega
 refine Y5 ?_;refine K7 ?_;refine qz (.bool false) (by congr 1;rw[beq_eq_false_iff_ne];exact EN) ?_
 refine Y8 ?_;cases hs with
 |last _ hd hdc=>
  rw[N1] at hd;subst hd;generalize iX:(r.step s).1=r1 at h ho hh hl hout;generalize hs1:(r.step s).2.1=s1 at h;refine qf (Γ:=Unit) (fun _=>[(4,.pz b4),(7,.pz t),(8,.iz ((i+1:Nat):Int)),(32,.bool true)]) (fun _ w=>St w0 (bH t r1::aU p s1::pt b4 (.cells [.iz 0,.iz 0,.slice none 0 0].toArray 28 (0,0))::l) w) ?_ ?_
  ·refine AT ?_;refine Yi ?_;rcases hdc with rfl|rfl
   ·refine qz (.bool true) rfl ?_;refine K5 ?_;exact qv ⟨(),iA,h⟩
   ·refine qz (.bool false) rfl ?_;refine GU ?_;refine Y9 ?_;exact qv ⟨(),iA,h⟩
  clear h;rintro _ w e h;refine vB ?_;refine Yq ?_;refine aF rfl (qg rfl (ym hl h) ?_);clear h;rintro _ w ⟨a,c,rfl,h⟩;rw[hout,ho];rw[hout] at h;refine Ct ?_;refine aF rfl (qn h fun mX w h=>?_);refine aF rfl (qy (vs:=r1.res.C a c) 0 h rfl rfl rfl rfl rfl rfl rfl fun w h=>?_);refine Y3 ?_;replace h:St w0 (bH t r1::pt mX (.cells (r1.res.C a c).toArray 28 (0,0))::aB a c r1.res.list::aU p s1::pt b4 (.cells [.iz 0,.iz 0,.slice none 0 0].toArray 28 (0,0))::l) w:=h.f 2;refine yX ?_;refine vr [0,6,1,2,3,4,8,9,5,7,10] (some 8) (fun w=>St w0 (bH t r1::pt mX (.cells (r1.res.C a c).toArray 28 (0,0))::aB a c r1.res.list::aU p s1::pt b4 (.cells [.iz 0,.iz 0,.slice none 0 0].toArray 28 (0,0))::l) w) O1 O1 h.drew fun w h=>?_;refine qj rfl rfl rfl rfl h (fun _ h=>qh rfl (qx (l:=r1.res.C a c) rfl rfl (qw (h.b 1 rfl) rfl))) ?_;refine Yt ?_;refine Yx ?_;refine Yx ?_;refine qu rfl rfl rfl rfl (fun _=>h) (fun _=>qe rfl rfl (j1 rfl)) ?_;refine xO ?_;refine qd 5 rfl rfl rfl (vt rfl rfl rfl) ?_;refine qg rfl (bi h) ?_;clear h;rintro _ w ⟨rfl,h⟩;rw[hh];refine⟨fun _=>h,?_⟩;refine qu rfl rfl rfl rfl (fun _=>h) (fun _=>qe rfl rfl (gk rfl rfl)) (cD rfl rfl rfl rfl h rfl (jp rfl rfl rfl) ?_);refine Ys ?_;refine jx 8 none rfl rfl rfl rfl ?_;refine qy (vs:=r1.res.C a c) 4 h rfl rfl rfl rfl rfl rfl rfl fun w h=>?_;refine jh h ?_;refine AS ?_;refine rK ?_;exact qm (qk (Az (l:=r1.res.C a c) rfl rfl (qw (h.b 4 rfl) rfl) ⟨a,c,by rw[<- HJ];rfl,(h.x [0,1,4]).o [0,1]⟩))
 |more _ hd hs=>
  rw[N1] at hd;subst hd;refine Yb ?_;refine Yi ?_;refine qz (.bool false) rfl ?_;refine GU ?_;refine Y9 ?_;refine Y8 ?_;refine Bk ?_;refine qz (.iz ((i+1+1:Nat):Int)) KS ?_;refine Y4 ?_;exact qv ⟨(i+1,_,_,_),iA,⟨gH,hs,h⟩,gH⟩
end
end
section
variable{s s' s2:cG}{a:Ag}{A:List Ag}{acc:List aG}{al:Int->Bool}{G G':Int->fZ}{n n':Nat}{r r':aP}{who:Int}{k:Nat}
def B7(r:aP)(s:cG):Prop:=r.o.kind=2->r.flag=false->r.ph≠0->∃sl,dM.look s.d r.o.aA=some sl∧sl.bN=r.x.bN∧sl.cW=r.x.cW
theorem wy{sl:aG}(hk:r.o.kind=2)(hs:r.flag=true∨dM.look s.d r.o.aA=some sl)(h:(r.cP s sl).2.2=1):B7 (r.cP s sl).1 (r.cP s sl).2.1∧(r.cP s sl).1.ph≠0:=by
 obtain⟨z,hz⟩:∃z,r.cP s sl=z:=⟨_,rfl⟩;rw[hz] at h ⊢;unfold aP.cP at hz;by_cases ht:sl.there=false
 ·rw[if_pos ht] at hz;subst hz;cases h
 ·rw[if_neg ht] at hz;dsimp only at hz;generalize s.b.hold [] (sl.snap r.o.F r.o.To).parts=q at hz;obtain⟨q1,q2⟩:=q;cases q1 with
  |false=>subst hz;cases h
  |true=>
   subst hz;refine⟨fun _ hf _=>?_,?_⟩
   ·have hf':r.flag=false:=hf;rcases hs with hs|hs
    ·rw[hs] at hf';cases hf'
    ·exact⟨sl,hs,rfl,rfl⟩
   ·show(if(sl.snap r.o.F r.o.To).parts.length=0 then(3:Int) else 2)≠0
    split <;> decide
theorem t7(hk:r.o.kind=2)(hQ:B7 r s)(h1:r.ph=1->r.flag=true)(h:(r.read s).2.2=1):B7 (r.read s).1 (r.read s).2.1∧(r.read s).1.ph≠0:=by
 obtain⟨z,hz⟩:∃z,r.read s=z:=⟨_,rfl⟩;rw[hz] at h ⊢;unfold aP.read at hz;by_cases p0:r.ph=0
 ·rw[if_pos p0] at hz;unfold aP.look at hz;by_cases hf:r.dH ≥ 3
  ·rw[if_pos hf] at hz;unfold aP.take at hz;cases hl:dM.look s.d r.o.aA with
   |none=>rw[hl] at hz;subst hz;cases h
   |some sl=>
    rw[hl] at hz;dsimp only at hz;cases ht:dM.take s.d r.o.aA r.who with
    |none=>rw[ht] at hz;subst hz;cases h
    |some D=>
     rw[ht] at hz;subst hz;exact⟨fun _ hf _=>(by cases hf),by show(1:Int)≠0;decide⟩
  ·rw[if_neg hf] at hz;cases hl:dM.look s.d r.o.aA with
   |none=>rw[hl] at hz;subst hz;cases h
   |some sl=>
    rw[hl] at hz;subst hz;exact wy hk (.inr hl) h
 ·rw[if_neg p0] at hz;by_cases p1:r.ph=1
  ·rw[if_pos p1] at hz;subst hz;exact wy hk (.inl (h1 p1)) h
  ·rw[if_neg p1] at hz;by_cases p2:r.ph=2
   ·rw[if_pos p2,aP.part_eq] at hz;by_cases c1:((r.cur r.o.aA).step s.b s.c).2.2≠0
    ·rw[if_pos c1] at hz;dsimp only at hz;rw[if_pos c1] at hz;subst hz;cases h
    ·rw[if_neg c1] at hz;by_cases c2:((r.cur r.o.aA).step s.b s.c).1.done=true
     ·rw[if_pos c2] at hz;dsimp only at hz;rw[if_neg (fun h=>h rfl)] at hz;subst hz;refine⟨fun _ hf _=>hQ hk hf p0,?_⟩;show(if _ then(3:Int) else 2)≠0
      split <;> decide
     ·rw[if_neg c2] at hz;dsimp only at hz;rw[if_neg (fun h=>h rfl)] at hz;subst hz;refine⟨fun _ hf _=>hQ hk hf p0,?_⟩;show(if _ then(3:Int) else 2)≠0
      split <;> decide
   ·rw[if_neg p2] at hz;by_cases hf:r.flag=true
    ·rw[if_pos hf] at hz;subst hz;cases h
    ·rw[if_neg hf] at hz;obtain⟨sl,q1,q2,q3⟩:=hQ hk (by cases hx:r.flag with|false=>rfl|true=>exact absurd hx hf) p0
     rw[q1] at hz;dsimp only at hz;rw[if_pos ⟨q2,q3⟩] at hz;subst hz;cases h
theorem Rel.pos(h:Rel G s r a k):1<=k:=by
 cases h with
 |idle=>unfold aP.need;split <;> (try split) <;> (try split) <;> omega
 |_=>omega
theorem Rel.VQ(h:Rel G s r a k)(h1:r.ph=1):r.flag=true:=by
 cases h with
 |idle h0=>omega
 |make _ _ hf=>exact hf
 |put _ _ hf=>exact hf
 |hard _ _ hf=>exact hf
 |read _ _ _ _ _ _ _ _ xQ=>omega
 |next _ _ _ _ _ _ _ _ _ _ _ xQ=>omega
inductive C2(A:List Ag)(s:cG)(G:Int->fZ)(r:aP)(s':cG)(G':Int->fZ)(res:iS):Int->Prop
 |gF (ha:(abs s G).act r.o=(abs s' G',res)):C2 A s G r s' G' res 2
 |full (ha:abs s' G'=abs s G) (hr:res=⟨9,0,[]⟩) (hp:r.ph=0∨r.ph=1) (hk:r.Cc) (hb:s'.b=s.b) (hw:(r.o.kind=1∧(s.b.room<16∨∃sl:aG,sl.aQ.length=7∧(r.ph=1->sl=r.slot)∧(r.ph=0->dM.look s.d r.o.aA=some sl)))∨r.o.kind=3) (hroom:s.b.room<300):C2 A s G r s' G' res 3
 |busy (ha:abs s' G'=abs s G) (hr:res=⟨6,0,[]⟩) (hk:r.o.kind=2∨r.o.kind=6) (hc:kV A s.c):C2 A s G r s' G' res 3
structure EP(who:Int)(s:cG)(G:Int->fZ)(s':cG)(G':Int->fZ):Prop where
 same:∀id,id<=s.b.last->G' id=G id
 le:s.b.last<=s'.b.last
 tag:∀id,s.b.last<id->id<=s'.b.last->(G' id).tag=1∧(G' id).L.length<=8
 keeps:dN who s s'
 most:s'.c.bE.most=s.c.bE.most
 bA:s'.b.bA=s.b.bA
theorem EP.refl(who:Int)(s:cG)(G:Int->fZ):EP who s G s G:=⟨fun _ _=>rfl,Ut _,fun _ h1 h2=>absurd h1 (Vp.2 h2),dN.refl _ _,rfl,rfl⟩
theorem EP.trans{G2:Int->fZ}(h:EP who s G s' G')(h':EP who s' G' s2 G2):EP who s G s2 G2:=by
 refine⟨fun id hid=>(h'.same id (Wd hid h.le)).trans (h.same id hid),Wd h.le h'.le,fun id h1 h2=>?_,h.keeps.trans h'.keeps,h'.most.trans h.most,h'.bA.trans h.bA⟩;by_cases hm:id<=s'.b.last
 ·rw[h'.same id hm];exact h.tag id h1 hm
 ·exact h'.tag id O0 h2
theorem Out.kept{q:aP×cG×Int}{a':Ag}{acc':List aG}(h:Out A al s G n r k q a' acc' G'):EP r.who s G q.2.1 G':=⟨h.same,h.le,h.tag,h.keeps,h.most,h.bA⟩
theorem kV.same{C C':eC}(h:kV A C)(hm:C'.bE.most=C.bE.most):kV A C':=by
 obtain⟨ks,h1,h2,h3⟩:=h;exact⟨ks,h1,by rw[hm];exact h2,h3⟩
theorem nk(ho:r.over=false)(hb:aP.bad r.o=false)(hk:r.o.kind=2):r.step s=r.read s:=by
 unfold aP.step;rw[ho,if_neg Vt,hb,if_neg Vt,if_pos hk]
def aP.todo(r:aP):Int:=if(r.o.kind=1∨r.o.kind=3∨r.o.kind=4)∧r.ph≠3 then 1 else 0
theorem ky(r:aP):0<=r.oK∧r.oK<=r.todo∧r.todo<=1:=by
 unfold aP.oK aP.todo;split <;> split <;> omega
theorem lg:∀(N k:Nat) (r:aP) (s:cG) (a:Ag) (acc:List aG) (G:Int->fZ) (n:Nat),k<=N->Inv s (a::A) acc al G n->pH al r->Rel G s r a k->B7 r s->¬NW A r.o->n+2*k<=1000000000->s.b.last+r.todo<100000->(∀id,1<=id->id<=s.b.last->sM (G id).tag)->
  ∃(m:Nat) (r':aP) (s':cG) (d:Int) (acc':List aG) (G':Int->fZ),rB r s m r' s' d∧1<=m∧m<=k∧Inv s' (Ag.idle r.who::A) acc' al G' (n+2*m)∧EP r.who s G s' G'∧s'.b.last<=s.b.last+r.todo∧r'.over=true∧r'.holds=0∧r'.who=r.who∧r'.o=r.o∧C2 A s G r s' G' r'.res d
 |0,k,r,s,a,acc,G,n,VR,hI,hr,hR,hQ,hnb,hn,EY,DN=>by have:=hR.pos;omega
 |N+1,k,r,s,a,acc,G,n,VR,hI,hr,hR,hQ,hnb,hn,EY,DN=>by
  have hk1:=hR.pos;have II:=ky r;obtain⟨hok,a',acc',G',hO⟩:=VO hI hr hR O0 O0 DN;obtain⟨q,hq⟩:∃q,r.step s=q:=⟨_,rfl⟩;rw[hq] at hO;have VS:=hO.U4;have hinv:=hO.inv;cases hO.Gy with
  |none h hp hB=>exact absurd hB hnb
  |gF h ho hh ha' ha=>
   subst ha';refine⟨1,q.1,q.2.1,2,acc',G',?_,Ug _,hk1,hinv,hO.kept,cI,ho,hh,hO.who,hO.o,.gF ha⟩;rw[<- hq] at h ⊢;exact rB.last hok h (.inl rfl)
  |full h h1 ho hh ha' ha he hs hw hroom=>
   subst ha';refine⟨1,q.1,q.2.1,3,acc',G',?_,Ug _,hk1,hinv,hO.kept,cI,ho,hh,hO.who,hO.o,.full ha he (.inr h1) ?_ hs ?_ hroom⟩
   ·rw[<- hq] at h ⊢;exact rB.last hok h (.inr rfl)
   ·unfold aP.Cc;omega
   ·rcases hw with⟨w1,w2|w2⟩|⟨w1,_⟩
    ·exact .inl ⟨w1,.inl w2⟩
    ·exact .inl ⟨w1,.inr ⟨r.slot,w2,fun _=>rfl,fun h0=>by omega⟩⟩
    ·exact .inr w1
  |busy h ho hh ha' ha he hc hk=>
   subst ha';refine⟨1,q.1,q.2.1,3,acc',G',?_,Ug _,hk1,hinv,hO.kept,cI,ho,hh,hO.who,hO.o,.busy ha he hk hc⟩;rw[<- hq] at h ⊢;exact rB.last hok h (.inr rfl)
  |some h ho k' hr' hkk ha hw=>
   have RI:B7 q.1 q.2.1∧(r.o.kind=2->q.1.ph≠0):=by
    by_cases hk:r.o.kind=2
    ·have h1:=t7 hk hQ hR.VQ (by rw[<- nk hr.over hr.bad hk,hq];exact h)
     rw[<- nk hr.over hr.bad hk,hq] at h1;exact⟨h1.1,fun _=>h1.2⟩
    ·exact⟨fun h=>absurd (hO.o▸h) hk,fun h=>absurd h hk⟩
   have hk':k'<k:=by
    rcases hkk with h|⟨h1,h2,_⟩
    ·exact h.1
    ·exact absurd h2 (RI.2 h1)
   have hlt:q.2.1.b.last+q.1.todo<=s.b.last+r.todo:=by
    by_cases DM:r.Cc
    ·have ht:r.ph≠3->r.todo=1:=fun h3=>if_pos ⟨DM,h3⟩;rcases hw DM with⟨p0,p1,p2,_⟩|⟨p0,p1⟩
     ·have:=(ky q.1).2.2;have h1:=ht O0;rw[p2];omega
     ·have h1:=ht O0;have h2:q.1.todo=0:=if_neg (fun h=>h.2 p1);omega
    ·have h1:r.todo=0:=if_neg (fun h=>DM h.1);have h2:q.1.todo=0:=if_neg (fun h=>DM (by unfold aP.Cc;rw[<- hO.o];exact h.1))
     omega
   obtain⟨m,r',s',d,M9,G2,g1,g2,g3,g4,g5,g6,g7,g8,g9,Kw,N2⟩:=lg N k' q.1 q.2.1 a' acc' G' (n+2) O0 hinv ho hr' RI.1 (by rw[hO.o];exact hnb) O0 O0 (fun id h1 h2=>by
    by_cases hm:id<=s.b.last
    ·rw[hO.same id hm];exact DN id h1 hm
    ·rw[(hO.tag id O0 h2).1];exact IA)
   rw[hO.who] at g4 g5 g9;rw[hO.o] at Kw;refine⟨m+1,r',s',d,M9,G2,?_,cI,cI,by rw[show n+2*(m+1)=n+2+2*m by omega];exact g4,hO.kept.trans g5,?_,g7,g8,g9,Kw,?_⟩
   ·rw[<- hq] at h g1;exact rB.more hok h g1
   ·omega
   ·cases N2 with
    |gF e=>exact .gF (by rw[<- ha,<- hO.o];exact e)
    |full e1 e2 e3 e4 e5 e6 e7=>
     have DM:r.Cc:=by unfold aP.Cc at e4 ⊢;rw[hO.o] at e4;exact e4
     rcases hw DM with⟨p0,p1,p2,p3⟩|⟨p0,p1⟩
     ·refine .full (e1.trans ha) e2 (.inl p0) DM (e5.trans p2) ?_ (by rw[<- p2];exact e7)
      rcases e6 with⟨w1,w2⟩|w1
      ·refine .inl ⟨by rw[<- hO.o];exact w1,?_⟩
       rcases w2 with w2|⟨sl,w2,w3,_⟩
       ·exact .inl (by rw[<- p2];exact w2)
       ·exact .inr ⟨sl,w2,fun h1=>absurd (p0.symm.trans h1) O2,fun _=>by rw[w3 p1];exact p3⟩
      ·exact .inr (by rw[<- hO.o];exact w1)
     ·exfalso;clear e6;omega
    |busy e1 e2 e3 e4=>exact .busy (e1.trans ha) e2 (by rw[<- hO.o];exact e3) (e4.same hO.most.symm)
end
section
variable{s s' s2:cG}{a:Ag}{A:List Ag}{acc:List aG}{al:Int->Bool}{G G':Int->fZ}{n n':Nat}{r r':aP}{who:Int}{k:Nat}{o:gR}
theorem lv(hI:Inv s A acc al G n)(r:aP):r.need s<=3+6*s.b.last.toNat:=by
 have hb0:0<=s.b.last:=hI.oM.ok.l0;unfold aP.need;split
 ·cases ha:dM.at_ s.d r.o.aA with
  |none=>dsimp only;omega
  |some p=>
   have hm:∃i:Nat,s.d[i]?=some p:=by
    unfold dM.at_ at ha
    split at ha
    ·exact⟨_,ha⟩
    ·cases ha
   obtain⟨i,hi⟩:=hm;have:=(hI.dir.ok i p hi).2.1;dsimp only;omega
 ·split
  ·cases ha:aH r.o.iter s.t.l with
   |none=>dsimp only;omega
   |some o=>
    have:=(hI.jC.on _ o ha).1.gQ;dsimp only;omega
  ·split <;> omega
theorem VT{sl:aG}{b:Int}(hs:cL G b sl):(sl.all G).length<=8*sl.chunks.length+7:=by
 unfold aG.all rowsOf;rw[Ua];have:=eT (f:=fun p=>(G p.bB).L) (l:=sl.chunks) fun p hp=>(hs.kS p hp).len;have:=hs.gQ;omega
theorem VU(hI:Inv s A acc al G n)(o:gR):((abs s G).act o).2.list.length<=800007:=by
 have jE:=hI.last
 have Kv:∀L,aH o.iter (abs s G).its=some L->L.length<=800007:=by
  intro L hL;have hL':aH o.iter (dV s.t.l G)=some L:=hL;rw[kU] at hL';cases hg:aH o.iter s.t.l with
  |none=>rw[hg] at hL';cases hL'
  |some x=>
   rw[hg] at hL';obtain rfl:=Uk hL';have h1:=(hI.jC.on _ x hg).1;have h2:=mE.len h1;have h3:=h1.gQ;rw[Um];omega
 have rA:∀cl L,(abs s G).oB o.aA=some (cl,L)->L.length<=800007:=by
  intro cl L hL;have hL':dJ s.d G o.aA=some (cl,L):=hL;unfold dJ at hL';cases ha:dM.at_ s.d o.aA with
  |none=>rw[ha] at hL';cases hL'
  |some p=>
   rw[ha] at hL'
   have hm:∃i:Nat,s.d[i]?=some p:=by
    unfold dM.at_ at ha
    split at ha
    ·exact⟨_,ha⟩
    ·cases ha
   obtain⟨i,hi⟩:=hm;obtain⟨h1,h2,_⟩:=hI.dir.ok i p hi;have h3:=VT h1;have Lq:p.s.cX G=some (cl,L):=hL';unfold aG.cX at Lq;split at Lq
   ·have:=congrArg Prod.snd (Uk Lq);dsimp only at this;rw[<- this];omega
   ·cases Lq
 unfold qI.act qI.err;split
 ·exact Uf _
 split
 ·cases hg:aH o.iter (abs s G).its with
  |none=>exact Uf _
  |some L=>
   have:=Kv L hg;dsimp only;rw[Ul];omega
 split
 ·cases hg:aH o.iter (abs s G).its with
  |none=>exact Uf _
  |some L=>exact Uf _
 cases hg:(abs s G).oB o.aA with
 |none=>
  dsimp only;split <;> exact Uf _
 |some x=>
  obtain⟨cl,L⟩:=x;have hL:=rA cl L hg;dsimp only;split
  ·split
   ·exact Uf _
   ·split <;> exact Uf _
  split
  ·exact Uw (zi _ _ _) hL
  split
  ·split <;> exact Uf _
  split
  ·exact Uf _
  split <;> exact Uf _
theorem C2.len(hI:Inv s A acc al G n)(hr:r.o=o){res:iS}{d:Int}(h:C2 A s G r s' G' res d):res.list.length<=800007:=by
 cases h with
 |gF ha=>
  have:=VU hI r.o;rw[ha] at this;exact this
 |full _ hr=>rw[hr];exact Uf _
 |busy _ hr=>rw[hr];exact Uf _
theorem C3(hb:aP.bad o=false)(ho:o.Wf)(hal:o.kind<=5->al o.aA=false):pH al (aP.new who o):=
 ⟨rfl,hb,ho,hal,Uf _,Uf _,Uf _,Uf _,Uf _,Ut _,by show(0:Int)<=3;decide⟩
theorem uL(G:Int->fZ)(s:cG):Rel G s (aP.new who o) (Ag.idle who) ((aP.new who o).need s):=Rel.idle (r:=aP.new who o) rfl rfl ⟨rfl,rfl,rfl,rfl,rfl⟩
theorem ff(hI:Inv s A acc al G n)(hw:who∉A.map Ag.who)(hf:A.length+1<=100)(ho:o.Wf)(hal:o.kind<=5->al o.aA=false)(hnb:¬NW A o)(hn:n+2*(aP.new who o).need s<=1000000000)(hb:s.b.last+1<100000)(DN:∀id,1<=id->id<=s.b.last->sM (G id).tag):
  ∃(m:Nat) (r':aP) (s':cG) (d:Int) (acc':List aG) (G':Int->fZ),rB (aP.new who o) s m r' s' d∧1<=m∧m<=(aP.new who o).need s∧Inv s' A acc' al G' (n+2*m)∧EP who s G s' G'∧s'.b.last<=s.b.last+(aP.new who o).todo∧r'.over=true∧r'.holds=0∧r'.res.list.length<=800007∧C2 A s G (aP.new who o) s' G' r'.res d:=by
 have uJ:1<=(aP.new who o).need s:=(uL G s).pos;cases fH:aP.bad o with
 |true=>
  have hstep:(aP.new who o).step s=(aP.new who o).refuse s 4:=by
   unfold aP.step;have h1:(aP.new who o).over=false:=rfl;have h2:(aP.new who o).o=o:=rfl;rw[h1,if_neg Vt,h2,fH,if_pos rfl]
  have hact:(abs s G).act o=(abs s G,⟨4,0,[]⟩):=by unfold qI.act;rw[fH,if_pos rfl];rfl
  have hno:aP.bad (aP.new who o).o=false->False:=fun h=>by rw[show(aP.new who o).o=o from rfl,fH] at h;cases h
  have hok:(aP.new who o).mU s:=⟨fun _ h=>(hno h).elim,fun _ h=>(hno h).elim,fun _ h=>(hno h).elim,fun _ h=>(hno h).elim,fun _ h=>(hno h).elim⟩;have IJ:=rB.last hok (d:=2) (by rw[hstep];rfl) (.inl rfl)
  rw[hstep] at IJ;have II:=ky (aP.new who o);exact⟨1,_,_,2,acc,G,IJ,Ug _,uJ,hI.mono O0 O0,EP.refl _ _ _,by show s.b.last<=_;omega,rfl,rfl,Uf _,.gF hact⟩
 |false=>
  have II:=ky (aP.new who o);obtain⟨m,r',s',d,acc',G',g1,g2,g3,g4,g5,g6,g7,g8,g9,Kw,N2⟩:=lg _ _ (aP.new who o) s (Ag.idle who) acc G n (Ug _) (hI.enter hw hf) (C3 fH ho hal) (uL G s) (fun _ _ h=>absurd rfl h) hnb hn O0 DN;refine⟨m,r',s',d,acc',G',g1,g2,g3,g4.exit rfl rfl rfl rfl,g5,g6,g7,g8,N2.len hI rfl,N2⟩
end
section
variable{s s' s2:cG}{a:Ag}{A:List Ag}{acc:List aG}{al:Int->Bool}{G G':Int->fZ}{n n':Nat}{r r':aP}{who:Int}{k:Nat}{o:gR}
def G0:Int->fZ:=fun _=>⟨0,[]⟩
theorem nr{α:Type}{k i:Nat}{x y:α}(h:(List.replicate k x)[i]?=some y):y=x:=(Zw.1 (Ue h)).2
theorem VV(G:Int->fZ)(b:Int):cL G b aG.zero:=⟨fun _=>⟨rfl,rfl⟩,fun h=>(by cases h),Uf _,fun _=>rfl,fun x hx=>(by cases hx),fun p hp=>(by cases hp),List.Pairwise.nil⟩
theorem lu(f b:Int)(al:Int->Bool):Inv (cG.new f b) [] (List.replicate 16 aG.zero) al G0 0:=by
 have hd:(cG.new f b).d=List.replicate 16 ⟨aG.zero,false,0⟩:=rfl
 have hz:∀id,dI (List.replicate 16 aG.zero) [] (cG.new f b).t id=0:=by
  intro id;have h1:fC (fun x:aG=>rc id x.chunks) (List.replicate 16 aG.zero)<=(List.replicate 16 aG.zero).length*0:=fW fun x hx=>by rw[(Zw.1 hx).2];exact Ug _
  unfold dI;show _+0+0=0;omega
 have Eo:lK (List.replicate 16 aG.zero)=0:=by
  have h1:lK (List.replicate 16 aG.zero)<=(List.replicate 16 aG.zero).length*0:=fW fun x hx=>by rw[(Zw.1 hx).2];exact Ug _
  omega
 refine⟨⟨by rw[hd,Zf],Zf,fun i p hp=>?_,fun i p hp ht=>?_,fun i p hp ht=>?_,Ki,fun f hf=>(by cases hf),fun x hx=>?_⟩,
  ⟨Ki,fun id hid=>(by cases hid),fun id e he=>(by cases he),fun id=>?_,fun id=>?_,rfl,?_,⟨?_,Ut _,Ut _,?_,Ut _,(by show(0:Int)<_;decide)⟩⟩,
  ⟨eC.xB f,fun k a h=>(by cases h),fun k hk=>(by cases hk),fun k L h=>(by cases h)⟩,
  ⟨Ki,fun id hid=>(by cases hid),Ut _,Ut _,Uf _,fun id o ho=>(by cases ho),fun u hu=>(by cases hu),Ki⟩,
  fun a ha=>(by cases ha),Ki,(by show(0:Int)<=_;decide),Uf _,Uf _⟩
 ·rw[hd] at hp;rw[nr hp];exact⟨VV _ _,Ut _,Ut _,Ut _,Ut _,Ut _⟩
 ·rw[hd] at hp;have hi:=(Uc.1 hp).1;rw[Zf] at hi;rw[nr hp];exact⟨rfl,by rw[List.getElem?_replicate,if_pos hi]⟩
 ·rw[hd] at hp;rw[nr hp] at ht;cases ht
 ·rw[(Zw.1 hx).2];exact⟨Ut _,Uf _⟩
 ·rw[hz];exact⟨fun h=>(Nat.lt_irrefl _ h).elim,fun h=>(by cases h)⟩
 ·rw[hz];exact Uf _
 ·rw[Eo];rfl
 ·show min (max b 0) 1073741824<=1073741824;omega
 ·show(0:Int)+0<=min (max b 0) 1073741824;omega
def sR(G:Int->fZ)(b:Int):Prop:=∀id,1<=id->id<=b->(G id).tag=1∧(G id).L.length<=8
theorem sR.RJ(h:sR G s.b.last):∀id,1<=id->id<=s.b.last->sM (G id).tag:=fun id h1 h2=>by rw[(h id h1 h2).1];exact IA
theorem sR.step{s s':cG}(h:sR G s.b.last)(hk:EP who s G s' G'):sR G' s'.b.last:=by
 intro id h1 h2;by_cases hm:id<=s.b.last
 ·rw[hk.same id hm];exact h id h1 hm
 ·exact hk.tag id O0 h2
theorem rh(hI:Inv s A acc al G n)(hA:∀a∈A,a.held=[])(hd:∀(i:Nat) (p:iU),s.d[i]?=some p->p.taken=false∧p.s.there=false)(ht:s.t.l=[]):s.b.bytes=0∧s.b.aR=0:=by
 have hacc:∀x∈acc,x.aQ=[]∧x.chunks=[]:=by
  intro x hx;obtain⟨i,hi⟩:=We.1 hx
  have hlt:i<s.d.length:=by
   have:=(Uc.1 hi).1;rw[hI.dir.CR] at this;rw[hI.dir.len];exact this
  obtain⟨p,hp⟩:∃p,s.d[i]?=some p:=⟨_,Ub hlt⟩;obtain⟨d1,d2⟩:=hd i p hp;have h1:=(hI.dir.idle i p hp d1).2;rw[hi] at h1;obtain rfl:=Uk h1;exact(hI.dir.ok i p hp).1.no d2
 have xR:lK acc=0:=Nat.le_zero.1 (Uw (fW (B:=0) fun x hx=>by rw[(hacc x hx).1];exact Ug _) (by rw[Nat.mul_zero];exact Ug _))
 have JP:∀id,dI acc A s.t id=0:=by
  intro id;unfold dI;have h1:fC (fun x:aG=>rc id x.chunks) acc<=acc.length*0:=fW fun x hx=>by rw[(hacc x hx).2];exact Ug _
  have h2:fC (fun a:Ag=>rc id a.held) A<=A.length*0:=fW fun x hx=>by rw[hA x hx];exact Ug _
  rw[ht];show _+_+0=0;omega
 have hl:s.b.l=[]:=by
  cases hl:s.b.l with
  |nil=>rfl
  |cons p m=>
   exfalso;have h1:=(hI.oM.pos p.1).2 (by rw[hl,aH,if_pos rfl];rfl)
   rw[JP] at h1;omega
 refine⟨?_,?_⟩
 ·rw[hI.oM.sum,hl];rfl
 ·rw[hI.oM.jD,xR];rfl
end
section
def pI:Nat->aP->cG->Option (Nat×aP×cG×Int)
 |0,_,_=>none
 |n+1,r,s=>if(r.step s).2.2=2∨(r.step s).2.2=3 then some (1,r.step s) else if(r.step s).2.2=1 then(pI n (r.step s).1 (r.step s).2.1).map fun x=>(x.1+1,x.2) else none
theorem VW{r r':aP}{s s':cG}{m:Nat}{d:Int}(h:rB r s m r' s' d):∀F,m<=F->pI F r s=some (m,r',s',d):=by
 induction h with
 |last hok hd hdc=>
  intro F hF;obtain⟨F,rfl⟩:∃k,F=k+1:=⟨F-1,cI⟩;rw[pI,hd,if_pos hdc,<- hd]
 |more hok hd h ih=>
  intro F hF;obtain⟨F,rfl⟩:∃k,F=k+1:=⟨F-1,cI⟩;rw[pI,hd,if_neg O2,if_pos rfl,ih F O0];rfl
namespace Aw
def sh(x:Option (Nat×aP×cG×Int)):cG:=(x.map (·.2.2.1)).getD (cG.new 2 1000)
def an(x:Option (Nat×aP×cG×Int)):Nat×Int×List bZ:=(x.map fun x=>(x.1,x.2.1.res.err,x.2.1.res.list)).getD (0,0,[])
def s0:cG:=cG.new 2 1000
def a1:=pI 40 (aP.new 0 ⟨1,3,0,5,7,0,0,0⟩) s0
def a2:=pI 40 (aP.new 0 ⟨2,3,0,0,0,0,9,0⟩) (sh a1)
def a3:=pI 40 (aP.new 0 ⟨3,3,0,0,0,0,0,0⟩) (sh a2)
def a4:=pI 40 (aP.new 0 ⟨2,3,0,0,0,0,9,0⟩) (sh a3)
def a5:=pI 40 (aP.new 0 ⟨99,0,0,0,0,0,0,0⟩) (sh a4)
def a6:=pI 40 (aP.new 1 ⟨1,4,0,1,0,0,0,0⟩) (sh a5)
theorem e1:an a1=(3,0,[]):=by kernel_rfl
theorem e2:(an a2).2=(0,[⟨5,7⟩]):=by kernel_rfl
theorem e3:(an a3).2=(0,[]):=by kernel_rfl
theorem e4:(an a4).2.2=[⟨5,7⟩]:=by kernel_rfl
theorem e5:(an a5).2=(4,[]):=by kernel_rfl
theorem e6:an a6=(3,0,[]):=by kernel_rfl
theorem next{s:cG}{acc:List aG}{G:Int->fZ}{n:Nat}(hI:Inv s [] acc (fun _=>false) G n)(ht:sR G s.b.last)(who:Int)(o:gR)(ho:o.Wf)(hn:n<=1000)(hb:s.b.last<=5):
  ∃m r' s' d acc' G',rB (aP.new who o) s m r' s' d∧Inv s' [] acc' (fun _=>false) G' (n+2*m)∧sR G' s'.b.last∧m<=33∧s'.b.last<=s.b.last+(aP.new who o).todo∧r'.over=true∧r'.holds=0∧r'.res.list.length<=1073741824∧pI 40 (aP.new who o) s=some (m,r',s',d)∧(d=2∨d=3):=by
 have hb0:0<=s.b.last:=hI.oM.ok.l0;have uJ:=lv hI (aP.new who o);obtain⟨m,r',s',d,acc',G',g1,g2,g3,g4,g5,g6,g7,g8,g9,Kw⟩:=ff hI (who:=who) (o:=o) (by intro h;cases h) O2 ho (fun _=>rfl) (by rintro(⟨_,_,x,hx,_⟩|⟨_,x,hx,_⟩) <;> cases hx) O0 O0 ht.RJ
 refine⟨m,r',s',d,acc',G',g1,g4,ht.step g5,cI,g6,g7,g8,cI,VW g1 40 O0,?_⟩;cases Kw with
 |gF=>exact .inl rfl
 |full=>exact .inr rfl
 |busy=>exact .inr rfl
theorem Lr{o:gR}(h:([o.kind,o.aA,o.iter,o.T,o.F,o.To,o.N].all fun x=>decide (-4294967296<=x∧x<=4294967296))=true)(hv:o.V<18446744073709551616):o.Wf:=by
 have hi:∀x:Int,x∈[o.kind,o.aA,o.iter,o.T,o.F,o.To,o.N]->rM x:=fun x hx=>by
  have:=Wx.1 h x hx;rw[decide_eq_true_eq] at this;unfold rM;omega
 exact⟨hi _ O7,hi _ O7,hi _ O7,hi _ O7,hv,hi _ O7,hi _ O7,hi _ O7⟩
theorem zU{x:Option (Nat×aP×cG×Int)}{m:Nat}{r:aP}{s:cG}{d:Int}(h:x=some (m,r,s,d)):an x=(m,r.res.err,r.res.list)∧sh x=s:=by
 subst h;exact⟨rfl,rfl⟩
theorem l1:(sh a1).b.last=0:=by kernel_rfl
theorem l2:(sh a2).b.last=0:=by kernel_rfl
theorem l3:(sh a3).b.last=1:=by kernel_rfl
theorem l4:(sh a4).b.last=1:=by kernel_rfl
theorem l5:(sh a5).b.last=1:=by kernel_rfl
def b1:=(aP.new 1 ⟨1,4,0,1,0,0,0,0⟩).step (sh a5)
def b2:=b1.1.step b1.2.1
def b3:=b2.1.step b2.2.1
def tell(q:aP×cG×Int):Int×Bool×Int×List bZ:=(q.2.2,q.1.over,q.1.holds,q.1.res.list)
theorem z1:b1.2.2=1:=by kernel_rfl
theorem z2:tell b2=(1,false,1,[]):=by kernel_rfl
theorem z3:tell b3=(2,true,0,[]):=by kernel_rfl
end Aw
section
variable{w0 w:World}{l:List aC}
theorem B8(hT:Tz w0)(h:St w0 l w):bP prog 22 [] w fun v w'=>v=.bool true∧St w0 l w':=by
 have RK:Inv Aw.s0 [] (List.replicate 16 aG.zero) (fun _=>false) G0 0:=lu 2 1000 _
 have VX:sR G0 Aw.s0.b.last:=fun id h1 h2=>by
  have:Aw.s0.b.last=0:=rfl;omega
 have vI:Aw.s0.b.last<=5:=by rw[show Aw.s0.b.last=0 from rfl];decide
 obtain⟨m1,r1,s1,d1,VY,G1,k1,NZ,VZ,hm1,EY,V7,V8,hn1,q1,_⟩:=Aw.next RK VX 0 ⟨1,3,0,5,7,0,0,0⟩ (Aw.Lr O2 O2) (Uf _) vI
 have RL:Aw.a1=some (m1,r1,s1,d1):=q1;obtain⟨Ap,hs1⟩:=Aw.zU RL;have hx1:=Aw.e1;rw[Ap] at hx1;have rV:s1.b.last<=5:=by rw[<- hs1,Aw.l1];decide
 obtain⟨m2,r2,s2,d2,M9,G2,k2,N0,PB,hm2,IU,V9,WA,hn2,q2,_⟩:=Aw.next NZ VZ 0 ⟨2,3,0,0,0,0,9,0⟩ (Aw.Lr O2 O2) O0 rV
 have RM:Aw.a2=some (m2,r2,s2,d2):=by unfold Aw.a2;rw[hs1];exact q2
 obtain⟨Hr,mP⟩:=Aw.zU RM;have BA:=Aw.e2;rw[Hr] at BA;have AX:s2.b.last<=5:=by rw[<- mP,Aw.l2];decide
 obtain⟨m3,r3,s3,d3,WB,G3,k3,RN,NM,YD,OX,WC,WD,Bc,q3,_⟩:=Aw.next N0 PB 0 ⟨3,3,0,0,0,0,0,0⟩ (Aw.Lr O2 O2) O0 AX
 have RO:Aw.a3=some (m3,r3,s3,d3):=by unfold Aw.a3;rw[mP];exact q3
 obtain⟨RP,JD⟩:=Aw.zU RO;have D6:=Aw.e3;rw[RP] at D6;have G9:s3.b.last<=5:=by rw[<- JD,Aw.l3];decide
 obtain⟨m4,r4,s4,d4,WE,G4,k4,RQ,WG,YE,YF,WH,WI,AZ,q4,_⟩:=Aw.next RN NM 0 ⟨2,3,0,0,0,0,9,0⟩ (Aw.Lr O2 O2) O0 G9
 have RR:Aw.a4=some (m4,r4,s4,d4):=by unfold Aw.a4;rw[JD];exact q4
 obtain⟨RT,JY⟩:=Aw.zU RR;have Qi:=Aw.e4;rw[RT] at Qi;have WJ:s4.b.last<=5:=by rw[<- JY,Aw.l4];decide
 obtain⟨m5,r5,s5,d5,WK,G5,k5,RU,WL,YG,YH,WM,WN,Dy,q5,_⟩:=Aw.next RQ WG 0 ⟨99,0,0,0,0,0,0,0⟩ (Aw.Lr O2 O2) O0 WJ
 have RV:Aw.a5=some (m5,r5,s5,d5):=by unfold Aw.a5;rw[JY];exact q5
 obtain⟨RW,Ip⟩:=Aw.zU RV;have N3:=Aw.e5;rw[RW] at N3;have WO:s5.b.last<=5:=by rw[<- Ip,Aw.l5];decide
 obtain⟨m6,r6,s6,d6,WQ,G6,k6,WR,YI,YJ,YK,YL,YM,Rq,q6,_⟩:=Aw.next RU WL 1 ⟨1,4,0,1,0,0,0,0⟩ (Aw.Lr O2 O2) O0 WO
 have RX:Aw.a6=some (m6,r6,s6,d6):=by unfold Aw.a6;rw[Ip];exact q6
 obtain⟨RY,WS⟩:=Aw.zU RX;have Qj:=Aw.e6;rw[RY] at Qj;obtain rfl:m6=3:=congrArg Prod.fst Qj;have z1:=Aw.z1;have z2:=Aw.z2;have z3:=Aw.z3;unfold Aw.b3 Aw.b2 Aw.b1 at z3;unfold Aw.b2 Aw.b1 at z2;unfold Aw.b1 at z1;rw[Ip] at z1 z2 z3;obtain⟨R0,RZ⟩:∃R0,aP.new 1 ⟨1,4,0,1,0,0,0,0⟩=R0:=⟨_,rfl⟩;rw[RZ] at k6 z1 z2 z3;have hx:∀i:Nat,True:=fun _=>trivial
 obtain⟨WT,Qk,Na⟩:R0.mU s5∧(R0.step s5).1.mU (R0.step s5).2.1∧((R0.step s5).1.step (R0.step s5).2.1).1.mU ((R0.step s5).1.step (R0.step s5).2.1).2.1:=by
  cases k6 with
  |more u1 _ k=>
   cases k with
   |more u2 _ k=>
    cases k with
    |last u3=>exact⟨u1,u2,u3⟩
    |more u3=>exact⟨u1,u2,u3⟩
 clear k6 q1 q2 q3 q4 q5 q6 RK NZ N0 RN RQ RU WR RL RM RO RR RV RX hs1 mP JD JY Ip WS;obtain⟨rfl,y1,YN⟩:m1=3∧r1.res.err=0∧r1.res.list=[]:=⟨congrArg Prod.fst hx1,congrArg (fun z:Nat×Int×List bZ=>z.2.1) hx1,congrArg (fun z:Nat×Int×List bZ=>z.2.2) hx1⟩;obtain⟨y2,Ql⟩:r2.res.err=0∧r2.res.list=[⟨5,7⟩]:=⟨congrArg Prod.fst BA,congrArg Prod.snd BA⟩;obtain⟨y3,YO⟩:r3.res.err=0∧r3.res.list=[]:=⟨congrArg Prod.fst D6,congrArg Prod.snd D6⟩;have WU:r4.res.list=[⟨5,7⟩]:=Qi;obtain⟨y5,YP⟩:r5.res.err=4∧r5.res.list=[]:=⟨congrArg Prod.fst N3,congrArg Prod.snd N3⟩;obtain⟨x1,x2⟩:(R0.step s5).2.2=1∧True:=⟨z1,trivial⟩
 obtain⟨t1,t2,t3,t4⟩:((R0.step s5).1.step (R0.step s5).2.1).2.2=1∧((R0.step s5).1.step (R0.step s5).2.1).1.over=false∧((R0.step s5).1.step (R0.step s5).2.1).1.holds=1∧((R0.step s5).1.step (R0.step s5).2.1).1.res.list=[]:=by
  have e:=z2;unfold Aw.tell at e;exact⟨congrArg (·.1) e,congrArg (·.2.1) e,congrArg (·.2.2.1) e,congrArg (·.2.2.2) e⟩
 generalize WV:(R0.step s5).1=R1 at Qk Na t1 t2 t3 t4 z3;generalize Qa:(R0.step s5).2.1=S1 at Qk Na t1 t2 t3 t4 z3
 obtain⟨u1,u2,u3,u4⟩:((R1.step S1).1.step (R1.step S1).2.1).2.2=2∧((R1.step S1).1.step (R1.step S1).2.1).1.over=true∧((R1.step S1).1.step (R1.step S1).2.1).1.holds=0∧((R1.step S1).1.step (R1.step S1).2.1).1.res.list=[]:=by
  have e:=z3;unfold Aw.tell at e;exact⟨congrArg (·.1) e,congrArg (·.2.1) e,congrArg (·.2.2.1) e,congrArg (·.2.2.2) e⟩
 clear z1 z2 z3 hx1 BA D6 Qi N3 Qj Ap Hr RP RT RW RY;generalize WW:(R1.step S1).1=R2 at Na t2 t3 t4 u1 u2 u3 u4;generalize Ia:(R1.step S1).2.1=S2 at Na u1 u2 u3 u4;generalize WX:(R2.step S2).1=R3 at u2 u3 u4;generalize NY:(R2.step S2).2.1=S3;have WY:R3.mU S3:=⟨fun h=>(by rw[u2] at h;cases h),fun h=>(by rw[u2] at h;cases h),fun h=>(by rw[u2] at h;cases h),fun h=>(by rw[u2] at h;cases h),fun h=>(by rw[u2] at h;cases h)⟩
 have e4:R3.step S3=(R3,S3,0):=by unfold aP.step;rw[u2,if_pos rfl]
 refine en func22 results22 ntmps22 ?_;refine pL ?_;refine Y1 ?_;refine aF rfl (qg rfl (yh 2 1000 h) ?_);clear h;rintro _ w ⟨p,rfl,h⟩;replace h:St w0 (aU p Aw.s0::l) w:=h;refine Ox ?_;refine aF rfl (qg rfl (uK h) ?_);clear h;rintro _ w ⟨rfl,h⟩;refine Gl ?_;refine Yq ?_;refine aD (qc (r:=(⟨1,3,0,5,7,0,0,0⟩:gR).C) rfl) rfl ?_;refine aF rfl (qg rfl (iF hT k1 O0 V7 V8 hn1 h) ?_);clear h;rintro _ w ⟨yO,yP,rfl,h⟩;refine E9 ?_;refine aF rfl (qn h fun b1 w h=>?_);refine aF rfl (qy (vs:=r1.res.C yO yP) 0 h rfl rfl rfl rfl rfl rfl rfl fun w h=>?_);refine Y4 ?_;refine Y3 ?_;replace h:St w0 (pt b1 (.cells (r1.res.C yO yP).toArray 28 (0,0))::aB yO yP r1.res.list::aU p s1::l) w:=h;replace h:St w0 (aU p s1::pt b1 (.cells (r1.res.C yO yP).toArray 28 (0,0))::aB yO yP r1.res.list::l) w:=h.f 2;refine rL ?_;refine aD (qc (r:=(⟨2,3,0,0,0,0,9,0⟩:gR).C) rfl) rfl ?_;refine aF rfl (qg rfl (iF hT k2 O0 V9 WA hn2 h) ?_);clear h;rintro _ w ⟨AK,AL,rfl,h⟩;refine E9 ?_;refine aF rfl (qn h fun b2 w h=>?_);refine aF rfl (qy (vs:=r2.res.C AK AL) 0 h rfl rfl rfl rfl rfl rfl rfl fun w h=>?_);refine Y4 ?_;refine Y3 ?_;replace h:St w0 (pt b2 (.cells (r2.res.C AK AL).toArray 28 (0,0))::aB AK AL r2.res.list::aU p s2::pt b1 (.cells (r1.res.C yO yP).toArray 28 (0,0))::aB yO yP r1.res.list::l) w:=h;replace h:St w0 (aU p s2::pt b2 (.cells (r2.res.C AK AL).toArray 28 (0,0))::aB AK AL r2.res.list::pt b1 (.cells (r1.res.C yO yP).toArray 28 (0,0))::aB yO yP r1.res.list::l) w:=h.f 2;refine rL ?_;refine aD (qc (r:=(⟨3,3,0,0,0,0,0,0⟩:gR).C) rfl) rfl ?_
 refine aF rfl (qg rfl (iF hT k3 O0 WC WD Bc h) ?_);clear h;rintro _ w ⟨Ez,EA,rfl,h⟩;refine E9 ?_;refine aF rfl (qn h fun b3 w h=>?_);refine aF rfl (qy (vs:=r3.res.C Ez EA) 0 h rfl rfl rfl rfl rfl rfl rfl fun w h=>?_);refine Y4 ?_;refine Y3 ?_;replace h:St w0 (pt b3 (.cells (r3.res.C Ez EA).toArray 28 (0,0))::aB Ez EA r3.res.list::aU p s3::pt b2 (.cells (r2.res.C AK AL).toArray 28 (0,0))::aB AK AL r2.res.list::pt b1 (.cells (r1.res.C yO yP).toArray 28 (0,0))::aB yO yP r1.res.list::l) w:=h;replace h:St w0 (aU p s3::pt b3 (.cells (r3.res.C Ez EA).toArray 28 (0,0))::aB Ez EA r3.res.list::pt b2 (.cells (r2.res.C AK AL).toArray 28 (0,0))::aB AK AL r2.res.list::pt b1 (.cells (r1.res.C yO yP).toArray 28 (0,0))::aB yO yP r1.res.list::l) w:=h.f 2;refine rL ?_;refine aD (qc (r:=(⟨2,3,0,0,0,0,9,0⟩:gR).C) rfl) rfl ?_;refine aF rfl (qg rfl (iF hT k4 O0 WH WI AZ h) ?_);clear h;rintro _ w ⟨GC,GD,rfl,h⟩;refine E9 ?_;refine aF rfl (qn h fun b4 w h=>?_);refine aF rfl (qy (vs:=r4.res.C GC GD) 0 h rfl rfl rfl rfl rfl rfl rfl fun w h=>?_);refine Y4 ?_;refine Y3 ?_;replace h:St w0 (pt b4 (.cells (r4.res.C GC GD).toArray 28 (0,0))::aB GC GD r4.res.list::aU p s4::pt b3 (.cells (r3.res.C Ez EA).toArray 28 (0,0))::aB Ez EA r3.res.list::pt b2 (.cells (r2.res.C AK AL).toArray 28 (0,0))::aB AK AL r2.res.list::pt b1 (.cells (r1.res.C yO yP).toArray 28 (0,0))::aB yO yP r1.res.list::l) w:=h;replace h:St w0 (aU p s4::pt b4 (.cells (r4.res.C GC GD).toArray 28 (0,0))::aB GC GD r4.res.list::pt b3 (.cells (r3.res.C Ez EA).toArray 28 (0,0))::aB Ez EA r3.res.list::pt b2 (.cells (r2.res.C AK AL).toArray 28 (0,0))::aB AK AL r2.res.list::pt b1 (.cells (r1.res.C yO yP).toArray 28 (0,0))::aB yO yP r1.res.list::l) w:=h.f 2
 refine rL ?_;refine aD (qc (r:=(⟨99,0,0,0,0,0,0,0⟩:gR).C) rfl) rfl ?_;refine aF rfl (qg rfl (iF hT k5 O0 WM WN Dy h) ?_);clear h;rintro _ w ⟨Nb,Nc,rfl,h⟩;refine E9 ?_;refine aF rfl (qn h fun b5 w h=>?_);refine aF rfl (qy (vs:=r5.res.C Nb Nc) 0 h rfl rfl rfl rfl rfl rfl rfl fun w h=>?_);refine Y4 ?_;refine Y3 ?_;replace h:St w0 (pt b5 (.cells (r5.res.C Nb Nc).toArray 28 (0,0))::aB Nb Nc r5.res.list::aU p s5::pt b4 (.cells (r4.res.C GC GD).toArray 28 (0,0))::aB GC GD r4.res.list::pt b3 (.cells (r3.res.C Ez EA).toArray 28 (0,0))::aB Ez EA r3.res.list::pt b2 (.cells (r2.res.C AK AL).toArray 28 (0,0))::aB AK AL r2.res.list::pt b1 (.cells (r1.res.C yO yP).toArray 28 (0,0))::aB yO yP r1.res.list::l) w:=h;replace h:St w0 (aU p s5::pt b5 (.cells (r5.res.C Nb Nc).toArray 28 (0,0))::aB Nb Nc r5.res.list::pt b4 (.cells (r4.res.C GC GD).toArray 28 (0,0))::aB GC GD r4.res.list::pt b3 (.cells (r3.res.C Ez EA).toArray 28 (0,0))::aB Ez EA r3.res.list::pt b2 (.cells (r2.res.C AK AL).toArray 28 (0,0))::aB AK AL r2.res.list::pt b1 (.cells (r1.res.C yO yP).toArray 28 (0,0))::aB yO yP r1.res.list::l) w:=h.f 2;refine Yl ?_;refine aD (qc (r:=(⟨1,4,0,1,0,0,0,0⟩:gR).C) rfl) rfl ?_;refine aF rfl (qg rfl (fv 1 ⟨1,4,0,1,0,0,0,0⟩ h) ?_);clear h;rintro _ w ⟨t,rfl,h⟩;rw[RZ] at h;refine D0 ?_;refine Y8 ?_;refine oE ?_;refine aF rfl (qg rfl (kq hT WT h) ?_);clear h;rintro _ w ⟨rfl,h⟩;rw[x1];rw[WV,Qa] at h;refine AO ?_;refine AO ?_;refine aF rfl (qg rfl (kq hT Qk h) ?_);clear h;rintro _ w ⟨rfl,h⟩;rw[t1];rw[WW,Ia] at h
 refine HP ?_;refine Yq ?_;refine aF rfl (qg rfl (ym (by rw[t4];exact Uf _) h) ?_)
 clear h;rintro _ w ⟨xa,xc,rfl,h⟩;rw[t2];refine Ct ?_;refine aF rfl (qn h fun YQ w h=>?_);refine aF rfl (qy (vs:=R2.out.C xa xc) 0 h rfl rfl rfl rfl rfl rfl rfl fun w h=>?_);refine Y3 ?_;replace h:=h.drop.drop;refine Y2 ?_;refine oE ?_;refine aF rfl (qg rfl (kq hT Na h) ?_);clear h;rintro _ w ⟨rfl,h⟩;rw[u1];rw[WX,NY] at h;refine Y5 ?_;refine Yq ?_;refine aF rfl (qg rfl (ym (by rw[u4];exact Uf _) h) ?_)
 clear h;rintro _ w ⟨ya,yc,rfl,h⟩;rw[u2];refine Ct ?_;refine aF rfl (qn h fun YR w h=>?_);refine aF rfl (qy (vs:=R3.out.C ya yc) 0 h rfl rfl rfl rfl rfl rfl rfl fun w h=>?_);refine Y3 ?_;replace h:=h.drop.drop;refine Yl ?_;refine AP ?_;refine GU ?_;refine Ye ?_;refine pV ?_;refine aD (qq (v:=.iz r1.res.err) rfl (h.b 10 rfl) rfl) rfl ?_;rw[y1];refine EH ?_;refine Ye ?_;refine DT ?_;refine AP ?_;refine Ye ?_;refine pV ?_;refine aD (qq (v:=.slice AK r2.res.list.length AL) rfl (h.b 8 rfl) rfl) rfl ?_;rw[show r2.res.list.length=1 from by rw[Ql];rfl]
 refine Yf ?_;refine rJ ?_;refine EH ?_;refine Ye ?_;refine DT ?_;refine AP ?_;refine Ye ?_;refine pV ?_;refine aD (qq (v:=.iz r3.res.err) rfl (h.b 6 rfl) rfl) rfl ?_;rw[y3];refine EH ?_;refine Ye ?_;refine DT ?_;refine AP ?_;refine Ye ?_;refine pV ?_;refine aD (qq (v:=.slice AK r2.res.list.length AL) rfl (h.b 8 rfl) rfl) rfl ?_;refine Dk ?_;refine aD (qq (v:=.slice GC r4.res.list.length GD) rfl (h.b 4 rfl) rfl) rfl ?_;refine Yf ?_;refine aF rfl (qg rfl (wX (L1:=r2.res.list) (L2:=r4.res.list) h (fun w' h'=>(h'.f 9).bU) (fun w' h'=>(h'.f 5).bU) (by rw[Ql];decide)) ?_)
 clear h;rintro _ w ⟨rfl,h⟩;rw[show decide (r2.res.list=r4.res.list)=true from decide_eq_true (Ql.trans WU.symm)];refine Ye ?_;refine DT ?_;refine AP ?_;refine Ye ?_;refine pV ?_;refine aD (qq (v:=.iz r5.res.err) rfl (h.b 2 rfl) rfl) rfl ?_;rw[y5];refine EH ?_;refine Ye ?_;refine GU ?_;refine Ye ?_;refine GU ?_;refine Ye ?_;refine DT ?_;refine DT ?_;refine oO ?_;refine Ye ?_;refine GU ?_;refine Ye ?_;refine DT ?_;refine AP ?_;refine Ye ?_;refine DY ?_;refine aF rfl (qg rfl (bi h) ?_);clear h;rintro _ w ⟨rfl,h⟩;rw[u3];refine EH ?_;refine Ye ?_;refine DY ?_;refine NB ?_;refine aF rfl (qg rfl (kq hT WY h) ?_);clear h;rintro _ w ⟨rfl,h⟩;rw[e4];refine EH ?_;refine Dh ?_;exact qv (qk (bQ ⟨rfl,h.x [0,1,2,3,4,5,6,7,8,9,10,11]⟩))
end
end
section
variable{s s' s2:cG}{a:Ag}{A:List Ag}{acc:List aG}{al:Int->Bool}{G G':Int->fZ}{n n' i:Nat}{r r':aP}{who:Int}{k:Nat}{o:gR}
abbrev Qm:Int->Bool:=fun _=>false
def Rest(s:cG)(G:Int->fZ)(i:Nat):Prop:=∃acc n,n<=20000*i∧s.b.last<=(i:Int)∧Inv s [] acc Qm G n∧sR G s.b.last∧1<=s.c.bE.most
theorem Rest.new(f b:Int):Rest (cG.new f b) G0 0:=⟨_,0,Ug _,Ut _,lu f b _,fun id h1 h2=>by
 have:(cG.new f b).b.last=0:=rfl
 omega,by show 1<=min (max f 1) 1000;omega⟩
theorem Rest.more(h:Rest s G i){j:Nat}(hj:i<=j):Rest s G j:=by
 obtain⟨acc,n,h1,h2,h3⟩:=h;exact⟨acc,n,cI,cI,h3⟩
theorem WZ:¬NW [] o:=by rintro(⟨_,_,x,hx,_⟩|⟨_,x,hx,_⟩) <;> cases hx
inductive Kx(s:cG)(G:Int->fZ)(o:gR)(s':cG)(G':Int->fZ)(res:iS):Int->Prop
 |gF (ha:(abs s G).act o=(abs s' G',res)):Kx s G o s' G' res 2
 |full (ha:abs s' G'=abs s G) (hr:res=⟨9,0,[]⟩) (hb:s'.b=s.b) (hw:(o.kind=1∧(s.b.room<16∨∃sl:aG,sl.aQ.length=7∧dM.look s.d o.aA=some sl))∨o.kind=3) (hroom:s.b.room<300):Kx s G o s' G' res 3
theorem Rest.op(h:Rest s G i)(hi:i<=1000)(who:Int)(ho:o.Wf):∃m r' s' d G',rB (aP.new who o) s m r' s' d∧1<=m∧m<=(aP.new who o).need s∧m<=3+6*i∧Rest s' G' (i+1)∧EP who s G s' G'∧r'.over=true∧r'.holds=0∧r'.res.list.length<=800007∧Kx s G o s' G' r'.res d:=by
 obtain⟨acc,n,h1,h2,h3,h4,h5⟩:=h;have hb0:0<=s.b.last:=h3.oM.ok.l0;have uJ:=lv h3 (aP.new who o);obtain⟨m,r',s',d,acc',G',g1,g2,g3,g4,g5,g6,g7,g8,g9,Kw⟩:=ff h3 (who:=who) (o:=o) (by intro h;cases h) O2 ho (fun _=>rfl) WZ O0 O0 h4.RJ
 have ht:=ky (aP.new who o);refine⟨m,r',s',d,G',g1,g2,g3,cI,⟨acc',_,cI,cI,g4,h4.step g5,by rw[g5.most];exact h5⟩,g5,g7,g8,g9,?_⟩
 cases Kw with
 |gF ha=>exact .gF ha
 |full ha hr hp hk hb hw hroom=>
  refine .full ha hr hb ?_ hroom;rcases hw with⟨w1,w2|⟨sl,w2,_,w3⟩⟩|w1
  ·exact .inl ⟨w1,.inl w2⟩
  ·exact .inl ⟨w1,.inr ⟨sl,w2,w3 rfl⟩⟩
  ·exact .inr w1
 |busy _ _ _ hc=>
  obtain⟨ks,k1,k2,k3⟩:=hc;cases ks with
  |nil=>exfalso;simp only[Xr] at k2;omega
  |cons x l=>have:=k3 x (Ud ..);cases this
theorem Rest.zero(h:Rest s G i)(hs:∀j,(abs s G).oB j=none)(hi:(abs s G).its=[]):s.b.bytes=0∧s.b.aR=0∧∀(j:Nat) (p:iU),s.d[j]?=some p->p.s.aQ=[]:=by
 obtain⟨acc,n,h1,h2,h3,h4,h5⟩:=h
 have hd:∀(j:Nat) (p:iU),s.d[j]?=some p->p.taken=false∧p.s.there=false:=by
  intro j p hp
  have ht:p.taken=false:=by
   cases ht:p.taken with
   |false=>rfl
   |true=>
    obtain⟨_,f,hf,_⟩:=h3.dir.busy j p hp ht;cases hf
  refine⟨ht,?_⟩;have RA:=h3.P2 hp;have e:=hs (j:Int);have e':dJ s.d G (j:Int)=none:=e;rw[nH hp RA] at e';unfold aG.cX at e';cases IG:p.s.there with
  |false=>rfl
  |true=>rw[IG] at e';cases e'
 have ht:s.t.l=[]:=by
  have e:dV s.t.l G=[]:=hi;unfold dV at e;exact List.map_eq_nil_iff.1 e
 obtain⟨u1,u2⟩:=rh h3 (fun a ha=>by cases ha) hd ht
 exact⟨u1,u2,fun j p hp=>((h3.dir.ok j p hp).1.no (hd j p hp).2).1⟩
theorem Rest.used(h:Rest s G i):s.b.bytes+s.b.aR<=s.b.bA∧0<=s.b.bytes∧0<=s.b.aR∧s.b.Ok:=by
 obtain⟨acc,n,h1,h2,h3,h4,h5⟩:=h;exact⟨h3.oM.ok.sum,h3.oM.ok.y0,h3.oM.ok.c0,h3.oM.ok⟩
end
end Go.Proofs.YtngdfdangkdgcaaGreatDoor
namespace Go.Hw
section
def bf(n:Int)(s k:Nat):Int:=n / 2^s%2^k
theorem v4(n:Int)(s k:Nat):0<=bf n s k∧bf n s k<2^k:=by
 have h:(0:Int)<2^k:=Int.pow_pos O2;exact⟨Int.emod_nonneg _ O0,Int.emod_lt_of_pos _ h⟩
def sW(n at_ kind:Int)(V:Nat)(aA:Int):gR:=⟨kind,aA,bf n 8 3,at_+bf n 11 2,V,at_-bf n 13 6,at_+bf n 19 4-4,bf n 23 4⟩
def tU(n:Int):Nat:=(bf n 13 8).toNat
def IK(n:Int):Nat:=(IntKind.u64.wrap (IntKind.u64.wrap n*11400714819323198485)).toNat
def lR(n at_:Int):gR:=
 if bf n 0 6<34 then(if bf n 21 3=0 then sW n at_ 1 (IK n) (bf n 6 2) else sW n at_ 1 (tU n) (bf n 6 2))
 else if bf n 0 6<44 then sW n at_ 2 (tU n) (bf n 6 2)
 else if bf n 0 6<46 then(if 0<bf n 23 2 then sW n at_ 2 (tU n) (bf n 6 2) else sW n at_ 3 (tU n) (bf n 6 2))
 else if bf n 0 6<48 then(if 0<bf n 23 2 then sW n at_ 1 (tU n) (bf n 6 2) else sW n at_ 4 (tU n) (bf n 6 2))
 else if bf n 0 6<53 then sW n at_ 5 (tU n) (bf n 6 2)
 else if bf n 0 6<60 then sW n at_ 6 (tU n) (bf n 6 2)
 else if bf n 0 6<62 then sW n at_ 7 (tU n) (bf n 6 2)
 else sW n at_ (bf n 6 4) (tU n) (bf n 10 5-5)
theorem Ky(n:Int):IK n<18446744073709551616:=by
 unfold IK IntKind.wrap;simp[IntKind.signed,IntKind.bits];omega
theorem HD(n:Int):((IK n:Nat):Int)=IntKind.u64.wrap (IntKind.u64.wrap n*11400714819323198485):=by
 unfold IK;refine Zo ?_;unfold IntKind.wrap;simp[IntKind.signed,IntKind.bits];omega
theorem DO(n:Int):((tU n:Nat):Int)=bf n 13 8:=Zo (v4 n 13 8).1
theorem Kz{n at_ kind:Int}{V:Nat}{aA:Int}(h0:0<=at_)(h1:at_<=1152921504606846976)(hk:0<=kind∧kind<=15)(hV:V<18446744073709551616)(hs:-5<=aA∧aA<=26):(sW n at_ kind V aA).Wf:=by
 have b1:=v4 n 8 3;have b2:=v4 n 11 2;have b3:=v4 n 13 6;have b4:=v4 n 19 4;have b5:=v4 n 23 4;refine⟨⟨?_,?_⟩,⟨?_,?_⟩,⟨?_,?_⟩,⟨?_,?_⟩,?_,⟨?_,?_⟩,⟨?_,?_⟩,⟨?_,?_⟩⟩ <;> dsimp only[sW] <;> omega
theorem DP{n at_:Int}(h0:0<=at_)(h1:at_<=1152921504606846976):(lR n at_).Wf:=by
 have b1:=v4 n 6 2;have b2:=v4 n 6 4;have b3:=v4 n 10 5;have b4:=v4 n 13 8;have hV:tU n<18446744073709551616:=by have:=DO n;omega
 have hX:=Ky n;unfold lR
 repeat' split
 all_goals exact Kz h0 h1 ⟨cI,cI⟩ yR ⟨cI,cI⟩
theorem vo{n:Int}{s k:Nat}(hs:s<64)(hk:k<63):eS .and .i64 (n.fdiv (2^(min ((s:Int)).toNat IntKind.i64.bits))) ((2:Int)^k-1)=bf n s k:=by
 rw[yj k O0 O0]
 have e:min ((s:Int)).toNat IntKind.i64.bits=s:=by
  have:IntKind.i64.bits=64:=rfl;rw[this];omega
 rw[e,Zc _ (Int.le_of_lt (Int.pow_pos O2))];rfl
theorem rb{x:Int}(h0:0<=x)(h1:x<18446744073709551616):IntKind.u64.wrap x=x:=by
 unfold IntKind.wrap;simp[IntKind.signed,IntKind.bits];omega
theorem KA{n:Int}{k:Nat}(hk:k<63):eS .and .i64 n ((2:Int)^k-1)=bf n 0 k:=by
 rw[yj k O0 O0];unfold bf;rw[Int.pow_zero,Int.ediv_one]
end
end Go.Hw
namespace Go.Proofs.YtngdfdangkdgcaaGreatDoor
open Go.Hw _root_.Go.Proofs.Tryz
section
open Go.Hw Go.Lib
section
variable{w0 w:World}{l:List aC}
abbrev fK(b:Nat)(o:gR):aC:=pt b (.cells o.C.toArray 33 (0,0))
theorem Gc{n at_:Int}(h0:0<=at_)(h1:at_<=1152921504606846976)(h:St w0 l w):bP prog 27 [.iz n,.iz at_] w fun v w'=>v=.agg (lR n at_).C.toArray∧St w0 l w':=by
 have b2:=v4 n 11 2;have b3:=v4 n 13 6;have b4:=v4 n 19 4;have b5:=v4 n 10 5;refine en func27 results27 ntmps27 ?_;refine Y1 ?_;refine aF rfl (qn h fun br w h=>?_);replace h:St w0 (fK br gR.zero::l) w:=h;refine Y2 ?_;refine qf (Γ:=Nat) (fun b=>[(0,.iz n),(4,.pz br),(5,.pz b)]) (fun b w=>St w0 (fK b (sW n at_ 0 (tU n) (bf n 6 2))::fK br gR.zero::l) w) ?_ ?_
 ·refine AT ?_;refine aD (j2 rfl rfl O2) rfl ?_;refine aD (q9 (v':=.iz (bf n 6 2)) (gx rfl rfl) (congrArg Value.iz (vo (s:=6) (k:=2) O2 O2))) rfl ?_;refine Y0 ?_;refine aD (j2 rfl rfl O2) rfl ?_;refine aD (q9 (v':=.iz (bf n 8 3)) (gx rfl rfl) (congrArg Value.iz (vo (s:=8) (k:=3) O2 O2))) rfl ?_;refine DV ?_;refine aD (j2 rfl rfl O2) rfl ?_;refine aD (q9 (v':=.iz (bf n 11 2)) (gx rfl rfl) (congrArg Value.iz (vo (s:=11) (k:=2) O2 O2))) rfl ?_;refine aD (q9 (v':=.iz (at_+bf n 11 2)) (vv rfl rfl) (congrArg Value.iz (wrap64 O0 O0))) rfl ?_
  refine Y0 ?_;refine aD (j2 rfl rfl O2) rfl ?_;refine aD (q9 (v':=.iz (bf n 13 8)) (gx rfl rfl) (congrArg Value.iz (vo (s:=13) (k:=8) O2 O2))) rfl ?_;refine aD (q9 (v':=.int .u64 (tU n)) (zn rfl) (congrArg (Value.int .u64) ((rb (v4 n 13 8).1 (by have:=(v4 n 13 8).2;omega)).trans (DO n).symm))) rfl ?_
  refine DV ?_;refine aD (j2 rfl rfl O2) rfl ?_;refine aD (q9 (v':=.iz (bf n 13 6)) (gx rfl rfl) (congrArg Value.iz (vo (s:=13) (k:=6) O2 O2))) rfl ?_;refine aD (q9 (v':=.iz (at_-bf n 13 6)) (vk rfl rfl) (congrArg Value.iz (wrap64 O0 O0))) rfl ?_
  refine DV ?_;refine aD (j2 rfl rfl O2) rfl ?_;refine aD (q9 (v':=.iz (bf n 19 4)) (gx rfl rfl) (congrArg Value.iz (vo (s:=19) (k:=4) O2 O2))) rfl ?_;refine aD (q9 (v':=.iz (at_+bf n 19 4)) (vv rfl rfl) (congrArg Value.iz (wrap64 O0 O0))) rfl ?_
  refine aD (q9 (v':=.iz (at_+bf n 19 4-4)) (vk rfl rfl) (congrArg Value.iz (wrap64 O0 O0))) rfl ?_
  refine Y0 ?_;refine aD (j2 rfl rfl O2) rfl ?_;refine aD (q9 (v':=.iz (bf n 23 4)) (gx rfl rfl) (congrArg Value.iz (vo (s:=23) (k:=4) O2 O2))) rfl ?_;refine aD (qc (r:=(sW n at_ 0 (tU n) (bf n 6 2)).C) O1) rfl ?_
  refine aF rfl (qn h fun b w h=>?_);refine aF rfl (qy (vs:=(sW n at_ 0 (tU n) (bf n 6 2)).C) 0 h rfl rfl rfl rfl rfl rfl rfl fun w h=>?_)
  exact qv ⟨b,kK,h⟩
 rintro b w e h;refine Yb ?_;refine aD (q9 (v':=.iz (bf n 0 6)) (gx rfl rfl) (congrArg Value.iz (KA (k:=6) O2))) rfl ?_;refine Y5 ?_;refine qf (Γ:=gR) (fun _=>[(4,.pz br),(5,.pz b)]) (fun o w=>o=lR n at_∧St w0 (fK b o::fK br gR.zero::l) w) ?_ ?_
 ·refine Yg ?_;refine Cl ?_;refine Y3 ?_;refine qv (qo _ rfl (fun hc=>?_) (fun hc=>?_))
  ·replace hc:bf n 0 6<34:=by simpa using hc
   refine qK ?_;refine aF rfl (qb 0 h rfl (show _=Value.iz 1 from rfl) rfl rfl rfl rfl fun w h=>?_);replace h:St w0 (fK b (sW n at_ 1 (tU n) (bf n 6 2))::fK br gR.zero::l) w:=h
   refine Y2 ?_;refine Yb ?_;refine aD (j2 rfl rfl O2) rfl ?_;refine aD (q9 (v':=.iz (bf n 21 3)) (gx rfl rfl) (congrArg Value.iz (vo (s:=21) (k:=3) O2 O2))) rfl ?_;refine Yi ?_;refine qv (qo _ rfl (fun hd=>?_) (fun hd=>?_))
   ·replace hd:bf n 21 3=0:=by simpa using hd
    refine AT ?_;refine qJ ?_;refine LF ?_;refine qz (.int .u64 (IK n)) (congrArg (Value.int .u64) (HD n).symm) ?_;refine Yc ?_;refine aF rfl (qb 0 h rfl (show _=Value.int .u64 (IK n) from rfl) rfl rfl rfl rfl fun w h=>?_);replace h:St w0 (fK b (sW n at_ 1 (IK n) (bf n 6 2))::fK br gR.zero::l) w:=h
    exact qv ⟨_,gS,by rw[lR,if_pos (show bf n 0 6<34 by omega),if_pos hd],h⟩
   ·replace hd:¬bf n 21 3=0:=by simpa using hd
    exact qa ⟨_,gS,by rw[lR,if_pos (show bf n 0 6<34 by omega),if_neg hd],h⟩
  replace hc:¬bf n 0 6<34:=by simpa using hc
  refine Cl ?_;refine Y3 ?_;refine qv (qo _ rfl (fun hc=>?_) (fun hc=>?_))
  ·replace hc:bf n 0 6<44:=by simpa using hc
   refine Dj ?_;refine aF rfl (qb 0 h rfl (show _=Value.iz 2 from rfl) rfl rfl rfl rfl fun w h=>?_);replace h:St w0 (fK b (sW n at_ 2 (tU n) (bf n 6 2))::fK br gR.zero::l) w:=h
   exact qv ⟨_,gS,by rw[lR,if_neg (show ¬bf n 0 6<34 by omega),if_pos (show bf n 0 6<44 by omega)],h⟩
  replace hc:¬bf n 0 6<44:=by simpa using hc
  refine Cl ?_;refine Y3 ?_;refine qv (qo _ rfl (fun hc=>?_) (fun hc=>?_))
  ·replace hc:bf n 0 6<46:=by simpa using hc
   refine qK ?_;refine aF rfl (qb 0 h rfl (show _=Value.iz 3 from rfl) rfl rfl rfl rfl fun w h=>?_);replace h:St w0 (fK b (sW n at_ 3 (tU n) (bf n 6 2))::fK br gR.zero::l) w:=h
   refine Y2 ?_;refine Yb ?_;refine aD (j2 rfl rfl O2) rfl ?_;refine aD (q9 (v':=.iz (bf n 23 2)) (gx rfl rfl) (congrArg Value.iz (vo (s:=23) (k:=2) O2 O2))) rfl ?_;refine Cr ?_;refine qv (qo _ rfl (fun hd=>?_) (fun hd=>?_))
   ·replace hd:0<bf n 23 2:=by simpa using hd
    refine Dj ?_;refine aF rfl (qb 0 h rfl (show _=Value.iz 2 from rfl) rfl rfl rfl rfl fun w h=>?_);replace h:St w0 (fK b (sW n at_ 2 (tU n) (bf n 6 2))::fK br gR.zero::l) w:=h
    exact qv ⟨_,gS,by rw[lR,if_neg (show ¬bf n 0 6<34 by omega),if_neg (show ¬bf n 0 6<44 by omega),if_pos (show bf n 0 6<46 by omega),if_pos hd],h⟩
   ·replace hd:¬0<bf n 23 2:=by simpa using hd
    exact qa ⟨_,gS,by rw[lR,if_neg (show ¬bf n 0 6<34 by omega),if_neg (show ¬bf n 0 6<44 by omega),if_pos (show bf n 0 6<46 by omega),if_neg hd],h⟩
  replace hc:¬bf n 0 6<46:=by simpa using hc
  refine Cl ?_;refine Y3 ?_;refine qv (qo _ rfl (fun hc=>?_) (fun hc=>?_))
  ·replace hc:bf n 0 6<48:=by simpa using hc
   refine qK ?_;refine aF rfl (qb 0 h rfl (show _=Value.iz 4 from rfl) rfl rfl rfl rfl fun w h=>?_);replace h:St w0 (fK b (sW n at_ 4 (tU n) (bf n 6 2))::fK br gR.zero::l) w:=h
   refine Y2 ?_;refine Yb ?_;refine aD (j2 rfl rfl O2) rfl ?_;refine aD (q9 (v':=.iz (bf n 23 2)) (gx rfl rfl) (congrArg Value.iz (vo (s:=23) (k:=2) O2 O2))) rfl ?_;refine Cr ?_;refine qv (qo _ rfl (fun hd=>?_) (fun hd=>?_))
   ·replace hd:0<bf n 23 2:=by simpa using hd
    refine Dj ?_;refine aF rfl (qb 0 h rfl (show _=Value.iz 1 from rfl) rfl rfl rfl rfl fun w h=>?_);replace h:St w0 (fK b (sW n at_ 1 (tU n) (bf n 6 2))::fK br gR.zero::l) w:=h
    exact qv ⟨_,gS,by rw[lR,if_neg (show ¬bf n 0 6<34 by omega),if_neg (show ¬bf n 0 6<44 by omega),if_neg (show ¬bf n 0 6<46 by omega),if_pos (show bf n 0 6<48 by omega),if_pos hd],h⟩
   ·replace hd:¬0<bf n 23 2:=by simpa using hd
    exact qa ⟨_,gS,by rw[lR,if_neg (show ¬bf n 0 6<34 by omega),if_neg (show ¬bf n 0 6<44 by omega),if_neg (show ¬bf n 0 6<46 by omega),if_pos (show bf n 0 6<48 by omega),if_neg hd],h⟩
  replace hc:¬bf n 0 6<48:=by simpa using hc
  refine Cl ?_;refine Y3 ?_;refine qv (qo _ rfl (fun hc=>?_) (fun hc=>?_))
  ·replace hc:bf n 0 6<53:=by simpa using hc
   refine Dj ?_;refine aF rfl (qb 0 h rfl (show _=Value.iz 5 from rfl) rfl rfl rfl rfl fun w h=>?_);replace h:St w0 (fK b (sW n at_ 5 (tU n) (bf n 6 2))::fK br gR.zero::l) w:=h
   exact qv ⟨_,gS,by rw[lR,if_neg (show ¬bf n 0 6<34 by omega),if_neg (show ¬bf n 0 6<44 by omega),if_neg (show ¬bf n 0 6<46 by omega),if_neg (show ¬bf n 0 6<48 by omega),if_pos (show bf n 0 6<53 by omega)],h⟩
  replace hc:¬bf n 0 6<53:=by simpa using hc
  refine Cl ?_;refine Y3 ?_;refine qv (qo _ rfl (fun hc=>?_) (fun hc=>?_))
  ·replace hc:bf n 0 6<60:=by simpa using hc
   refine Dj ?_;refine aF rfl (qb 0 h rfl (show _=Value.iz 6 from rfl) rfl rfl rfl rfl fun w h=>?_);replace h:St w0 (fK b (sW n at_ 6 (tU n) (bf n 6 2))::fK br gR.zero::l) w:=h
   exact qv ⟨_,gS,by rw[lR,if_neg (show ¬bf n 0 6<34 by omega),if_neg (show ¬bf n 0 6<44 by omega),if_neg (show ¬bf n 0 6<46 by omega),if_neg (show ¬bf n 0 6<48 by omega),if_neg (show ¬bf n 0 6<53 by omega),if_pos (show bf n 0 6<60 by omega)],h⟩
  replace hc:¬bf n 0 6<60:=by simpa using hc
  refine Cl ?_;refine Y3 ?_;refine qv (qo _ rfl (fun hc=>?_) (fun hc=>?_))
  ·replace hc:bf n 0 6<62:=by simpa using hc
   refine Dj ?_;refine aF rfl (qb 0 h rfl (show _=Value.iz 7 from rfl) rfl rfl rfl rfl fun w h=>?_);replace h:St w0 (fK b (sW n at_ 7 (tU n) (bf n 6 2))::fK br gR.zero::l) w:=h
   exact qv ⟨_,gS,by rw[lR,if_neg (show ¬bf n 0 6<34 by omega),if_neg (show ¬bf n 0 6<44 by omega),if_neg (show ¬bf n 0 6<46 by omega),if_neg (show ¬bf n 0 6<48 by omega),if_neg (show ¬bf n 0 6<53 by omega),if_neg (show ¬bf n 0 6<60 by omega),if_pos (show bf n 0 6<62 by omega)],h⟩
  replace hc:¬bf n 0 6<62:=by simpa using hc
  refine Yb ?_;refine aD (j2 rfl rfl O2) rfl ?_;refine aD (q9 (v':=.iz (bf n 6 4)) (gx rfl rfl) (congrArg Value.iz (vo (s:=6) (k:=4) O2 O2))) rfl ?_;refine Yc ?_;refine aF rfl (qb 0 h rfl (show _=Value.iz (bf n 6 4) from rfl) rfl rfl rfl rfl fun w h=>?_);replace h:St w0 (fK b (sW n at_ (bf n 6 4) (tU n) (bf n 6 2))::fK br gR.zero::l) w:=h
  refine Y2 ?_;refine AT ?_;refine aD (j2 rfl rfl O2) rfl ?_;refine aD (q9 (v':=.iz (bf n 10 5)) (gx rfl rfl) (congrArg Value.iz (vo (s:=10) (k:=5) O2 O2))) rfl ?_;refine aD (q9 (v':=.iz (bf n 10 5-5)) (vk rfl rfl) (congrArg Value.iz (wrap64 O0 O0))) rfl ?_;refine Yc ?_;refine aF rfl (qb 0 h rfl (show _=Value.iz (bf n 10 5-5) from rfl) rfl rfl rfl rfl fun w h=>?_);replace h:St w0 (fK b (sW n at_ (bf n 6 4) (tU n) (bf n 10 5-5))::fK br gR.zero::l) w:=h
  exact qv ⟨_,gS,by rw[lR,if_neg (show ¬bf n 0 6<34 by omega),if_neg (show ¬bf n 0 6<44 by omega),if_neg (show ¬bf n 0 6<46 by omega),if_neg (show ¬bf n 0 6<48 by omega),if_neg (show ¬bf n 0 6<53 by omega),if_neg (show ¬bf n 0 6<60 by omega),if_neg (show ¬bf n 0 6<62 by omega)],h⟩
 rintro o w e ⟨rfl,h⟩;refine Y1 ?_;refine aD (qx (l:=(lR n at_).C) rfl rfl (qw (h.b 0 rfl) rfl)) rfl ?_
 refine aF rfl (qy (vs:=(lR n at_).C) 1 h rfl rfl rfl rfl rfl rfl rfl fun w h=>?_)
 refine qv (qk ?_);refine Ly (v:=.agg (lR n at_).C.toArray) ?_ ⟨rfl,h.drop.drop⟩
 exact js (by rfl) (qw (h.b 1 rfl) rfl)
end
end
section
section
variable{w0 w:World}{l:List aC}
theorem tV{sa sb:Option Addr}{ca cb:Nat}{a b:iS}(hn:a.list.length<=4294967296)(PT:Reads w0 l 2 sa a.list.length (aW a.list))(hrb:Reads w0 l 2 sb b.list.length (aW b.list))(h:St w0 l w):
  bP prog 30 [.agg (a.C sa ca).toArray,.agg (b.C sb cb).toArray] w fun v w'=>v=.bool (decide (a.err=b.err∧a.iter=b.iter∧a.list=b.list))∧St w0 l w':=by
 refine en func30 results30 ntmps30 ?_;refine Y1 ?_;refine aF rfl (jk h (show _=Value.agg (a.C sa ca).toArray from rfl) fun b1 w h=>?_);refine aF rfl (jk h (show _=Value.agg (b.C sb cb).toArray from rfl) fun b2 w h=>?_);replace h:St w0 (pt b2 (.cells [.iz b.err,.iz b.iter,.slice sb b.list.length cb].toArray 28 (0,0))::pt b1 (.cells [.iz a.err,.iz a.iter,.slice sa a.list.length ca].toArray 28 (0,0))::l) w:=h;refine Ya ?_;refine qK ?_;refine aD (qq (v:=.iz a.err) rfl (h.b 1 rfl) rfl) rfl ?_;refine Yc ?_;refine aD (qq (v:=.iz b.err) rfl (h.b 0 rfl) rfl) rfl ?_;refine Yi ?_;by_cases h1:a.err=b.err
 ·refine qz (.bool true) KR ?_;refine pV ?_;refine aD (qq (v:=.iz a.iter) rfl (h.b 1 rfl) rfl) rfl ?_;refine Dk ?_;refine aD (qq (v:=.iz b.iter) rfl (h.b 0 rfl) rfl) rfl ?_;refine EH ?_;by_cases h2:a.iter=b.iter
  ·refine qz (.bool true) KQ ?_;refine Ye ?_;refine pV ?_;refine aD (qq (v:=.slice sa a.list.length ca) rfl (h.b 1 rfl) rfl) rfl ?_;refine Dk ?_;refine aD (qq (v:=.slice sb b.list.length cb) rfl (h.b 0 rfl) rfl) rfl ?_;refine Yf ?_;refine aF rfl (qg rfl (wX h (PT.more [_,_]).rd (hrb.more [_,_]).rd O0) ?_);clear h;rintro _ w ⟨rfl,h⟩;refine Dh ?_;exact qv (qk (bQ ⟨congrArg Value.bool (by simp[h1,h2]),h.drop.drop⟩))
  ·refine qz (.bool false) KN ?_;refine Ye ?_;refine zX ?_;refine EE ?_;refine xM ?_;exact qv (qk (bQ ⟨congrArg Value.bool (by simp[h2]),h.drop.drop⟩))
 ·refine qz (.bool false) KO ?_;refine zX ?_;refine EE ?_;refine Y9 ?_;refine zX ?_;refine EE ?_;refine xM ?_;exact qv (qk (bQ ⟨congrArg Value.bool (by simp[h1]),h.drop.drop⟩))
end
end
section
structure Sr where
 id:Int
 cl:Bool
 any:Bool
 last:Int
 L:List bZ
structure Md where
 S:List Sr
 I:List (Int×List bZ)
 next:Int
def AtR(ids:List Int)(id:Int):Option Nat->Prop
 |none=>∀x∈ids,x≠id
 |some i=>ids[i]?=some id∧∀j x,j<i->ids[j]?=some x->x≠id
theorem n8{β:Type}{id:Int}{x:β}:∀{I:List (Int×β)} {i:Nat},AtR (keys I) id (some i)->I[i]?=some (id,x)->aH id I=some x∧(∀y,aX id y I=I.set i (id,y))∧bY id I=I.take i++I.drop (i+1)
 |[],i,_,h=>by cases h
 |(j,u)::r,0,_,h=>by
  have h':(j,u)=(id,x):=Uk h;cases h'
  exact⟨if_pos rfl,fun y=>if_pos rfl,if_pos rfl⟩
 |(j,u)::r,i+1,ha,h=>by
  have hj:j≠id:=ha.2 0 j (Nat.succ_pos i) rfl;obtain⟨h1,h2,h3⟩:=n8 (I:=r) (i:=i) ⟨ha.1,fun k y hk hy=>ha.2 (k+1) y (Nat.succ_lt_succ hk) hy⟩ h;refine⟨(if_neg hj).trans h1,fun y=>(if_neg hj).trans ?_,(if_neg hj).trans ?_⟩
  ·rw[h2];rfl
  ·rw[h3];rfl
structure GF(m:qI)(M:Md):Prop where
 HE:M.S.Pairwise fun x y=>x.id<y.id
 yes:∀x∈M.S,m.oB x.id=some (x.cl,x.L)∧x.any=true∧x.last=eG x.L
 no:∀id,(∀x∈M.S,x.id≠id)->m.oB id=none
 its:m.its=M.I
 next:m.next=M.next
structure Bd(M:Md)(n:Nat):Prop where
 s:M.S.length<=n
 i:M.I.length<=n
 rs:∀x∈M.S,x.L.length<=n
 ri:∀p∈M.I,p.2.length<=n
 n0:0<=M.next
 n1:M.next<=(n:Int)
structure lM(M:Md)(o:gR)(M':Md)(res:iS):Prop where
 rep:∀m,GF m M->(m.act o).2=res∧GF (m.act o).1 M'
 bd:∀n,Bd M n->Bd M' (n+1)
variable{M:Md}{m:qI}{o:gR}{x:Sr}{i k n:Nat}
theorem lM.same{res:iS}(h:∀m,GF m M->m.act o=(m,res)):lM M o M res:=⟨fun m hm=>by rw[h m hm];exact⟨rfl,hm⟩,fun n h=>⟨by have:=h.s;omega,by have:=h.i;omega,fun x hx=>by have:=h.rs x hx;omega,fun x hx=>by have:=h.ri x hx;omega,h.n0,by have:=h.n1;omega⟩⟩
theorem Bd.set(h:Bd M n){y:Sr}(hy:y.L.length<=n+1):Bd { M with S:=M.S.set k y } (n+1):=
 ⟨by show(M.S.set k y).length<=_;rw[Vd];have:=h.s;omega,by have:=h.i;show M.I.length<=_;omega,fun z hz=>by
  rcases Xb hz with hz|rfl
  ·have:=h.rs z hz;omega
  ·exact hy,fun p hp=>by have:=h.ri p hp;omega,h.n0,by have:=h.n1;show M.next<=_;omega⟩
theorem R4(hb:aP.bad o=true):lM M o M ⟨4,0,[]⟩:=.same fun m hm=>by unfold qI.act;rw[hb,if_pos rfl];rfl
theorem W0(hb:aP.bad o=false)(hk:2<=o.kind∧o.kind<=5)(ha:AtR (M.S.map (·.id)) o.aA none):lM M o M ⟨3,0,[]⟩:=.same fun m hm=>by
 rw[jr hb O0 O0,hm.no _ fun x hx=>ha x.id (Va.2 ⟨x,hx,rfl⟩)];dsimp only;rw[if_neg O0];rfl
theorem W1(hk:o.kind=6∨o.kind=7)(ha:AtR (keys M.I) o.iter none):lM M o M ⟨3,0,[]⟩:=.same fun m hm=>by
 have hb:aP.bad o=false:=by
  unfold aP.bad;rw[if_neg O0];rcases hk with hk|hk <;> rw[hk] <;> rfl
 have hg:aH o.iter m.its=none:=by rw[hm.its];exact dD.2 fun h=>ha _ h rfl
 unfold qI.act;rw[hb,if_neg Vt];rcases hk with hk|hk
 ·rw[if_pos hk,hg];rfl
 ·rw[if_neg O0,if_pos hk,hg];rfl
theorem GF.here(hm:GF m M)(hx:M.S[k]?=some x):m.oB x.id=some (x.cl,x.L)∧x.any=true∧x.last=eG x.L:=hm.yes x (Ue hx)
theorem ny(hb:aP.bad o=false)(hk:o.kind=1∨o.kind=3)(hx:M.S[k]?=some x)(hid:x.id=o.aA)(hc:x.cl=true):lM M o M ⟨2,0,[]⟩:=.same fun m hm=>by
 rw[jr hb O0 O0,<- hid,(hm.here hx).1];dsimp only;rw[hc];rcases hk with hk|hk
 ·rw[if_pos hk,if_pos rfl];rfl
 ·rw[if_neg O0,if_neg O0,if_pos hk,if_pos rfl];rfl
theorem W2(hb:aP.bad o=false)(hk:o.kind=1)(hx:M.S[k]?=some x)(hid:x.id=o.aA)(hc:x.cl=false)(hT:o.T<=x.last):lM M o M ⟨1,0,[]⟩:=.same fun m hm=>by
 obtain⟨h1,_,h3⟩:=hm.here hx;rw[jr hb O0 O0,<- hid,h1];dsimp only;rw[if_pos hk,hc,if_neg Vt,if_pos (by rw[<- h3];exact hT)];rfl
theorem W3(hb:aP.bad o=false)(hk:o.kind=2)(hx:M.S[k]?=some x)(hid:x.id=o.aA):lM M o M ⟨0,0,within x.L o.F o.To⟩:=.same fun m hm=>by
 rw[jr hb O0 O0,<- hid,(hm.here hx).1];dsimp only;rw[if_neg O0,if_pos hk]
theorem W4(hb:aP.bad o=false)(hk:o.kind=5)(hx:M.S[k]?=some x)(hid:x.id=o.aA)(h8:8<=M.I.length):lM M o M ⟨5,0,[]⟩:=.same fun m hm=>by
 rw[jr hb O0 O0,<- hid,(hm.here hx).1];dsimp only;rw[if_neg O0,if_neg O0,if_neg O0,if_neg O0,hm.its,if_pos h8];rfl
theorem W5(hb:aP.bad o=false)(hk:o.kind=5)(hx:M.S[k]?=some x)(hid:x.id=o.aA)(h8:M.I.length<8):lM M o { M with I:=M.I++[(M.next+1,within x.L o.F o.To)],next:=M.next+1 } ⟨0,M.next+1,[]⟩:=⟨fun m hm=>by
 rw[jr hb O0 O0,<- hid,(hm.here hx).1];dsimp only;rw[if_neg O0,if_neg O0,if_neg O0,if_neg O0,hm.its,if_neg O0,hm.next]
 exact⟨rfl,hm.HE,hm.yes,hm.no,rfl,rfl⟩,fun n h=>⟨by have:=h.s;show M.S.length<=_;omega,by have:=h.i;show(M.I++[_]).length<=_;rw[Ua,Zg];omega,fun x hx=>by have:=h.rs x hx;omega,fun p hp=>by
  rcases Vc.1 hp with hp|hp
  ·have:=h.ri p hp;omega
  ·rw[Vi] at hp;rw[hp];have h1:(within x.L o.F o.To).length<=x.L.length:=Wl _ _;have h2:=h.rs x (Ue hx);show(within x.L o.F o.To).length<=_
   omega,by have:=h.n0;show 0<=M.next+1;omega,by have:=h.n1;show M.next+1<=_;omega⟩⟩
theorem lk{S:List Sr}(h:S.Pairwise fun x y=>x.id<y.id){y:Sr}{j:Nat}(hx:S[k]?=some x)(hy:S[j]?=some y)(he:y.id=x.id):j=k:=by
 obtain⟨h1,e1⟩:=Uc.1 hx;obtain⟨h2,e2⟩:=Uc.1 hy;rcases Nat.lt_trichotomy j k with h3|h3|h3
 ·have:=List.pairwise_iff_getElem.1 h j k h2 h1 h3;rw[e1,e2] at this;omega
 ·exact h3
 ·have:=List.pairwise_iff_getElem.1 h k j h1 h2 h3;rw[e1,e2] at this;omega
theorem W6{S:List Sr}{y z:Sr}(hz:z∈S.set k y):z=y∨∃j,j≠k∧S[j]?=some z:=by
 obtain⟨j,hj⟩:=We.1 hz;rcases v9 hj with⟨_,e⟩|⟨h1,h2⟩
 ·exact .inl e
 ·exact .inr ⟨j,h1,h2⟩
theorem W7{S:List Sr}(h:S.Pairwise fun x y=>x.id<y.id){y:Sr}(hx:S[k]?=some x)(he:y.id=x.id):(S.set k y).Pairwise fun x y=>x.id<y.id:=by
 have e:(S.set k y).map (·.id)=S.map (·.id):=by
  rw[Zm,he];refine Ka fun j=>?_;by_cases hj:k=j
  ·subst hj;rw[ve (y:=x.id) (by rw[Vb,hx];rfl),Vb,hx];rfl
  ·rw[List.getElem?_set_ne hj]
 have h':(S.map (·.id)).Pairwise (· < ·):=List.pairwise_map.2 h;rw[<- e] at h';exact List.pairwise_map.1 h'
theorem GF.set(hm:GF m M)(hx:M.S[k]?=some x){y:Sr}(he:y.id=x.id)(h1:y.any=true)(h2:y.last=eG y.L):GF { m with oB:=qZ m.oB x.id (some (y.cl,y.L)) } { M with S:=M.S.set k y }:=by
 refine⟨W7 hm.HE hx he,fun z hz=>?_,fun id hid=>?_,hm.its,hm.next⟩
 ·rcases W6 hz with rfl|⟨j,hj,hz⟩
  ·exact⟨(by show qZ _ _ _ z.id=_;unfold qZ;rw[if_pos he]),h1,h2⟩
  ·refine⟨?_,(hm.yes z (Ue hz)).2⟩;show qZ _ _ _ z.id=_;unfold qZ;rw[if_neg (fun e=>hj (lk hm.HE hx hz e))];exact(hm.yes z (Ue hz)).1
 ·have hne:id≠x.id:=fun e=>hid y (Ue (ve hx)) (he.trans e.symm);show qZ _ _ _ id=_;unfold qZ;rw[if_neg hne];refine hm.no id fun z hz=>?_;obtain⟨j,hj⟩:=We.1 hz;by_cases CQ:j=k
  ·subst CQ;rw[hx] at hj;rw[<- Uk hj];exact fun e=>hne e.symm
  ·exact hid z (Ue (by rw[gr CQ];exact hj))
theorem KB(hb:aP.bad o=false)(hk:o.kind=1)(hx:M.S[k]?=some x)(hid:x.id=o.aA)(hc:x.cl=false)(hT:¬(x.any=true∧o.T<=x.last)):lM M o { M with S:=M.S.set k { x with any:=true,last:=o.T,L:=x.L++[⟨o.T,(o.V:Int)⟩] } } ⟨0,0,[]⟩:=⟨fun m hm=>by
 obtain⟨h1,h2,h3⟩:=hm.here hx;rw[jr hb O0 O0,<- hid,h1];dsimp only;rw[if_pos hk,hc,if_neg Vt,if_neg (fun h=>hT ⟨h2,by rw[h3];exact h⟩)]
 have:=hm.set hx (y:={ x with any:=true,last:=o.T,L:=x.L++[⟨o.T,(o.V:Int)⟩] }) rfl rfl (show o.T=eG (x.L++[⟨o.T,(o.V:Int)⟩]) from(nY x.L ⟨o.T,(o.V:Int)⟩).symm)
 rw[show({ x with any:=true,last:=o.T,L:=x.L++[⟨o.T,(o.V:Int)⟩] }:Sr).cl=false from hc] at this
 exact⟨rfl,this⟩,fun n h=>h.set (by have:=h.rs x (Ue hx);show(x.L++[_]).length<=_;rw[Ua,Zg];omega)⟩
theorem W8(hb:aP.bad o=false)(hk:o.kind=3)(hx:M.S[k]?=some x)(hid:x.id=o.aA)(hc:x.cl=false):lM M o { M with S:=M.S.set k { x with cl:=true } } ⟨0,0,[]⟩:=⟨fun m hm=>by
 obtain⟨h1,h2,h3⟩:=hm.here hx;rw[jr hb O0 O0,<- hid,h1];dsimp only;rw[if_neg O0,if_neg O0,if_pos hk,hc,if_neg Vt]
 exact⟨rfl,hm.set hx (y:={ x with cl:=true }) rfl h2 h3⟩,fun n h=>h.set (by have:=h.rs x (Ue hx);show x.L.length<=_;omega)⟩
theorem KC(hb:aP.bad o=false)(hk:o.kind=4)(hx:M.S[k]?=some x)(hid:x.id=o.aA):lM M o { M with S:=M.S.take k++M.S.drop (k+1) } ⟨0,0,[]⟩:=⟨fun m hm=>by
 obtain⟨h1,h2,h3⟩:=hm.here hx;rw[jr hb O0 O0,<- hid,h1];dsimp only;rw[if_neg O0,if_neg O0,if_neg O0,if_pos hk];have Qn:M.S.take k++M.S.drop (k+1)=M.S.eraseIdx k:=(List.eraseIdx_eq_take_drop_succ M.S k).symm
 have hin:∀z,z∈M.S.eraseIdx k->∃j,j≠k∧M.S[j]?=some z:=fun z hz=>by
  obtain⟨j,W9,hj2⟩:=List.mem_eraseIdx_iff_getElem?.1 hz;exact⟨j,W9,hj2⟩
 refine⟨rfl,?_,fun z hz=>?_,fun id Qo=>?_,hm.its,hm.next⟩
 ·show(M.S.take k++M.S.drop (k+1)).Pairwise _;rw[Qn];exact hm.HE.sublist (Zh _ _)
 ·obtain⟨j,hj,hz⟩:=hin z (Qn▸hz);refine⟨?_,(hm.yes z (Ue hz)).2⟩;show qZ _ _ _ z.id=_;unfold qZ;rw[if_neg (fun e=>hj (lk hm.HE hx hz e))];exact(hm.yes z (Ue hz)).1
 ·show qZ _ _ _ id=_;unfold qZ;split
  ·rfl
  ·rename_i hne
   refine hm.no id fun z hz=>?_;obtain⟨j,hj⟩:=We.1 hz;by_cases CQ:j=k
   ·subst CQ;rw[hx] at hj;rw[<- Uk hj];exact fun e=>hne e.symm
   ·exact Qo z (by show z∈M.S.take k++M.S.drop (k+1);rw[Qn];exact List.mem_eraseIdx_iff_getElem?.2 ⟨j,CQ,hj⟩),fun n h=>⟨by have:=h.s;show(M.S.take k++M.S.drop (k+1)).length<=_;rw[Ua,Ul,Um];omega,by have:=h.i;show M.I.length<=_;omega,fun x hx=>by
  have hx':x∈M.S:=by
   rcases Vc.1 hx with hx|hx
   ·exact Vl hx
   ·exact Wv hx
  have:=h.rs x hx';omega,fun p hp=>by have:=h.ri p hp;omega,h.n0,by have:=h.n1;show M.next<=_;omega⟩⟩
theorem Bd.ins(h:Bd M n):Bd { M with S:=M.S.take i++⟨o.aA,false,true,o.T,[⟨o.T,(o.V:Int)⟩]⟩::M.S.drop i } (n+1):=
 ⟨by have:=h.s;show(M.S.take i++_::M.S.drop i).length<=_;rw[Ua,Uj,Ul,Um];omega,by have:=h.i;show M.I.length<=_;omega,fun x hx=>by
  rcases Vc.1 hx with hx|hx
  ·have:=h.rs x (Vl hx);omega
  ·rcases Up.1 hx with rfl|hx
   ·show 1<=_;omega
   ·have:=h.rs x (Wv hx);omega,fun p hp=>by have:=h.ri p hp;omega,h.n0,by have:=h.n1;show M.next<=_;omega⟩
theorem KD(hb:aP.bad o=false)(hk:o.kind=1)(ha:∀z∈M.S.take i,z.id<o.aA)(hz:∀z∈M.S.drop i,o.aA<z.id):lM M o { M with S:=M.S.take i++⟨o.aA,false,true,o.T,[⟨o.T,(o.V:Int)⟩]⟩::M.S.drop i } ⟨0,0,[]⟩:=⟨fun m hm=>by
 have hmem:∀z,z∈M.S↔z∈M.S.take i∨z∈M.S.drop i:=fun z=>by rw[<- Vc,Xs]
 have hno:∀z∈M.S,z.id≠o.aA:=fun z h=>by
  rcases(hmem z).1 h with h|h
  ·have:=ha z h;omega
  ·have:=hz z h;omega
 rw[jr hb O0 O0,hm.no _ hno];dsimp only;rw[if_pos hk];have HF:=hm.HE;rw[<- Xs i M.S,Kj] at HF;refine⟨rfl,?_,fun z Fv=>?_,fun id hid=>?_,hm.its,hm.next⟩
 ·refine Kj.2 ⟨HF.1,List.pairwise_cons.2 ⟨hz,HF.2.1⟩,fun x hx y hy=>?_⟩;rcases Up.1 hy with rfl|hy
  ·exact ha x hx
  ·exact HF.2.2 x hx y hy
 ·have h0:z∈M.S∨z=⟨o.aA,false,true,o.T,[⟨o.T,(o.V:Int)⟩]⟩:=by
   rcases Vc.1 Fv with h|h
   ·exact .inl ((hmem z).2 (.inl h))
   ·rcases Up.1 h with h|h
    ·exact .inr h
    ·exact .inl ((hmem z).2 (.inr h))
  show qZ _ _ _ z.id=_∧_;unfold qZ;rcases h0 with h|rfl
  ·rw[if_neg (hno z h)];exact hm.yes z h
  ·exact⟨if_pos rfl,rfl,rfl⟩
 ·show qZ _ _ _ id=_;unfold qZ;rw[if_neg (fun e=>hid ⟨o.aA,false,true,o.T,[⟨o.T,(o.V:Int)⟩]⟩ (Vc.2 (.inr (Ud ..))) e.symm)];refine hm.no id fun z h=>hid z ?_;rcases(hmem z).1 h with h|h
  ·exact Vc.2 (.inl h)
  ·exact Vc.2 (.inr (Uh _ h)),fun n h=>h.ins⟩
theorem KE(hb:aP.bad o=false)(hk:o.kind=1)(ha:∀z∈M.S.take i,z.id<o.aA)(hz:∀z,M.S[i]?=some z->o.aA<z.id):lM M o { M with S:=M.S.take i++⟨o.aA,false,true,o.T,[⟨o.T,(o.V:Int)⟩]⟩::M.S.drop i } ⟨0,0,[]⟩:=by
 refine⟨fun m hm=>(KD hb hk ha fun z hd=>?_).rep m hm,fun n h=>h.ins⟩;obtain⟨j,hj⟩:=We.1 hd;rw[List.getElem?_drop] at hj;obtain⟨h1,e1⟩:=Uc.1 hj;have h2:i<M.S.length:=by omega
 have h3:=hz _ (Ub h2);rcases Wb j with h0|h0
 ·subst h0;exact hz z hj
 ·have:=List.pairwise_iff_getElem.1 hm.HE i (i+j) h2 h1 O0;rw[e1] at this;omega
theorem R5(hk:o.kind=6∨o.kind=7):aP.bad o=false:=by
 unfold aP.bad;rw[if_neg O0];rcases hk with hk|hk <;> rw[hk] <;> rfl
theorem XA{L:List bZ}(hk:o.kind=6)(ha:AtR (keys M.I) o.iter (some k))(hx:M.I[k]?=some (o.iter,L)):lM M o { M with I:=M.I.set k (o.iter,L.drop (min (max o.N 0) 1000).toNat) } ⟨0,0,L.take (min (max o.N 0) 1000).toNat⟩:=⟨fun m hm=>by
 obtain⟨h1,h2,_⟩:=n8 ha hx;unfold qI.act;rw[R5 (.inl hk),if_neg Vt,if_pos hk,hm.its,h1]
 exact⟨rfl,hm.HE,hm.yes,hm.no,h2 _,hm.next⟩,fun n h=>⟨by have:=h.s;show M.S.length<=_;omega,by have:=h.i;show(M.I.set k _).length<=_;rw[Vd];omega,fun x hx=>by have:=h.rs x hx;omega,fun p hp=>by
  rcases Xb hp with hp|rfl
  ·have:=h.ri p hp;omega
  ·have:=h.ri _ (Ue hx);show(L.drop _).length<=_;rw[Um];dsimp only at this
   omega,h.n0,by have:=h.n1;show M.next<=_;omega⟩⟩
theorem XB{L:List bZ}(hk:o.kind=7)(ha:AtR (keys M.I) o.iter (some k))(hx:M.I[k]?=some (o.iter,L)):lM M o { M with I:=M.I.take k++M.I.drop (k+1) } ⟨0,0,[]⟩:=⟨fun m hm=>by
 obtain⟨h1,_,h3⟩:=n8 ha hx;unfold qI.act;rw[R5 (.inr hk),if_neg Vt,if_neg O0,if_pos hk,hm.its,h1]
 exact⟨rfl,hm.HE,hm.yes,hm.no,h3,hm.next⟩,fun n h=>⟨by have:=h.s;show M.S.length<=_;omega,by have:=h.i;show(M.I.take k++M.I.drop (k+1)).length<=_;rw[Ua,Ul,Um];omega,fun x hx=>by have:=h.rs x hx;omega,fun p hp=>by
  have hp':p∈M.I:=by
   rcases Vc.1 hp with hp|hp
   ·exact Vl hp
   ·exact Wv hp
  have:=h.ri p hp';omega,h.n0,by have:=h.n1;show M.next<=_;omega⟩⟩
theorem XC(f b:Int):GF (abs (cG.new f b) (fun _=>⟨0,[]⟩)) ⟨[],[],0⟩:=by
 refine⟨List.Pairwise.nil,fun x hx=>(by cases hx),fun id _=>?_,rfl,rfl⟩
 show dJ (List.replicate 16 ⟨aG.zero,false,0⟩) _ id=none;unfold dJ;cases h:dM.at_ (List.replicate 16 ⟨aG.zero,false,0⟩) id with
 |none=>rfl
 |some p=>
  unfold dM.at_ at h
  split at h
  ·rw[(Zw.1 (Ue h)).2];rfl
  ·cases h
end
section
theorem AM{P:Program}{φ:Value->World->Prop}{e:Env}{w:World}{a b:Tmp}{t t2:TypeId}{z z2:List Value}{bytes KF:Nat}[hi:cM P t z true bytes][hi2:cM P t2 z2 true KF]{p o p2 o2:Nat}{l l2:List Value}
  (hx:e a=.pointer (some ⟨p,o,none⟩)) (hz:Nat.beq z.length l.length=true) (hl:At w p o l) (BA:e b=.pointer (some ⟨p2,o2,none⟩)) (Eo:Nat.beq z2.length l2.length=true) (AX:At w p2 o2 l2) (h:φ (.tuple [.agg l.toArray,.agg l2.toArray].toArray) w):
  bq P [.cell a t,.cell b t2] φ .ret e w:=
 ⟨_,j8 hx (Vg hz) hl,_,j8 BA (Vg Eo) AX,h⟩
theorem kz{α:Type}{f:α->List Value}{sz:Nat}(hf:∀x,(f x).length=sz):∀(L:List α) (i:Nat),(L.flatMap f).take (i*sz)=(L.take i).flatMap f
 |[],i=>by simp
 |x::L,0=>by simp
 |x::L,i+1=>by
  have e:(i+1)*sz=(f x).length+i*sz:=by rw[hf,Vj];omega
  rw[Ui,Vu,Ui,e,List.take_length_add_append,kz hf L i]
theorem kh{α:Type}{f:α->List Value}{sz:Nat}(hf:∀x,(f x).length=sz):∀(L:List α) (i:Nat),(L.flatMap f).drop (i*sz)=(L.drop i).flatMap f
 |[],i=>by simp
 |x::L,0=>by simp
 |x::L,i+1=>by
  have e:(i+1)*sz=(f x).length+i*sz:=by rw[hf,Vj];omega
  rw[Ui,Wg,e,List.drop_length_add_append,kh hf L i]
abbrev SQ:=Sr×Option Addr×Nat
def uZ(x:SQ):List Value:=[.iz x.1.id,.bool x.1.cl,.bool x.1.any,.iz x.1.last,.slice x.2.1 x.1.L.length x.2.2]
theorem gz(x:SQ):(uZ x).length=5:=rfl
abbrev gZ(E:List SQ):List Value:=E.flatMap uZ
theorem zw(E:List SQ):∀u∈gZ E,u.oneCell'=true:=by
 intro u hu;obtain⟨x,_,hx⟩:=Xk.1 hu;unfold uZ at hx;simp only[Up,Zb,or_false] at hx;rcases hx with rfl|rfl|rfl|rfl|rfl <;> rfl
abbrev IQ:=(Int×List bZ)×Option Addr×Nat
def Nd(x:IQ):List Value:=[.iz x.1.1,.slice x.2.1 x.1.2.length x.2.2]
theorem kl(x:IQ):(Nd x).length=2:=rfl
abbrev lS(F:List IQ):List Value:=F.flatMap Nd
theorem wb(F:List IQ):∀u∈lS F,u.oneCell'=true:=by
 intro u hu;obtain⟨x,_,hx⟩:=Xk.1 hu;unfold Nd at hx;simp only[Up,Zb,or_false] at hx;rcases hx with rfl|rfl <;> rfl
abbrev aV(a:Option Addr)(c:Nat)(E:List SQ):aC:=eW 119 5 a E.length c (gZ E)
abbrev bI(a:Option Addr)(c:Nat)(F:List IQ):aC:=eW 124 2 a F.length c (lS F)
def EB(E:List SQ)(F:List IQ)(sa:Option Addr)(sc:Nat)(ia:Option Addr)(ic:Nat)(nx:Int):List Value:=[.slice sa E.length sc,.slice ia F.length ic,.iz nx]
def kI:Option Nat->Int
 |none=>-1
 |some i=>(i:Int)
def newS(id:Int):SQ:=(⟨id,false,false,0,[]⟩,none,0)
section
variable{w0 w:World}{l:List aC}{E:List SQ}{F:List IQ}{sa ia:Option Addr}{sc ic:Nat}{nx:Int}
def gG(w0:World)(l:List aC)(a:Option Addr)(c:Nat)(L:List bZ):Prop:=Reads w0 l 2 a L.length (aW L)∧L.length<=c
theorem ke(P Q:aC)(l:List aC):all (all [P,Q]::l)=all (P::Q::l):=(vq [P,Q] l).symm
theorem gG.grow{a:Option Addr}{c:Nat}{L:List bZ}{P g:aC}(h:gG w0 (g::l) a c L):gG w0 (all [P,g]::l) a c L:=⟨h.1.cons.swap (ke P g l),h.2⟩
theorem gG.new{a:Option Addr}{c:Nat}{L:List bZ}{g:aC}{m:List aC}(h:St w0 (aB a c L::m) w):gG w0 (all [aB a c L,g]::l) a c L:=⟨(Reads.own (l:=g::l)).swap (ke _ g l),h.bT.2.1⟩
theorem St.two{P Q:aC}(h:St w0 (P::Q::l) w):St w0 (all [P,Q]::l) w:=h.eH (ke P Q l).symm
theorem kW{a:Option Addr}{c:Nat}{L:List bZ}(hn:L.length<=1000000)(hr:Reads w0 l 2 a L.length (aW L))(h:St w0 l w):bP prog 52 [.slice a L.length c] w fun v w'=>∃a' c',v=.slice a' L.length c'∧St w0 (aB a' c' L::l) w':=by
 refine en func52 results52 ntmps52 ?_;refine xV ?_;refine Yl ?_;refine aF rfl (jq (r:=[]) h rfl rfl rfl fun b w h=>?_);refine Yp ?_;have h1:St w0 (aB (sQ b) 0 []::l) w:=St.iH (cur:=[]) h rfl rfl (Ug _);refine aF rfl (ql (ys:=aW L) (zs:=aW L) (m3:=L.length) h1 rfl rfl (hr.cons.at_ h1) (jm _) O7 rfl O0 O0 rfl fun a' c' w _ h=>?_)
 refine Yo ?_;exact qv (qk (bQ ⟨a',c',rfl,h⟩))
theorem sS{sl:Option Addr}{c:Nat}{L:List bZ}(fr to:Int)(hn:L.length<=1000000)(hr:Reads w0 l 2 sl L.length (aW L))(h:St w0 l w):
  bP prog 53 [.slice sl L.length c,.iz fr,.iz to] w fun v w'=>∃a c',v=.slice a (within L fr to).length c'∧St w0 (aB a c' (within L fr to)::l) w':=by
 refine en func53 results53 ntmps53 ?_;refine Bl ?_;refine Bl ?_;refine qf (Γ:=Option Addr×Nat) (fun y=>[(7,.slice y.1 (within L fr to).length y.2)]) (fun y w=>St w0 (aB y.1 y.2 (within L fr to)::l) w) ?_ ?_
 ·refine GR ?_
  refine jy (Γ:=Nat×Option Addr×Nat) (fun x=>[(0,.slice sl L.length c),(1,.iz fr),(2,.iz to),(7,.slice x.2.1 (within (L.take x.1) fr to).length x.2.2),(8,.iz (x.1:Int))])
   (fun x w=>x.1<=L.length∧St w0 (aB x.2.1 x.2.2 (within (L.take x.1) fr to)::l) w) (fun x=>L.length-x.1) (0,none,0) pS ⟨Uf _,St.aZ 57 2 h⟩ ?_
  clear h;rintro⟨i,a,ac⟩ w e ⟨hi,h⟩;dsimp only at hi h ⊢;refine vT ?_;refine sV ?_;refine yW ?_;by_cases hlt:i<L.length;rotate_left
  ·refine qz (.bool false) O4 ?_;refine qv (qt rfl (ju ?_));obtain rfl:i=L.length:=by omega
   rw[Xa] at h;refine Eq.mpr (if_pos rfl) ⟨(a,ac),⟨?_,trivial⟩,h⟩;show Value.slice a (within (L.take L.length) fr to).length ac=_;rw[Xa]
  refine qz (.bool true) O3 ?_;refine E7 ?_;obtain⟨s,hs⟩:∃s,L[i]?=some s:=⟨L[i],Ub hlt⟩;have lC:=h;obtain⟨b2,o2,rfl⟩:=((hr.more [_]).at_ h).some O0
  have h:=lC;have hw:=wv hs fr to;have Hl:(within (L.take i) fr to).length<=i:=by unfold within;exact Uw (Wl _ _) (by rw[Ul];omega)
  refine qf (Γ:=Option Addr×Nat) (fun y=>[(0,.slice (some ⟨b2,o2,none⟩) L.length c),(1,.iz fr),(2,.iz to),(7,.slice y.1 (within (L.take (i+1)) fr to).length y.2),(8,.iz (i:Int))])
   (fun y w=>St w0 (aB y.1 y.2 (within (L.take (i+1)) fr to)::l) w) (yt ?_) ?_
  rotate_left
  ·clear h lC;rintro⟨a,ac⟩ w e h;refine Bk ?_;refine qz (.iz ((i+1:Nat):Int)) C8 ?_;refine Y4 ?_;exact qv ⟨(i+1,a,ac),pS,⟨hlt,h⟩,gH⟩
  refine EJ ?_;refine aD (jj (j:=i) (o':=o2+i*2) rfl rfl rfl hlt rfl) rfl ?_;refine Yc ?_;refine aD (qr (v:=.iz s.T) rfl (by have:=((hr.more [_]).at_ h).elem jt hs 0 _ rfl;simpa using this)) rfl ?_
  refine Y0 ?_;refine tX ?_;by_cases h1:fr<=s.T;rotate_left
  ·refine qz (.bool false) (by congr 1;exact decide_eq_false h1) ?_
   rw[if_neg (fun hh=>h1 hh.1),Ux] at hw;refine Gm ?_;refine EE ?_;refine Y9 ?_;exact qv (qt rfl (qa ⟨(a,ac),⟨rfl,rfl,rfl,by dsimp only;rw[hw];rfl,rfl,trivial⟩,by dsimp only;rw[hw];exact h⟩))
  refine qz (.bool true) (by congr 1;exact decide_eq_true h1) ?_
  refine I0 ?_;refine Oq ?_;refine aD (jj (j:=i) (o':=o2+i*2) rfl rfl rfl hlt rfl) rfl ?_;refine Dk ?_;refine aD (qr (v:=.iz s.T) rfl (by have:=((hr.more [_]).at_ h).elem jt hs 0 _ rfl;simpa using this)) rfl ?_
  refine xW ?_;refine EF ?_;by_cases h2:s.T<=to;rotate_left
  ·refine qz (.bool false) (by congr 1;exact decide_eq_false h2) ?_
   rw[if_neg (fun hh=>h2 hh.2),Ux] at hw;refine Ye ?_;exact qv (qt rfl (qa ⟨(a,ac),⟨rfl,rfl,rfl,by dsimp only;rw[hw];rfl,rfl,trivial⟩,by dsimp only;rw[hw];exact h⟩))
  refine qz (.bool true) (by congr 1;exact decide_eq_true h2) ?_
  rw[if_pos ⟨h1,h2⟩] at hw;refine Ye ?_;refine Yh ?_;refine IZ ?_;refine HO ?_;refine aD (jj (j:=i) (o':=o2+i*2) rfl rfl rfl hlt rfl) rfl ?_;refine aD (qx (l:=s.cells) rfl rfl (((hr.more [_]).at_ h).elem jt hs)) rfl ?_
  refine aF rfl (jq (r:=aW [s]) h rfl rfl rfl fun b5 w h=>?_);refine aF rfl (ql (ys:=aW [s]) (zs:=aW (within (L.take (i+1)) fr to)) (m3:=(within (L.take (i+1)) fr to).length) (h.f 1) rfl rfl ⟨rfl,.inr ⟨b5,0,rfl,qw (h.b 0 rfl) rfl⟩⟩ (jm _) (by rw[hw];simp) (by rw[hw];simp[aW]) (by rw[hw];simp;omega) (by rw[hw];simp;omega) rfl fun a2 c2 w _ h=>?_)
  refine Yo ?_;exact qv ⟨(a2,c2),pS,h.x [1]⟩
 clear h;rintro⟨a,ac⟩ w e h;refine Yd ?_;refine Yo ?_;exact qv (qk (bQ ⟨a,ac,rfl,h⟩))
theorem Gd(id:Int)(hE:E.length<=1000)(h:St w0 (aV sa sc E::l) w):
  bP prog 49 [.agg (EB E F sa sc ia ic nx).toArray,.iz id] w fun v w'=>∃k,AtR (E.map fun x=>x.1.id) id k∧v=.iz (kI k)∧St w0 (aV sa sc E::l) w':=by
 refine en func49 results49 ntmps49 ?_;refine Y1 ?_;refine aF rfl (jk h (show _=Value.agg (EB E F sa sc ia ic nx).toArray from rfl) fun b2 w h=>?_);refine Y4 ?_;replace h:St w0 (pt b2 (.cells [.slice sa E.length sc,.slice ia F.length ic,.iz nx].toArray 68 (0,0))::aV sa sc E::l) w:=h;refine Y2 ?_;refine qf (Γ:=Unit) (fun _=>[]) (fun _ w=>(∀x∈E,x.1.id≠id)∧St w0 (aV sa sc E::l) w) ?_ ?_
 ·refine GR ?_
  refine jy (Γ:=Nat) (fun i=>[(1,.iz id),(2,.pz b2),(5,.iz (i:Int))])
   (fun i w=>i<=E.length∧(∀j x,j<i->E[j]?=some x->x.1.id≠id)∧St w0 (pt b2 (.cells [.slice sa E.length sc,.slice ia F.length ic,.iz nx].toArray 68 (0,0))::aV sa sc E::l) w) (fun i=>E.length-i) 0 kK ⟨Uf _,fun j x hj=>absurd hj (Nat.not_lt_zero _),h⟩ ?_
  clear h;rintro i w e ⟨hi,hno,h⟩;refine vT ?_;refine Yc ?_;refine aD (qq (v:=.slice sa E.length sc) rfl (h.b 0 rfl) rfl) rfl ?_;refine rJ ?_;refine yW ?_;by_cases hlt:i<E.length;rotate_left
  ·refine qz (.bool false) O4 ?_;refine qv (qt rfl (ju ?_));refine Eq.mpr (if_pos rfl) ⟨(),trivial,fun x hx=>?_,h.drop⟩;obtain⟨j,hj⟩:=We.1 hx;exact hno j x (by have:=(Uc.1 hj).1;omega) hj
  refine qz (.bool true) O3 ?_;refine E7 ?_;obtain⟨x,hx⟩:∃x,E[i]?=some x:=⟨E[i],Ub hlt⟩;obtain⟨b0,rfl⟩:=(h.f 1).dF O0;refine Ch ?_;refine qK ?_;refine aD (qq (v:=.slice (sQ b0) E.length sc) rfl (h.b 0 rfl) rfl) rfl ?_;refine Y0 ?_;refine aD (jj (j:=i) (o':=i*5) rfl rfl rfl hlt O7) rfl ?_;refine Yc ?_;refine aD (qr (v:=.iz x.1.id) rfl (by have:=(h.f 1).bU.elem gz hx 0 _ rfl;simpa using this)) rfl ?_
  refine Y0 ?_;refine Yi ?_;by_cases hid:x.1.id=id
  ·refine qz (.bool true) (by congr 1;rw[beq_iff_eq];exact hid) ?_
   refine Yh ?_;refine GX ?_;refine qv (qk (bQ ⟨some i,⟨?_,fun j y hj hy=>?_⟩,rfl,h.drop⟩))
   ·rw[Vb,hx,<- hid];rfl
   ·rw[Vb] at hy;cases hj':E[j]? with
    |none=>rw[hj'] at hy;cases hy
    |some z=>
     rw[hj'] at hy;rw[<- Uk hy];exact hno j z hj hj'
  refine qz (.bool false) (by congr 1;rw[beq_eq_false_iff_ne];exact hid) ?_
  refine Y8 ?_;refine Bk ?_;refine qz (.iz ((i+1:Nat):Int)) C8 ?_;refine Y4 ?_;refine qv ⟨i+1,kK,⟨hlt,fun j y hj hy=>?_,h⟩,cI⟩;by_cases hji:j=i
  ·subst hji;rw[hx] at hy;rw[<- Uk hy];exact hid
  ·exact hno j y O0 hy
 clear h;rintro _ w e ⟨hno,h⟩;refine rC ?_;refine qv (qk (bQ ⟨none,fun y hy=>?_,rfl,h⟩));obtain⟨x,hx,rfl⟩:=Va.1 hy;exact hno x hx
theorem C4(id:Int)(hF:F.length<=1000)(h:St w0 (bI ia ic F::l) w):
  bP prog 50 [.agg (EB E F sa sc ia ic nx).toArray,.iz id] w fun v w'=>∃k,AtR (keys (F.map (·.1))) id k∧v=.iz (kI k)∧St w0 (bI ia ic F::l) w':=by
 refine en func50 results50 ntmps50 ?_;refine Y1 ?_;refine aF rfl (jk h (show _=Value.agg (EB E F sa sc ia ic nx).toArray from rfl) fun b2 w h=>?_);refine Y4 ?_;replace h:St w0 (pt b2 (.cells [.slice sa E.length sc,.slice ia F.length ic,.iz nx].toArray 68 (0,0))::bI ia ic F::l) w:=h;refine Y2 ?_;refine qf (Γ:=Unit) (fun _=>[]) (fun _ w=>(∀x∈F,x.1.1≠id)∧St w0 (bI ia ic F::l) w) ?_ ?_
 ·refine GR ?_
  refine jy (Γ:=Nat) (fun i=>[(1,.iz id),(2,.pz b2),(5,.iz (i:Int))])
   (fun i w=>i<=F.length∧(∀j x,j<i->F[j]?=some x->x.1.1≠id)∧St w0 (pt b2 (.cells [.slice sa E.length sc,.slice ia F.length ic,.iz nx].toArray 68 (0,0))::bI ia ic F::l) w) (fun i=>F.length-i) 0 kK ⟨Uf _,fun j x hj=>absurd hj (Nat.not_lt_zero _),h⟩ ?_
  clear h;rintro i w e ⟨hi,hno,h⟩;refine vT ?_;refine Yc ?_;refine aD (qq (v:=.slice ia F.length ic) rfl (h.b 0 rfl) rfl) rfl ?_;refine rJ ?_;refine yW ?_;by_cases hlt:i<F.length;rotate_left
  ·refine qz (.bool false) O4 ?_;refine qv (qt rfl (ju ?_));refine Eq.mpr (if_pos rfl) ⟨(),trivial,fun x hx=>?_,h.drop⟩;obtain⟨j,hj⟩:=We.1 hx;exact hno j x (by have:=(Uc.1 hj).1;omega) hj
  refine qz (.bool true) O3 ?_;refine E7 ?_;obtain⟨x,hx⟩:∃x,F[i]?=some x:=⟨F[i],Ub hlt⟩;obtain⟨b0,rfl⟩:=(h.f 1).dF O0;refine Ch ?_;refine qK ?_;refine aD (qq (v:=.slice (sQ b0) F.length ic) rfl (h.b 0 rfl) rfl) rfl ?_;refine Y0 ?_;refine aD (jj (j:=i) (o':=i*2) rfl rfl rfl hlt O7) rfl ?_;refine Yc ?_;refine aD (qr (v:=.iz x.1.1) rfl (by have:=(h.f 1).bU.elem kl hx 0 _ rfl;simpa using this)) rfl ?_
  refine Y0 ?_;refine Yi ?_;by_cases hid:x.1.1=id
  ·refine qz (.bool true) (by congr 1;rw[beq_iff_eq];exact hid) ?_
   refine Yh ?_;refine GX ?_;refine qv (qk (bQ ⟨some i,⟨?_,fun j y hj hy=>?_⟩,rfl,h.drop⟩))
   ·unfold keys;rw[Vb,Vb,hx,<- hid];rfl
   ·unfold keys at hy;rw[Vb,Vb] at hy;cases hj':F[j]? with
    |none=>rw[hj'] at hy;cases hy
    |some z=>
     rw[hj'] at hy;rw[<- Uk hy];exact hno j z hj hj'
  refine qz (.bool false) (by congr 1;rw[beq_eq_false_iff_ne];exact hid) ?_
  refine Y8 ?_;refine Bk ?_;refine qz (.iz ((i+1:Nat):Int)) C8 ?_;refine Y4 ?_;refine qv ⟨i+1,kK,⟨hlt,fun j y hj hy=>?_,h⟩,cI⟩;by_cases hji:j=i
  ·subst hji;rw[hx] at hy;rw[<- Uk hy];exact hid
  ·exact hno j y O0 hy
 clear h;rintro _ w e ⟨hno,h⟩;refine rC ?_;refine qv (qk (bQ ⟨none,fun y hy=>?_,rfl,h⟩));unfold keys at hy;obtain⟨x,hx,rfl⟩:=Va.1 hy;obtain⟨z,hz,rfl⟩:=Va.1 hx;exact hno z hz
end
end
section
section
variable{w0 w:World}{l:List aC}{E:List SQ}{F:List IQ}{sa ia:Option Addr}{sc ic:Nat}{nx:Int}
abbrev aN(b:Nat)(cs:List Value):aC:=pt b (.cells cs.toArray 68 (0,0))
def bD(a:Option Addr)(n c:Nat)(a2:Option Addr)(n2 c2:Nat)(nx:Int):List Value:=[.slice a n c,.slice a2 n2 c2,.iz nx]
theorem fo{α β:Type}{f:α->β}{E E':List α}{i:Nat}{x y:α}(h:E'.map f=(E.take i).map f)(hx:E[i]?=some x)(hy:f y=f x):(E'++[y]).map f=(E.take (i+1)).map f:=by
 rw[Vo,h,Vk,hx,Vo];show _++[f y]=_++[f x];rw[hy]
theorem AN{M:List aC}(hE:E.length<=1000)(hF:F.length<=1000)(hs:Reads w0 l 5 sa E.length (gZ E))(hi:Reads w0 l 2 ia F.length (lS F))(lT:∀x∈E,Reads w0 l 2 x.2.1 x.1.L.length (aW x.1.L)∧x.1.L.length<=1000)
  (sU:∀x∈F,Reads w0 l 2 x.2.1 x.1.2.length (aW x.1.2)∧x.1.2.length<=1000) (h:St w0 (M++l) w):
  bP prog 48 [.agg (EB E F sa sc ia ic nx).toArray] w fun v w'=>∃(E':List SQ) (F':List IQ) (sa':Option Addr) (Ge:Nat) (sX:Option Addr) (sY:Nat) (g:aC),v=.agg (EB E' F' sa' Ge sX sY nx).toArray∧
   E'.map (·.1)=E.map (·.1)∧F'.map (·.1)=F.map (·.1)∧(∀x∈E',gG w0 (g::l) x.2.1 x.2.2 x.1.L)∧(∀x∈F',gG w0 (g::l) x.2.1 x.2.2 x.1.2)∧St w0 (aV sa' Ge E'::bI sX sY F'::g::(M++l)) w':=by
 refine en func48 results48 ntmps48 ?_;refine Y1 ?_;refine aF rfl (jk h (show _=Value.agg (EB E F sa sc ia ic nx).toArray from rfl) fun b1 w h=>?_);refine aF rfl (qn h fun b2 w h=>?_);replace h:St w0 (aN b2 (bD none 0 0 none 0 0 0)::aN b1 (bD sa E.length sc ia F.length ic nx)::(M++l)) w:=h;refine Cv ?_;refine aD (qq (v:=.iz nx) rfl (h.b 1 rfl) rfl) rfl ?_;refine aD (qc (r:=bD none 0 0 none 0 0 nx) rfl) rfl ?_;refine aF rfl (qn h fun b3 w h=>?_);refine aF rfl (qy (vs:=bD none 0 0 none 0 0 nx) 0 h rfl rfl rfl rfl rfl rfl rfl fun w h=>?_);replace h:St w0 (aV none 0 []::aN b3 (bD none 0 0 none 0 0 nx)::aN b2 (bD none 0 0 none 0 0 0)::aN b1 (bD sa E.length sc ia F.length ic nx)::all []::(M++l)) w:=St.aZ 119 5 (((St.fold (l:=aN b3 (bD none 0 0 none 0 0 nx)::aN b2 (bD none 0 0 none 0 0 0)::aN b1 (bD sa E.length sc ia F.length ic nx)::(M++l)) [] h)).o [1,2,3,0]);refine Y2 ?_
 refine qf (Γ:=List SQ×Option Addr×Nat×aC) (fun _=>[(1,.pz b1),(2,.pz b2),(3,.pz b3)])
  (fun y w=>y.1.map (·.1)=E.map (·.1)∧(∀x∈y.1,gG w0 (y.2.2.2::l) x.2.1 x.2.2 x.1.L)∧St w0 (aV y.2.1 y.2.2.1 y.1::aN b3 (bD y.2.1 y.1.length y.2.2.1 none 0 0 nx)::aN b2 (bD none 0 0 none 0 0 0)::aN b1 (bD sa E.length sc ia F.length ic nx)::y.2.2.2::(M++l)) w) ?_ ?_
 ·refine GR ?_
  refine jy (Γ:=Nat×List SQ×Option Addr×Nat×aC) (fun y=>[(1,.pz b1),(2,.pz b2),(3,.pz b3),(4,.iz (y.1:Int))])
   (fun y w=>y.1<=E.length∧y.2.1.map (·.1)=(E.take y.1).map (·.1)∧(∀x∈y.2.1,gG w0 (y.2.2.2.2::l) x.2.1 x.2.2 x.1.L)∧St w0 (aV y.2.2.1 y.2.2.2.1 y.2.1::aN b3 (bD y.2.2.1 y.2.1.length y.2.2.2.1 none 0 0 nx)::aN b2 (bD none 0 0 none 0 0 0)::aN b1 (bD sa E.length sc ia F.length ic nx)::y.2.2.2.2::(M++l)) w)
   (fun y=>E.length-y.1) (0,[],none,0,all []) iA ⟨Uf _,rfl,fun x hx=>(by cases hx),h⟩ ?_
  clear h;rintro⟨i,E',a,ac,g⟩ w e ⟨hil,hmap,hrows,h⟩;dsimp only at hil hmap hrows h ⊢;refine vT ?_;refine Yc ?_;refine aD (qq (v:=.slice sa E.length sc) rfl (h.b 3 rfl) rfl) rfl ?_;refine rJ ?_;refine yW ?_;by_cases hlt:i<E.length;rotate_left
  ·refine qz (.bool false) O4 ?_;refine qv (qt rfl (ju ?_));obtain rfl:i=E.length:=by omega
   rw[Xa] at hmap;exact Eq.mpr (if_pos rfl) ⟨(E',a,ac,g),kK,hmap,hrows,h⟩
  refine qz (.bool true) O3 ?_;refine E7 ?_;obtain⟨x,hx⟩:∃x,E[i]?=some x:=⟨E[i],Ub hlt⟩;obtain⟨iX,yF⟩:=lT x (Ue hx)
  have hlen:E'.length=i:=by
   have:=congrArg List.length hmap;rw[Vf,Vf,Ul] at this;omega
  obtain⟨b0,o0,hsa⟩:=(((hs.more M).more [_,_,_,_,_]).at_ h).some O0
  refine Ch ?_;refine qK ?_;refine aD (qq (v:=.slice sa E.length sc) rfl (h.b 3 rfl) rfl) rfl ?_;refine Y0 ?_;refine aD (jj (j:=i) (o':=o0+i*5) (congrArg (fun z=>Value.slice z E.length sc) hsa) rfl rfl hlt rfl) rfl ?_;refine aD (qx (l:=uZ x) rfl rfl ((hsa▸((hs.more M).more [_,_,_,_,_]).at_ h).elem gz hx)) rfl ?_
  refine aF rfl (qn h fun b5 w h=>?_);refine aF rfl (qy (vs:=uZ x) 0 h rfl rfl rfl rfl rfl rfl rfl fun w h=>?_);replace h:St w0 (pt b5 (.cells (uZ x).toArray 119 (0,0))::aV a ac E'::aN b3 (bD a E'.length ac none 0 0 nx)::aN b2 (bD none 0 0 none 0 0 0)::aN b1 (bD sa E.length sc ia F.length ic nx)::g::(M++l)) w:=h;refine Cv ?_;refine aD (qq (v:=.slice x.2.1 x.1.L.length x.2.2) rfl (h.b 0 rfl) rfl) rfl ?_;refine aF rfl (qg rfl (kW O0 ((iX.more M).more [_,_,_,_,_,_]) h) ?_);clear h;rintro _ w ⟨a',c',rfl,h⟩;obtain⟨y,hy⟩:∃y:SQ,(x.1,a',c')=y:=⟨_,rfl⟩;refine Yc ?_;refine aF rfl (qb 1 h rfl (show _=Value.slice a' x.1.L.length c' from rfl) rfl rfl rfl rfl fun w h=>?_);replace h:St w0 (aB a' c' x.1.L::pt b5 (.cells (uZ (x.1,a',c')).toArray 119 (0,0))::aV a ac E'::aN b3 (bD a E'.length ac none 0 0 nx)::aN b2 (bD none 0 0 none 0 0 0)::aN b1 (bD sa E.length sc ia F.length ic nx)::g::(M++l)) w:=h;have HG:gG w0 (all [aB a' c' x.1.L,g]::l) a' c' x.1.L:=gG.new (h.x [1,2,3,4,5,6]);rw[hy] at h;refine Y2 ?_;refine Dj ?_;refine aD (qq (v:=.slice a E'.length ac) rfl (h.b 3 rfl) rfl) rfl ?_;refine aD (qx (l:=uZ y) rfl rfl (qw (h.b 1 rfl) rfl)) rfl ?_;refine aF rfl (jq (r:=gZ [y]) h rfl rfl rfl fun b6 w h=>?_);refine aF rfl (ql (ys:=gZ [y]) (zs:=gZ (E'++[y])) (m3:=(E'++[y]).length) (h.f 3) rfl rfl ⟨rfl,.inr ⟨b6,0,rfl,qw (h.b 0 rfl) rfl⟩⟩ (zw _) O7 (by simp[gZ]) O5 O5 rfl fun a2 c2 w _ h=>?_)
  replace h:St w0 (aV a2 c2 (E'++[y])::aB a' c' x.1.L::aN b3 (bD a E'.length ac none 0 0 nx)::aN b2 (bD none 0 0 none 0 0 0)::aN b1 (bD sa E.length sc ia F.length ic nx)::g::(M++l)) w:=h.x [1,3];refine Yc ?_;refine aF rfl (qb 2 h rfl (show _=Value.slice a2 (E'++[y]).length c2 from rfl) rfl rfl rfl rfl fun w h=>?_);replace h:St w0 (aV a2 c2 (E'++[y])::aB a' c' x.1.L::aN b3 (bD a2 (E'++[y]).length c2 none 0 0 nx)::aN b2 (bD none 0 0 none 0 0 0)::aN b1 (bD sa E.length sc ia F.length ic nx)::g::(M++l)) w:=h;replace h:St w0 (aV a2 c2 (E'++[y])::aN b3 (bD a2 (E'++[y]).length c2 none 0 0 nx)::aN b2 (bD none 0 0 none 0 0 0)::aN b1 (bD sa E.length sc ia F.length ic nx)::all [aB a' c' x.1.L,g]::(M++l)) w:=(St.two (h.o [1,5,0,2,3,4])).o [1,2,3,4,0];refine Y2 ?_;refine Bk ?_;refine qz (.iz ((i+1:Nat):Int)) C8 ?_;refine Y4 ?_;refine qv ⟨(i+1,E'++[y],a2,c2,all [aB a' c' x.1.L,g]),iA,⟨hlt,fo hmap hx (by rw[<- hy]),fun z hz=>?_,h⟩,gH⟩
  rcases Vc.1 hz with hz|hz
  ·exact(hrows z hz).grow
  ·rw[Vi] at hz;rw[hz,<- hy];exact HG
 clear h;rintro⟨E',a,ac,g⟩ w e ⟨hmap,hrows,h⟩;dsimp only at hmap hrows h ⊢;replace h:St w0 (bI none 0 []::aV a ac E'::aN b3 (bD a E'.length ac none 0 0 nx)::aN b2 (bD none 0 0 none 0 0 0)::aN b1 (bD sa E.length sc ia F.length ic nx)::g::(M++l)) w:=St.aZ 124 2 h
 refine qf (Γ:=List IQ×Option Addr×Nat×aC) (fun _=>[(2,.pz b2),(3,.pz b3)])
  (fun y w=>y.1.map (·.1)=F.map (·.1)∧(∀x∈E',gG w0 (y.2.2.2::l) x.2.1 x.2.2 x.1.L)∧(∀x∈y.1,gG w0 (y.2.2.2::l) x.2.1 x.2.2 x.1.2)∧St w0 (bI y.2.1 y.2.2.1 y.1::aV a ac E'::aN b3 (bD a E'.length ac y.2.1 y.1.length y.2.2.1 nx)::aN b2 (bD none 0 0 none 0 0 0)::y.2.2.2::(M++l)) w) ?_ ?_
 ·refine GR ?_
  refine jy (Γ:=Nat×List IQ×Option Addr×Nat×aC) (fun y=>[(1,.pz b1),(2,.pz b2),(3,.pz b3),(6,.iz (y.1:Int))])
   (fun y w=>y.1<=F.length∧y.2.1.map (·.1)=(F.take y.1).map (·.1)∧(∀x∈E',gG w0 (y.2.2.2.2::l) x.2.1 x.2.2 x.1.L)∧(∀x∈y.2.1,gG w0 (y.2.2.2.2::l) x.2.1 x.2.2 x.1.2)∧St w0 (bI y.2.2.1 y.2.2.2.1 y.2.1::aV a ac E'::aN b3 (bD a E'.length ac y.2.2.1 y.2.1.length y.2.2.2.1 nx)::aN b2 (bD none 0 0 none 0 0 0)::aN b1 (bD sa E.length sc ia F.length ic nx)::y.2.2.2.2::(M++l)) w)
   (fun y=>F.length-y.1) (0,[],none,0,g) iA ⟨Uf _,rfl,hrows,fun x hx=>(by cases hx),h⟩ ?_
  clear h hrows;rintro⟨i,F',sX,sY,g⟩ w e ⟨hil,uM,hrows,oC,h⟩;dsimp only at hil uM hrows oC h ⊢;refine vT ?_;refine Yc ?_;refine aD (qq (v:=.slice ia F.length ic) rfl (h.b 4 rfl) rfl) rfl ?_;refine rJ ?_;refine yW ?_;by_cases hlt:i<F.length;rotate_left
  ·refine qz (.bool false) O4 ?_;refine qv (qt rfl (ju ?_));obtain rfl:i=F.length:=by omega
   rw[Xa] at uM;exact Eq.mpr (if_pos rfl) ⟨(F',sX,sY,g),gS,uM,hrows,oC,h.x [4]⟩
  refine qz (.bool true) O3 ?_;refine E7 ?_;obtain⟨x,hx⟩:∃x,F[i]?=some x:=⟨F[i],Ub hlt⟩;obtain⟨iX,yF⟩:=sU x (Ue hx)
  have hlen:F'.length=i:=by
   have:=congrArg List.length uM;rw[Vf,Vf,Ul] at this;omega
  obtain⟨b0,o0,N4⟩:=(((hi.more M).more [_,_,_,_,_,_]).at_ h).some O0
  refine qf (Γ:=Option Addr×Nat×aC×IQ) (fun _=>[(1,.pz b1),(2,.pz b2),(3,.pz b3),(6,.iz (i:Int))])
   (fun y w=>y.2.2.2.1=x.1∧(∀x∈E',gG w0 (y.2.2.1::l) x.2.1 x.2.2 x.1.L)∧(∀x∈F'++[y.2.2.2],gG w0 (y.2.2.1::l) x.2.1 x.2.2 x.1.2)∧St w0 (bI y.1 y.2.1 (F'++[y.2.2.2])::aV a ac E'::aN b3 (bD a E'.length ac y.1 (F'++[y.2.2.2]).length y.2.1 nx)::aN b2 (bD none 0 0 none 0 0 0)::aN b1 (bD sa E.length sc ia F.length ic nx)::y.2.2.1::(M++l)) w) (yt ?_) ?_
  ·refine jb [0,1,2,3,4,5,6,7,8,9,10,11,12,13,14,15,16,17,18,19] (some 19) (fun w=>St w0 (aN b3 (bD a E'.length ac sX F'.length sY nx)::aN b1 (bD sa E.length sc ia F.length ic nx)::g::(M++l)) w) O1 O1 ?_;have mP:=h.drew;clear h;generalize w.drew=w1 at mP ⊢;have h:St w0 (aN b3 (bD a E'.length ac sX F'.length sY nx)::aN b1 (bD sa E.length sc ia F.length ic nx)::g::(M++l)) w1:=mP.x [0,1,3];refine Yj ?_;refine qj rfl rfl rfl rfl h (fun _ h=>qh rfl (qq (v:=.slice sX F'.length sY) rfl (h.b 0 rfl) rfl)) ?_;refine Yj ?_;refine qj rfl rfl rfl rfl h (fun _ h=>qh rfl (qq (v:=.slice ia F.length ic) rfl (h.b 1 rfl) rfl)) ?_;refine Yt ?_;refine cD rfl rfl rfl rfl h rfl (jj (j:=i) (o':=o0+i*2) (congrArg (fun z=>Value.slice z F.length ic) N4) rfl rfl hlt rfl) ?_;refine Yj ?_;refine qj rfl rfl rfl rfl h (fun _ h=>qh rfl (qr (v:=.iz x.1.1) rfl (by have:=(N4▸((hi.more M).more [_,_,_]).at_ h).elem kl hx 0 _ rfl;simpa using this))) ?_
   refine Yj ?_;refine qj rfl rfl rfl rfl h (fun _ h=>qh rfl (qq (v:=.slice ia F.length ic) rfl (h.b 1 rfl) rfl)) ?_;refine Yt ?_;refine cD rfl rfl rfl rfl h rfl (jj (j:=i) (o':=o0+i*2) (congrArg (fun z=>Value.slice z F.length ic) N4) rfl rfl hlt rfl) ?_;refine Yj ?_;refine qj rfl rfl rfl rfl h (fun _ h=>qh rfl (qr (v:=.slice x.2.1 x.1.2.length x.2.2) rfl (by have:=(N4▸((hi.more M).more [_,_,_]).at_ h).elem kl hx 1 _ rfl;simpa using this))) ?_
   refine xO ?_;refine qd 14 rfl rfl rfl rfl ?_;refine qg rfl (kW O0 ((iX.more M).more [_,_,_,_,_,_]) mP) ?_;clear h mP;rintro _ w ⟨a',c',rfl,mP⟩;have h:St w0 (aN b3 (bD a E'.length ac sX F'.length sY nx)::aN b1 (bD sa E.length sc ia F.length ic nx)::g::(M++l)) w:=mP.x [0,1,2,4];refine⟨fun _=>h,?_⟩;have HG:gG w0 (all [aB a' c' x.1.2,g]::l) a' c' x.1.2:=gG.new (mP.x [1,2,3,4,5,6]);obtain⟨y,hy⟩:∃y:IQ,(x.1,a',c')=y:=⟨_,rfl⟩;refine cD rfl rfl rfl rfl h rfl (qc (r:=Nd (x.1,a',c')) rfl) ?_;rw[hy];refine nJ ?_;refine qd 16 rfl rfl rfl rfl ?_;refine jq (r:=lS [y]) mP rfl rfl rfl fun b6 w mP=>?_;clear h;have h:St w0 (aN b3 (bD a E'.length ac sX F'.length sY nx)::aN b1 (bD sa E.length sc ia F.length ic nx)::g::(M++l)) w:=mP.x [0,1,2,3,5];refine⟨fun _=>h,?_⟩;refine Ys ?_;refine qd 17 rfl rfl rfl rfl ?_;refine ql (ys:=lS [y]) (zs:=lS (F'++[y])) (m3:=(F'++[y]).length) (mP.f 2) rfl rfl ⟨rfl,.inr ⟨b6,0,rfl,qw (mP.b 0 rfl) rfl⟩⟩ (wb _) O7 (by simp[lS]) O5 O5 rfl fun a2 c2 w _ mP=>?_
   clear h;replace mP:St w0 (bI a2 c2 (F'++[y])::aB a' c' x.1.2::aV a ac E'::aN b3 (bD a E'.length ac sX F'.length sY nx)::aN b2 (bD none 0 0 none 0 0 0)::aN b1 (bD sa E.length sc ia F.length ic nx)::g::(M++l)) w:=mP.x [1];have h:St w0 (aN b3 (bD a E'.length ac sX F'.length sY nx)::aN b1 (bD sa E.length sc ia F.length ic nx)::g::(M++l)) w:=mP.x [0,1,2,4];refine⟨fun _=>h,?_⟩;refine Di ?_;refine jv 19 rfl rfl rfl ?_;refine qb 3 mP rfl (show _=Value.slice a2 (F'++[y]).length c2 from rfl) rfl rfl rfl rfl fun w h=>?_;replace h:St w0 (bI a2 c2 (F'++[y])::aB a' c' x.1.2::aV a ac E'::aN b3 (bD a E'.length ac a2 (F'++[y]).length c2 nx)::aN b2 (bD none 0 0 none 0 0 0)::aN b1 (bD sa E.length sc ia F.length ic nx)::g::(M++l)) w:=h;refine⟨(a2,c2,all [aB a' c' x.1.2,g],y),iA,by rw[<- hy],fun z hz=>(hrows z hz).grow,fun z hz=>?_,(St.two (h.o [1,6,0,2,3,4,5])).o [1,2,3,4,5,0]⟩
   rcases Vc.1 hz with hz|hz
   ·exact(oC z hz).grow
   ·rw[Vi] at hz;rw[hz,<- hy];exact HG
  clear h hrows oC;rintro⟨a2,c2,g2,y⟩ w e ⟨hy,hrows,oC,h⟩;refine Bk ?_;refine qz (.iz ((i+1:Nat):Int)) C8 ?_;refine Y4 ?_;exact qv ⟨(i+1,F'++[y],a2,c2,g2),iA,⟨hlt,fo uM hx hy,hrows,oC,h⟩,gH⟩
 clear h hrows;rintro⟨F',sX,sY,g⟩ w e ⟨uM,hrows,oC,h⟩;dsimp only at uM hrows oC h ⊢;refine Y1 ?_;refine aD (qx (l:=bD a E'.length ac sX F'.length sY nx) rfl rfl (qw (h.b 2 rfl) rfl)) rfl ?_;refine aF rfl (qy (vs:=bD a E'.length ac sX F'.length sY nx) 3 h rfl rfl rfl rfl rfl rfl rfl fun w h=>?_);replace h:St w0 (bI sX sY F'::aV a ac E'::aN b3 (bD a E'.length ac sX F'.length sY nx)::aN b2 (bD a E'.length ac sX F'.length sY nx)::g::(M++l)) w:=h;exact qv (qk (uQ (l:=bD a E'.length ac sX F'.length sY nx) rfl rfl (qw (h.b 3 rfl) rfl) ⟨E',F',a,ac,sX,sY,g,rfl,hmap,uM,hrows,oC,(h.x [2,3]).o [1,0]⟩))
theorem B9(id:Int)(hE:E.length<=1000)(h:St w0 (aV sa sc E::l) w):
  bP prog 51 [.agg (EB E F sa sc ia ic nx).toArray,.iz id] w fun v w'=>∃(E2:List SQ) (Qp:Option Addr) (iV i:Nat),v=.tuple [.agg (EB E2 F Qp iV ia ic nx).toArray,.iz (i:Int)].toArray∧St w0 (aV Qp iV E2::l) w'∧(∀x∈E.take i,x.1.id<id)∧
   ((E2=E∧∃x,E[i]?=some x∧x.1.id=id)∨(i<=E.length∧E2=E.take i++newS id::E.drop i∧∀x,E[i]?=some x->id<x.1.id)):=by
 refine en func51 results51 ntmps51 ?_;refine Y1 ?_;refine aF rfl (jk h (show _=Value.agg (EB E F sa sc ia ic nx).toArray from rfl) fun b2 w h=>?_);refine aF rfl (qn h fun b4 w h=>?_);refine Y4 ?_;replace h:St w0 (aN b4 (bD none 0 0 none 0 0 0)::aN b2 (bD sa E.length sc ia F.length ic nx)::aV sa sc E::l) w:=h;refine Yl ?_;refine Y5 ?_
 refine qf (Γ:=Nat) (fun i=>[(1,.iz id),(2,.pz b2),(4,.pz b4),(6,.iz (i:Int))])
  (fun i w=>i<=E.length∧(∀x∈E.take i,x.1.id<id)∧(∀x,E[i]?=some x->¬x.1.id<id)∧St w0 (aN b4 (bD none 0 0 none 0 0 0)::aN b2 (bD sa E.length sc ia F.length ic nx)::aV sa sc E::l) w) (yt ?_) ?_
 ·refine jy (Γ:=Nat) (fun i=>[(1,.iz id),(2,.pz b2),(4,.pz b4),(6,.iz (i:Int))])
   (fun i w=>i<=E.length∧(∀x∈E.take i,x.1.id<id)∧St w0 (aN b4 (bD none 0 0 none 0 0 0)::aN b2 (bD sa E.length sc ia F.length ic nx)::aV sa sc E::l) w) (fun i=>E.length-i) 0 iA ⟨Uf _,fun x hx=>(by cases hx),h⟩ ?_
  clear h;rintro i w e ⟨hi,hlo,h⟩;refine vT ?_;refine Yc ?_;refine aD (qq (v:=.slice sa E.length sc) rfl (h.b 1 rfl) rfl) rfl ?_;refine rJ ?_;refine yW ?_;by_cases hlt:i<E.length;rotate_left
  ·refine qz (.bool false) O4 ?_;refine Gm ?_;refine LG ?_;refine Y9 ?_;refine qv (qt rfl (ju ?_));exact Eq.mpr (if_pos rfl) ⟨i,iA,hi,hlo,fun x hx=>absurd (Uc.1 hx).1 hlt,h⟩
  refine qz (.bool true) O3 ?_;obtain⟨x,hx⟩:∃x,E[i]?=some x:=⟨E[i],Ub hlt⟩;obtain⟨b0,rfl⟩:=(h.f 2).dF O0;refine pV ?_;refine aD (qq (v:=.slice (sQ b0) E.length sc) rfl (h.b 1 rfl) rfl) rfl ?_;refine xW ?_;refine aD (jj (j:=i) (o':=i*5) rfl rfl rfl hlt O7) rfl ?_;refine Dk ?_;refine aD (qr (v:=.iz x.1.id) rfl N9) rfl ?_;refine xW ?_;refine yW ?_;by_cases hid:x.1.id<id
  ·refine qz (.bool true) (by congr 1;exact decide_eq_true hid) ?_
   refine Ye ?_;refine E7 ?_;refine Yg ?_;refine Bk ?_;refine qz (.iz ((i+1:Nat):Int)) C8 ?_;refine Y4 ?_;refine qv ⟨i+1,iA,⟨hlt,fun z hz=>?_,h⟩,cI⟩;rw[Vk,hx] at hz;rcases Vc.1 hz with hz|hz
   ·exact hlo z hz
   ·rw[Vi.1 hz];exact hid
  ·refine qz (.bool false) (by congr 1;exact decide_eq_false hid) ?_
   refine Ye ?_;refine qv (qt rfl (ju ?_));exact Eq.mpr (if_pos rfl) ⟨i,iA,hi,hlo,fun z hz=>by rw[hx] at hz;rw[<- Uk hz];exact hid,h⟩
 clear h;rintro i w e ⟨hi,hlo,RE,h⟩;by_cases hf:∃x,E[i]?=some x∧x.1.id=id
 ·obtain⟨x,hx,hid⟩:=hf;have hlt:i<E.length:=(Uc.1 hx).1;refine vT ?_;refine Yc ?_;refine aD (qq (v:=.slice sa E.length sc) rfl (h.b 1 rfl) rfl) rfl ?_;refine rJ ?_;refine yW ?_;refine qz (.bool true) O3 ?_;obtain⟨b0,rfl⟩:=(h.f 2).dF O0;refine pV ?_;refine aD (qq (v:=.slice (sQ b0) E.length sc) rfl (h.b 1 rfl) rfl) rfl ?_;refine xW ?_;refine aD (jj (j:=i) (o':=i*5) rfl rfl rfl hlt O7) rfl ?_;refine Dk ?_;refine aD (qr (v:=.iz x.1.id) rfl N9) rfl ?_;refine xW ?_;refine Yi ?_;refine qz (.bool true) (by congr 1;rw[beq_iff_eq];exact hid) ?_
  refine Ye ?_;refine Yy ?_;refine aD (qx (l:=bD (sQ b0) E.length sc ia F.length ic nx) rfl rfl (qw (h.b 1 rfl) rfl)) rfl ?_;refine Y0 ?_;refine aF rfl (qy (vs:=bD (sQ b0) E.length sc ia F.length ic nx) 0 h rfl rfl rfl rfl rfl rfl rfl fun w h=>?_);replace h:St w0 (aN b4 (bD (sQ b0) E.length sc ia F.length ic nx)::aN b2 (bD (sQ b0) E.length sc ia F.length ic nx)::aV (sQ b0) sc E::l) w:=h;refine Y4 ?_;exact qv (qk (uR (l:=bD (sQ b0) E.length sc ia F.length ic nx) rfl rfl (qw (h.b 0 rfl) rfl) ⟨E,some ⟨b0,0,none⟩,sc,i,rfl,h.drop.drop,hlo,.inl ⟨rfl,x,hx,hid⟩⟩))
 have hgt:∀x,E[i]?=some x->id<x.1.id:=fun x hx=>by
  have h1:=RE x hx;have h2:x.1.id≠id:=fun e=>hf ⟨x,hx,e⟩;omega
 refine qf (Γ:=Unit) (fun _=>[(1,.iz id),(2,.pz b2),(4,.pz b4),(6,.iz (i:Int))]) (fun _ w=>St w0 (aN b4 (bD none 0 0 none 0 0 0)::aN b2 (bD sa E.length sc ia F.length ic nx)::aV sa sc E::l) w) ?_ ?_
 ·refine Yb ?_;refine Yc ?_;refine aD (qq (v:=.slice sa E.length sc) rfl (h.b 1 rfl) rfl) rfl ?_;refine rJ ?_;refine yW ?_;by_cases hlt:i<E.length;rotate_left
  ·refine qz (.bool false) O4 ?_;refine Gm ?_;refine LG ?_;refine Y9 ?_;exact qv (qt rfl (qa ⟨(),iA,h⟩))
  refine qz (.bool true) O3 ?_;obtain⟨x,hx⟩:∃x,E[i]?=some x:=⟨E[i],Ub hlt⟩;obtain⟨b0,rfl⟩:=(h.f 2).dF O0;refine pV ?_;refine aD (qq (v:=.slice (sQ b0) E.length sc) rfl (h.b 1 rfl) rfl) rfl ?_;refine xW ?_;refine aD (jj (j:=i) (o':=i*5) rfl rfl rfl hlt O7) rfl ?_;refine Dk ?_;refine aD (qr (v:=.iz x.1.id) rfl N9) rfl ?_;refine xW ?_;refine Yi ?_;refine qz (.bool false) (by congr 1;rw[beq_eq_false_iff_ne];have:=hgt x hx;omega) ?_
  refine Ye ?_;exact qv (qt rfl (qa ⟨(),iA,h⟩))
 clear h;rintro _ w e h;have hcap:=(h.f 2).bT.2.1;have hrd:Reads w0 (aV sa sc E::l) 5 sa E.length (gZ E):=Reads.own;have yL:(gZ E).take (i*5)=gZ (E.take i):=kz gz E i;have Nf:(gZ E).drop (i*5)=gZ (E.drop i):=kh gz E i;refine Y1 ?_;refine aF rfl (jq (r:=[]) h rfl rfl rfl fun b5 w h=>?_);refine Yc ?_;refine aD (qq (v:=.slice sa E.length sc) rfl (h.b 2 rfl) rfl) rfl ?_;refine Y0 ?_;refine aD (vh rfl rfl O0) rfl ?_;have h1:St w0 (aV (sQ b5) 0 []::aN b4 (bD none 0 0 none 0 0 0)::aN b2 (bD sa E.length sc ia F.length ic nx)::aV sa sc E::l) w:=St.iH (cur:=[]) h rfl rfl (Ug _);clear h;refine aF rfl (ql (ys:=gZ (E.take i)) (zs:=gZ (E.take i)) (m3:=(E.take i).length) h1 rfl rfl (by rw[<- yL];exact((hrd.head hi).more [_,_,_]).at_ h1) (zw _) (by rw[Ul];simp;omega) rfl (by rw[Ul];omega) (by rw[Ul];omega) rfl fun a6 c6 w _ h=>?_)
 clear h1;have Cf:(E.take i).length=i:=by rw[Ul];omega
 refine Yo ?_;refine yX ?_;refine jb [0,1,2,3,4,5,6,7,8,9,10] none (fun w=>St w0 (aN b4 (bD none 0 0 none 0 0 0)::aN b2 (bD sa E.length sc ia F.length ic nx)::aV sa sc E::l) w) O1 O1 ?_;have mP:=h.drew;clear h;generalize w.drew=w1 at mP ⊢;have h:=mP.drop;refine Dg ?_;refine cD rfl rfl rfl rfl h rfl (qc (r:=uZ (newS id)) rfl) ?_;refine Yn ?_;refine Yj ?_;refine qj rfl rfl rfl rfl h (fun _ h=>qh rfl (qq (v:=.slice sa E.length sc) rfl (h.b 1 rfl) rfl)) ?_;refine Yt ?_;refine cD rfl rfl rfl rfl h rfl (gu rfl rfl hi) ?_;refine Yn ?_;refine qd 3 rfl rfl rfl rfl ?_;refine jq (r:=gZ [newS id]) mP rfl rfl rfl fun b7 w mP=>?_;clear h;have h:=mP.drop.drop;refine⟨fun _=>h,?_⟩;refine Ys ?_;refine qd 4 rfl rfl rfl rfl ?_;refine ql (ys:=gZ [newS id]) (zs:=gZ (E.take i++[newS id])) (m3:=(E.take i++[newS id]).length) (mP.f 1) rfl rfl ⟨rfl,.inr ⟨b7,0,rfl,qw (mP.b 0 rfl) rfl⟩⟩ (zw _) O7 (by simp[gZ]) (by rw[Ua,Cf];show(i+1)*_<=_;omega) (by rw[Ua,Cf];show i+1<=_;omega) rfl fun a8 c8 w _ mP=>?_
 clear h;have h:=mP.drop.drop;refine⟨fun _=>h,?_⟩;refine Yn ?_;refine qd 9 rfl rfl rfl rfl ?_;refine ql (ys:=gZ (E.drop i)) (zs:=gZ (E.take i++newS id::E.drop i)) (m3:=(E.take i++newS id::E.drop i).length) mP rfl rfl (by rw[<- Nf];exact((hrd.tail hi hcap).more [_,_,_,_]).at_ mP) (zw _) (by simp only[Ua,Uj,Um,Xr];omega) (by simp[gZ]) (by rw[Ua,Uj,Um,Cf];omega) (by rw[Ua,Uj,Um,Cf];omega) rfl fun a9 c9 w _ mP=>?_
 clear h;have h:=mP.drop.drop;refine⟨fun _=>h,?_⟩;refine zW ?_;refine qm ?_;clear h;have h:=mP;obtain⟨E2,C5⟩:∃E2,E.take i++newS id::E.drop i=E2:=⟨_,rfl⟩;rw[C5] at h ⊢;refine Yd ?_;refine Yc ?_;refine aF rfl (qb 3 h rfl (show _=Value.slice a9 E2.length c9 from rfl) rfl rfl rfl rfl fun w h=>?_);replace h:St w0 (aV a9 c9 E2::aN b4 (bD none 0 0 none 0 0 0)::aN b2 (bD a9 E2.length c9 ia F.length ic nx)::l) w:=h.x [1,4];refine Yl ?_;refine aD (qx (l:=bD a9 E2.length c9 ia F.length ic nx) rfl rfl (qw (h.b 2 rfl) rfl)) rfl ?_;refine Y0 ?_;refine aF rfl (qy (vs:=bD a9 E2.length c9 ia F.length ic nx) 1 h rfl rfl rfl rfl rfl rfl rfl fun w h=>?_);replace h:St w0 (aV a9 c9 E2::aN b4 (bD a9 E2.length c9 ia F.length ic nx)::aN b2 (bD a9 E2.length c9 ia F.length ic nx)::l) w:=h;refine Y4 ?_;exact qv (qk (uR (l:=bD a9 E2.length c9 ia F.length ic nx) rfl rfl (qw (h.b 1 rfl) rfl) ⟨E2,a9,c9,i,rfl,h.x [1,2],hlo,.inr ⟨hi,C5.symm,hgt⟩⟩))
end
end
end Go.Proofs.YtngdfdangkdgcaaGreatDoor
