/- What the proof of ProgAlone needs, part 2: plain lemmas, and what each function does. -/
import Derived.Test.YtngdfdangkdgcaaGreatDoorQProgAlonea
import Derived.Laws.StructEq
import Derived.Deep.Slices
import Derived.Laws.Strings
import Derived.Test.YtngdfdangkdgcaaGreatDoorRows
import Derived.ProofKit
import Derived.LaidMore
import Derived.OpenShut
import Derived.Stop.Joined
import Derived.KernelRfl
import Derived.Lib.Overlaps
set_option linter.unusedVariables false
set_option linter.unusedSimpArgs false
set_option linter.unnecessarySimpa false
set_option maxRecDepth 100000
set_option maxHeartbeats 4000000
namespace Go.Hw
section
def cE(x:Nat):Nat:=if x=0 then 0 else Nat.log2 x+1
theorem jS{x k:Nat}:cE x<=k↔x<2^k:=by
 unfold cE;split
 ·rename_i h;subst h;simp[Wq]
 ·rename_i h
  rw[<- Nat.log2_lt h];omega
theorem wC(x:Nat):x<2^cE x:=jS.1 (Ug _)
theorem lD{x:Nat}(h:x<18446744073709551616):cE x<=64:=jS.2 h
def Gp:Nat->Nat->Nat
 |0,_=>0
 |k+1,x=>if x%2=1 then 0 else Gp k (x / 2)+1
def tz(x:Nat):Nat:=Gp 64 x
theorem Aa:∀(k x:Nat),x / 2^Gp k x*2^Gp k x=x
 |0,x=>by simp[Gp]
 |k+1,x=>by
  rw[Gp];split
  ·simp
  ·have ih:=Aa k (x / 2);rw[Nat.pow_succ,Wm _ 2,<- Nat.div_div_eq_div_mul,Wm 2,<- Nat.mul_assoc,ih];omega
theorem Q2{x t:Nat}(h:t<=tz x):x / 2^t*2^t=x:=by
 have h1:=Aa 64 x;have h2:2^tz x=2^(tz x-t)*2^t:=by rw[<- Za];congr 1;omega
 have h3:x=(x / 2^tz x*2^(tz x-t))*2^t:=by rw[Nat.mul_assoc,<- h2];exact h1.symm
 have h4:x / 2^t=x / 2^tz x*2^(tz x-t):=by
  conv=>lhs;rw[h3]
  exact Nat.mul_div_cancel _ (Wq t)
 rw[h4];exact h3.symm
theorem SH{x:Nat}(h0:x≠0):tz x+1<=cE x:=by
 have h1:=Q2 (Ug (tz x))
 have h2:2^tz x<=x:=by
  conv=>rhs;rw[<- h1]
  have:x / 2^tz x≠0:=by
   intro h;rw[h] at h1;simp at h1;exact h0 h1.symm
  exact Nat.le_mul_of_pos_left _ (Nat.pos_of_ne_zero this)
 rcases Zk (tz x) (cE x) with h3|h3
 ·exact h3
 ·have:=jS.1 h3;omega
structure nM where
 is:Bool
 lead:Nat
 trail:Nat
 deriving DecidableEq
def bJ(x:Nat):nM:=⟨true,min (64-cE x) 31,tz x⟩
def nM.fits(w:nM)(x:Nat):Bool:=w.is&&decide (w.lead<=(bJ x).lead)&&decide (w.trail<=(bJ x).trail)
def nM.cR(w:nM):Nat:=64-w.lead-w.trail
def dO(win:nM)(was:Nat):List Nat->List Bool
 |[]=>[]
 |now::r=>if now ^^^ was=0 then bitsOf 0 1++dO win now r
  else if win.fits (now ^^^ was)=true then bitsOf 2 2++(bitsOf ((now ^^^ was) / 2^win.trail) win.cR++dO win now r)
  else bitsOf 3 2++(bitsOf (bJ (now ^^^ was)).lead 5++(bitsOf ((bJ (now ^^^ was)).cR-1) 6++(bitsOf ((now ^^^ was) / 2^(bJ (now ^^^ was)).trail) (bJ (now ^^^ was)).cR++dO (bJ (now ^^^ was)) now r)))
def eA:List Nat->List Bool
 |[]=>[]
 |v::r=>bitsOf v 64++dO ⟨false,0,0⟩ v r
def kF(s:RS)(win:nM):Option (Nat×nM)×RS:=
 if(s.get 1).1=0 then(some (0,win),(s.get 1).2)
 else if((s.get 1).2.get 1).1=0 then
  let g:=((s.get 1).2.get 1).2.get win.cR
  let x:=g.1*2^win.trail%18446744073709551616
  (if win.is=true∧x≠0 then some (x,win) else none,g.2)
 else
  let a:=((s.get 1).2.get 1).2.get 5
  let b:=a.2.get 6
  if 64<a.1+(b.1+1) then(none,b.2) else
  let g:=b.2.get (b.1+1)
  let x:=g.1*2^(64-a.1-(b.1+1))%18446744073709551616
  (if x=0∨bJ x≠⟨true,a.1,64-a.1-(b.1+1)⟩∨win.fits x=true then none else some (x,⟨true,a.1,64-a.1-(b.1+1)⟩),g.2)
theorem GZ{s s1:RS}{win:nM}(h:s.get 1=(0,s1)):kF s win=(some (0,win),s1):=by
 unfold kF;rw[h];rfl
theorem Ds{s s1 s2 s3:RS}{win:nM}{a g:Nat}(h1:s.get 1=(a,s1))(ha:a≠0)(h2:s1.get 1=(0,s2))(h3:s2.get win.cR=(g,s3)):
  kF s win=(if win.is=true∧g*2^win.trail%18446744073709551616≠0 then some (g*2^win.trail%18446744073709551616,win) else none,s3):=by
 unfold kF;simp only[h1,h2,h3];rw[if_neg ha,if_pos trivial]
theorem Fo{s s1 s2 s3 s4:RS}{win:nM}{a b lead cR:Nat}(h1:s.get 1=(a,s1))(ha:a≠0)(h2:s1.get 1=(b,s2))(hb:b≠0)(h3:s2.get 5=(lead,s3))(h4:s3.get 6=(cR,s4))(h5:64<lead+(cR+1)):
  kF s win=(none,s4):=by
 unfold kF;simp only[h1,h2,h3,h4];rw[if_neg ha,if_neg hb,if_pos h5]
theorem Dt{s s1 s2 s3 s4 s5:RS}{win:nM}{a b lead cR g:Nat}(h1:s.get 1=(a,s1))(ha:a≠0)(h2:s1.get 1=(b,s2))(hb:b≠0)(h3:s2.get 5=(lead,s3))(h4:s3.get 6=(cR,s4))(h5:¬64<lead+(cR+1))(h6:s4.get (cR+1)=(g,s5)):
  kF s win=(if g*2^(64-lead-(cR+1))%18446744073709551616=0∨bJ (g*2^(64-lead-(cR+1))%18446744073709551616)≠⟨true,lead,64-lead-(cR+1)⟩∨win.fits (g*2^(64-lead-(cR+1))%18446744073709551616)=true then none
   else some (g*2^(64-lead-(cR+1))%18446744073709551616,⟨true,lead,64-lead-(cR+1)⟩),s5):=by
 unfold kF;simp only[h1,h2,h3,h4,h6];rw[if_neg ha,if_neg hb,if_neg h5]
def lV:Nat->Nat->nM->RS->Option (List Nat)
 |0,_,_,_=>some []
 |k+1,was,win,s=>match kF s win with
  |(none,_)=>none
  |(some (x,wD),s')=>if s'.bad=true then none else(lV k (was ^^^ x) wD s').map fun r=>(was ^^^ x)::r
def lE(n:Nat)(s:RS):Option (List Nat):=match n with
 |0=>if s.bad=true then none else some []
 |k+1=>if(s.get 64).2.bad=true then none else(lV k (s.get 64).1 ⟨false,0,0⟩ (s.get 64).2).map fun r=>(s.get 64).1::r
theorem qN{x:Nat}(h0:x≠0)(h:x<18446744073709551616):(bJ x).lead+(bJ x).trail+(bJ x).cR=64∧1<=(bJ x).cR∧(bJ x).cR<=64∧(bJ x).lead<=31:=by
 have h1:=SH h0;have h2:=lD h;unfold nM.cR bJ;dsimp only;omega
theorem shown{x:Nat}{w:nM}(h:x<18446744073709551616)(h1:w.lead<=(bJ x).lead)(h2:w.trail<=(bJ x).trail):x / 2^w.trail%2^w.cR*2^w.trail%18446744073709551616=x:=by
 have h3:x<2^(64-w.lead):=by
  have:=wC x;refine Xt this (Vm O2 ?_);have:=lD h;unfold bJ at h1;dsimp only at h1;omega
 have h5:x / 2^w.trail%2^w.cR=x / 2^w.trail:=by
  apply Un;rcases Zk (64-w.lead) w.trail with h6|h6
  ·have h7:x<2^w.trail:=Xt h3 (Vm O2 O0);rw[Nat.div_eq_of_lt h7];exact Wq _
  ·rw[Zy (Wq _),<- Za];unfold nM.cR
   rwa [show 64-w.lead-w.trail+w.trail=64-w.lead by omega]
 rw[h5,Q2 h2,Un h]
theorem SI{w:nM}{x:Nat}(h:w.fits x=true):w.is=true∧w.lead<=(bJ x).lead∧w.trail<=(bJ x).trail:=by
 unfold nM.fits at h;simpa[Ur,and_assoc] using h
theorem SJ{a b:Nat}:b ^^^ (a ^^^ b)=a:=by rw[Nat.xor_comm a b,<- Nat.xor_assoc,Nat.xor_self,Nat.zero_xor]
theorem rP(r:List Bool):∀(vs:List Nat) (was:Nat) (win:nM),was<18446744073709551616->(∀v∈vs,v<18446744073709551616)->lV vs.length was win ⟨dO win was vs++r,false⟩=some vs
 |[],_,_,_,_=>rfl
 |v::vs,was,win,hw,hv=>by
  have hx:v ^^^ was<18446744073709551616:=Wu (n:=64) (hv v (Ud ..)) hw;have ih:=fun w=>rP r vs v w (hv v (Ud ..)) fun x h=>hv x (Uh _ h);have hb:was ^^^ (v ^^^ was)=v:=SJ;rw[dO,Uj,lV];generalize EL:v ^^^ was=x at *;by_cases h0:x=0
  ·rw[if_pos h0,Uo]
   have ht:kF ⟨bitsOf 0 1++(dO win v vs++r),false⟩ win=(some (0,win),⟨dO win v vs++r,false⟩):=by
    unfold kF;rw[RS.kM];rfl
   rw[ht];dsimp only;rw[h0] at hb;rw[hb,ih win];rfl
  ·rw[if_neg h0];by_cases hf:win.fits x=true
   ·rw[if_pos hf,Uo,Uo];obtain⟨f1,f2,f3⟩:=SI hf
    have ht:kF ⟨bitsOf 2 2++(bitsOf (x / 2^win.trail) win.cR++(dO win v vs++r)),false⟩ win=(some (x,win),⟨dO win v vs++r,false⟩):=by
     refine(Ds (ja true _) O2 (ja false _) (RS.kM _ _ _)).trans ?_;rw[shown hx f2 f3,if_pos ⟨f1,h0⟩]
    rw[ht];dsimp only;rw[hb,ih win];rfl
   ·rw[if_neg hf,Uo,Uo,Uo,Uo];obtain⟨l1,l2,l3,l4⟩:=qN h0 hx
    have ht:kF ⟨bitsOf 3 2++(bitsOf (bJ x).lead 5++(bitsOf ((bJ x).cR-1) 6++(bitsOf (x / 2^(bJ x).trail) (bJ x).cR++(dO (bJ x) v vs++r)))),false⟩ win=(some (x,bJ x),⟨dO (bJ x) v vs++r,false⟩):=by
     have e1:(bJ x).cR-1+1=(bJ x).cR:=by omega
     have e2:64-(bJ x).lead-(bJ x).cR=(bJ x).trail:=by omega
     have g1:=RS.kM (bJ x).lead 5 (bitsOf ((bJ x).cR-1) 6++(bitsOf (x / 2^(bJ x).trail) (bJ x).cR++(dO (bJ x) v vs++r)));have g2:=RS.kM ((bJ x).cR-1) 6 (bitsOf (x / 2^(bJ x).trail) (bJ x).cR++(dO (bJ x) v vs++r));rw[Un (show(bJ x).lead<2^5 by omega)] at g1
     rw[Un (show(bJ x).cR-1<2^6 by omega)] at g2
     have g3:RS.get ⟨bitsOf (x / 2^(bJ x).trail) (bJ x).cR++(dO (bJ x) v vs++r),false⟩ ((bJ x).cR-1+1)=(x / 2^(bJ x).trail%2^(bJ x).cR,⟨dO (bJ x) v vs++r,false⟩):=by rw[e1];exact RS.kM _ _ _
     have:=Dt (win:=win) (ja true _) O2 (ja true _) O2 g1 g2 O0 g3;rw[e1,e2,shown hx (Ug _) (Ug _),if_neg] at this
     ·exact this
     ·rintro(h|h|h)
      ·exact h0 h
      ·exact h rfl
      ·exact hf h
    rw[ht];dsimp only;rw[hb,ih (bJ x)];rfl
theorem Bu(vs:List Nat)(hv:∀v∈vs,v<18446744073709551616)(r:List Bool):lE vs.length ⟨eA vs++r,false⟩=some vs:=by
 cases vs with
 |nil=>rfl
 |cons v vs=>
  have h:=hv v (Ud ..);show lE (vs.length+1) ⟨(bitsOf v 64++dO ⟨false,0,0⟩ v vs)++r,false⟩=_;rw[Uo,lE,RS.kM,Un (show v<2^64 from h)];dsimp only;rw[rP r vs v ⟨false,0,0⟩ h fun x hx=>hv x (Uh _ hx)];rfl
def lW(b:Nat):List Nat->Nat
 |[]=>0
 |x::r=>x+2^b*lW b r
def jH:List (Nat×Nat):=[(240,0),(120,0),(60,1),(30,2),(20,3),(15,4),(12,5),(10,6),(8,7),(7,8),(6,10),(5,12),(4,15),(3,20),(2,30),(1,60)]
def Bv(k:Nat×Nat)(u:List Nat):Option Nat:=if k.2=0∧u.length<k.1 then none else if(u.take k.1).all (fun x=>decide (cE x<=k.2))=true then some (min u.length k.1) else none
def pY:Nat->List (Nat×Nat)->List Nat->Option (Nat×Nat)
 |_,[],_=>none
 |i,k::ks,u=>match Bv k u with
  |some n=>some (i*1152921504606846976+lW k.2 (u.take n),n)
  |none=>pY (i+1) ks u
def fG:Nat->List Nat->Option (List Nat)
 |_,[]=>some []
 |0,_::_=>none
 |k+1,a::r=>match pY 0 jH (a::r) with
  |none=>none
  |some (w,n)=>(fG k ((a::r).drop n)).map fun y=>w::y
def gK(u:List Nat):Option (List Nat):=fG u.length u
def vG(x b m:Nat):List Nat:=(List.range m).map fun j=>x / 2^(j*b)%2^b
def rQ:List Nat->Nat->Option (List Nat)
 |[],_=>some []
 |x::ws,room=>if room=0 then none else
  (rQ ws (room-min (jH.getD (x / 1152921504606846976) (0,0)).1 room)).map fun r=>
   vG (x%1152921504606846976) (jH.getD (x / 1152921504606846976) (0,0)).2 (min (jH.getD (x / 1152921504606846976) (0,0)).1 room)++r
def Ab(ws:List Nat)(n:Nat):Option (List Nat):=match rQ ws n with
 |none=>none
 |some out=>if out.length=n∧gK out=some ws then some out else none
theorem wE{b:Nat}:∀{l:List Nat},(∀x∈l,x<2^b)->lW b l<2^(b*l.length)
 |[],_=>by simp[lW]
 |x::l,h=>by
  have h1:=wE (l:=l) fun y hy=>h y (Uh _ hy);have h2:=h x (Ud ..);rw[lW,Uj,Nat.mul_add,Nat.mul_one,Za,Wm (2^(b*l.length))];have h3:2^b*(lW b l+1)<=2^b*2^(b*l.length):=Nat.mul_le_mul_left _ h1;rw[Nat.mul_add] at h3;omega
theorem pZ{b:Nat}:∀{l:List Nat},(∀x∈l,x<2^b)->∀m,m<=l.length->vG (lW b l) b m=l.take m
 |_,_,0,_=>by simp[vG]
 |[],_,m+1,hm=>by simp at hm
 |x::l,h,m+1,hm=>by
  have h2:=h x (Ud ..);have ih:=pZ (l:=l) (fun y hy=>h y (Uh _ hy)) m (by simpa using hm)
  unfold vG at ih ⊢;rw[List.range_succ_eq_map,Uy,List.map_map,Vu];congr 1
  ·rw[lW,Nat.zero_mul,Nat.pow_zero,Nat.div_one,Nat.add_mul_mod_self_left,Un h2]
  ·rw[<- ih];apply List.map_congr_left;intro j _;show lW b (x::l) / 2^((j+1)*b)%2^b=_;congr 1;rw[lW,Vj,Nat.one_mul,Wy (j*b),Za,<- Nat.div_div_eq_div_mul,Nat.add_mul_div_left _ _ (Wq b),Nat.div_eq_of_lt h2,Uz]
theorem qO{k:Nat×Nat}{u:List Nat}{n:Nat}(h:Bv k u=some n):n=min u.length k.1∧(∀x∈u.take n,x<2^k.2)∧(k.2=0->n=k.1):=by
 unfold Bv at h;split at h
 ·cases h
 ·rename_i h0
  split at h
  ·rename_i h1
   cases h
   refine⟨rfl,fun x hx=>?_,fun hk=>by omega⟩
   have:x∈u.take k.1:=by
    rcases Nat.le_total u.length k.1 with h2|h2
    ·rw[Vn h2] at hx;rw[Uu h2];exact Vl hx
    ·rw[Nat.min_eq_right h2] at hx;exact hx
   have:=Wx.1 h1 x this;exact jS.1 (by simpa using this)
  ·cases h
theorem nN:∀{i:Nat} {ks:List (Nat×Nat)} {u:List Nat} {w n:Nat},pY i ks u=some (w,n)->∃j k,ks[j]?=some k∧Bv k u=some n∧w=(i+j)*1152921504606846976+lW k.2 (u.take n)
 |_,[],_,_,_,h=>by cases h
 |i,k::ks,u,w,n,h=>by
  rw[pY] at h;cases hf:Bv k u with
  |some m=>rw[hf] at h;cases h;exact⟨0,k,rfl,hf,by simp⟩
  |none=>
   rw[hf] at h;obtain⟨j,k',h1,h2,h3⟩:=nN h;exact⟨j+1,k',by simpa using h1,h2,by rw[h3];congr 2;omega⟩
theorem tG:∀(j:Nat) (k:Nat×Nat),jH[j]?=some k->j<16∧0<k.1∧k.1<=240∧k.2*k.1<=60:=by
 intro j k h;have hj:j<16:=(Uc.1 h).1;refine⟨hj,?_⟩;have hall:∀k∈jH,0<k.1∧k.1<=240∧k.2*k.1<=60:=by decide
 exact hall k (Ue h)
theorem pM{u:List Nat}(hu:u≠[]){w n:Nat}(h:pY 0 jH u=some (w,n)):0<n∧n<=u.length:=by
 obtain⟨j,k,g1,g2,g3⟩:=nN h;obtain⟨f1,f2,f3⟩:=qO g2;obtain⟨k1,k2,k3,k4⟩:=tG j k g1;have:0<u.length:=Vy.2 hu;omega
theorem qA:∀(k m:Nat) (u:List Nat),u.length<=k->k<=m->fG m u=fG k u
 |k,m,[],_,_=>by rw[fG,fG]
 |0,_,_::_,h,_=>by simp at h
 |_+1,0,_::_,_,h=>by omega
 |k+1,m+1,a::r,h,hm=>by
  rw[fG,fG];cases hw:pY 0 jH (a::r) with
  |none=>rfl
  |some wn=>
   obtain⟨w,n⟩:=wn;have:=pM O7 hw;dsimp only;rw[qA k m _ (by rw[Um];rw[Uj] at h ⊢;omega) O0]
theorem Bw:gK []=some []:=rfl
theorem Ac{u:List Nat}(hu:u≠[])(h:pY 0 jH u=none):gK u=none:=by
 cases u with
 |nil=>exact absurd rfl hu
 |cons a r=>unfold gK;rw[Uj,fG,h]
theorem Ad{u:List Nat}(hu:u≠[]){w n:Nat}(h:pY 0 jH u=some (w,n)):gK u=(gK (u.drop n)).map fun y=>w::y:=by
 have hp:=pM hu h;cases u with
 |nil=>exact absurd rfl hu
 |cons a r=>
  unfold gK;rw[Uj,fG,h];dsimp only;rw[qA ((a::r).drop n).length r.length _ (Ug _) (by rw[Um,Uj];omega)]
theorem mM:∀(m:Nat) (u ws:List Nat),u.length<=m->gK u=some ws->rQ ws u.length=some u∧∀w∈ws,w<18446744073709551616
 |m,[],ws,_,h=>by
  rw[Bw] at h;cases h
  exact⟨rfl,fun _ h=>by cases h⟩
 |0,_::_,_,hm,_=>by simp at hm
 |m+1,a::b,ws,hm,h=>by
  have hne:a::b≠[]:=by simp
  generalize hu:a::b=u at *;have hpos:0<u.length:=Vy.2 hne;cases hw:pY 0 jH u with
  |none=>rw[Ac hne hw] at h;cases h
  |some wn=>
   obtain⟨w,n⟩:=wn;rw[Ad hne hw] at h;obtain⟨r,h1,rfl⟩:=Ve.1 h;have hn:=pM hne hw;obtain⟨j,k,g1,g2,g3⟩:=nN hw;obtain⟨f1,f2,f3⟩:=qO g2;obtain⟨k1,k2,k3,k4⟩:=tG j k g1
   have hlt:lW k.2 (u.take n)<1152921504606846976:=by
    refine Xt (wE f2) ?_
    have:k.2*(u.take n).length<=60:=by
     rw[Ul];exact Uw (Nat.mul_le_mul_left _ O0) k4
    exact Vm O2 this
   rw[Uz] at g3;have hdiv:w / 1152921504606846976=j:=by omega
   have hmod:w%1152921504606846976=lW k.2 (u.take n):=by omega
   obtain⟨ih,ih2⟩:=mM m (u.drop n) r KU h1;refine⟨?_,?_⟩
   ·rw[rQ,if_neg O0,hdiv,hmod];have hk:jH.getD j (0,0)=k:=by simp[List.getD,g1]
    rw[hk];have hmin:min k.1 u.length=n:=by omega
    rw[hmin,show u.length-n=(u.drop n).length by simp,ih,pZ f2 n O5]
    simp[Kf]
   ·intro x hx;rcases Up.1 hx with rfl|hx
    ·omega
    ·exact ih2 x hx
theorem Ae{u ws:List Nat}(h:gK u=some ws):Ab ws u.length=some u:=by
 unfold Ab;rw[(mM _ u ws (Ug _) h).1];dsimp only;rw[if_pos ⟨rfl,h⟩]
end
section
class EM(P:Program)(t:TypeId)(ks:outParam (List IntKind)):Prop where
 u : ∃ fl : List Field, P.underlying t = some (.struct fl.toArray) ∧ fl.map (fun f => (f.name == "_", f.offset, P.underlying f.type)) = ks.zipIdx.map (fun p => (false, p.2, some (.int p.1)))
 s:P.stoodInHeld t=false
 g:P.eqGuardType P.depth t=false
def ints(ks:List IntKind)(aL:List Int):List Value:=List.zipWith Value.int ks aL
theorem SK:∀(ks:List IntKind) (aL:List Int) (j:Nat),(ints ks aL)[j]?=(ks[j]?).bind fun k=>(aL[j]?).map (Value.int k):=by
 intro ks aL j;simp only[ints,List.getElem?_zipWith];cases ks[j]? <;> cases aL[j]? <;> rfl
theorem rR{P:Program}{w:World}{t:TypeId}{k:IntKind}(ht:P.underlying t=some (.int k)){cs:List Value}{off:Nat}{v:Value}(hv:cs[off]?=some v):(part t cs.toArray off).run P w=.ok v w:=by
 have:(isAgg t).run P w=.ok false w:=by
  unfold Go.isAgg;rw[Sem.run_bind,run_underlying ht w];rfl
 simp[part,this,hv]
theorem kp{P:Program}{w:World}(d:Nat):∀(fl:List Field) (ks:List IntKind) (aL bs:List Int) (p q:List Value),p.length=q.length->aL.length=ks.length->bs.length=ks.length->
  fl.map (fun f => (f.name == "_", f.offset, P.underlying f.type)) = (ks.zipIdx p.length).map (fun p => (false, p.2, some (.int p.1))) ->
  (Op.eqFields (d+1) (p++ints ks aL).toArray (q++ints ks bs).toArray fl).run P w=.ok (aL==bs) w
 |[],[],[],[],_,_,_,_,_,_=>by simp[Op.eqFields]
 |[],k::ks,_,_,_,_,_,_,_,h=>by simp at h
 |f::fl,[],_,_,_,_,_,_,_,h=>by simp at h
 |f::fl,k::ks,[],_,_,_,_,h,_,_=>by simp at h
 |f::fl,k::ks,a::aL,[],_,_,_,_,h,_=>by simp at h
 |f::fl,k::ks,a::aL,b::bs,p,q,hpq,ha,hb,h=>by
  simp only[Uy,List.zipIdx_cons,List.cons.injEq,Prod.mk.injEq] at h;obtain⟨⟨h1,h2,h3⟩,h4⟩:=h
  have hn : f.name ≠ "_" := by simpa using h1
  have e1:(p++ints (k::ks) (a::aL))[f.offset]?=some (.int k a):=by rw[h2];simp[ints]
  have e2:(q++ints (k::ks) (b::bs))[f.offset]?=some (.int k b):=by rw[h2,hpq];simp[ints]
  unfold Op.eqFields;rw[if_pos hn];simp only[Sem.run_bind,rR h3 e1,rR h3 e2,Result.andThen_ok,run_equalIn_int w d f.type k k a b h3];by_cases hab:a=b
  ·subst hab;have ih:=kp (P:=P) (w:=w) d fl ks aL bs (p++[.int k a]) (q++[.int k a]) (by simp[hpq]) (by simpa using ha) (by simpa using hb) (by simpa using h4)
   simp only[Uo,List.singleton_append] at ih;have hi:ints (k::ks) (a::aL)=.int k a::ints ks aL:=rfl;have hi2:ints (k::ks) (a::bs)=.int k a::ints ks bs:=rfl;rw[hi,hi2];simp[ih]
  ·have:(a==b)=false:=by simp[hab]
   simp[this]
theorem nb{P:Program}{w:World}{t:TypeId}{ks:List IntKind}(h:EM P t ks){aL bs:List Int}(ha:aL.length=ks.length)(hb:bs.length=ks.length)(d:Nat):
  (Op.equalIn (d+2) t (.agg (ints ks aL).toArray) (.agg (ints ks bs).toArray)).run P w=.ok (aL==bs) w:=by
 obtain⟨fl,hu,hf⟩:=h.u;have hfo:P.fieldsOf t=fl.toArray:=by unfold Program.fieldsOf;rw[hu]
 rw[run_equalIn_struct w (d+1) t _ _ (by rw[hfo];exact hu) h.s,hfo]
 have:=kp (P:=P) (w:=w) d fl ks aL bs [] [] rfl ha hb (by simpa using hf)
 simpa using this
section
variable{P:Program}{e:Env}{w:World}{d:Option Nat}{ty:TypeId}{pos:String}{af:Array Edge}{g:Option (Nat×Bool)}
theorem Mc{t t2:TypeId}{ks:List IntKind}[h:EM P t ks]{x y:Operand}(aL bs:List Int)(hx:ev e x=.agg (ints ks aL).toArray)(hy:ev e y=.agg (ints ks bs).toArray)(ha:aL.length=ks.length)(hb:bs.length=ks.length):
  Qv P e ⟨d,.binOp .eql t x y t2,ty,pos,af,g⟩ w (.bool (aL==bs)):=by
 unfold Qv;have h1:=run_eqGuard_agg (P:=P) w .eql t x y (ints ks aL).toArray (ints ks bs).toArray h.g;have h2:=run_eql_struct (P:=P) w t (ints ks aL).toArray (ints ks bs).toArray;rw[nb h ha hb 9998] at h2;simp only[execOp,hx,hy,Sem.run_bind,h1,Result.andThen_ok,h2,Result.andThen];rfl
theorem Me{t t2:TypeId}{ks:List IntKind}[h:EM P t ks]{x y:Operand}(aL bs:List Int)(hx:ev e x=.agg (ints ks aL).toArray)(hy:ev e y=.agg (ints ks bs).toArray)(ha:aL.length=ks.length)(hb:bs.length=ks.length):
  Qv P e ⟨d,.binOp .neq t x y t2,ty,pos,af,g⟩ w (.bool (!(aL==bs))):=by
 unfold Qv;have h1:=run_eqGuard_agg (P:=P) w .neq t x y (ints ks aL).toArray (ints ks bs).toArray h.g;have h2:=run_neq_struct (P:=P) w t (ints ks aL).toArray (ints ks bs).toArray;rw[nb h ha hb 9998] at h2;simp only[execOp,hx,hy,Sem.run_bind,h1,Result.andThen_ok,h2,Result.andThen];rfl
end
theorem yu{α:Type}{f:α->List Value}{sz:Nat}(hf:∀x,(f x).length=sz):∀(L:List α) (k:Nat) (x:α),L[k]?=some x->∀j v,(f x)[j]?=some v->(L.flatMap f)[k*sz+j]?=some v
 |[],k,x,h,_,_,_=>by simp at h
 |a::L,0,x,h,j,v,hj=>by
  simp only[Xj,Vr] at h;subst h;rw[Ui,Nat.zero_mul,Uz,Wh (Uc.1 hj).1];exact hj
 |a::L,k+1,x,h,j,v,hj=>by
  have ih:=yu hf L k x Co j v hj;rw[Ui,Wt (by rw[hf,Vj];omega),hf]
  rw[show(k+1)*sz+j-sz=k*sz+j by rw[Vj];omega]
  exact ih
theorem eT{α:Type}{f:α->List Value}{sz:Nat}(hf:∀x,(f x).length=sz):∀(L:List α),(L.flatMap f).length=L.length*sz
 |[]=>by simp
 |a::L=>by rw[Ui,Ua,hf,eT hf L,Uj,Vj];omega
theorem uv{α:Type}{f:α->List Value}{sz:Nat}(hf:∀x,(f x).length=sz):∀(L:List α) (k:Nat) (x y:α) (j:Nat) (v:Value),L[k]?=some x->j<sz->f y=(f x).set j v->(L.flatMap f).set (k*sz+j) v=(L.set k y).flatMap f
 |[],k,x,y,j,v,h,_,_=>by simp at h
 |a::L,0,x,y,j,v,h,hj,hy=>by
  simp only[Xj,Vr] at h;subst h;rw[Ui,Nat.zero_mul,Uz,Vh,Ui,hy,List.set_append,if_pos (by rw[hf];exact hj)]
 |a::L,k+1,x,y,j,v,h,hj,hy=>by
  have ih:=uv hf L k x y j v Co hj hy;rw[Ui,Vs,Ui,List.set_append,if_neg (by rw[hf,Vj];omega),hf]
  rw[show(k+1)*sz+j-sz=k*sz+j by rw[Vj];omega,ih]
theorem Rd.elem{w:World}{sz n b o:Nat}{α:Type}{f:α->List Value}{L:List α}(h:Rd w sz (Option.some ⟨b,o,none⟩) n (L.flatMap f))(hf:∀x,(f x).length=sz){k:Nat}{x:α}(hk:L[k]?=Option.some x):At w b (o+k*sz) (f x):=by
 intro j v hj;have:=h.cell (yu hf L k x hk j v hj)
 rwa [<- Nat.add_assoc] at this
theorem Rd.count{w:World}{sz n:Nat}{a:Option Addr}{α:Type}{f:α->List Value}{L:List α}(h:Rd w sz a n (L.flatMap f))(hf:∀x,(f x).length=sz)(hs:0<sz):L.length=n:=by
 have:=h.1;rw[eT hf] at this;exact Nat.eq_of_mul_eq_mul_right hs this
structure bZ where
 T:Int
 V:Int
 deriving DecidableEq
def bZ.cells(s:bZ):List Value:=[.iz s.T,.int .u64 s.V]
abbrev aW(L:List bZ):List Value:=L.flatMap bZ.cells
theorem jt(s:bZ):s.cells.length=2:=rfl
theorem jm(L:List bZ):∀u∈aW L,u.oneCell'=true:=by
 intro u hu;simp only[Xk,bZ.cells,Up,Zb,or_false] at hu;obtain⟨s,_,rfl|rfl⟩:=hu <;> rfl
structure gP where
 bB:Int
 tag:Int
 count:Int
 lX:Int
 upto:Int
 deriving DecidableEq
def gP.cells(p:gP):List Value:=[.iz p.bB,.iz p.tag,.iz p.count,.iz p.lX,.iz p.upto]
abbrev dP(L:List gP):List Value:=L.flatMap gP.cells
theorem v8(s:gP):s.cells.length=5:=rfl
theorem uu(L:List gP):∀u∈dP L,u.oneCell'=true:=by
 intro u hu;simp only[Xk,gP.cells,Up,Zb,or_false] at hu;obtain⟨s,_,rfl|rfl|rfl|rfl|rfl⟩:=hu <;> rfl
end
section
def rS(x k:Nat):List Nat->List UInt8
 |[]=>cS k++cS x
 |y::r=>if y=x then rS x (k+1) r else cS k++(cS x++rS y 1 r)
def eP:List Nat->List UInt8
 |[]=>[]
 |x::r=>rS x 1 r
def lead(x:Nat):List Nat->Nat
 |[]=>0
 |y::r=>if y=x then lead x r+1 else 0
theorem io(x:Nat):∀l:List Nat,lead x l<=l.length
 |[]=>Ug _
 |y::r=>by
  rw[lead];split
  ·have:=io x r;rw[Uj];omega
  ·exact Uf _
theorem Bx(x:Nat):∀(l:List Nat) (k:Nat),rS x k l=cS (k+lead x l)++(cS x++eP (l.drop (lead x l)))
 |[],k=>by simp[rS,lead,eP]
 |y::r,k=>by
  rw[rS,lead];split
  ·rename_i h
   rw[Bx x r (k+1),Wg];congr 2;omega
  ·rfl
theorem Af(x:Nat)(r:List Nat):eP (x::r)=cS (1+lead x r)++(cS x++eP (r.drop (lead x r))):=Bx x r 1
theorem dj(x:Nat):∀l:List Nat,List.replicate (lead x l) x++l.drop (lead x l)=l
 |[]=>rfl
 |y::r=>by
  rw[lead];split
  ·rename_i h;rw[Zp,Wg,Wo,dj x r,h]
  ·rfl
theorem sf(x:Nat):∀l:List Nat,(l.drop (lead x l)).head?≠some x
 |[]=>by simp[lead]
 |y::r=>by
  rw[lead];split
  ·rw[Wg];exact sf x r
  ·rename_i h;simpa using h
def rT:Nat->List UInt8->Nat->Option Nat->Option (List Nat)
 |_,[],room,_=>if room=0 then some [] else none
 |0,_::_,_,_=>none
 |f+1,c::b,room,last=>
  if(dX (c::b)).2=0∨(dX ((c::b).drop (dX (c::b)).2)).2=0∨(dX (c::b)).1=0∨room<(dX (c::b)).1∨last=some (dX ((c::b).drop (dX (c::b)).2)).1 then none
  else(rT f ((c::b).drop ((dX (c::b)).2+(dX ((c::b).drop (dX (c::b)).2)).2)) (room-(dX (c::b)).1) (some (dX ((c::b).drop (dX (c::b)).2)).1)).map fun r=>List.replicate (dX (c::b)).1 (dX ((c::b).drop (dX (c::b)).2)).1++r
def Du(b:List UInt8)(n:Nat):Option (List Nat):=rT b.length b n none
theorem qB:∀(m:Nat) (v:List Nat) (last:Option Nat),v.length<=m->v.length<18446744073709551616->(∀x∈v,x<18446744073709551616)->(v.head?≠last∨last=none)->∀f,(eP v).length<=f->rT f (eP v) v.length last=some v
 |m,[],last,_,_,_,_,f,_=>by cases f <;> rfl
 |0,_::_,_,h,_,_,_,_,_=>by simp at h
 |m+1,x::r,last,hm,hl,hv,hh,f,hf=>by
  have hx:=hv x (Ud ..);have hle:=io x r;rw[Uj] at hl hm;have hk:1+lead x r<18446744073709551616:=by omega
  have e:=Af x r;have h1:dX (eP (x::r))=(1+lead x r,(cS (1+lead x r)).length):=by rw[e];exact vd hk _
  have h2:(eP (x::r)).drop (cS (1+lead x r)).length=cS x++eP (r.drop (lead x r)):=by rw[e];simp
  have h3:dX (cS x++eP (r.drop (lead x r)))=(x,(cS x).length):=vd hx _;have h4:(eP (x::r)).drop ((cS (1+lead x r)).length+(cS x).length)=eP (r.drop (lead x r)):=by rw[<- List.drop_drop,h2];simp
  have p1:=jd (1+lead x r);have p2:=jd x;have hlen:(eP (x::r)).length=(cS (1+lead x r)).length+((cS x).length+(eP (r.drop (lead x r))).length):=by rw[e];simp
  generalize hE:eP (x::r)=E at *;cases f with
  |zero=>omega
  |succ f=>
   cases E with
   |nil=>simp at hlen;omega
   |cons c b=>
    rw[rT,h1];dsimp only;rw[h2,h3];dsimp only
    rw[if_neg,h4,Uj,show r.length+1-(1+lead x r)=(r.drop (lead x r)).length by rw[Um];omega,
     qB m (r.drop (lead x r)) (some x) KU KU (fun y hy=>hv y (Uh _ (Wv hy))) (.inl (sf x r)) f O0]
    ·show some (List.replicate (1+lead x r) x++_)=_;rw[Wy,Zp,Wo,dj]
    ·rintro(h|h|h|h|h)
     ·omega
     ·omega
     ·omega
     ·rw[Uj] at h;omega
     ·rcases hh with hh|hh
      ·exact hh (by rw[h];rfl)
      ·rw[hh] at h;cases h
theorem Ah{v:List Nat}(hl:v.length<18446744073709551616)(hv:∀x∈v,x<18446744073709551616):Du (eP v) v.length=some v:=
 qB _ v none (Ug _) hl hv (.inr rfl) _ (Ug _)
def getAll:Nat->Nat->RS->Option (List Nat)
 |0,_,_=>some []
 |k+1,wide,s=>if(s.get wide).2.bad=true then none else(getAll k wide (s.get wide).2).map fun r=>(s.get wide).1::r
theorem oR(wide:Nat)(r:List Bool):∀vs:List Nat,(∀v∈vs,v<2^wide)->getAll vs.length wide ⟨vs.flatMap (fun x=>bitsOf x wide)++r,false⟩=some vs
 |[],_=>rfl
 |v::vs,h=>by
  rw[Ui,Uo,Uj,getAll,RS.kM,Un (h v (Ud ..))];dsimp only;rw[oR wide r vs fun x hx=>h x (Uh _ hx)];rfl
def bR(m:Nat):List Nat->Nat
 |[]=>m
 |x::r=>bR (min m x) r
def dL(m:Nat):List Nat->Nat
 |[]=>m
 |x::r=>dL (max m x) r
theorem pN:∀(l:List Nat) (m:Nat),bR m l<=m∧∀x∈l,bR m l<=x
 |[],m=>⟨Ug _,fun _ h=>by cases h⟩
 |y::r,m=>by
  obtain⟨h1,h2⟩:=pN r (min m y);refine⟨by rw[bR];omega,fun x hx=>?_⟩
  rw[bR];rcases Up.1 hx with rfl|hx
  ·omega
  ·exact h2 x hx
theorem tH:∀(l:List Nat) (m:Nat),m<=dL m l∧∀x∈l,x<=dL m l
 |[],m=>⟨Ug _,fun _ h=>by cases h⟩
 |y::r,m=>by
  obtain⟨h1,h2⟩:=tH r (max m y);refine⟨by rw[dL];omega,fun x hx=>?_⟩
  rw[dL];rcases Up.1 hx with rfl|hx
  ·omega
  ·exact h2 x hx
theorem D4:∀(l:List Nat) (m:Nat),m<18446744073709551616->bR m l<18446744073709551616
 |l,m,h=>Xh (pN l m).1 h
theorem tI:∀(l:List Nat) (m:Nat),m<18446744073709551616->(∀x∈l,x<18446744073709551616)->dL m l<18446744073709551616
 |[],m,h,_=>h
 |y::r,m,h,hl=>by
  rw[dL];have:=hl y (Ud ..);exact tI r _ O0 fun x hx=>hl x (Uh _ hx)
def iK:List Nat->List UInt8
 |[]=>[]
 |x::r=>cS (bR x r)++(UInt8.ofNat (cE (dL x r-bR x r))::pack ((x::r).flatMap fun y=>bitsOf (y-bR x r) (cE (dL x r-bR x r))))
def wF(b:List UInt8)(n:Nat):Option (List Nat):=
 if n=0 then(if b=[] then some [] else none)
 else if(dX b).2=0 then none else match b[(dX b).2]? with
  |none=>none
  |some c=>if 64<c.toNat then none else
   match getAll n c.toNat ⟨lB (b.drop ((dX b).2+1)),false⟩ with
   |none=>none
   |some l=>if iK (l.map fun x=>jR (dX b).1 x)=b then some (l.map fun x=>jR (dX b).1 x) else none
theorem yA{v:List Nat}(hv:∀x∈v,x<18446744073709551616):wF (iK v) v.length=some v:=by
 cases v with
 |nil=>rfl
 |cons x r=>
  have hx:=hv x (Ud ..);have hl:=D4 r x hx;have hg:=tI r x hx fun y hy=>hv y (Uh _ hy);have hw:cE (dL x r-bR x r)<=64:=lD O0
  have hmem:∀y∈x::r,bR x r<=y∧y<=dL x r:=by
   intro y hy;rcases Up.1 hy with rfl|hy
   ·exact⟨(pN r y).1,(tH r y).1⟩
   ·exact⟨(pN r x).2 y hy,(tH r x).2 y hy⟩
  have fM:=vd hl (UInt8.ofNat (cE (dL x r-bR x r))::pack ((x::r).flatMap fun y=>bitsOf (y-bR x r) (cE (dL x r-bR x r))));have hp:=jd (bR x r);have hE:iK (x::r)=cS (bR x r)++(UInt8.ofNat (cE (dL x r-bR x r))::pack ((x::r).flatMap fun y=>bitsOf (y-bR x r) (cE (dL x r-bR x r)))):=rfl;rw[<- hE] at fM;have h1:(iK (x::r))[(cS (bR x r)).length]?=some (UInt8.ofNat (cE (dL x r-bR x r))):=by rw[hE,Wt (Ug _)];simp
  have h2:(iK (x::r)).drop ((cS (bR x r)).length+1)=pack ((x::r).flatMap fun y=>bitsOf (y-bR x r) (cE (dL x r-bR x r))):=by
   rw[hE,<- List.drop_drop,Kg];rfl
  have hc:(UInt8.ofNat (cE (dL x r-bR x r))).toNat=cE (dL x r-bR x r):=by rw[UInt8.toNat_ofNat',Un O0]
  unfold wF;rw[if_neg O7,fM];dsimp only;rw[if_neg O0,h1];dsimp only;rw[hc,if_neg O0,h2,nL]
  have NH:getAll (x::r).length (cE (dL x r-bR x r)) ⟨((x::r).flatMap fun y=>bitsOf (y-bR x r) (cE (dL x r-bR x r)))++List.replicate (8*((((x::r).flatMap fun y=>bitsOf (y-bR x r) (cE (dL x r-bR x r))).length+7) / 8)-((x::r).flatMap fun y=>bitsOf (y-bR x r) (cE (dL x r-bR x r))).length) false,false⟩=some ((x::r).map fun y=>y-bR x r):=by
   have:=oR (cE (dL x r-bR x r)) (List.replicate (8*((((x::r).flatMap fun y=>bitsOf (y-bR x r) (cE (dL x r-bR x r))).length+7) / 8)-((x::r).flatMap fun y=>bitsOf (y-bR x r) (cE (dL x r-bR x r))).length) false) ((x::r).map fun y=>y-bR x r) (by
    intro z hz;obtain⟨y,hy,rfl⟩:=Va.1 hz;obtain⟨m1,m2⟩:=hmem y hy
    exact Xh (by omega:y-bR x r<=dL x r-bR x r) (wC _))
   rw[List.flatMap_map,Vf] at this;exact this
  rw[NH];dsimp only
  have wG:((x::r).map fun y=>y-bR x r).map (fun z=>jR (bR x r) z)=x::r:=by
   rw[List.map_map]
   conv=>rhs;rw[<- List.map_id (x::r)]
   apply List.map_congr_left;intro y hy;obtain⟨m1,m2⟩:=hmem y hy;show jR (bR x r) (y-bR x r)=y;unfold jR;omega
  rw[wG,if_pos rfl]
def nO(l:List Nat):List Nat->Option (List Nat)
 |[]=>some l
 |x::r=>if x∈l then nO l r else if l.length=256 then none else nO (l++[x]) r
theorem kN:∀(v l m:List Nat),nO l v=some m->l.length<=256->(∃t,m=l++t)∧(∀x∈v,x∈m)∧m.length<=256∧(∀x∈m,x∈l∨x∈v)
 |[],l,m,h,hl=>by cases h;exact⟨⟨[],by simp⟩,(fun _ h=>by cases h),hl,fun _ h=>.inl h⟩
 |y::r,l,m,h,hl=>by
  rw[nO] at h;split at h
  ·rename_i hy
   obtain⟨⟨t,h1⟩,h2,h3,h4⟩:=kN r l m h hl;refine⟨⟨t,h1⟩,fun x hx=>?_,h3,fun x hx=>(h4 x hx).imp id (Uh _)⟩;rcases Up.1 hx with rfl|hx
   ·rw[h1];exact List.mem_append_left _ hy
   ·exact h2 x hx
  ·split at h
   ·cases h
   ·obtain⟨⟨t,h1⟩,h2,h3,h4⟩:=kN r (l++[y]) m h O5;refine⟨⟨y::t,by rw[h1];simp⟩,fun x hx=>?_,h3,fun x hx=>?_⟩
    ·rcases Up.1 hx with rfl|hx
     ·rw[h1];simp
     ·exact h2 x hx
    ·rcases h4 x hx with h|h
     ·rcases Vc.1 h with h|h
      ·exact .inl h
      ·simp at h;subst h;exact .inr (Ud ..)
     ·exact .inr (Uh _ h)
def nB(l v:List Nat):List UInt8:=cS l.length++(l.flatMap cS++pack (v.flatMap fun x=>bitsOf (l.idxOf x) (cE (l.length-1))))
def pO(v:List Nat):Option (List UInt8):=match nO [] v with
 |none=>none
 |some l=>if v=[] then some [] else some (nB l v)
def qC:Nat->List UInt8->Option (List Nat×List UInt8)
 |0,b=>some ([],b)
 |k+1,b=>if(dX b).2=0 then none else(qC k (b.drop (dX b).2)).map fun r=>((dX b).1::r.1,r.2)
theorem qP(r:List UInt8):∀l:List Nat,(∀x∈l,x<18446744073709551616)->qC l.length (l.flatMap cS++r)=some (l,r)
 |[],_=>rfl
 |x::l,h=>by
  have hg:=vd (h x (Ud ..)) (l.flatMap cS++r);have hp:=jd x;rw[Ui,Uo,Uj,qC,hg];dsimp only;rw[if_neg O0,Kg,qP r l fun y hy=>h y (Uh _ hy)];rfl
def vH(l:List Nat):List Nat->Option (List Nat)
 |[]=>some []
 |a::r=>match l[a]? with
  |none=>none
  |some x=>(vH l r).map fun y=>x::y
def Ai(b:List UInt8)(n:Nat):Option (List Nat):=
 if n=0 then(if b=[] then some [] else none)
 else if(dX b).2=0∨(dX b).1=0∨256<(dX b).1 then none
 else match qC (dX b).1 (b.drop (dX b).2) with
  |none=>none
  |some (l,rest)=>match getAll n (cE (l.length-1)) ⟨lB rest,false⟩ with
   |none=>none
   |some at_=>match vH l at_ with
    |none=>none
    |some out=>if pO out=some b then some out else none
theorem rU{l:List Nat}:∀v:List Nat,(∀x∈v,x∈l)->vH l (v.map fun x=>l.idxOf x)=some v
 |[],_=>rfl
 |x::v,h=>by
  have hx:=h x (Ud ..)
  have h1:l[l.idxOf x]?=some x:=by
   rw[Ub (List.idxOf_lt_length_iff.2 hx),List.getElem_idxOf]
  rw[Uy,vH,h1];dsimp only;rw[rU v fun y hy=>h y (Uh _ hy)];rfl
theorem Aj{v:List Nat}{b:List UInt8}(hv:∀x∈v,x<18446744073709551616)(h:pO v=some b):Ai b v.length=some v:=by
 have h0:=h;unfold pO at h;cases hu:nO [] v with
 |none=>rw[hu] at h;cases h
 |some l=>
  rw[hu] at h;dsimp only at h;by_cases hn:v=[]
  ·rw[if_pos hn] at h;cases h;subst hn;rfl
  ·rw[if_neg hn] at h;cases h
   obtain⟨_,h2,h3,h4⟩:=kN v [] l hu O7
   have hl:∀x∈l,x<18446744073709551616:=fun x hx=>by
    rcases h4 x hx with h|h
    ·cases h
    ·exact hv x h
   have hpos:0<v.length:=Vy.2 hn
   have XS:0<l.length:=by
    cases v with
    |nil=>exact absurd rfl hn
    |cons x r=>exact List.length_pos_of_mem (h2 x (Ud ..))
   have hg:=vd (show l.length<18446744073709551616 by omega) (l.flatMap cS++pack (v.flatMap fun x=>bitsOf (l.idxOf x) (cE (l.length-1))))
   have hp:=jd l.length;unfold Ai;rw[if_neg O0,show dX (nB l v)=_ from hg];dsimp only;rw[if_neg O0,show(nB l v).drop (cS l.length).length=_ from Kg,qP _ l hl];dsimp only;rw[nL]
   have NH:=oR (cE (l.length-1)) (List.replicate (8*(((v.flatMap fun x=>bitsOf (l.idxOf x) (cE (l.length-1))).length+7) / 8)-(v.flatMap fun x=>bitsOf (l.idxOf x) (cE (l.length-1))).length) false) (v.map fun x=>l.idxOf x) (by
    intro z hz;obtain⟨y,hy,rfl⟩:=Va.1 hz;have:=List.idxOf_lt_length_iff.2 (h2 y hy)
    exact Xh (by omega:l.idxOf y<=l.length-1) (wC _))
   rw[List.flatMap_map,Vf] at NH;rw[NH];dsimp only;rw[rU v h2];dsimp only;rw[if_pos h0]
end
section
def uT(u:Nat):Nat:=if u<9223372036854775808 then 2*u else 36893488147419103231-2*u
def eX(u:Nat):Nat:=if u%2=0 then u / 2 else 18446744073709551615-u / 2
theorem G7{u:Nat}(h:u<18446744073709551616):uT u<18446744073709551616:=by unfold uT;split <;> omega
theorem ii{u:Nat}(h:u<18446744073709551616):eX (uT u)=u:=by
 unfold uT;split
 ·unfold eX;rw[if_pos O0];omega
 ·unfold eX;rw[if_neg O0];omega
def qQ(was:Nat):List Nat->List Nat
 |[]=>[]
 |x::r=>uT (diff x was)::qQ x r
def Dv(was:Nat):List Nat->List Nat
 |[]=>[]
 |x::r=>jR was (eX x)::Dv (jR was (eX x)) r
theorem dg:∀(v:List Nat) (was:Nat),was<18446744073709551616->(∀x∈v,x<18446744073709551616)->Dv was (qQ was v)=v
 |[],_,_,_=>rfl
 |x::r,was,hw,h=>by
  have hx:=h x (Ud ..)
  have e:jR was (eX (uT (diff x was)))=x:=by
   rw[ii (Vw _ O2)];unfold jR;omega
  rw[qQ,Dv,e,dg r x hx fun y hy=>h y (Uh _ hy)]
theorem qR:∀(v:List Nat) (was:Nat),(qQ was v).length=v.length
 |[],_=>rfl
 |x::r,was=>by simp[qQ,qR r x]
def OY(x:Nat):List UInt8:=[UInt8.ofNat (x / 2^56),UInt8.ofNat (x / 2^48),UInt8.ofNat (x / 2^40),UInt8.ofNat (x / 2^32),UInt8.ofNat (x / 2^24),UInt8.ofNat (x / 2^16),UInt8.ofNat (x / 2^8),UInt8.ofNat x]
def wH(w:List Nat):List UInt8:=w.flatMap OY
def iL(x k:Nat):List UInt8->List Nat
 |[]=>if k=0 then[] else[x]
 |c::r=>if k=8 then x::iL c.toNat 1 r else iL ((x*256+c.toNat)%18446744073709551616) (k+1) r
def Fp:List UInt8->List Nat
 |[]=>[]
 |c::r=>iL c.toNat 1 r
theorem uD:∀w:List Nat,(∀x∈w,x<18446744073709551616)->Fp (wH w)=w∧∀x,iL x 8 (wH w)=x::w
 |[],_=>⟨rfl,fun _=>rfl⟩
 |x::w,h=>by
  have hx:=h x (Ud ..);obtain⟨_,ih⟩:=uD w fun y hy=>h y (Uh _ hy);have e:wH (x::w)=OY x++wH w:=rfl
  have key:iL (UInt8.ofNat (x / 2^56)).toNat 1 (UInt8.ofNat (x / 2^48)::UInt8.ofNat (x / 2^40)::UInt8.ofNat (x / 2^32)::UInt8.ofNat (x / 2^24)::UInt8.ofNat (x / 2^16)::UInt8.ofNat (x / 2^8)::UInt8.ofNat x::wH w)=x::w:=by
   rw[iL,if_neg O2,iL,if_neg O2,iL,if_neg O2,iL,if_neg O2,iL,if_neg O2,iL,if_neg O2,iL,if_neg O2];rw[UInt8.toNat_ofNat',UInt8.toNat_ofNat',UInt8.toNat_ofNat',UInt8.toNat_ofNat',UInt8.toNat_ofNat',UInt8.toNat_ofNat',UInt8.toNat_ofNat',UInt8.toNat_ofNat']
   have e2:(((((((x / 2^56%2^8*256+x / 2^48%2^8)%18446744073709551616*256+x / 2^40%2^8)%18446744073709551616*256+x / 2^32%2^8)%18446744073709551616*256+x / 2^24%2^8)%18446744073709551616*256+x / 2^16%2^8)%18446744073709551616*256+x / 2^8%2^8)%18446744073709551616*256+x%2^8)%18446744073709551616=x:=by
    simp only[Nat.reducePow];omega
   rw[e2];exact ih x
  refine⟨?_,fun y=>?_⟩
  ·rw[e];exact key
  ·rw[e];show iL y 8 (UInt8.ofNat (x / 2^56)::_)=_;rw[iL,if_pos rfl];congr 1
theorem By(w:List Nat):(wH w).length=8*w.length:=by
 induction w with
 |nil=>rfl
 |cons x w ih=>
  show(OY x++wH w).length=_;rw[Ua,ih,Uj];show 8+_=_;omega
def Ak:List Nat->Option (List UInt8)
 |[]=>some []
 |x::r=>if r.all (fun y=>decide (y=x))=true then some (cS x) else none
def cQ(tag:Int)(v:List Nat):Option (List UInt8):=
 if tag=1 then some (pack (eA v)) else if tag=2 then(gK (qQ 0 v)).map wH else if tag=3 then some (eP v) else if tag=4 then some (iK v)
 else if tag=5 then pO v else if tag=6 then Ak v else none
def kT(tag:Int)(b:List UInt8)(n:Nat):Option (List Nat):=
 if tag=1 then lE n ⟨lB b,false⟩ else if tag=2 then(if b.length%8=0 then(Ab (Fp b) n).map (Dv 0) else none) else if tag=3 then Du b n else if tag=4 then wF b n
 else if tag=5 then Ai b n else if tag=6 then some (List.replicate n (dX b).1) else none
def bG(l:List bZ):List Int:=l.map bZ.T
def cK(l:List bZ):List Nat:=l.map fun s=>s.V.toNat
def bZ.Wf(s:bZ):Prop:=rM s.T∧0<=s.V∧s.V<18446744073709551616
def mN(t:Int):List bZ->Bool
 |[]=>true
 |s::r=>decide (t<s.T)&&mN s.T r
def lF:List bZ->Bool
 |[]=>true
 |s::r=>mN s.T r
def rising(l:List bZ):Bool:=lF l&&decide (l.length<=65535)
def dY(l:List bZ)(b:List UInt8):List UInt8:=cS (pack (bX (bG l))).length++(pack (bX (bG l))++b)
def cU(tag:Int)(l:List bZ):Option (List UInt8):=if rising l=true then(cQ tag (cK l)).map (dY l) else none
def gL:List Int->List Nat->List bZ
 |t::ts,v::vs=>⟨t,v⟩::gL ts vs
 |_,_=>[]
def cY(tag:Int)(b:List UInt8)(n:Int):Option (List bZ):=
 if(dX b).2=0∨n<0∨65535<n∨b.length-(dX b).2<(dX b).1 then none
 else match dU n.toNat ⟨lB ((b.drop (dX b).2).take (dX b).1),false⟩,kT tag (b.drop ((dX b).2+(dX b).1)) n.toNat with
  |some x,some v=>if cU tag (gL x.1 v)=some b then some (gL x.1 v) else none
  |_,_=>none
theorem Dw:∀l:List bZ,(∀s∈l,s.Wf)->gL (bG l) (cK l)=l
 |[],_=>rfl
 |s::l,h=>by
  obtain⟨_,h1,_⟩:=h s (Ud ..);have ih:=Dw l fun x hx=>h x (Uh _ hx);show(⟨s.T,(s.V.toNat:Int)⟩:bZ)::gL (bG l) (cK l)=_;rw[ih,Zo h1]
theorem wJ{tag:Int}{v:List Nat}{b:List UInt8}(hl:v.length<18446744073709551616)(hv:∀x∈v,x<18446744073709551616)(h:cQ tag v=some b):kT tag b v.length=some v:=by
 unfold cQ at h;unfold kT
 repeat' split at h
 ·cases h;rw[if_pos ‹_›,nL];exact Bu v hv _
 ·rw[if_neg ‹_›,if_pos ‹_›];obtain⟨ws,h1,rfl⟩:=Ve.1 h;obtain⟨_,h3⟩:=mM _ _ ws (Ug _) h1;rw[if_pos (by rw[By];omega),(uD ws h3).1]
  have h4:=Ae h1;rw[qR] at h4;rw[h4,Ww,dg v 0 O2 hv]
 ·cases h;rw[if_neg ‹_›,if_neg ‹_›,if_pos ‹_›];exact Ah hl hv
 ·cases h;rw[if_neg ‹_›,if_neg ‹_›,if_neg ‹_›,if_pos ‹_›];exact yA hv
 ·rw[if_neg ‹_›,if_neg ‹_›,if_neg ‹_›,if_neg ‹_›,if_pos ‹_›];exact Aj hv h
 ·rw[if_neg ‹_›,if_neg ‹_›,if_neg ‹_›,if_neg ‹_›,if_neg ‹_›,if_pos ‹_›];cases v with
  |nil=>rfl
  |cons x r=>
   rw[Ak] at h;split at h
   ·rename_i hall
    cases h
    have:=vd (hv x (Ud ..)) [];rw[Ux] at this;rw[this];congr 1;apply List.ext_getElem O7;intro i h1 h2;rw[List.getElem_replicate];cases i with
    |zero=>rfl
    |succ i=>
     rw[List.getElem_cons_succ];have:=Wx.1 hall (r[i]'(by simpa using h2)) (Zq _)
     exact(by simpa using this:r[i]'(by simpa using h2)=x).symm
   ·cases h
 ·cases h
theorem Al{tag:Int}{l:List bZ}{b:List UInt8}(hw:∀s∈l,s.Wf)(hb:b.length<18446744073709551616)(h:cU tag l=some b):cY tag b l.length=some l:=by
 have h0:=h;unfold cU at h;split at h
 ·rename_i hr
  obtain⟨x,h1,rfl⟩:=Ve.1 h
  have hlen:l.length<=65535:=by
   unfold rising at hr;simp only[Ur,decide_eq_true_eq] at hr;exact hr.2
  have ht:∀t∈bG l,rM t:=by
   intro t ht;obtain⟨s,hs,rfl⟩:=Va.1 ht;exact(hw s hs).1
  have hv:∀v∈cK l,v<18446744073709551616:=by
   intro t ht;obtain⟨s,hs,rfl⟩:=Va.1 ht;obtain⟨_,h2,h3⟩:=hw s hs;omega
  have hvl:(cK l).length=l.length:=by simp[cK]
  have Am:(bG l).length=l.length:=by simp[bG]
  have H8:(dY l x).length=(cS (pack (bX (bG l))).length).length+((pack (bX (bG l))).length+x.length):=by simp[dY]
  have hg:dX (dY l x)=_:=vd (show(pack (bX (bG l))).length<18446744073709551616 by omega) (pack (bX (bG l))++x)
  have hp:=jd (pack (bX (bG l))).length;have yB:(dY l x).drop (cS (pack (bX (bG l))).length).length=pack (bX (bG l))++x:=Kg;have hd2:(dY l x).drop ((cS (pack (bX (bG l))).length).length+(pack (bX (bG l))).length)=x:=by rw[<- List.drop_drop,yB,Kg]
  unfold cY;rw[hg];dsimp only;rw[if_neg O0,yB,Kh,hd2,Zz,nL];have e1:=xZ (bG l) ht (List.replicate (8*(((bX (bG l)).length+7) / 8)-(bX (bG l)).length) false);rw[Am] at e1;have e2:=wJ (by rw[hvl];omega) hv h1
  rw[hvl] at e2;rw[e1,e2];dsimp only;rw[Dw l hw,if_pos h0]
 ·cases h
end
end Go.Hw
namespace Go.Proofs.YtngdfdangkdgcaaGreatDoor
open Go.Hw _root_.Go.Proofs.Tryz
section
abbrev gI(a:Option Addr)(c:Nat)(bs:List UInt8):aC:=eW 5 1 a bs.length c (aY bs)
section
variable{w0 w:World}{l:List aC}
theorem un{sl:Option Addr}{c:Nat}{bs:List UInt8}(h:St w0 l w)(hr:∀w',St w0 l w'->Rd w' 1 sl bs.length (aY bs))(hn:bs.length<=140737488355328):bP prog 149 [.slice sl bs.length c] w fun v w'=>∃a c',v=.slice a bs.length c'∧St w0 (gI a c' bs::l) w':=by
 refine en func149 results149 ntmps149 ?_;refine GP ?_;refine Yd ?_;refine aD (ur rfl rfl) rfl ?_;refine qv (qo sl.isNone rfl (fun hs=>?_) (fun hs=>?_))
 ·refine xV ?_;obtain rfl:sl=none:=by simpa using hs
  have h2:=hr w h;obtain⟨h3,h4⟩:=h2;have h5:bs.length=0:=by rcases h4 with h|⟨b,o,h,_⟩;exact h;cases h
  obtain rfl:bs=[]:=Uq h5;exact qv (qk (bQ ⟨none,0,rfl,St.aZ _ _ h⟩))
 ·refine Yu ?_;refine Y1 ?_;refine aF rfl (jq (r:=[]) h rfl rfl rfl fun b w h=>?_);refine Yp ?_;have h1:St w0 (eW 5 1 (sQ b) 0 0 []::l) w:=St.iH (cur:=[]) h rfl rfl (Ug _);refine aF rfl (ql (zs:=aY bs) (m3:=bs.length) h1 rfl rfl (hr w h1.drop) (fU _) O0 (Us _) O0 O0 rfl fun a c' w hn h=>?_);refine Yo ?_;exact qv (qk (bQ ⟨a,c',rfl,h⟩))
theorem f9{a:Option Addr}{c n:Nat}{xs:List Value}(h:St w0 (eW 5 1 a n c xs::l) w):bP prog 180 [.slice a n c] w fun v w'=>v=.slice a n n∧St w0 (eW 5 1 a n n xs::l) w':=by
 have hc:=h.bT.2.1;refine en func180 results180 ntmps180 ?_;refine Bl ?_;refine Yd ?_;refine sV ?_;refine sV ?_;refine aD (xx rfl rfl rfl (Ug _) hc) rfl ?_;refine Yz ?_;exact qk (bQ ⟨rfl,h.mY⟩)
theorem dv{p:Nat}{bs:List Bool}(h:St w0 (mL p bs::l) w)(hn:bs.length<=70368744177664):bP prog 179 [.pz p] w fun v w'=>∃a c,v=.slice a (pack bs).length c∧St w0 (gI a c (pack bs)::mL p bs::l) w':=by
 obtain⟨a,c,h⟩:=St.bw.1 h;rw[<- j9] at h;refine en func179 results179 ntmps179 ?_;refine Bl ?_;refine Y7 ?_;refine aD (qq rfl (h.b 0) rfl) rfl ?_;refine aF rfl (qg rfl (un (bs:=pack bs) h (fun w' h'=>(h'.f 1).bU) (by rw[j9];omega)) ?_)
 rintro _ w ⟨a',c',rfl,h⟩;refine Yz ?_;refine qk (bQ ⟨a',c',rfl,?_⟩);rw[j9] at h;exact((St.bw.2 ⟨a,c,(h.f 2).f 2⟩).f 1)
theorem SL:∀x:Nat,x<256->x ||| 128=x%128+128:=by decide
theorem z8{sl:Option Addr}{c:Nat}{bs:List UInt8}(u:Nat)(hu:u<18446744073709551616)(h:St w0 l w)(hr:∀w',St w0 l w'->Rd w' 1 sl bs.length (aY bs))(hn:bs.length<=70368744177664):
  bP prog 161 [.slice sl bs.length c,.int .u64 u] w fun v w'=>∃a c',v=.slice a (bs++cS u).length c'∧St w0 (gI a c' (bs++cS u)::l) w':=by
 refine en func161 results161 ntmps161 ?_;refine Bl ?_;refine Yd ?_;refine aF rfl (qg rfl (un h hr O0) ?_);rintro _ w ⟨a,c1,rfl,h⟩;refine aF rfl (qg rfl (f9 h) ?_);rintro _ w ⟨rfl,h⟩;refine Yz ?_
 refine qf (Γ:=Nat×List UInt8×Option Addr×Nat) (fun k=>[(1,.int .u64 k.1),(5,.slice k.2.2.1 k.2.1.length k.2.2.2)])
  (fun k w=>k.1<128∧k.2.1++cS k.1=bs++cS u∧St w0 (gI k.2.2.1 k.2.2.2 k.2.1::l) w) ?_ ?_
 ·refine Yg ?_
  refine jy (Γ:=Nat×List UInt8×Option Addr×Nat) (fun k=>[(1,.int .u64 k.1),(5,.slice k.2.2.1 k.2.1.length k.2.2.2)])
   (fun k w=>k.1<18446744073709551616∧k.2.1++cS k.1=bs++cS u∧St w0 (gI k.2.2.1 k.2.2.2 k.2.1::l) w) (fun k=>k.1) (u,bs,a,bs.length) gS ⟨hu,rfl,h⟩ ?_
  clear h hu;rintro⟨u',out,a,c⟩ w e ⟨hu,he,h⟩;dsimp only at hu he h ⊢
  have hlen:out.length<=bs.length+10:=by
   have h1:=congrArg List.length he;have h2:=jd u;have h3:=jd u';simp only[Ua] at h1;omega
  refine vT ?_;refine tX ?_;refine qv (qo (decide ((u':Int) ≥ 128)) rfl (fun hc=>?_) (fun hc=>?_))
  ·
   have hge:128<=u':=by simp at hc;omega
   refine DW ?_;refine Ow ?_;refine qJ ?_;refine qz (.int .u8 ((u'%256:Nat):Int)) (by rw[um]) ?_
   refine aD (E1 rfl rfl) rfl ?_
   refine qz (.int .u8 ((UInt8.ofNat (u'%128+128)).toNat:Int)) (by
    rw[show eS .or .u8 ((u'%256:Nat):Int) 128=((u'%256 ||| 128:Nat):Int) from(w9 (Vw _ O2) O2).2.1,SL _ (Vw _ O2),UInt8.toNat_ofNat',show u'%256%128+128=(u'%128+128)%2^8 by simp only[Nat.reducePow];omega]) ?_
   refine aF rfl (jq (r:=aY [UInt8.ofNat (u'%128+128)]) h rfl rfl rfl fun b w h=>?_);refine aF rfl (ql (ys:=aY [UInt8.ofNat (u'%128+128)]) (zs:=aY (out++[UInt8.ofNat (u'%128+128)])) (m3:=(out++[UInt8.ofNat (u'%128+128)]).length) (h.f 1) rfl rfl ⟨rfl,.inr ⟨b,0,rfl,qw (h.b 0 rfl) rfl⟩⟩ (fU _) O7 (by simp[aY]) O5 O5 rfl fun a' c' w _ h=>?_)
   refine Yz ?_;refine AT ?_;refine aD (q9 (v':=.int .u64 ((u' / 128:Nat):Int)) (j2 rfl rfl O0) (congrArg (Value.int .u64) (j3 u' 7 64 O2))) rfl ?_;refine Y4 ?_;refine qv ⟨(u' / 128,out++[UInt8.ofNat (u'%128+128)],a',c'),gS,⟨gH,?_,(h.f 1).drop⟩,gH⟩;rw[<- he,ib O0 hu,Uo];rfl
  exact ju ⟨(u',out,a,c),gS,by simp at hc;dsimp only;omega,he,h⟩
 clear h hu;rintro⟨u',out,a,c⟩ w e ⟨hu,he,h⟩;dsimp only at hu he h ⊢;rw[iw hu] at he
 have hlen:out.length<=bs.length+10:=by
  have h1:=congrArg List.length he;have h2:=jd u;simp only[Ua,Zg] at h1;omega
 refine EJ ?_;refine qJ ?_;refine qz (.int .u8 ((UInt8.ofNat u').toNat:Int)) Lt ?_;refine aF rfl (jq (r:=aY [UInt8.ofNat u']) h rfl rfl rfl fun b w h=>?_);refine aF rfl (ql (ys:=aY [UInt8.ofNat u']) (zs:=aY (bs++cS u)) (m3:=(bs++cS u).length) (h.f 1) rfl rfl ⟨rfl,.inr ⟨b,0,rfl,qw (h.b 0 rfl) rfl⟩⟩ (fU _) (by rw[<- he];simp) (by rw[<- he];simp[aY]) (by rw[<- he];simp;omega) (by rw[<- he];simp;omega) rfl fun a' c' w _ h=>?_)
 refine Yz ?_;exact qk (bQ ⟨a',c',rfl,(h.f 1).drop⟩)
theorem pf{sl:Option Addr}{c:Nat}{bs:List UInt8}(h:St w0 l w)(hr:∀w',St w0 l w'->Rd w' 1 sl bs.length (aY bs))(hn:bs.length<=140737488355328):
  bP prog 155 [.slice sl bs.length c] w fun v w'=>v=.tuple [.int .u64 ((dX bs).1:Nat),.iz ((dX bs).2:Nat)].toArray∧St w0 l w':=by
 refine en func155 results155 ntmps155 ?_;refine rC ?_;refine Y5 ?_;refine Yr ?_;refine LI ?_;refine DX ?_
 refine jy (Γ:=Nat×Nat) (fun k=>[(4,.int .u64 k.2),(7,.slice sl bs.length c),(8,.iz bs.length),(9,.iz k.1)])
  (fun k w=>k.1<=bs.length∧k.1<=10∧k.2<2^(7*k.1)∧iZ (bs.drop k.1) k.1 k.2=dX bs∧St w0 l w) (fun k=>bs.length-k.1) (0,0) iA ⟨Uf _,rD,rD,rfl,h⟩ ?_
 clear h;rintro⟨i,u⟩ w e ⟨hi,OZ,hu,hv,h⟩;dsimp only at hi OZ hu hv ⊢;refine Cj ?_;refine qi (qo (decide ((i:Int)<(bs.length:Int))) rfl (fun hc=>?_) (fun hc=>?_))
 ·
  have hin:i<bs.length:=by simp at hc;omega
  have hg:=Ub hin;have yB:=Vx hin;generalize bs[i]=x at hg yB;rw[yB,iZ] at hv;obtain⟨b,o,mW⟩:=(hr w h).some O0;have hx:=x.toNat_lt;refine DW ?_;refine Yb ?_;refine aD (jj (b:=b) (o:=o) (m:=bs.length) (c:=c) (o':=o+i) DQ rfl rfl hin O7) rfl ?_;refine aD (qr (v:=.int .u8 x.toNat) rfl ((mW▸hr w h).cell (jG hg))) rfl ?_;refine HP ?_
  refine qf (Γ:=Unit) (fun k=>[(4,.int .u64 u),(5,.iz i),(6,.int .u8 x.toNat),(7,.slice sl bs.length c),(8,.iz bs.length),(9,.iz i)])
   (fun k w=>i<=9∧(i=9->x.toNat<=1)∧iZ (bs.drop (i+1)) (i+1) (u+x.toNat%128*2^(7*i))=dX bs∧St w0 l w) ?_ ?_
  ·refine Yg ?_
   refine qf (Γ:=Bool) (fun k=>[(4,.int .u64 u),(5,.iz i),(6,.int .u8 x.toNat),(7,.slice sl bs.length c),(8,.iz bs.length),(9,.iz i),(14,.bool k)])
    (fun k w=>(k=true↔(i=10∨(i=9∧1<x.toNat)∨(0<i∧x.toNat=0)))∧St w0 l w) ?_ ?_
   ·refine AT ?_;refine Yi ?_;by_cases h10:i=10
    ·refine qz (.bool true) O5 ?_;refine DZ ?_;refine Ou ?_;refine Cs ?_;refine DZ ?_;refine Ou ?_;refine Cs ?_;refine Y3 ?_;exact qv ⟨true,yQ,⟨fun _=>.inl h10,fun _=>rfl⟩,h⟩
    ·refine qz (.bool false) O5 ?_;refine GU ?_;by_cases h9:i=9
     ·refine qz (.bool true) O5 ?_;refine Yf ?_;refine AU ?_;refine Cr ?_;by_cases h1:1<x.toNat
      ·refine qz (.bool true) O5 ?_;refine Yf ?_;refine Ye ?_;refine Y9 ?_;refine DZ ?_;refine Ou ?_;refine Cs ?_;refine Y3 ?_;exact qv ⟨true,yQ,⟨fun _=>.inr (.inl ⟨h9,h1⟩),fun _=>rfl⟩,h⟩
      ·refine qz (.bool false) O5 ?_;refine Yf ?_;refine Ye ?_;refine Y9 ?_;refine AU ?_;refine Cr ?_;refine qz (.bool true) O5 ?_;refine Yf ?_;refine GU ?_;by_cases h0:x.toNat=0
       ·refine qz (.bool true) (by rw[h0];rfl) ?_
        refine Yf ?_;refine Ye ?_;refine xM ?_;exact qv ⟨true,yQ,⟨fun _=>.inr (.inr ⟨cI,h0⟩),fun _=>rfl⟩,h⟩
       ·refine qz (.bool false) O6 ?_;refine Yf ?_;refine Ye ?_;refine xM ?_;exact qv ⟨false,yQ,⟨(fun h=>by cases h),(fun h=>by omega)⟩,h⟩
     ·refine qz (.bool false) O5 ?_;refine Yf ?_;refine yY ?_;refine Yf ?_;refine Y9 ?_;refine Y9 ?_;refine AU ?_;refine Cr ?_;by_cases hp:0<i
      ·refine qz (.bool true) O5 ?_;refine Yf ?_;refine GU ?_;by_cases h0:x.toNat=0
       ·refine qz (.bool true) (by rw[h0];rfl) ?_
        refine Yf ?_;refine Ye ?_;refine xM ?_;exact qv ⟨true,yQ,⟨fun _=>.inr (.inr ⟨cI,h0⟩),fun _=>rfl⟩,h⟩
       ·refine qz (.bool false) O6 ?_;refine Yf ?_;refine Ye ?_;refine xM ?_;exact qv ⟨false,yQ,⟨(fun h=>by cases h),(fun h=>by omega)⟩,h⟩
      ·refine qz (.bool false) O5 ?_;refine Yf ?_;refine yY ?_;refine Yf ?_;refine Y9 ?_;refine xM ?_;exact qv ⟨false,yQ,⟨(fun h=>by cases h),(fun h=>by omega)⟩,h⟩
   clear h;rintro k w e ⟨hk,h⟩;refine qo k rfl (fun hc=>?_) (fun hc=>?_)
   ·
    rw[if_pos (hk.1 hc)] at hv;refine rC ?_;refine Y5 ?_;exact qk (jQ ⟨by rw[<- hv];rfl,h⟩)
   ·
    have hnb:¬(i=10∨(i=9∧1<x.toNat)∨(0<i∧x.toNat=0)):=fun hb=>by rw[hk.2 hb] at hc;cases hc
    rw[if_neg hnb] at hv;have Q3:i<=9:=by omega
    have hb:x.toNat*2^(7*i)<18446744073709551616:=by
     rcases Zk i 9 with h2|h2
     ·have h3:(2:Nat)^(7*i)<=2^56:=Vm O2 O0;have h4:x.toNat*2^(7*i)<=255*2^56:=Ke O0 h3;omega
     ·obtain rfl:i=9:=by omega
      have h4:x.toNat*2^(7*9)<=1*2^(7*9):=Uv _ O0;have h5:(2:Nat)^(7*9)=9223372036854775808:=by decide
      omega
    have Jx:u<18446744073709551616:=Xt hu (by
     have:(2:Nat)^(7*i)<=2^64:=Vm O2 O0
     exact this)
    refine Cl ?_;refine Ya ?_;refine qo (decide ((x.toNat:Int)<128)) rfl (fun hc=>?_) (fun hc=>?_)
    ·
     rw[if_pos (by simp at hc;omega)] at hv
     refine Gk ?_;refine qJ ?_;refine qz (.int .u64 (x.toNat:Int)) KP ?_;refine Y0 ?_;refine LF ?_;refine qz (.iz ((7*i:Nat):Int)) O8 ?_;refine aD (q9 (v':=.int .u64 ((x.toNat*2^(7*i):Nat):Int)) (x8 rfl rfl O0) (by rw[km _ _ O0,Un hb])) rfl ?_
     refine aD (E1 rfl rfl) rfl ?_;refine qz (.int .u64 ((u+x.toNat*2^(7*i):Nat):Int)) (by rw[(v7 Jx hb).2.1,pp hu]) ?_
     refine Y0 ?_;refine tC ?_;refine qz (.iz ((i+1:Nat):Int)) O8 ?_;refine HP ?_;exact qk (jQ ⟨by rw[<- hv];rfl,h⟩)
    ·
     rw[if_neg (by simp at hc;omega)] at hv
     exact qa ⟨(),kX,Q3,cI,hv,h⟩
  clear h hv;rintro⟨⟩ w e ⟨Q3,hx1,hv,h⟩;have hm:x.toNat%128*2^(7*i)<=127*2^(7*i):=Uv _ O0;have h63:(2:Nat)^(7*i)<=2^63:=Vm O2 O0;have Jx:u<18446744073709551616:=by omega
  have hb:x.toNat%128*2^(7*i)<18446744073709551616:=by
   rcases Zk i 9 with h2|h2
   ·have h3:(2:Nat)^(7*i)<=2^56:=Vm O2 O0;omega
   ·obtain rfl:i=9:=by omega
    have h4:x.toNat%128*2^(7*9)<=1*2^(7*9):=Uv _ (by have:=hx1 rfl;omega)
    have h5:(2:Nat)^(7*9)=9223372036854775808:=by decide
    omega
  refine AT ?_;refine Y0 ?_;refine aD (gx rfl rfl) rfl ?_;refine qz (.int .u8 ((x.toNat%128:Nat):Int)) (by rw[show eS .and .u8 (x.toNat:Int) 127=((x.toNat &&& 127:Nat):Int) from(w9 hx O2).1,show x.toNat &&& 127=x.toNat%128 from SE x.toNat 7]) ?_
  refine qJ ?_;refine qz (.int .u64 ((x.toNat%128:Nat):Int)) KP ?_;refine Y0 ?_;refine LF ?_;refine qz (.iz ((7*i:Nat):Int)) O8 ?_;refine aD (q9 (v':=.int .u64 ((x.toNat%128*2^(7*i):Nat):Int)) (x8 rfl rfl O0) (by rw[km _ _ O0,Un hb])) rfl ?_
  refine aD (E1 rfl rfl) rfl ?_;refine qz (.int .u64 ((u+x.toNat%128*2^(7*i):Nat):Int)) (by rw[(v7 Jx hb).2.1,pp hu]) ?_
  refine Y5 ?_;refine Yw ?_;refine qz (.iz ((i+1:Nat):Int)) O8 ?_;refine Y0 ?_;refine qv ⟨(i+1,u+x.toNat%128*2^(7*i)),iA,⟨gH,gH,?_,hv,h⟩,gH⟩;have hp:(2:Nat)^(7*(i+1))=128*2^(7*i):=by rw[Nat.mul_add,Za,Wm]
  dsimp only;rw[hp];omega
 have hin:i=bs.length:=by simp at hc;omega
 rw[hin,Km,iZ] at hv;refine ju ?_;refine rC ?_;refine Y5 ?_;exact qk (jQ ⟨by rw[<- hv];rfl,h⟩)
end
end
section
section
variable{w0 w:World}{l:List aC}
theorem po{t:Int}(ht:rM t)(h:St w0 l w):bP prog 162 [.iz t] w fun v w'=>v=.int .u64 (uT (us t):Nat)∧St w0 l w':=by
 have hlt:=yg t;refine en func162 results162 ntmps162 ?_;refine Yr ?_;refine Yb ?_;refine qJ ?_;refine qz (.int .u64 (us t:Nat)) (by rw[kn]) ?_
 refine aD (q9 (v':=.int .u64 ((us t*2%18446744073709551616:Nat):Int)) (x8 rfl rfl O0) (congrArg (Value.int .u64) (km (us t) 1 O2))) rfl ?_;refine Y0 ?_
 refine aD (q9 (v':=.iz (if us t<9223372036854775808 then 0 else -1)) (j2 rfl rfl O0) (by
  congr 1;rw[show(2:Int)^(min (63:Int).toNat IntKind.i64.bits)=9223372036854775808 by decide,Zc _ O2]
  obtain⟨h1,h2⟩:=ht;unfold us
  split <;> omega)) rfl ?_
 refine qJ ?_
 refine qz (.int .u64 ((if us t<9223372036854775808 then 0 else 18446744073709551615:Nat):Int)) (by
  rw[kn];congr 2;split <;> rfl) ?_
 refine HN ?_
 refine qz (.int .u64 (uT (us t):Nat)) (by
  rw[(v7 (Vw _ O2) (by split <;> decide)).2.2]
  congr 2;unfold uT;split
  ·rw[Nat.xor_zero,Un O0,Wm]
  ·rw[pm (Vw _ O2)];omega) ?_
 refine Y5 ?_;exact qk (bQ ⟨rfl,h⟩)
theorem yk{u:Nat}(hu:u<18446744073709551616)(h:St w0 l w):bP prog 156 [.int .u64 u] w fun v w'=>v=.iz (sg (eX u))∧St w0 l w':=by
 refine en func156 results156 ntmps156 ?_;refine Yr ?_;refine Yb ?_;refine aD (q9 (v':=.int .u64 ((u / 2:Nat):Int)) (j2 rfl rfl O0) (congrArg (Value.int .u64) (j3 u 1 64 O2))) rfl ?_;refine qJ ?_;refine qz (.iz ((u / 2:Nat):Int)) Ce ?_;refine Y0 ?_;refine aD (gx rfl rfl) rfl ?_;refine qz (.int .u64 ((u%2:Nat):Int)) (by rw[show eS .and .u64 (u:Int) 1=((u &&& 1:Nat):Int) from(v7 hu O2).1,Nat.and_one_is_mod]) ?_
 refine qJ ?_;refine qz (.iz ((u%2:Nat):Int)) Ce ?_;refine aD (sx rfl) rfl ?_;refine qz (.iz (0-((u%2:Nat):Int))) Ce ?_;refine HN ?_
 refine qz (.iz (sg (eX u))) (by
  rw[(SD _ _).2.2];congr 2;have h1:us ((u / 2:Nat):Int)=u / 2:=by unfold us;omega
  rw[h1];unfold eX;split
  ·rename_i h0
   rw[h0];exact Nat.xor_zero _
  ·rename_i h0
   have h2:u%2=1:=by omega
   rw[h2]
   exact pm O0) ?_
 refine Y5 ?_;exact qk (bQ ⟨rfl,h⟩)
abbrev D5(p:Nat)(a:Option Addr)(m c at_:Nat)(bad:Bool):aC:=pt p (.cells [.slice a m c,.iz at_,.bool bad].toArray 261 (0,0))
def eL(p:Nat)(s:RS):aC:=ex fun q:Option Addr×Nat×List UInt8×Nat=>all [D5 p q.1 q.2.2.1.length q.2.1 q.2.2.2 s.bad,gI q.1 q.2.1 q.2.2.1,lift (s.rest=(lB q.2.2.1).drop q.2.2.2∧q.2.2.2<=8*q.2.2.1.length∧q.2.2.1.length<=140737488355328)]
theorem St.br{p:Nat}{s:RS}:St w0 (eL p s::l) w↔∃a c B at_,(s.rest=(lB B).drop at_∧at_<=8*B.length∧B.length<=140737488355328)∧St w0 (D5 p a B.length c at_ s.bad::gI a c B::l) w:=by
 unfold eL;rw[St.ex];constructor
 ·rintro⟨⟨a,c,B,at_⟩,h⟩
  obtain⟨h1,h2⟩:=St.lift.1 (h.join.f 2);exact⟨a,c,B,at_,h1,h2⟩
 ·rintro⟨a,c,B,at_,h1,h⟩
  refine⟨(a,c,B,at_),St.fold [_,_,_] ?_⟩
  have h2:=St.lift.2 ⟨h1,h⟩;exact h2.eH (by simp only[Wo,Us,jn];ac_rfl)
theorem yy{sl:Option Addr}{c:Nat}{bs:List UInt8}(h:St w0 l w)(hr:∀w',St w0 l w'->Rd w' 1 sl bs.length (aY bs))(hn:bs.length<=140737488355328):bP prog 158 [.slice sl bs.length c] w fun v w'=>∃p,v=.pz p∧St w0 (eL p ⟨lB bs,false⟩::l) w':=by
 refine en func158 results158 ntmps158 ?_;refine Gi ?_;refine Yd ?_;refine aF rfl (qg rfl (un h hr hn) ?_);rintro _ w ⟨a,c1,rfl,h⟩;refine aD (qc (r:=[.slice a bs.length c1,.iz 0,.bool false]) rfl) rfl ?_;refine aF rfl (jk h (show _=Value.agg [.slice a bs.length c1,.iz 0,.bool false].toArray from rfl) fun p w h=>?_);refine DU ?_;exact qk (bQ ⟨p,rfl,St.br.2 ⟨a,c1,bs,0,⟨rfl,Uf _,hn⟩,h⟩⟩)
theorem wx{p:Nat}{s:RS}(h:St w0 (eL p s::l) w):bP prog 167 [.pz p] w fun v w'=>v=.bool (!s.bad)∧St w0 (eL p s::l) w':=by
 obtain⟨a,c,B,at_,h1,h⟩:=St.br.1 h
 refine en func167 results167 ntmps167 ?_;refine pL ?_;refine Y7 ?_;refine aD (qq rfl (h.b 0) rfl) rfl ?_;refine oO ?_;refine Ya ?_;exact qk (bQ ⟨rfl,St.br.2 ⟨a,c,B,at_,h1,h⟩⟩)
theorem lb{p:Nat}{a:Option Addr}{c at_:Nat}{bad:Bool}{B:List UInt8}(gO:at_<=8*B.length)(hB:B.length<=140737488355328)(h:St w0 (D5 p a B.length c at_ bad::gI a c B::l) w):
  bP prog 182 [.pz p] w fun v w'=>v=.iz (if bad=true then 0 else(8*B.length-at_:Nat):Nat)∧St w0 (D5 p a B.length c at_ bad::gI a c B::l) w':=by
 refine en func182 results182 ntmps182 ?_;refine Yr ?_;refine Bm ?_;refine aD (qq rfl (h.b 0) rfl) rfl ?_;refine qv (qo bad rfl (fun hc=>?_) (fun hc=>?_))
 ·
  refine Yr ?_;exact qk (bQ ⟨by rw[if_pos hc];rfl,h⟩)
 refine Yu ?_;refine qi (jz none (fun w=>St w0 _ w) O1 O1 h.drew fun w h=>?_);refine Y6 ?_;refine qj rfl rfl rfl rfl h (fun _ h=>qh rfl (qq rfl (h.b 0) rfl)) ?_;refine De ?_;refine cD rfl rfl rfl rfl h rfl (q9 (v':=.iz ((8*B.length:Nat):Int)) (HL rfl rfl) O8) ?_;refine Y6 ?_;refine qj rfl rfl rfl rfl h (fun _ h=>qh rfl (qq (v:=.iz at_) rfl (h.b 0 rfl) rfl)) ?_
 refine cD rfl rfl rfl rfl h rfl (q9 (v':=.iz ((8*B.length-at_:Nat):Int)) (vk rfl rfl) O9) ?_
 refine AS ?_;refine qm ?_;exact qk (bQ ⟨by rw[if_neg (by rw[hc];decide)];rfl,h⟩)
theorem yC{s:List Bool}{k:Nat}{b:Bool}(h:s[k]?=some b):num (s.take (k+1))=2*num (s.take k)+b.toNat:=by
 rw[Vk,h];exact SB _ _
theorem jI{n:Nat}(h:n<=64):eY (n:Int)=n:=by unfold eY;omega
theorem gi{p:Nat}{s:RS}(n:Int)(h:St w0 (eL p s::l) w):bP prog 165 [.pz p,.iz n] w fun v w'=>v=.int .u64 ((s.get (eY n)).1:Nat)∧St w0 (eL p (s.get (eY n)).2::l) w':=by
 obtain⟨a,c,B,at_,⟨Bz,gO,hB⟩,h⟩:=St.br.1 h
 obtain⟨rest,bad⟩:=s;dsimp only at Bz h;have hm:=Bt n;have hrl:rest.length=8*B.length-at_:=by rw[Bz,Um,zB]
 refine en func165 results165 ntmps165 ?_;refine Yr ?_;refine Yb ?_;refine aF rfl (qg rfl (sp n h) ?_);rintro _ w ⟨rfl,h⟩;generalize eY n=m at hm ⊢;refine Y5 ?_
 refine qf (Γ:=Bool) (fun _=>[(0,.pz p),(1,.iz m)])
  (fun k w=>(k=true↔(bad=true∨rest.length<m))∧St w0 (D5 p a B.length c at_ k::gI a c B::l) w) ?_ ?_
 ·refine Yb ?_;refine AO ?_;refine aF rfl (qg rfl (lb gO hB h) ?_);rintro _ w ⟨rfl,h⟩;refine Cr ?_;refine Y2 ?_;refine qo (decide ((m:Int)>((if bad=true then 0 else(8*B.length-at_:Nat):Nat):Int))) rfl (fun hc=>?_) (fun hc=>?_)
  ·refine AV ?_;refine aF rfl (qb 0 h rfl (show _=Value.bool true from rfl) rfl rfl rfl rfl fun w h=>?_);refine qv ⟨true,gS,⟨fun _=>?_,fun _=>rfl⟩,h⟩;rw[decide_eq_true_eq] at hc;split at hc
   ·exact .inl ‹_›
   ·exact .inr O0
  ·refine qa ⟨bad,gS,⟨fun hb=>.inl hb,fun hb=>?_⟩,h⟩;rw[decide_eq_false_iff_not] at hc;rcases hb with hb|hb
   ·exact hb
   ·split at hc
    ·assumption
    ·omega
 clear h;rintro k w e ⟨hk,h⟩;refine Bm ?_;refine aD (qq rfl (h.b 0) rfl) rfl ?_;refine qv (qo k rfl (fun hc=>?_) (fun hc=>?_))
 ·
  subst hc;have fH:=hk.1 rfl;refine Yr ?_;refine qk (bQ ?_);have e1:RS.get ⟨rest,bad⟩ m=(0,⟨rest,true⟩):=by unfold RS.get;rw[if_pos fH]
  rw[e1];exact⟨rfl,St.br.2 ⟨a,c,B,at_,⟨Bz,gO,hB⟩,h⟩⟩
 subst hc;have hok:¬(bad=true∨rest.length<m):=fun hb=>by cases hk.2 hb
 refine Yu ?_;refine Yr ?_;refine vT ?_;refine DX ?_;refine jy (Γ:=Nat) (fun k=>[(0,.pz p),(5,.int .u64 (num (rest.take k))),(19,.iz m),(20,.iz k)]) (fun k w=>k<=m∧St w0 (D5 p a B.length c (at_+k) false::gI a c B::l) w) (fun k=>m-k) 0 iA ⟨Uf _,h⟩ ?_
 clear h;rintro k w e ⟨hkm,h⟩;refine Cj ?_;refine qi (qo (decide ((k:Int)<(m:Int))) rfl (fun hc=>?_) (fun hc=>?_))
 ·
  have hlt:k<m:=by simp at hc;omega
  have Pa:k<rest.length:=by omega
  have hbyte:(at_+k) / 8<B.length:=by omega
  have Pb:=Ub hbyte;generalize B[(at_+k) / 8]=x at Pb
  have Mf:rest[k]?=some (x.toNat.testBit (7-(at_+k)%8)):=by rw[Bz,List.getElem?_drop,tE _ _ _ Pb]
  have Mg:=yC Mf;generalize hb:x.toNat.testBit (7-(at_+k)%8)=b at Mg Mf
  have hn1:=f8 (rest.take k);rw[Ul,Vn O0] at hn1;have hn2:(2:Nat)^k<=2^63:=Vm O2 O0;have Bc:num (rest.take k)<9223372036854775808:=by omega
  generalize num (rest.take k)=N at *;have IU:b.toNat<=1:=by cases b <;> decide
  have hx:=x.toNat_lt;obtain⟨g,rfl⟩:=(h.f 1).dF O0;refine DW ?_;refine qi (jz none (fun w=>St w0 _ w) O1 O1 h.drew fun w h=>?_);refine Yt ?_;refine cD rfl rfl rfl rfl h rfl (q9 (v':=.int .u64 ((2^1*N:Nat):Int)) (x8 rfl rfl O0) (by rw[show IntKind.u64.wrap ((N:Int)*2^(min (1:Int).toNat IntKind.u64.bits))=((N*2^1%18446744073709551616:Nat):Int) from km N 1 O2,Un O0,Wm])) ?_
  refine Y6 ?_;refine qj rfl rfl rfl rfl h (fun _ h=>qh rfl (qq rfl (h.b 0) rfl)) ?_;refine Y6 ?_;refine qj rfl rfl rfl rfl h (fun _ h=>qh rfl (qq (v:=.iz ((at_+k:Nat):Int)) rfl (h.b 0 rfl) rfl)) ?_
  refine cD rfl rfl rfl rfl h rfl (q9 (v':=.iz (((at_+k) / 8:Nat):Int)) (HM rfl rfl O2) (by rw[show((at_+k:Nat):Int).tdiv 8=(((at_+k) / 8:Nat):Int) from pb _ 8,wrap64 O0 O0])) ?_
  refine cD rfl rfl rfl rfl h rfl (jj (o':=(at_+k) / 8) rfl rfl rfl hbyte O7) ?_
  refine qj rfl rfl rfl rfl h (fun w h=>qh rfl (qr (v:=.int .u8 x.toNat) rfl (by have:=(h.f 1).bU.cell (jG Pb);simpa using this))) ?_
  refine Y6 ?_;refine qj rfl rfl rfl rfl h (fun _ h=>qh rfl (qq (v:=.iz ((at_+k:Nat):Int)) rfl (h.b 0 rfl) rfl)) ?_
  refine cD rfl rfl rfl rfl h rfl (q9 (v':=.iz (((at_+k)%8:Nat):Int)) (pj rfl rfl O2) (congrArg Value.iz (zr _ 8))) ?_
  refine cD rfl rfl rfl rfl h rfl (q9 (v':=.iz ((7-(at_+k)%8:Nat):Int)) (vk rfl rfl) O9) ?_
  refine cD rfl rfl rfl rfl h rfl (q9 (v':=.int .u8 ((x.toNat / 2^(7-(at_+k)%8):Nat):Int)) (j2 rfl rfl O0) (congrArg (Value.int .u8) (j3 x.toNat _ 8 O0))) ?_
  refine cD rfl rfl rfl rfl h rfl (q9 (v':=.int .u8 ((b.toNat:Nat):Int)) (gx rfl rfl) (by
   rw[show eS .and .u8 ((x.toNat / 2^(7-(at_+k)%8):Nat):Int) 1=((x.toNat / 2^(7-(at_+k)%8) &&& 1:Nat):Int) from(w9 (Xh (Nat.div_le_self _ _) hx) O2).1,Nat.and_one_is_mod,testBit_toNat,hb])) ?_
  refine cD rfl rfl rfl rfl h rfl (q9 (v':=.int .u64 ((b.toNat:Nat):Int)) (zn rfl) KP) ?_
  refine cD rfl rfl rfl rfl h rfl (q9 (v':=.int .u64 (num (rest.take (k+1)):Nat)) (E1 rfl rfl) (by
   rw[(v7 O0 O0).2.1,Mg,<- Nat.two_pow_add_eq_or_of_lt (show b.toNat<2^1 by omega)])) ?_
  refine AS ?_;refine qm ?_;refine AV ?_;refine aD (qq (v:=.iz ((at_+k:Nat):Int)) rfl (h.b 0 rfl) rfl) rfl ?_
  refine tC ?_;refine qz (.iz ((at_+(k+1):Nat):Int)) C8 ?_
  refine Yk ?_;refine aF rfl (qb 0 h rfl (show _=Value.int _ _ from rfl) rfl rfl rfl rfl fun w h=>?_);refine E6 ?_;refine qz (.iz ((k+1:Nat):Int)) O8 ?_;refine Y0 ?_;exact qv ⟨k+1,iA,⟨cI,h⟩,cI⟩
 obtain rfl:k=m:=by simp at hc;omega
 refine ju ?_;refine GQ ?_;refine qk (bQ ?_);have e1:RS.get ⟨rest,bad⟩ k=(num (rest.take k),⟨rest.drop k,false⟩):=by unfold RS.get;rw[if_neg hok]
 rw[e1];exact⟨rfl,St.br.2 ⟨a,c,B,at_+k,⟨by rw[Bz,List.drop_drop],cI,hB⟩,h⟩⟩
end
end
end Go.Proofs.YtngdfdangkdgcaaGreatDoor
namespace Go.Hw
section
section
variable{P:Program}{e:Env}{w:World}{d:Option Nat}{ty:TypeId}{pos:String}{af:Array Edge}{g:Option (Nat×Bool)}
theorem Jy{t:TypeId}[ht:eV P t .string]{x y:Operand}{s:ByteArray}{k:IntKind}{i:Nat}{b:UInt8}(hx:ev e x=.string s)(hy:ev e y=.int k (i:Int))(hb:s.data.toList[i]?=some b):Qv P e ⟨d,.index t x y,ty,pos,af,g⟩ w (.int .u8 b.toNat):=by
 unfold Qv;obtain⟨h1,h2⟩:=Uc.1 hb;have h3:i<s.size:=by simpa using h1
 have h4:=run_index_string (P:=P) (w:=w) t s k (i:Int) ht.h;rw[dif_pos ⟨cI,cI⟩] at h4;simp only[execOp,hx,hy,Sem.run_bind,h4,Result.andThen_ok];have h5:(s[(i:Int).toNat]'O0)=b:=by rw[<- h2];simp;rfl
 rw[h5];rfl
theorem yz{t T m:Nat}[ht:eV P t (.array m T)]{z:List Value}{agg:Bool}{bytes:Nat}[hi:cM P T z agg bytes]{x y:Operand}{b o o' j:Nat}{k:IntKind}{i:Int}
  (hx:ev e x=.pointer (some ⟨b,o,none⟩)) (hy:ev e y=.int k i) (hij:i=(j:Int)) (hj:j<m) (ho:o+j*z.length=o'):Qv P e ⟨d,.indexAddr t x y,ty,pos,af,g⟩ w (.pointer (some ⟨b,o',none⟩)):=by
 unfold Qv;subst hij ho;have h1:=hi.sizeOf w;simp[execOp,hx,hy,Instr.indexAt,asIntOf,Instr.sureAddr,run_underlying ht.h,h1,Addr.add_mid,hj]
end
theorem oS{x k:Nat}(h:2^k<=x):cE (x / 2^k)+k=cE x:=by
 have key:∀m,cE (x / 2^k)+k<=m↔cE x<=m:=by
  intro m;rw[jS];constructor
  ·intro h1;have h2:cE (x / 2^k)<=m-k:=by omega
   rw[jS,Zy (Wq k),<- Za] at h2
   rwa [show m-k+k=m by omega] at h2
  ·intro h1
   have h2:k<m:=by
    rcases Zk k m with h3|h3
    ·exact h3
    ·have:2^m<=2^k:=Vm O2 h3;omega
   have h3:cE (x / 2^k)<=m-k:=by
    rw[jS,Zy (Wq k),<- Za]
    rwa [show m-k+k=m by omega]
   omega
 exact Nat.le_antisymm ((key _).2 (Ug _)) ((key _).1 (Ug _))
def Fq:ByteArray:=⟨((List.range 256).map fun x=>UInt8.ofNat (cE x)).toArray⟩
theorem CC{x:Nat}(h:x<256):Fq.data.toList[x]?=some (UInt8.ofNat (cE x)):=by
 show((List.range 256).map fun x=>UInt8.ofNat (cE x))[x]?=_;rw[Vb,List.getElem?_range h];rfl
theorem An:∀(k x:Nat),x≠0->x<2^k->x / 2^Gp k x%2=1∧Gp k x<k
 |0,x,h0,h=>by simp at h;omega
 |k+1,x,h0,h=>by
  rw[Gp];split
  ·rename_i h1;simpa using h1
  ·rename_i h1
   obtain⟨h2,h3⟩:=An k (x / 2) O0 (by rw[Nat.pow_succ] at h;omega)
   rw[Nat.pow_succ,Wm,<- Nat.div_div_eq_div_mul];exact⟨h2,cI⟩
theorem SM{x:Nat}(h0:x≠0)(h:x<18446744073709551616):x &&& (18446744073709551616-x)=2^tz x:=by
 obtain⟨h1,h2⟩:=An 64 x h0 h;have h3:=Aa 64 x;have ht:Gp 64 x=tz x:=rfl;rw[ht] at h1 h2 h3;generalize tz x=t at *;generalize hm:x / 2^t=m at *;have hp:=Wq t
 have hx1:(x-1) / 2^t=m-1:=by
  have e:x-1=(m-1)*2^t+(2^t-1):=by
   rw[Nat.sub_mul,Nat.one_mul,h3];have:2^t<=x:=by rw[<- h3];exact Nat.le_mul_of_pos_left _ O0
   omega
  rw[e,Wy,Nat.add_mul_div_right _ _ hp,Nat.div_eq_of_lt O0,Uz]
 apply Nat.eq_of_testBit_eq;intro i;rw[Nat.testBit_and,Nat.testBit_two_pow]
 have hs:(18446744073709551616-x).testBit i=(decide (i<64)&&!(x-1).testBit i):=by
  have:=Nat.testBit_two_pow_sub_succ (n:=64) (x:=x-1) O0 i;rw[show x-1+1=x by omega] at this
  exact this
 rw[hs];have hx:x.testBit i=(decide (i ≥ t)&&m.testBit (i-t)):=by rw[<- Nat.testBit_two_pow_mul,Wm,h3]
 by_cases hit:i<t
 ·rw[hx];simp[show ¬t<=i by omega,show ¬t=i by omega]
 ·have hj:(x-1).testBit i=(m-1).testBit (i-t):=by rw[<- hx1,Nat.testBit_div_two_pow];congr 1;omega
  rw[hx,hj];cases hd:i-t with
  |zero=>
   have:i=t:=by omega
   subst this;simp[Nat.testBit_zero,h1,h2,show ¬(m-1)%2=1 by omega]
  |succ j=>
   rw[Nat.testBit_succ,Nat.testBit_succ,show(m-1) / 2=m / 2 by omega]
   simp[show ¬t=i by omega]
   intro _ h5 _;exact h5
def NI:List Nat:=[0,1,56,2,57,49,28,3,61,58,42,50,38,29,17,4,62,47,59,36,45,43,51,22,53,39,33,30,24,18,12,5,63,55,48,27,60,41,37,16,46,35,44,21,52,32,23,11,54,26,40,15,34,20,31,10,25,14,19,9,13,8,7,6]
theorem G8:∀t,t<64->2^t*285870213051353865%18446744073709551616 / 2^58<64∧NI[2^t*285870213051353865%18446744073709551616 / 2^58]?=some t:=by decide
end
end Go.Hw
namespace Go.Proofs.YtngdfdangkdgcaaGreatDoor
open Go.Hw _root_.Go.Proofs.Tryz
section
structure Tz(W:World):Prop where
 size:0<W.heap.size
 cell:∀(i v:Nat),NI[i]?=some v->W.cell? ⟨0,i,none⟩=some (.int .u8 v)
section
variable{w0 w:World}{l:List aC}
theorem SN{x:Nat}(hx:x<18446744073709551616)(h:St w0 l w):bP prog 204 [.int .u64 x] w fun v w'=>v=.iz (cE x)∧St w0 l w':=by
 have Pc:=lD hx;refine en func204 results204 ntmps204 ?_;refine Yr ?_;refine qf (Γ:=Nat×Nat) (fun k=>[(0,.int .u64 k.1),(2,.iz k.2)]) (fun k w=>k.1<4294967296∧cE k.1+k.2=cE x∧St w0 l w) ?_ ?_
 ·refine Yb ?_;refine tX ?_;refine qv (qo (decide ((x:Int) ≥ 4294967296)) rfl (fun hc=>?_) (fun hc=>?_))
  ·have hge:4294967296<=x:=by simp at hc;omega
   refine Yb ?_;refine aD (q9 (v':=.int .u64 ((x / 2^32:Nat):Int)) (j2 rfl rfl O0) (congrArg (Value.int .u64) (j3 x 32 64 O2))) rfl ?_;refine Y5 ?_;refine je ?_;refine Y4 ?_;exact qv ⟨(x / 2^32,32),gS,gH,oS hge,h⟩
  ·exact qa ⟨(x,0),gS,by simp at hc;dsimp only;omega,rfl,h⟩
 clear h;rintro⟨x1,n1⟩ w e ⟨hx1,rV,h⟩;dsimp only at hx1 rV ⊢;refine qf (Γ:=Nat×Nat) (fun k=>[(0,.int .u64 k.1),(2,.iz k.2)]) (fun k w=>k.1<65536∧cE k.1+k.2=cE x∧St w0 l w) ?_ ?_
 ·refine Yb ?_;refine tX ?_;refine qv (qo (decide ((x1:Int) ≥ 65536)) rfl (fun hc=>?_) (fun hc=>?_))
  ·have hge:65536<=x1:=by simp at hc;omega
   have hsh:=oS (k:=16) (x:=x1) hge;refine Yb ?_;refine aD (q9 (v':=.int .u64 ((x1 / 2^16:Nat):Int)) (j2 rfl rfl O0) (congrArg (Value.int .u64) (j3 x1 16 64 O2))) rfl ?_;refine Y5 ?_;refine Bk ?_;refine qz (.iz ((n1+16:Nat):Int)) O8 ?_;refine Y4 ?_;exact qv ⟨(x1 / 2^16,n1+16),gS,gH,gH,h⟩
  ·exact qa ⟨(x1,n1),gS,by simp at hc;dsimp only;omega,rV,h⟩
 clear h;rintro⟨x2,n2⟩ w e ⟨BA,AX,h⟩;dsimp only at BA AX ⊢;refine qf (Γ:=Nat×Nat) (fun k=>[(0,.int .u64 k.1),(2,.iz k.2)]) (fun k w=>k.1<256∧cE k.1+k.2=cE x∧St w0 l w) ?_ ?_
 ·refine Yb ?_;refine tX ?_;refine qv (qo (decide ((x2:Int) ≥ 256)) rfl (fun hc=>?_) (fun hc=>?_))
  ·have hge:256<=x2:=by simp at hc;omega
   have hsh:=oS (k:=8) (x:=x2) hge;refine Yb ?_;refine aD (q9 (v':=.int .u64 ((x2 / 2^8:Nat):Int)) (j2 rfl rfl O0) (congrArg (Value.int .u64) (j3 x2 8 64 O2))) rfl ?_;refine Y5 ?_;refine Bk ?_;refine qz (.iz ((n2+8:Nat):Int)) O8 ?_;refine Y4 ?_;exact qv ⟨(x2 / 2^8,n2+8),gS,gH,gH,h⟩
  ·exact qa ⟨(x2,n2),gS,by simp at hc;dsimp only;omega,AX,h⟩
 clear h;rintro⟨x3,n3⟩ w e ⟨D6,G9,h⟩;dsimp only at D6 G9 ⊢;have XT:cE x3<=8:=jS.2 D6;refine Gk ?_;refine qJ ?_;refine qz (.int .u8 (x3:Int)) (by rw[um,Un D6]) ?_
 refine aD (Jy (s:=Fq) O1 rfl (CC D6)) rfl ?_;refine qz (.int .u8 (cE x3)) (by rw[UInt8.toNat_ofNat',Un O0]) ?_
 refine qJ ?_;refine qz (.iz (cE x3)) Ce ?_;refine tC ?_;refine qz (.iz (cE x)) O9 ?_;refine Y5 ?_;exact qk (bQ ⟨rfl,h⟩)
theorem z9{x:Nat}(hx:x<18446744073709551616)(h:St w0 l w):bP prog 209 [.int .u64 x] w fun v w'=>v=.iz (64-cE x:Nat)∧St w0 l w':=by
 have Pc:=lD hx;refine en func209 results209 ntmps209 ?_;refine Yr ?_;refine Yb ?_;refine aF rfl (qg rfl (SN hx h) ?_);rintro _ w ⟨rfl,h⟩;refine AQ ?_;refine qz (.iz (64-cE x:Nat)) O9 ?_;refine Y5 ?_;exact qk (bQ ⟨rfl,h⟩)
instance Pd:eV prog 309 (.array 64 5):=⟨underlying309⟩
theorem zp(hT:Tz w0){x:Nat}(hx:x<18446744073709551616)(h:St w0 l w):bP prog 210 [.int .u64 x] w fun v w'=>v=.iz (tz x)∧St w0 l w':=by
 refine en func210 results210 ntmps210 ?_;refine Yr ?_;refine K7 ?_;by_cases h0:x=0
 ·refine qz (.bool true) (by subst h0;rfl) ?_
  refine Yh ?_;refine Yr ?_;exact qk (bQ ⟨by subst h0;rfl,h⟩)
 refine qz (.bool false) O6 ?_;refine Y8 ?_;have ht:tz x<64:=(An 64 x h0 hx).2;obtain⟨K9,hd2⟩:=G8 (tz x) ht;have hc:=hT.cell _ _ hd2;refine Gk ?_;refine aD (sx rfl) rfl ?_;refine qz (.int .u64 ((18446744073709551616-x:Nat):Int)) (by rw[kn];unfold us;congr 1;omega) ?_
 refine aD (gx rfl rfl) rfl ?_;refine qz (.int .u64 ((2^tz x:Nat):Int)) (by rw[(v7 hx O0).1,SM h0 hx]) ?_
 refine LF ?_;refine qz (.int .u64 ((2^tz x*285870213051353865%18446744073709551616:Nat):Int)) (by rw[<- zl];rfl) ?_
 refine aD (q9 (v':=.int .u64 ((2^tz x*285870213051353865%18446744073709551616 / 2^58:Nat):Int)) (j2 rfl rfl O0) (congrArg (Value.int .u64) (j3 _ 58 64 O2))) rfl ?_;generalize 2^tz x*285870213051353865%18446744073709551616 / 2^58=j at K9 hd2 hc ⊢;refine aD (yz (j:=j) (o':=j) rfl rfl rfl K9 O7) rfl ?_;refine aD (qr (v:=.int .u8 (tz x)) rfl ((h.A4 hT.size).trans hc)) rfl ?_;refine qJ ?_;refine qz (.iz (tz x)) Ce ?_;refine Y5 ?_;exact qk (bQ ⟨rfl,h⟩)
end
end
end Go.Proofs.YtngdfdangkdgcaaGreatDoor
namespace Go.Hw
section
end
end Go.Hw
namespace Go.Proofs.YtngdfdangkdgcaaGreatDoor
open Go.Hw _root_.Go.Proofs.Tryz
section
section
variable{w0 w:World}{l:List aC}
end
end
section
section
variable{w0 w:World}{l:List aC}
abbrev lP(f:QS):List Value:=[.int .u64 f.ahead,.iz f.cR,.iz f.bits]
theorem du(d:Int)(h:St w0 l w):bP prog 184 [.iz d] w fun v w'=>v=.agg (lP (which d)).toArray∧St w0 l w':=by
 refine en func184 results184 ntmps184 ?_;refine Y1 ?_;refine aF rfl (qn h fun b w h=>?_);refine Y2 ?_;refine qf (Γ:=Unit) (fun _=>[(2,.pz b)]) (fun _ w=>which d=⟨15,4,64⟩∧St w0 (pt b (.cells (lP ⟨0,0,0⟩).toArray 276 (0,0))::l) w) ?_ ?_
 ·refine Yg ?_;refine Yb ?_;refine Yi ?_;refine Ya ?_;refine qo (d==0) rfl (fun hc=>?_) (fun h0=>?_)
  ·
   have hw:which d=⟨0,1,0⟩:=by unfold which;rw[if_pos (by simpa using hc)]
   refine Y1 ?_;refine aD (qc (r:=lP ⟨0,1,0⟩) rfl) rfl ?_;refine aF rfl (qy (vs:=lP ⟨0,1,0⟩) 0 h rfl rfl rfl rfl rfl rfl rfl fun w h=>?_);refine Y2 ?_;rw[hw];exact qk (uQ (l:=lP ⟨0,1,0⟩) rfl rfl (qw (h.b 0 rfl) rfl) ⟨rfl,h.drop⟩)
  have h0:¬d=0:=by simpa using h0
  refine qf (Γ:=Bool) (fun k=>[(0,.iz d),(2,.pz b),(7,.bool k)]) (fun k w=>(k=true↔-64<=d∧d<=63)∧St w0 (pt b (.cells (lP ⟨0,0,0⟩).toArray 276 (0,0))::l) w) ?_ ?_
  ·refine AT ?_;refine tX ?_;by_cases h1:-64<=d
   ·refine qz (.bool true) (congrArg Value.bool (decide_eq_true h1)) ?_;refine AU ?_;refine EF ?_;refine Dh ?_;exact qv ⟨decide (d<=63),kK,by rw[decide_eq_true_eq];exact⟨fun h=>⟨h1,h⟩,fun h=>h.2⟩,h⟩
   ·refine qz (.bool false) (congrArg Value.bool (decide_eq_false h1)) ?_;refine yY ?_;refine xM ?_;exact qv ⟨false,kK,⟨(fun h=>by cases h),fun h=>absurd h.1 h1⟩,h⟩
  clear h;rintro k w e ⟨hk1,h⟩;refine qo k rfl (fun hc=>?_) (fun kZ=>?_)
  ·
   have hw:which d=⟨2,2,7⟩:=by unfold which;rw[if_neg h0,if_pos (hk1.1 hc)]
   refine Y1 ?_;refine aD (qc (r:=lP ⟨2,2,7⟩) rfl) rfl ?_;refine aF rfl (qy (vs:=lP ⟨2,2,7⟩) 0 h rfl rfl rfl rfl rfl rfl rfl fun w h=>?_);refine Y2 ?_;rw[hw];exact qk (uQ (l:=lP ⟨2,2,7⟩) rfl rfl (qw (h.b 0 rfl) rfl) ⟨rfl,h.drop⟩)
  refine qf (Γ:=Bool) (fun k=>[(0,.iz d),(2,.pz b),(15,.bool k)]) (fun k w=>(k=true↔-256<=d∧d<=255)∧St w0 (pt b (.cells (lP ⟨0,0,0⟩).toArray 276 (0,0))::l) w) ?_ ?_
  ·refine AT ?_;refine tX ?_;by_cases h1:-256<=d
   ·refine qz (.bool true) (congrArg Value.bool (decide_eq_true h1)) ?_;refine AU ?_;refine EF ?_;refine Dh ?_;exact qv ⟨decide (d<=255),kK,by rw[decide_eq_true_eq];exact⟨fun h=>⟨h1,h⟩,fun h=>h.2⟩,h⟩
   ·refine qz (.bool false) (congrArg Value.bool (decide_eq_false h1)) ?_;refine yY ?_;refine xM ?_;exact qv ⟨false,kK,⟨(fun h=>by cases h),fun h=>absurd h.1 h1⟩,h⟩
  clear h;rintro k2 w e ⟨hk2,h⟩;have n1:¬(-64<=d∧d<=63):=fun hh=>by rw[hk1.2 hh] at kZ;cases kZ
  refine qo k2 rfl (fun hc=>?_) (fun lO=>?_)
  ·
   have hw:which d=⟨6,3,9⟩:=by unfold which;rw[if_neg h0,if_neg n1,if_pos (hk2.1 hc)]
   refine Y1 ?_;refine aD (qc (r:=lP ⟨6,3,9⟩) rfl) rfl ?_;refine aF rfl (qy (vs:=lP ⟨6,3,9⟩) 0 h rfl rfl rfl rfl rfl rfl rfl fun w h=>?_);refine Y2 ?_;rw[hw];exact qk (uQ (l:=lP ⟨6,3,9⟩) rfl rfl (qw (h.b 0 rfl) rfl) ⟨rfl,h.drop⟩)
  refine qf (Γ:=Bool) (fun k=>[(0,.iz d),(2,.pz b),(23,.bool k)]) (fun k w=>(k=true↔-2048<=d∧d<=2047)∧St w0 (pt b (.cells (lP ⟨0,0,0⟩).toArray 276 (0,0))::l) w) ?_ ?_
  ·refine AT ?_;refine tX ?_;by_cases h1:-2048<=d
   ·refine qz (.bool true) (congrArg Value.bool (decide_eq_true h1)) ?_;refine AU ?_;refine EF ?_;refine Dh ?_;exact qv ⟨decide (d<=2047),kK,by rw[decide_eq_true_eq];exact⟨fun h=>⟨h1,h⟩,fun h=>h.2⟩,h⟩
   ·refine qz (.bool false) (congrArg Value.bool (decide_eq_false h1)) ?_;refine yY ?_;refine xM ?_;exact qv ⟨false,kK,⟨(fun h=>by cases h),fun h=>absurd h.1 h1⟩,h⟩
  clear h;rintro k3 w e ⟨D7,h⟩;have n2:¬(-256<=d∧d<=255):=fun hh=>by rw[hk2.2 hh] at lO;cases lO
  refine qo k3 rfl (fun hc=>?_) (fun Nw=>?_)
  ·
   have hw:which d=⟨14,4,12⟩:=by unfold which;rw[if_neg h0,if_neg n1,if_neg n2,if_pos (D7.1 hc)]
   refine Y1 ?_;refine aD (qc (r:=lP ⟨14,4,12⟩) rfl) rfl ?_;refine aF rfl (qy (vs:=lP ⟨14,4,12⟩) 0 h rfl rfl rfl rfl rfl rfl rfl fun w h=>?_);refine Y2 ?_;rw[hw];exact qk (uQ (l:=lP ⟨14,4,12⟩) rfl rfl (qw (h.b 0 rfl) rfl) ⟨rfl,h.drop⟩)
  have n3:¬(-2048<=d∧d<=2047):=fun hh=>by rw[D7.2 hh] at Nw;cases Nw
  exact qa ⟨(),⟨rfl,trivial⟩,by unfold which;rw[if_neg h0,if_neg n1,if_neg n2,if_neg n3],h⟩
 clear h;rintro⟨⟩ w e ⟨hw,h⟩;refine Y1 ?_;refine aD (qc (r:=lP ⟨15,4,64⟩) rfl) rfl ?_;refine aF rfl (qy (vs:=lP ⟨15,4,64⟩) 0 h rfl rfl rfl rfl rfl rfl rfl fun w h=>?_);refine Y2 ?_;rw[hw];exact qk (uQ (l:=lP ⟨15,4,64⟩) rfl rfl (qw (h.b 0 rfl) rfl) ⟨rfl,h.drop⟩)
theorem pi(d:Int):(which d).ahead<=15∧(which d).cR<=4∧(which d).bits<=64:=by
 rcases x9 d with⟨h,_⟩|⟨h,_⟩|⟨h,_⟩|⟨h,_⟩|h <;> rw[h] <;> decide
theorem qD:∀(ts:List Int) (was step:Nat),(fD was step ts).length<=68*ts.length
 |[],_,_=>Ug _
 |t::ts,was,step=>by
  have h1:=qD ts (us t) (diff (us t) was);obtain⟨_,h2,h3⟩:=pi (sg (diff (diff (us t) was) step));rw[fD,Ua,Ua,bO,bO,Uj];omega
theorem jM(ts:List Int):(bX ts).length<=68*ts.length:=by
 cases ts with
 |nil=>exact Ug _
 |cons t ts=>
  have:=qD ts (us t) 0;rw[bX,Ua,bO,Uj];omega
theorem xw{a b:Nat}(hb:b<18446744073709551616):IntKind.u64.wrap ((a:Int)-(b:Int))=((diff a b:Nat):Int):=by
 rw[kn];unfold us diff;omega
theorem si(a b:Nat):IntKind.u64.wrap ((a:Int)+(b:Int))=((jR a b:Nat):Int):=by
 rw[kn];unfold us jR;omega
theorem pe{p:Nat}{bs:List Bool}{sl:Option Addr}{c:Nat}{ts:List Int}(hi:∀t∈ts,rM t)(hn:ts.length<=65535)(hb:bs.length<=1073741824)(h:St w0 (mL p bs::l) w)(hr:∀bs' w',St w0 (mL p bs'::l) w'->Rd w' 1 sl ts.length (gU ts)):
  bP prog 178 [.pz p,.slice sl ts.length c] w fun v w'=>v=.tuple #[]∧St w0 (mL p (bs++bX ts)::l) w':=by
 refine en func178 results178 ntmps178 ?_;have Am:=jM ts;refine rC ?_;refine Y5 ?_;refine I3 ?_
 refine jy (Γ:=Nat×Nat×Nat×List Bool) (fun k=>[(0,.pz p),(4,.int .u64 k.2.1),(5,.int .u64 k.2.2.1),(11,.slice sl ts.length c),(12,.iz ts.length),(13,.iz k.1)])
  (fun k w=>k.1<=ts.length∧k.2.1<18446744073709551616∧k.2.2.1<18446744073709551616∧(k.1=0->k.2.2.1=0∧k.2.2.2=bs)∧(0<k.1->k.2.2.2++fD k.2.1 k.2.2.1 (ts.drop k.1)=bs++bX ts)∧k.2.2.2.length<=bs.length+(bX ts).length∧St w0 (mL p k.2.2.2::l) w)
  (fun k=>ts.length-k.1) (0,0,0,bs) kX ⟨Uf _,(by decide:(0:Nat)<18446744073709551616),(by decide:(0:Nat)<18446744073709551616),fun _=>⟨rfl,rfl⟩,(fun h=>absurd h (by decide:¬(0:Nat)<0)),Nat.le_add_right _ _,h⟩ ?_
 clear h;rintro⟨i,was,step,out⟩ w e ⟨hin,oT,hstep,He,hnz,Ft,h⟩;dsimp only at hin oT hstep He hnz Ft h ⊢;refine Cj ?_;refine qi (qo (decide ((i:Int)<(ts.length:Int))) rfl (fun hc=>?_) (fun hc=>?_))
 ·
  have hlt:i<ts.length:=by simp at hc;omega
  have hg:=Ub hlt;have yB:=Vx hlt;generalize ts[i]=t at hg yB;have ht:=hi t (Ue hg);have Q5:=yg t;obtain⟨b,o,mW⟩:=(hr _ w h).some O0;refine Yu ?_
  refine qf (Γ:=Nat×List Bool) (fun k=>[(0,.pz p),(4,.int .u64 (us t)),(5,.int .u64 k.1),(11,.slice sl ts.length c),(12,.iz ts.length),(13,.iz i)])
   (fun k w=>k.1<18446744073709551616∧k.2++fD (us t) k.1 (ts.drop (i+1))=bs++bX ts∧St w0 (mL p k.2::l) w) ?_ ?_
  ·refine Yg ?_;refine Yb ?_;refine aD (jj (b:=b) (o:=o) (m:=ts.length) (c:=c) (o':=o+i) DQ rfl rfl hlt O7) rfl ?_;refine aD (qr (v:=.iz t) rfl ((mW▸hr _ w h).cell (Br hg))) rfl ?_;refine HP ?_;refine Yb ?_;refine qJ ?_;refine qz (.int .u64 (us t:Nat)) (by rw[kn]) ?_
   refine Y5 ?_;refine K7 ?_;by_cases uU:i=0
   ·refine qz (.bool true) (by subst uU;rfl) ?_
    refine Yh ?_;obtain⟨hs0,Pe⟩:=He uU;refine GV ?_;refine aF rfl (qg rfl (gt (us t) 64 Q5 O0 h) ?_);rintro _ w ⟨rfl,h⟩;refine Y2 ?_;refine GQ ?_;refine ju ⟨(step,out++bitsOf (us t) (eY 64)),kX,hstep,?_,h⟩;rw[uU,Xg] at yB;rw[yB,Pe,hs0,uU,bX,Uo];rfl
   refine qz (.bool false) O5 ?_;refine Y8 ?_;have he:=hnz O0;rw[yB,fD] at he;refine Gk ?_;refine AQ ?_;refine qz (.int .u64 (diff (us t) was:Nat)) (by rw[xw oT]) ?_
   refine Y0 ?_;refine AQ ?_;refine qz (.int .u64 (diff (diff (us t) was) step:Nat)) (by rw[xw hstep]) ?_
   have hd:diff (diff (us t) was) step<18446744073709551616:=Vw _ O2;have K9:diff (us t) was<18446744073709551616:=Vw _ O2;generalize NJ:diff (diff (us t) was) step=d at *;obtain⟨SO,Q6,SP⟩:=pi (sg d);have hlen:=congrArg List.length he;simp only[Ua,bO] at hlen;refine HT ?_;refine qJ ?_;refine qz (.iz (sg d)) (by rw[zq hd]) ?_
   refine aF rfl (qg rfl (du (sg d) h) ?_);rintro _ w ⟨rfl,h⟩;refine aF rfl (qn h fun b2 w h=>?_);refine aF rfl (qy (vs:=lP (which (sg d))) 0 h rfl rfl rfl rfl rfl rfl rfl fun w h=>?_);replace h:St w0 (pt b2 (.cells (lP (which (sg d))).toArray 276 (0,0))::mL p out::l) w:=h;refine rL ?_;refine Yc ?_;refine aD (qq rfl (h.b 0) rfl) rfl ?_;refine Yc ?_;refine aD (qq rfl (h.b 0) rfl) rfl ?_;refine aF rfl (qg rfl (gt (which (sg d)).ahead (which (sg d)).cR O0 O0 (h.f 1)) ?_);rintro _ w ⟨rfl,h⟩;refine rL ?_;refine Y0 ?_;refine Yc ?_;refine aD (qq rfl (h.b 1) rfl) rfl ?_;refine aF rfl (qg rfl (gt d (which (sg d)).bits hd (by rw[jI O0,Ua,bO];omega) h) ?_)
   rintro _ w ⟨rfl,h⟩;refine Y2 ?_;refine AT ?_;refine DV ?_;refine AQ ?_;refine qz (.int .u64 (diff (us t) was:Nat)) (by rw[xw oT]) ?_
   refine Y4 ?_;refine Y4 ?_;refine qv ⟨(diff (us t) was,_),kX,K9,?_,(h.f 1).drop⟩;rw[jI O0,jI O0,Uo,Uo,<- he]
  clear h;rintro⟨step',out'⟩ w e ⟨hs',he',h⟩;dsimp only at hs' he' h ⊢;refine Yw ?_;refine qz (.iz ((i+1:Nat):Int)) O8 ?_;refine Y0 ?_;refine qv ⟨(i+1,us t,step',out'),kX,⟨hlt,Q5,hs',(fun h=>by cases h),fun _=>he',?_,h⟩,gH⟩
  have:=congrArg List.length he';simp only[Ua] at this;dsimp only;omega
 have Jz:i=ts.length:=by simp at hc;omega
 refine ju ?_
 have:out=bs++bX ts:=by
  rcases Wb i with h0|h0
  ·rw[(He h0).2];have:ts=[]:=Uq O0;rw[this];simp[bX]
  ·have:=hnz h0;rw[Jz,Km,fD,Ux] at this;exact this
 rw[<- this];exact(show(rF []:Value)=.tuple #[]∧_ from⟨rfl,h⟩)
end
end
section
abbrev kO(w:nM):List Value:=[.bool w.is,.iz w.lead,.iz w.trail]
def iM(w:nM):Prop:=w.lead+w.trail<=63
theorem BB{x:Nat}(h0:x≠0)(h:x<18446744073709551616):iM (bJ x):=by
 obtain⟨h1,h2,_,_⟩:=qN h0 h;unfold iM;omega
theorem lY(w:nM):w.cR<=64:=by unfold nM.cR;omega
section
variable{w0 w:World}{l:List aC}
abbrev eZ(b:Nat)(win:nM):aC:=pt b (.cells (kO win).toArray 279 (0,0))
theorem ww(hT:Tz w0){x:Nat}(hx:x<18446744073709551616)(h:St w0 l w):bP prog 200 [.int .u64 x] w fun v w'=>v=.agg (kO (bJ x)).toArray∧St w0 l w':=by
 refine en func200 results200 ntmps200 ?_;refine Y1 ?_;refine aF rfl (qn h fun b w h=>?_);refine Y2 ?_;refine Yb ?_;refine aF rfl (qg rfl (z9 hx h) ?_);rintro _ w ⟨rfl,h⟩;refine K1 ?_;refine qz (.iz (bJ x).lead) (by unfold bJ;congr 1;dsimp only;omega) ?_
 refine Y0 ?_;refine aF rfl (qg rfl (zp hT hx h) ?_);rintro _ w ⟨rfl,h⟩;refine aD (qc (r:=kO (bJ x)) rfl) rfl ?_;refine aF rfl (qy (vs:=kO (bJ x)) 0 h rfl rfl rfl rfl rfl rfl rfl fun w h=>?_);refine Y2 ?_;exact qk (uQ (l:=kO (bJ x)) rfl rfl (qw (h.b 0 rfl) rfl) ⟨rfl,h.drop⟩)
theorem xh{win:nM}(ho:iM win)(h:St w0 l w):bP prog 199 [.agg (kO win).toArray] w fun v w'=>v=.iz win.cR∧St w0 l w':=by
 unfold iM at ho;refine en func199 results199 ntmps199 ?_;refine Y1 ?_;refine aF rfl (jk h (show _=Value.agg (kO win).toArray from rfl) fun b w h=>?_);refine Y5 ?_;refine qK ?_;refine aD (qq rfl (h.b 0) rfl) rfl ?_;refine AQ ?_;refine qz (.iz ((64-win.lead:Nat):Int)) O9 ?_;refine Yc ?_;refine aD (qq rfl (h.b 0) rfl) rfl ?_;refine AQ ?_;refine qz (.iz win.cR) (by rw[wrap64 O0 O0];unfold nM.cR;congr 1;omega) ?_
 refine Y5 ?_;exact qk (bQ ⟨rfl,h.drop⟩)
theorem sr(hT:Tz w0){win:nM}{x:Nat}(hx:x<18446744073709551616)(h:St w0 l w):bP prog 201 [.agg (kO win).toArray,.int .u64 x] w fun v w'=>v=.bool (win.fits x)∧St w0 l w':=by
 refine en func201 results201 ntmps201 ?_;refine Y1 ?_;refine aF rfl (jk h (show _=Value.agg (kO win).toArray from rfl) fun b w h=>?_);replace h:St w0 (eZ b win::l) w:=h;refine Ya ?_;refine Yb ?_;refine aF rfl (qg rfl (ww hT hx h) ?_);rintro _ w ⟨rfl,h⟩;refine aF rfl (qn h fun b5 w h=>?_);refine aF rfl (qy (vs:=kO (bJ x)) 0 h rfl rfl rfl rfl rfl rfl rfl fun w h=>?_);replace h:St w0 (eZ b5 (bJ x)::eZ b win::l) w:=h;refine Y2 ?_;have hfit:win.fits x=(win.is&&decide (win.lead<=(bJ x).lead)&&decide (win.trail<=(bJ x).trail)):=rfl;refine qK ?_;refine aD (qq (v:=.bool win.is) rfl (h.b 1 rfl) rfl) rfl ?_;cases hi:win.is with
 |false=>
  refine zX ?_;refine EE ?_;refine Y9 ?_;refine zX ?_;refine EE ?_;refine Y9 ?_;refine Ya ?_;refine qk (bQ ⟨?_,h.drop.drop⟩);rw[hfit,hi];rfl
 |true=>
  refine pV ?_;refine aD (qq (v:=.iz (bJ x).lead) rfl (h.b 0 rfl) rfl) rfl ?_;refine Dk ?_;refine aD (qq (v:=.iz win.lead) rfl (h.b 1 rfl) rfl) rfl ?_;refine Yf ?_;refine tX ?_;by_cases h1:win.lead<=(bJ x).lead
  ·refine qz (.bool true) O5 ?_;refine Ye ?_;refine pV ?_;refine aD (qq (v:=.iz (bJ x).trail) rfl (h.b 0 rfl) rfl) rfl ?_;refine Dk ?_;refine aD (qq (v:=.iz win.trail) rfl (h.b 1 rfl) rfl) rfl ?_;refine Yf ?_;refine tX ?_;refine Ye ?_;refine Ya ?_;refine qk (bQ ⟨?_,h.drop.drop⟩);rw[hfit,hi,decide_eq_true h1];show Value.bool (decide _)=_;congr 1;simp only[Bool.true_and,decide_eq_decide];omega
  ·refine qz (.bool false) O5 ?_;refine Ye ?_;refine zX ?_;refine EE ?_;refine Y9 ?_;refine Ya ?_;refine qk (bQ ⟨?_,h.drop.drop⟩);rw[hfit,hi,decide_eq_false h1];rfl
theorem oU:∀(vs:List Nat) (win:nM) (was:Nat),(dO win was vs).length<=77*vs.length
 |[],_,_=>Ug _
 |v::vs,win,was=>by
  have h1:=oU vs win v;have h2:=oU vs (bJ (v ^^^ was)) v;have h3:=lY win;have h4:=lY (bJ (v ^^^ was));rw[dO,Uj];split
  ·rw[Ua,bO];omega
  ·split
   ·rw[Ua,Ua,bO,bO];omega
   ·rw[Ua,Ua,Ua,Ua,bO,bO,bO,bO];omega
theorem jT(vs:List Nat):(eA vs).length<=77*vs.length:=by
 cases vs with
 |nil=>exact Ug _
 |cons v vs=>
  have:=oU vs ⟨false,0,0⟩ v;rw[eA,Ua,bO,Uj];omega
theorem p6(hT:Tz w0){p:Nat}{bs:List Bool}{sl:Option Addr}{c:Nat}{vs:List Nat}(hv:∀v∈vs,v<18446744073709551616)(hn:vs.length<=65535)(hb:bs.length<=1073741824)(h:St w0 (mL p bs::l) w)(hr:Reads w0 l 1 sl vs.length (eE vs)):
  bP prog 193 [.pz p,.slice sl vs.length c] w fun v w'=>v=.tuple #[]∧St w0 (mL p (bs++eA vs)::l) w':=by
 have Am:=jT vs;have hrd:∀{Q R:aC} {w':World},St w0 (Q::R::l) w'->Rd w' 1 sl vs.length (eE vs):=fun {Q R w'} h'=>hr [Q,R] w' h';refine en func193 results193 ntmps193 ?_;refine Y1 ?_;refine aF rfl (qn h fun b w h=>?_);replace h:St w0 (eZ b ⟨false,0,0⟩::mL p bs::l) w:=h;refine Y2 ?_;refine I3 ?_
 refine jy (Γ:=Nat×nM×List Bool) (fun k=>[(0,.pz p),(1,.slice sl vs.length c),(4,.pz b),(8,.slice sl vs.length c),(9,.iz vs.length),(10,.iz k.1)])
  (fun k w=>k.1<=vs.length∧iM k.2.1∧(k.1=0->k.2.1=⟨false,0,0⟩∧k.2.2=bs)∧(0<k.1->k.2.2++dO k.2.1 (vs.getD (k.1-1) 0) (vs.drop k.1)=bs++eA vs)∧St w0 (eZ b k.2.1::mL p k.2.2::l) w)
  (fun k=>vs.length-k.1) (0,⟨false,0,0⟩,bs) kX ⟨Uf _,(show(0:Nat)+0<=63 by decide),fun _=>⟨rfl,rfl⟩,(fun h=>absurd h (by decide:¬(0:Nat)<0)),h⟩ ?_
 clear h;rintro⟨i,win,out⟩ w e ⟨hin,D8,He,hnz,h⟩;dsimp only at hin D8 He hnz h ⊢;refine Cj ?_;refine qi (qo (decide ((i:Int)<(vs.length:Int))) rfl (fun hc=>?_) (fun hc=>?_))
 ·
  have hlt:i<vs.length:=by simp at hc;omega
  have hg:=Ub hlt;have yB:=Vx hlt;generalize vs[i]=now at hg yB;have JA:=hv now (Ue hg);obtain⟨Q7,o,mW⟩:=(hrd h).some O0
  have Ft:out.length<=bs.length+(eA vs).length:=by
   rcases Wb i with h0|h0
   ·rw[(He h0).2];omega
   ·have:=congrArg List.length (hnz h0);simp only[Ua] at this;omega
  refine Yu ?_
  refine qf (Γ:=nM×List Bool) (fun _=>[(0,.pz p),(1,.slice sl vs.length c),(4,.pz b),(8,.slice sl vs.length c),(9,.iz vs.length),(10,.iz i)])
   (fun k w=>iM k.1∧k.2++dO k.1 now (vs.drop (i+1))=bs++eA vs∧St w0 (eZ b k.1::mL p k.2::l) w) ?_ ?_
  ·refine Yg ?_;refine Yb ?_;refine aD (jj (b:=Q7) (o:=o) (m:=vs.length) (c:=c) (o':=o+i) DQ rfl rfl hlt O7) rfl ?_;refine aD (qr (v:=.int .u64 now) rfl ((mW▸hrd h).cell (vZ hg))) rfl ?_;refine HP ?_;refine K7 ?_;by_cases uU:i=0
   ·refine qz (.bool true) (by subst uU;rfl) ?_
    refine Yh ?_;obtain⟨hw0,Pe⟩:=He uU;refine GV ?_;refine aF rfl (qg rfl (gt now 64 JA O0 (h.f 1)) ?_);rintro _ w ⟨rfl,h⟩;refine Y2 ?_;refine ju ⟨(win,out++bitsOf now (eY 64)),kX,D8,?_,h.f 1⟩;rw[uU,Xg] at yB;rw[Pe,hw0,uU,Uo]
    conv=>rhs;rw[yB,eA]
    rfl
   refine qz (.bool false) O5 ?_;refine Y8 ?_;have he:=hnz O0
   have yD:vs[i-1]?=some (vs.getD (i-1) 0):=by
    rw[List.getD,Ub (show i-1<vs.length by omega)];rfl
   generalize vs.getD (i-1) 0=was at yD he;have oT:=hv was (Ue yD);have hx:now ^^^ was<18446744073709551616:=Wu (n:=64) JA oT;rw[yB,dO] at he;refine Yb ?_;refine HO ?_;refine AQ ?_;refine qz (.iz ((i-1:Nat):Int)) O9 ?_;refine aD (jj (b:=Q7) (o:=o) (m:=vs.length) (c:=c) (o':=o+(i-1)) DQ rfl rfl O0 O7) rfl ?_;refine aD (qr (v:=.int .u64 was) rfl ((mW▸hrd h).cell (vZ yD))) rfl ?_;refine HN ?_;refine qz (.int .u64 ((now ^^^ was:Nat):Int)) (by rw[(v7 JA oT).2.2]) ?_
   generalize now ^^^ was=x at hx he;refine Y5 ?_
   refine qf (Γ:=nM×List Bool) (fun _=>[(0,.pz p),(1,.slice sl vs.length c),(4,.pz b),(7,.int .u64 x),(8,.slice sl vs.length c),(9,.iz vs.length),(10,.iz i)])
    (fun k w=>iM k.1∧k.2++(bitsOf (x / 2^k.1.trail) k.1.cR++dO k.1 now (vs.drop (i+1)))=bs++eA vs∧St w0 (eZ b k.1::mL p k.2::l) w) ?_ ?_
   ·refine Yg ?_;refine Yb ?_;refine Yi ?_;refine Ya ?_;refine qo ((x:Int)==0) rfl (fun hc=>?_) (fun hc=>?_)
    ·
     have hx0:x=0:=by rw[beq_iff_eq] at hc;omega
     rw[if_pos hx0] at he;refine Yq ?_;refine aF rfl (qg rfl (gt 0 1 O2 O0 (h.f 1)) ?_);rintro _ w ⟨rfl,h⟩;refine Y2 ?_;refine ju ⟨(win,out++bitsOf 0 (eY 1)),kX,D8,?_,h.f 1⟩;rw[<- he,Uo];rfl
    have hx0:x≠0:=by rw[beq_eq_false_iff_ne] at hc;omega
    rw[if_neg hx0] at he;refine Y1 ?_;refine aD (qx (l:=kO win) rfl rfl (qw (h.b 0 rfl) rfl)) rfl ?_;refine Y0 ?_;refine aF rfl (qg rfl (sr hT hx h) ?_);rintro _ w ⟨rfl,h⟩;refine Ya ?_;refine qo (win.fits x) rfl (fun hc=>?_) (fun hc=>?_)
    ·
     rw[if_pos hc] at he;refine Ci ?_;refine aF rfl (qg rfl (gt 2 2 O2 O0 (h.f 1)) ?_);rintro _ w ⟨rfl,h⟩;refine qv ⟨(win,out++bitsOf 2 (eY 2)),yQ,D8,?_,h.f 1⟩;rw[<- he,Uo];rfl
    ·
     rw[if_neg (by rw[hc];simp)] at he
     obtain⟨l1,l2,l3,l4⟩:=qN hx0 hx;have hlen:=congrArg List.length he;simp only[Ua,bO] at hlen;refine Yb ?_;refine aF rfl (qg rfl (ww hT hx h) ?_);rintro _ w ⟨rfl,h⟩;refine aF rfl (qy (vs:=kO (bJ x)) 0 h rfl rfl rfl rfl rfl rfl rfl fun w h=>?_);replace h:St w0 (eZ b (bJ x)::mL p out::l) w:=h;refine rL ?_;refine aF rfl (qg rfl (gt 3 2 O2 O0 (h.f 1)) ?_);rintro _ w ⟨rfl,h⟩;refine rL ?_;refine Yc ?_;refine aD (qq (v:=.iz (bJ x).lead) rfl (h.b 1 rfl) rfl) rfl ?_;refine qJ ?_;refine qz (.int .u64 ((bJ x).lead:Int)) KP ?_;refine aF rfl (qg rfl (gt (bJ x).lead 5 O0 (by rw[Ua,bO,show eY 2=2 from rfl];omega) h) ?_)
     rintro _ w ⟨rfl,h⟩;refine GO ?_;refine aD (qx (l:=kO (bJ x)) rfl rfl (qw (h.b 1 rfl) rfl)) rfl ?_;refine aF rfl (qg rfl (xh (BB hx0 hx) h) ?_);rintro _ w ⟨rfl,h⟩;refine AQ ?_;refine qz (.iz (((bJ x).cR-1:Nat):Int)) O9 ?_;refine qJ ?_;refine qz (.int .u64 (((bJ x).cR-1:Nat):Int)) KP ?_;refine aF rfl (qg rfl (gt ((bJ x).cR-1) 6 O0 (by rw[Ua,Ua,bO,bO,show eY 2=2 from rfl,show eY 5=5 from rfl];omega) h) ?_)
     rintro _ w ⟨rfl,h⟩;refine qv ⟨(bJ x,_),yQ,BB hx0 hx,?_,h.f 1⟩;dsimp only;rw[<- he,Uo,Uo,Uo];rfl
   clear h he D8 He hnz Ft;rintro⟨win,out⟩ w e ⟨D8,he,h⟩;dsimp only at D8 he h ⊢;have hlen:=congrArg List.length he;simp only[Ua,bO] at hlen;have JB:=lY win;refine jb [0,1,2,3,4,5,6,7] none (fun w=>w.heap[b]?=some (.cells (kO win).toArray 279 (0,0))) O1 O1 ?_;replace h:=h.drew;generalize w.drew=w at h;have hs:=h;replace h:=hs.b 0 rfl;refine tY ?_;refine Yt ?_;refine Yj ?_;refine qj rfl rfl rfl rfl h (fun _ h=>qh rfl (qq (v:=.iz win.trail) rfl h rfl)) ?_;refine cD rfl rfl rfl rfl h rfl (q9 (v':=.int .u64 ((x / 2^win.trail:Nat):Int)) (j2 rfl rfl O0) (congrArg (Value.int .u64) (j3 x win.trail 64 (by unfold iM at D8;omega)))) ?_
   refine qj rfl rfl rfl rfl h (fun w h=>qh rfl (qx (l:=kO win) rfl rfl (qw h rfl))) ?_;refine Yn ?_;refine qd 6 rfl rfl rfl rfl ?_;refine(qg rfl (xh D8 hs) ?_);rintro _ w ⟨rfl,hs⟩;replace h:=hs.b 0 rfl;refine⟨fun _=>h,?_⟩;refine Ym ?_;refine qd 7 rfl rfl rfl rfl ?_;refine(qg rfl (gt (x / 2^win.trail) win.cR (Xh (Nat.div_le_self _ _) hx) O0 (hs.f 1)) ?_);rintro _ w ⟨rfl,hs⟩;replace h:=hs.b 1 rfl;refine⟨fun _=>h,?_⟩;refine qm ⟨(win,out++bitsOf (x / 2^win.trail) (eY win.cR)),kX,D8,?_,hs.f 1⟩;rw[jI JB,Uo];exact he
  clear h;rintro⟨win,out⟩ w e ⟨D8,he,h⟩;dsimp only at D8 he h ⊢;refine Yw ?_;refine qz (.iz ((i+1:Nat):Int)) O8 ?_;refine Y0 ?_;refine qv ⟨(i+1,win,out),kX,⟨hlt,D8,(fun h=>by cases h),fun _=>?_,h⟩,gH⟩
  dsimp only;rw[Nat.add_sub_cancel,show vs.getD i 0=now by rw[List.getD,hg];rfl]
  exact he
 have Jz:i=vs.length:=by simp at hc;omega
 refine ju ?_
 have:out=bs++eA vs:=by
  rcases Wb i with h0|h0
  ·rw[(He h0).2];have:vs=[]:=Uq O0;rw[this];simp[eA]
  ·have:=hnz h0;rw[Jz,Km,dO,Ux] at this;exact this
 rw[<- this];exact(show(rF []:Value)=.tuple #[]∧_ from⟨rfl,h.drop⟩)
end
end
end Go.Proofs.YtngdfdangkdgcaaGreatDoor
namespace Go.Hw
section
theorem tJ:∀(l:List Nat) (x k:Nat),(rS x k l).length<=20*(l.length+1)
 |[],x,k=>by
  have h1:=jd k;have h2:=jd x;simp[rS];omega
 |y::r,x,k=>by
  have h1:=jd k;have h2:=jd x;rw[rS,Uj];split
  ·have:=tJ r x (k+1);omega
  ·have:=tJ r y 1;rw[Ua,Ua];omega
theorem BC(l:List Nat):(eP l).length<=20*l.length:=by
 cases l with
 |nil=>exact Ug _
 |cons x r=>exact tJ r x 1
end
end Go.Hw
namespace Go.Proofs.YtngdfdangkdgcaaGreatDoor
open Go.Hw _root_.Go.Proofs.Tryz
section
abbrev mO(a:Option Addr)(c:Nat)(l:List Nat):aC:=eW 31 1 a l.length c (eE l)
section
variable{w0 w:World}{l:List aC}
end
end
end Go.Proofs.YtngdfdangkdgcaaGreatDoor
namespace Go.Hw
section
end
end Go.Hw
namespace Go.Proofs.YtngdfdangkdgcaaGreatDoor
open Go.Hw _root_.Go.Proofs.Tryz
section
section
variable{w0 w:World}{l:List aC}
theorem s7:∀m:List Nat,(m.flatMap cS).length<=10*m.length
 |[]=>Ug _
 |x::m=>by
  have h1:=jd x;have h2:=s7 m;rw[Ui,Ua,Uj];omega
end
end
end Go.Proofs.YtngdfdangkdgcaaGreatDoor
namespace Go.Hw
section
theorem SR(o:Option (List Nat)):(o.map wH).getD []=wH (o.getD [])∧(o.map wH).isSome=o.isSome:=by cases o <;> exact⟨rfl,rfl⟩
theorem rW:∀(k:Nat) (u ws:List Nat),fG k u=some ws->ws.length<=u.length∧∀w∈ws,w<18446744073709551616
 |_,[],ws,h=>by rw[fG] at h;cases h;exact⟨Ug _,fun _ h=>by cases h⟩
 |0,_::_,_,h=>by rw[fG] at h;cases h
 |k+1,a::r,ws,h=>by
  rw[fG] at h;cases hw:pY 0 jH (a::r) with
  |none=>rw[hw] at h;cases h
  |some wn=>
   obtain⟨w,n⟩:=wn;rw[hw] at h;obtain⟨y,h1,rfl⟩:=Ve.1 h;have hp:=pM O7 hw;obtain⟨h2,h3⟩:=rW k _ y h1;rw[Um] at h2;obtain⟨j,kk,g1,g2,g3⟩:=nN hw;obtain⟨f1,f2,f3⟩:=qO g2;obtain⟨k1,k2,k3,k4⟩:=tG j kk g1
   have hlt:lW kk.2 ((a::r).take n)<1152921504606846976:=by
    refine Xt (wE f2) ?_
    have:kk.2*((a::r).take n).length<=60:=by
     rw[Ul];exact Uw (Nat.mul_le_mul_left _ O0) k4
    exact Vm O2 this
   refine⟨by rw[Uj];omega,fun z hz=>?_⟩
   rcases Up.1 hz with rfl|hz
   ·omega
   ·exact h3 z hz
theorem BD{u:List Nat}:((gK u).getD []).length<=u.length∧∀w∈(gK u).getD [],w<18446744073709551616:=by
 cases h:gK u with
 |none=>exact⟨Uf _,fun _ h=>by cases h⟩
 |some ws=>exact rW _ u ws h
theorem tK{L:List bZ}(hw:∀s∈L,s.Wf):∀v∈cK L,v<18446744073709551616:=by
 intro v hv;obtain⟨s,hs,rfl⟩:=Va.1 hv;obtain⟨_,h2,h3⟩:=hw s hs;omega
theorem CD{L:List bZ}(hw:∀s∈L,s.Wf):∀t∈bG L,rM t:=by
 intro t ht;obtain⟨s,hs,rfl⟩:=Va.1 ht;exact(hw s hs).1
theorem uE(f:Nat->Nat)(wide:Nat)(v:List Nat):(v.flatMap fun y=>bitsOf (f y) wide).length=wide*v.length:=by
 induction v with
 |nil=>rfl
 |cons x v ih=>rw[Ui,Ua,bO,ih,Uj,Nat.mul_add];omega
end
end Go.Hw
namespace Go.Proofs.YtngdfdangkdgcaaGreatDoor
open Go.Hw _root_.Go.Proofs.Tryz
section
section
variable{w0 w:World}{l:List aC}
theorem Ao{u:List Nat}(hn:u.length<=65535)(hu:∀x∈u,x<18446744073709551616):(iK u).length<=600000:=by
 cases u with
 |nil=>exact Uf _
 |cons x r=>
  have h1:=jd (bR x r);have hg:=tI r x (hu x (Ud ..)) fun y hy=>hu y (Uh _ hy);have hw:cE (dL x r-bR x r)<=64:=lD O0;have h2:=uE (fun y=>y-bR x r) (cE (dL x r-bR x r)) (x::r);have h3:=j9 ((x::r).flatMap fun y=>bitsOf (y-bR x r) (cE (dL x r-bR x r)));have h4:cE (dL x r-bR x r)*(x::r).length<=64*65535:=Ke hw hn;rw[iK,Ua,Uj,h3];omega
theorem BE{u:List Nat}(hn:u.length<=65535):((pO u).getD []).length<=600000:=by
 unfold pO;cases hm:nO [] u with
 |none=>exact Uf _
 |some m=>
  dsimp only;split
  ·exact Uf _
  ·obtain⟨_,_,hm2,_⟩:=kN u [] m hm O7;have h1:=jd m.length;have hw:cE (m.length-1)<=64:=lD O0;have h2:=uE (fun y=>m.idxOf y) (cE (m.length-1)) u;have h3:=j9 (u.flatMap fun x=>bitsOf (m.idxOf x) (cE (m.length-1)));have h4:cE (m.length-1)*u.length<=64*65535:=Ke hw hn;have h5:=s7 m;show(nB m u).length<=_;unfold nB;rw[Ua,Ua,h3];omega
theorem yE{tag:Int}{u:List Nat}(hn:u.length<=65535)(hu:∀x∈u,x<18446744073709551616):((cQ tag u).getD []).length<=2000000:=by
 unfold cQ
 repeat' split
 ·have h1:=jT u;have h2:=j9 (eA u);show(pack (eA u)).length<=_;omega
 ·rw[(SR _).1,By];have:=(BD (u:=qQ 0 u)).1;rw[qR] at this;omega
 ·have:=BC u;show(eP u).length<=_;omega
 ·have:=Ao hn hu;show(iK u).length<=_;omega
 ·have:=BE (u:=u) hn;omega
 ·cases u with
  |nil=>exact Uf _
  |cons x r=>
   have:=jd x;rw[Ak];split
   ·show(cS x).length<=_;omega
   ·exact Uf _
 ·exact Uf _
def wK(tag:Int):Prop:=(∀{u:List Nat},u.length<=65535->(∀x∈u,x<18446744073709551616)->((cQ tag u).getD []).length<=2000000)∧
 ∀{w0 w:World} {l:List aC} {sl:Option Addr} {c:Nat} {u:List Nat},Tz w0->(∀x∈u,x<18446744073709551616)->u.length<=65535->u.length<=c->Reads w0 l 1 sl u.length (eE u)->St w0 l w->
  bP prog 176 [.iz tag,.slice sl u.length c] w fun v w'=>∃a c',v=.tuple [.slice a ((cQ tag u).getD []).length c',.bool (cQ tag u).isSome].toArray∧St w0 (gI a c' ((cQ tag u).getD [])::l) w'
theorem H9:wK 1:=by
 refine⟨fun {u} hn hu=>?_,fun {w0 w l sl c u} hT hu hn hc hr h=>?_⟩
 ·have e1:cQ 1 u=some (pack (eA u)):=by unfold cQ;rw[if_pos rfl]
  rw[e1];have h1:=jT u;have h2:=j9 (eA u);show(pack (eA u)).length<=_;omega
 refine en func176 results176 ntmps176 ?_;refine yZ ?_;refine vT ?_;refine I1 ?_;refine vD ?_;have e1:cQ 1 u=some (pack (eA u)):=by unfold cQ;rw[if_pos rfl]
 rw[e1];have hxl:=jT u;refine Y1 ?_;refine aF rfl (qg rfl (yv h) ?_);rintro _ w ⟨p,rfl,h⟩;refine tW ?_;refine rL ?_;refine Yp ?_;refine aF rfl (qg rfl (p6 hT hu hn O7 h hr) ?_);rintro _ w ⟨rfl,h⟩;rw[Us] at h;refine rL ?_;refine aF rfl (qg rfl (dv h O0) ?_);rintro _ w ⟨a,c1,rfl,h⟩;refine Yv ?_;exact qk (jQ ⟨a,c1,rfl,(h.f 1).drop⟩)
theorem p7{sl:Option Addr}{c:Nat}{L:List bZ}(hn:L.length<=1073741824)(hr:Reads w0 l 2 sl L.length (aW L))(h:St w0 l w):
  bP prog 175 [.slice sl L.length c] w fun v w'=>v=.bool (rising L)∧St w0 l w':=by
 refine en func175 results175 ntmps175 ?_;refine pL ?_;refine qi ?_;refine GR ?_
 refine jy (Γ:=Nat) (fun k=>[(0,.slice sl L.length c),(3,.iz ((k+1:Nat):Int))]) (fun k w=>(L=[]∨(k<L.length∧∀s,L[k]?=some s->lF L=mN s.T (L.drop (k+1))))∧St w0 l w) (fun k=>L.length-k) 0 gS ⟨by
  cases L with
  |nil=>exact .inl rfl
  |cons s r=>exact .inr ⟨by simp,fun x hx=>by simp at hx;subst hx;rfl⟩,h⟩ ?_
 clear h;rintro k w e ⟨inv,h⟩;refine vT ?_;refine sV ?_;refine yW ?_;by_cases hlt:k+1<L.length
 ·refine qz (.bool true) O5 ?_;refine E7 ?_;rcases inv with inv|⟨hk,inv⟩
  ·rw[inv] at hlt;simp at hlt
  have JC:=Ub hk;have hg:=Ub hlt;have yB:=Vx hlt;generalize L[k+1]=s1 at hg yB;have he:=inv _ JC;generalize L[k]=s0 at JC he;rw[yB,mN] at he;obtain⟨b,o,mW⟩:=(hr.at_ h).some O0
  have Pf:∀{w'},St w0 l w'->w'.cell? ⟨b,o+(k+1)*2+0,none⟩=some (.iz s1.T):=fun h'=>(mW▸hr.at_ h').elem jt hg 0 _ rfl
  have Pj:∀{w'},St w0 l w'->w'.cell? ⟨b,o+k*2+0,none⟩=some (.iz s0.T):=fun h'=>(mW▸hr.at_ h').elem jt JC 0 _ rfl
  refine Ch ?_;refine qi (jz none (fun w=>St w0 _ w) O1 O1 h.drew fun w h=>?_);refine Dg ?_;refine cD rfl rfl rfl rfl h rfl (jj (b:=b) (o:=o) (m:=L.length) (c:=c) (o':=o+(k+1)*2) DQ rfl rfl hlt rfl) ?_;refine Yj ?_;refine qj rfl rfl rfl rfl h (fun w h=>qh rfl (qr (v:=.iz s1.T) rfl (Pf h))) ?_;refine Dg ?_;refine cD rfl rfl rfl rfl h rfl (q9 (v':=.iz (k:Int)) (vk rfl rfl) O9) ?_;refine cD rfl rfl rfl rfl h rfl (jj (b:=b) (o:=o) (m:=L.length) (c:=c) (o':=o+k*2) DQ rfl rfl hk rfl) ?_;refine Yj ?_;refine qj rfl rfl rfl rfl h (fun w h=>qh rfl (qr (v:=.iz s0.T) rfl (Pj h))) ?_;refine cD rfl rfl rfl rfl h rfl (wt rfl rfl) ?_;refine qm ?_;refine qo (decide (s1.T<=s0.T)) rfl (fun hc=>?_) (fun hc=>?_)
  ·
   refine pL ?_;refine qk (bQ ⟨?_,h⟩)
   have:rising L=false:=by
    unfold rising;rw[he,show decide (s0.T<s1.T)=false by rw[decide_eq_true_eq] at hc;rw[decide_eq_false_iff_not];omega]
    rfl
   rw[this];rfl
  ·rw[show decide (s0.T<s1.T)=true by rw[decide_eq_false_iff_not] at hc;rw[decide_eq_true_eq];omega,Bool.true_and] at he
   refine Yu ?_;refine Bk ?_;refine qz (.iz ((k+1+1:Nat):Int)) O8 ?_;refine Y4 ?_;refine qv ⟨k+1,gS,⟨.inr ⟨hlt,fun s hs=>?_⟩,h⟩,cI⟩;rw[hg] at hs;cases hs
   exact he
 refine qz (.bool false) O5 ?_;refine Df ?_
 have jU:lF L=true:=by
  rcases inv with inv|⟨hk,inv⟩
  ·rw[inv];rfl
  ·have:=inv _ (Ub hk);rw[this,show k+1=L.length by omega,Km];rfl
 refine ju ?_;refine HS ?_;refine EF ?_;refine Ya ?_;refine qk (bQ ⟨?_,h⟩);show Value.bool (decide ((L.length:Int)<=65535))=_;unfold rising;rw[jU,Bool.true_and];congr 1;rw[decide_eq_decide];omega
theorem xq(hT:Tz w0){tag:Int}(hV:wK tag){sl:Option Addr}{c:Nat}{L:List bZ}(hw:∀s∈L,s.Wf)(hn:L.length<=1073741824)(hr:Reads w0 l 2 sl L.length (aW L))(h:St w0 l w):
  bP prog 160 [.iz tag,.slice sl L.length c] w fun v w'=>∃a c',v=.tuple [.slice a ((cU tag L).getD []).length c',.bool (cU tag L).isSome].toArray∧St w0 (gI a c' ((cU tag L).getD [])::l) w':=by
 refine en func160 results160 ntmps160 ?_;refine yZ ?_;refine qi ?_;refine Yd ?_;refine aF rfl (qg rfl (p7 hn hr h) ?_);rintro _ w ⟨rfl,h⟩;refine oO ?_;refine Y2 ?_;cases jU:rising L with
 |false=>
  refine vB ?_;refine yZ ?_;have e1:cU tag L=none:=by unfold cU;rw[jU];rfl
  rw[e1];exact qk (jQ ⟨none,0,rfl,St.aZ _ _ h⟩)
 |true=>
 have Fu:L.length<=65535:=by
  unfold rising at jU;simp only[Ur,decide_eq_true_eq] at jU;exact jU.2
 have e1:cU tag L=(cQ tag (cK L)).map (dY L):=by unfold cU;rw[jU,if_pos rfl]
 rw[e1];refine xU ?_;refine Bl ?_;refine GP ?_;refine I3 ?_
 refine jy (Γ:=Nat×(Option Addr×Nat)×(Option Addr×Nat)) (fun k=>[(0,.iz tag),(6,.slice k.2.1.1 (bG (L.take k.1)).length k.2.1.2),(7,.slice k.2.2.1 (cK (L.take k.1)).length k.2.2.2),(17,.slice sl L.length c),(18,.iz L.length),(19,.iz k.1)])
  (fun k w=>k.1<=L.length∧St w0 (eW 2 1 k.2.1.1 (bG (L.take k.1)).length k.2.1.2 (gU (bG (L.take k.1)))::mO k.2.2.1 k.2.2.2 (cK (L.take k.1))::l) w) (fun k=>L.length-k.1) (0,(none,0),(none,0)) kX ⟨Uf _,St.aZ _ _ (St.aZ _ _ h)⟩ ?_
 clear h;rintro⟨k,⟨ta,tc⟩,va,vc⟩ w e ⟨hk,h⟩;dsimp only at hk h ⊢;refine Cj ?_;refine qi (qo (decide ((k:Int)<(L.length:Int))) rfl (fun hc=>?_) (fun hc=>?_))
 ·
  have hlt:k<L.length:=by simp at hc;omega
  have hg:=Ub hlt;have hmem:L[k]∈L:=Zq _;generalize L[k]=s at hg hmem;obtain⟨hs1,mP,JD⟩:=hw s hmem;have Gq:bG (L.take (k+1))=bG (L.take k)++[s.T]:=by unfold bG;rw[Vk,hg,Vo];rfl
  have Ap:cK (L.take (k+1))=cK (L.take k)++[s.V.toNat]:=by unfold cK;rw[Vk,hg,Vo];rfl
  have Am:(bG (L.take k)).length=k:=by simp[bG];omega
  have hvl:(cK (L.take k)).length=k:=by simp[cK];omega
  have SS:Value.int .u64 s.V=.int .u64 (s.V.toNat:Int):=by rw[Zo mP]
  obtain⟨b,o,mW⟩:=((hr.more [_,_]).at_ h).some O0
  refine Yu ?_
  refine qf (Γ:=(Option Addr×Nat)×(Option Addr×Nat)) (fun q=>[(0,.iz tag),(6,.slice q.1.1 (bG (L.take k)++[s.T]).length q.1.2),(7,.slice q.2.1 (cK (L.take k)++[s.V.toNat]).length q.2.2),(17,.slice sl L.length c),(18,.iz L.length),(19,.iz k)])
   (fun q w=>St w0 (eW 2 1 q.1.1 (bG (L.take k)++[s.T]).length q.1.2 (gU (bG (L.take k)++[s.T]))::mO q.2.1 q.2.2 (cK (L.take k)++[s.V.toNat])::l) w) ?_ ?_
  ·refine Yg ?_;refine Y1 ?_;refine aD (jj (b:=b) (o:=o) (m:=L.length) (c:=c) (o':=o+k*2) DQ rfl rfl hlt rfl) rfl ?_;refine aD (qx (l:=s.cells) rfl rfl ((mW▸(hr.more [_,_]).at_ h).elem jt hg)) rfl ?_
   refine aF rfl (qn h fun b9 w h=>?_);refine aF rfl (qy (vs:=s.cells) 0 h rfl rfl rfl rfl rfl rfl rfl fun w h=>?_);replace h:St w0 (pt b9 (.cells s.cells.toArray 57 (0,0))::eW 2 1 ta (bG (L.take k)).length tc (gU (bG (L.take k)))::mO va vc (cK (L.take k))::l) w:=h;refine Y2 ?_;refine jb [0,1,2,3,4,5,6,7,8,9,10,11] none (fun w=>w.heap[b9]?=some (.cells s.cells.toArray 57 (0,0))) O1 O1 ?_;replace h:=h.drew;generalize w.drew=w at h;have hs:=h;replace h:=hs.b 0 rfl;refine AR ?_;refine Yj ?_;refine qj rfl rfl rfl rfl h (fun _ h=>qh rfl (qq (v:=.iz s.T) rfl h rfl)) ?_;refine Yn ?_;refine AR ?_;refine Yj ?_;refine qj rfl rfl rfl rfl h (fun _ h=>qh rfl (q9 (qq (v:=.int .u64 s.V) rfl h rfl) SS)) ?_;refine nJ ?_;refine j5 3 8 rfl rfl rfl rfl rfl rfl ?_ ?_
   ·refine jq (r:=gU [s.T]) hs rfl rfl rfl fun b1 w hs=>?_;replace h:=hs.b 1 rfl;refine⟨fun _=>h,?_⟩;refine Cu ?_;refine j5 4 8 rfl rfl rfl rfl rfl rfl ?_ ?_
    ·refine ql (ys:=gU [s.T]) (zs:=gU (bG (L.take k)++[s.T])) (m3:=(bG (L.take k)++[s.T]).length) (hs.f 2) rfl rfl ⟨rfl,.inr ⟨b1,0,rfl,qw (hs.b 0 rfl) rfl⟩⟩ (rO _) O7 (by simp[gU]) O5 O5 rfl fun Mh Mi w _ hs=>?_
     replace h:=hs.b 2 rfl;refine⟨fun _=>h,?_⟩;refine nJ ?_;refine qd 8 rfl rfl rfl rfl ?_;refine jq (r:=eE [s.V.toNat]) hs rfl rfl rfl fun b2 w hs=>?_;replace h:=hs.b 3 rfl;refine⟨fun _=>h,?_⟩;refine Ys ?_;refine qd 9 rfl rfl rfl rfl ?_;refine ql (ys:=eE [s.V.toNat]) (zs:=eE (cK (L.take k)++[s.V.toNat])) (m3:=(cK (L.take k)++[s.V.toNat]).length) (hs.f 4) rfl rfl ⟨rfl,.inr ⟨b2,0,rfl,qw (hs.b 0 rfl) rfl⟩⟩ (rN _) O7 (by simp[eE]) O5 O5 rfl fun Mj Mk w _ hs=>?_
     replace h:=hs.b 4 rfl;refine⟨fun _=>h,?_⟩;refine zW ?_;refine zW ?_;exact qm ⟨((Mh,Mi),(Mj,Mk)),kX,((((hs.f 2).f 2).drop.f 2).drop.f 2).drop⟩
    ·refine jq (r:=eE [s.V.toNat]) hs rfl rfl rfl fun b2 w hs=>?_;replace h:=hs.b 2 rfl;refine⟨fun _=>h,?_⟩;refine nJ ?_;refine qd 4 rfl rfl rfl rfl ?_;refine ql (ys:=gU [s.T]) (zs:=gU (bG (L.take k)++[s.T])) (m3:=(bG (L.take k)++[s.T]).length) (hs.f 3) rfl rfl ⟨rfl,.inr ⟨b1,0,rfl,qw (hs.b 1 rfl) rfl⟩⟩ (rO _) O7 (by simp[gU]) O5 O5 rfl fun Mh Mi w _ hs=>?_
     replace h:=hs.b 3 rfl;refine⟨fun _=>h,?_⟩;refine Ys ?_;refine qd 9 rfl rfl rfl rfl ?_;refine ql (ys:=eE [s.V.toNat]) (zs:=eE (cK (L.take k)++[s.V.toNat])) (m3:=(cK (L.take k)++[s.V.toNat]).length) (hs.f 4) rfl rfl ⟨rfl,.inr ⟨b2,0,rfl,qw (hs.b 1 rfl) rfl⟩⟩ (rN _) O7 (by simp[eE]) O5 O5 rfl fun Mj Mk w _ hs=>?_
     replace h:=hs.b 4 rfl;refine⟨fun _=>h,?_⟩;refine zW ?_;refine zW ?_;exact qm ⟨((Mh,Mi),(Mj,Mk)),kX,((((hs.f 1).f 2).drop.f 2).drop.f 2).drop⟩
   ·refine jq (r:=eE [s.V.toNat]) hs rfl rfl rfl fun b2 w hs=>?_;replace h:=hs.b 1 rfl;refine⟨fun _=>h,?_⟩;refine Cu ?_;refine qd 3 rfl rfl rfl rfl ?_;refine jq (r:=gU [s.T]) hs rfl rfl rfl fun b1 w hs=>?_;replace h:=hs.b 2 rfl;refine⟨fun _=>h,?_⟩;refine nJ ?_;refine qd 4 rfl rfl rfl rfl ?_;refine ql (ys:=gU [s.T]) (zs:=gU (bG (L.take k)++[s.T])) (m3:=(bG (L.take k)++[s.T]).length) (hs.f 3) rfl rfl ⟨rfl,.inr ⟨b1,0,rfl,qw (hs.b 0 rfl) rfl⟩⟩ (rO _) O7 (by simp[gU]) O5 O5 rfl fun Mh Mi w _ hs=>?_
    replace h:=hs.b 3 rfl;refine⟨fun _=>h,?_⟩;refine Ys ?_;refine qd 9 rfl rfl rfl rfl ?_;refine ql (ys:=eE [s.V.toNat]) (zs:=eE (cK (L.take k)++[s.V.toNat])) (m3:=(cK (L.take k)++[s.V.toNat]).length) (hs.f 4) rfl rfl ⟨rfl,.inr ⟨b2,0,rfl,qw (hs.b 2 rfl) rfl⟩⟩ (rN _) O7 (by simp[eE]) O5 O5 rfl fun Mj Mk w _ hs=>?_
    replace h:=hs.b 4 rfl;refine⟨fun _=>h,?_⟩;refine zW ?_;refine zW ?_;exact qm ⟨((Mh,Mi),(Mj,Mk)),kX,((((hs.f 1).f 2).drop.f 2).drop.f 2).drop⟩
  clear h;rintro⟨⟨ta,tc⟩,va,vc⟩ w e h;dsimp only at h ⊢;refine Yw ?_;refine qz (.iz ((k+1:Nat):Int)) O8 ?_;refine Y0 ?_;refine qv ⟨(k+1,(ta,tc),(va,vc)),⟨rfl,?_,?_,rfl,rfl,rfl,trivial⟩,⟨hlt,?_⟩,gH⟩
  ·show Value.slice _ _ _=Value.slice _ _ _;rw[Gq]
  ·show Value.slice _ _ _=Value.slice _ _ _;rw[Ap]
  ·dsimp only;rw[Gq,Ap];exact h
 have hkn:k=L.length:=by simp at hc;omega
 rw[hkn,Xa] at h ⊢;refine ju ?_;have hvl:(cK L).length=L.length:=by simp[cK]
 have Am:(bG L).length=L.length:=by simp[bG]
 have htb:=jM (bG L);have Ml:=hV.1 (u:=cK L) O0 (tK hw);refine Yb ?_;refine Yp ?_;refine aF rfl (qg rfl (hV.2 hT (u:=cK L) (tK hw) O0 (h.f 1).bT.2.1 Reads.own.cons h) ?_);rintro _ w ⟨a1,c1,rfl,h⟩;refine Ck ?_;refine vU ?_;refine Y2 ?_;cases SU:cQ tag (cK L) with
 |none=>
  refine vB ?_;refine yZ ?_;exact qk (jQ ⟨none,0,rfl,St.aZ _ _ h.drop.drop.drop⟩)
 |some vb=>
 rw[SU] at h Ml;dsimp only[Option.getD_some] at h Ml;refine xU ?_;refine Y1 ?_;refine aF rfl (qg rfl (yv h) ?_);rintro _ w ⟨p,rfl,h⟩;refine tW ?_;refine rL ?_;refine Yp ?_;refine aF rfl (qg rfl (pe (ts:=bG L) (CD hw) O0 O7 h (fun bs' w' h'=>(h'.f 2).bU)) ?_);rintro _ w ⟨rfl,h⟩;rw[Us] at h;refine rL ?_;refine aF rfl (qg rfl (dv h O0) ?_);rintro _ w ⟨a2,c2,rfl,h⟩;refine Yz ?_;have H8:=j9 (bX (bG L));generalize hX:pack (bX (bG L))=X at *;have XU:=jd X.length;have hsb:dY L vb=cS X.length++(X++vb):=by unfold dY;rw[hX]
 refine HS ?_;refine qJ ?_;refine qz (.int .u64 (X.length:Int)) KP ?_;refine aF rfl (qg rfl (z8 (bs:=[]) X.length O0 h (fun w' h'=>Reads.nil.at_ h') O7) ?_)
 rintro _ w ⟨a3,c3,rfl,h⟩;rw[Us] at h ⊢;refine Yp ?_;refine aF rfl (ql (ys:=aY X) (zs:=aY (cS X.length++X)) (m3:=(cS X.length++X).length) h rfl rfl (h.f 1).bU (fU _) O7 (by simp[aY]) Lu Lu rfl fun a4 c4 w _ h=>?_)
 refine Yp ?_;refine aF rfl (ql (ys:=aY vb) (zs:=aY (dY L vb)) (m3:=(dY L vb).length) h rfl rfl (h.f 3).bU (fU _) (by rw[hsb];simp;omega) (by rw[hsb];simp[aY]) (by rw[hsb,Ua,Ua];omega) (by rw[hsb,Ua,Ua];omega) rfl fun a5 c5 w _ h=>?_)
 refine Yv ?_;refine qk (jQ ⟨a5,c5,rfl,?_⟩);exact(((((h.f 1).drop.f 1).drop.f 1).drop.f 1).drop.f 1).drop
end
end
end Go.Proofs.YtngdfdangkdgcaaGreatDoor
namespace Go.Hw
section
theorem wL:∀(l:List bZ) (t:Int),mN t l=true↔(∀s∈l,t<s.T)∧lF l=true
 |[],t=>by simp[mN,lF]
 |s::r,t=>by
  rw[mN,Ur,decide_eq_true_eq];have ih:=wL r s.T;rw[lF,ih];constructor
  ·rintro⟨h1,h2,h3⟩;refine⟨fun x hx=>?_,h2,h3⟩;rcases Up.1 hx with rfl|hx
   ·exact h1
   ·have:=h2 x hx;omega
  ·rintro⟨h1,h2,h3⟩;exact⟨h1 s (Ud ..),h2,h3⟩
theorem s8:∀l:List bZ,lF l=true↔∀(i j:Nat) (x y:bZ),l[i]?=some x->l[j]?=some y->i<j->x.T<y.T
 |[]=>by simp[lF]
 |s::r=>by
  rw[lF,wL,s8 r];constructor
  ·rintro⟨h1,h2⟩ i j x y hi hj hij;cases j with
   |zero=>omega
   |succ j=>
    rw[Zr] at hj;cases i with
    |zero=>simp at hi;subst hi;exact h1 y (Ue hj)
    |succ i=>rw[Zr] at hi;exact h2 i j x y hi hj O0
  ·intro h;refine⟨fun x hx=>?_,fun i j x y hi hj hij=>h (i+1) (j+1) x y (by simpa using hi) (by simpa using hj) O0⟩
   obtain⟨k,hk⟩:=List.getElem?_of_mem hx;exact h 0 (k+1) s x rfl (by simpa using hk) O0
end
section
end
end Go.Hw
namespace Go.Proofs.YtngdfdangkdgcaaGreatDoor
open Go.Hw _root_.Go.Proofs.Tryz
section
section
variable{w0 w:World}{l:List aC}
abbrev lG(a:Option Addr)(c:Nat)(ts:List Int):aC:=eW 2 1 a ts.length c (gU ts)
abbrev aB(a:Option Addr)(c:Nat)(L:List bZ):aC:=eW 57 2 a L.length c (aW L)
end
end
end Go.Proofs.YtngdfdangkdgcaaGreatDoor
namespace Go.Hw
section
open Go.ChangeShapes Go.WideShapes Go.ChangeAt Go.RowKit
section
variable{P:Program}{W:World}{H:Type}{enc:TypeId×Value->H}{r:Reach}{b0:Nat}
theorem zF{n:Nat}(h:n<=maxLen):n<=9223372036854775807:=Uw h O2
theorem arg_i64s{t e:TypeId}{v:Value}{d:DataW H}{p:List MemPlace}(ht:P.underlying t=some (.slice e))(he:P.underlying e=some (.int .i64))(hc:P.cellsOf e=1)
  (hval:Value.okWide P W r b0 t v) (h:DataW.Trod enc P W 0 (fun _=>true) true t v d p) (hlt:∀x∈p,x.block<W.heap.size):
  ∃(a:Option Addr) (c:Nat) (xs:List Int),v=.slice a xs.length c∧xs.length<=9223372036854775807∧(∀x∈xs,rM x)∧Reads W [] 1 a xs.length (gU xs):=by
 obtain⟨a,n,c,zs,h1,h2,h3,h4,h5⟩:=Sw ht he hc hval h hlt;have hl:zs.length=n:=by have:=h4.1;simpa using this
 subst hl;refine⟨a,c,zs,h1,zF h2,fun x hx=>?_,Reads.old h4 h5⟩;have:=h3 x hx;simp[Lit.wf,IntKind.min,IntKind.max,IntKind.signed,IntKind.bits] at this;unfold rM;omega
end
end
end Go.Hw
namespace Go.Proofs.YtngdfdangkdgcaaGreatDoor
open Go.Hw _root_.Go.Proofs.Tryz
section
open Go.Hw Go.ChangeShapes Go.WideShapes Go.ChangeAt Go.RowKit
theorem SV{H:Type}:(Rows.laid_math_bits_deBruijn64tab:DataW H)=.agg (NI.map fun(v:Nat)=>.lit (.int .u8 (v:Int))):=rfl
theorem tz_of_laid {W : World} (h : laidMetH prog [("math/bits.deBruijn64tab", Rows.laid_math_bits_deBruijn64tab)] W) : Tz W := by
 rw[MakeChecks.laidMetH_plain _ _ _ O1] at h;obtain⟨ps,⟨g1,t1,SW,f1,p1,q1,yD,Gq,Ap,K9,_⟩,_⟩:=h
 obtain rfl := Uk ((show prog.globalNamed "math/bits.deBruijn64tab" = some 0 by kernel_rfl).symm.trans yD)
 obtain rfl:=Uk ((show(prog.globals[0]?).map (·.type)=some 309 by kernel_rfl).symm.trans Gq)
 obtain⟨xs,m1,rfl,hx1,hlen,Bc,hel⟩:=DataW.trod_array underlying309 K9;have c1:prog.cellsOf 5=1:=by kernel_rfl
 rw[c1] at hel;rw[SV] at hx1;simp only[Prod.mk.injEq,DataW.agg.injEq] at hx1;obtain⟨cs⟩:=SW
 have key:∀(i v:Nat),NI[i]?=some v->W.cell? ⟨0,i,none⟩=some (.int .u8 v):=fun i v hi=>by
  have Pk:i<64:=(Uc.1 hi).1;have h0:=hel i Pk;have hm:(xs.map (·.1))[i]?=some (.lit (.int .u8 (v:Int))):=by rw[<- hx1.1,Vb,hi];rfl
  rw[Vb] at hm;obtain⟨x,hx,BA⟩:=Ve.1 hm;rw[hx] at h0;obtain⟨k,e1,e2,_⟩:=DataW.trod_int underlying5 h0;rw[e2] at BA;have hk:k=(v:Int):=by simpa using BA
  subst hk;rw[World.var?_cell yD Ap i]
  have:(cs.drop (i*1))[0]?=some (.int .u8 (v:Int)):=by
   have e3:((cs.drop (i*1)).take 1)[0]?=some (.int .u8 (v:Int)):=by rw[e1];rfl
   rwa [List.getElem?_take_of_lt O2] at e3
  rw[List.getElem?_drop] at this;simpa using this
 refine⟨?_,key⟩;have h0:=key 0 0 rfl;unfold World.cell? at h0;split at h0
 ·rename_i hh
  exact(Array.getElem?_eq_some_iff.1 hh).1
 ·cases h0
end
section
structure Kept where
 bs:List UInt8
 holds:Int
def nP(e:Nat)(x:Kept):aC:=ex fun q:Option Addr×Nat=>all [pt e (.cells [.slice q.1 x.bs.length q.2,.iz x.holds].toArray 207 (0,0)),eW 5 1 q.1 x.bs.length q.2 (aY x.bs)]
structure eR where
 bA:Int
 last:Int
 bytes:Int
 aR:Int
 l:List (Int×Kept)
abbrev Hf(S:eR)(m:Nat):List Value:=[.iz S.bA,.iz S.last,.iz S.bytes,.iz S.aR,.map (some m)]
abbrev rX(p m:Nat)(S:eR):aC:=pt p (.cells (Hf S m).toArray 96 (0,0))
def aE(p:Nat)(S:eR):aC:=ex fun m:Nat=>all [rX p m S,iW Value.iz m nP S.l]
theorem St.store{w0 w:World}{l:List aC}{p:Nat}{S:eR}:St w0 (aE p S::l) w↔∃m,St w0 (rX p m S::iW Value.iz m nP S.l::l) w:=by
 unfold aE;rw[St.ex];exact⟨fun⟨m,h⟩=>⟨m,h.join⟩,fun⟨m,h⟩=>⟨m,St.fold [_,_] h⟩⟩
theorem St.kept{w0 w:World}{l:List aC}{e:Nat}{x:Kept}:St w0 (nP e x::l) w↔∃a c,St w0 (pt e (.cells [.slice a x.bs.length c,.iz x.holds].toArray 207 (0,0))::eW 5 1 a x.bs.length c (aY x.bs)::l) w:=by
 unfold nP;rw[St.ex];exact⟨fun⟨q,h⟩=>⟨q.1,q.2,h.join⟩,fun⟨a,c,h⟩=>⟨(a,c),St.fold [_,_] h⟩⟩
section
variable{w0 w:World}{l:List aC}{p m:Nat}{S:eR}
theorem SX(n:Int)(h:St w0 l w):bP prog 33 [.iz n] w fun v w'=>∃p,v=.pz p∧St w0 (aE p ⟨min (max n 0) 1073741824,0,0,0,[]⟩::l) w':=by
 refine en func33 results33 ntmps33 ?_;refine Gi ?_;refine LH ?_;refine aF rfl (ix Value.iz nP h fun m w h=>?_);refine aD (qc rfl) rfl ?_;refine aF rfl (jk h rfl fun p w h=>?_);refine tW ?_;refine qv (qk (bQ ⟨p,rfl,?_⟩));exact St.store.2 ⟨m,h⟩
theorem xd(h:St w0 (rX p m S::l) w):bP prog 18 [.pz p] w fun v w'=>v=.iz (IntKind.i64.wrap (S.bytes+S.aR))∧St w0 (rX p m S::l) w':=by
 refine en func18 results18 ntmps18 ?_;refine rC ?_;refine qv (qi (jz none (fun w=>St w0 (rX p m S::l) w) O1 O1 h.drew fun w h=>?_));refine Y6 ?_;refine qj rfl rfl rfl rfl h (fun _ h=>qh rfl (qq rfl (h.b 0) rfl)) ?_;refine Y6 ?_;refine qj rfl rfl rfl rfl h (fun _ h=>qh rfl (qq rfl (h.b 0) rfl)) ?_;refine cD rfl rfl rfl rfl h rfl (vv rfl rfl) ?_;refine AS ?_;exact qm (qk (bQ ⟨rfl,h⟩))
theorem oq(h:St w0 (aE p S::l) w):bP prog 18 [.pz p] w fun v w'=>v=.iz (IntKind.i64.wrap (S.bytes+S.aR))∧St w0 (aE p S::l) w':=by
 obtain⟨m,h⟩:=St.store.1 h;exact(xd h).mono fun _ _ h=>⟨h.1,St.store.2 ⟨m,h.2⟩⟩
theorem wq{sl:Option Addr}{n c:Nat}{xs:List Value}(h:St w0 l w)(hr:∀w',St w0 l w'->Rd w' 1 sl n xs)(hx:∀u∈xs,u.oneCell'=true)(hn:n<=140737488355328):bP prog 149 [.slice sl n c] w fun v w'=>∃a c',v=.slice a n c'∧(a=none↔sl=none)∧St w0 (eW 5 1 a n c' xs::l) w':=by
 refine en func149 results149 ntmps149 ?_;refine GP ?_;refine Yd ?_;refine aD (ur rfl rfl) rfl ?_;refine qv (qo sl.isNone rfl (fun hs=>?_) (fun hs=>?_))
 ·refine xV ?_;obtain rfl:sl=none:=by simpa using hs
  have h2:=hr w h;obtain⟨h3,h4⟩:=h2;obtain rfl:n=0:=by rcases h4 with h|⟨b,o,h,_⟩;exact h;cases h
  obtain rfl:xs=[]:=Uq (by simpa using h3)
  refine qv (qk (bQ ⟨none,0,rfl,by simp,St.aZ _ _ h⟩))
 ·refine Yu ?_;refine Y1 ?_;refine aF rfl (jq h rfl rfl rfl fun b w h=>?_);refine Yp ?_;have h1:St w0 (eW 5 1 (sQ b) 0 0 []::l) w:=St.iH (cur:=[]) h rfl rfl (Ug _);refine aF rfl (pv (ys:=xs) h1 rfl rfl (hr w h1.drop) hx O0 O0 rfl fun a c' w hn h=>?_);refine Yo ?_;refine qv (qk (bQ ⟨a,c',?_,?_,?_⟩))
  ·exact congrArg (fun n=>Value.slice a n c') (Uz n)
  ·exact⟨(fun h=>by cases hn h),(fun h=>by rw[h] at hs;cases hs)⟩
  ·rw[Uz] at h;exact h
theorem jf{x:Int}(h1:-9223372036854775808<=x)(h2:x<9223372036854775808):IntKind.i64.wrap x=x:=by
 unfold IntKind.wrap;simp[IntKind.signed,IntKind.bits];omega
def eR.put(S:eR)(id:Int)(x:Kept):eR:={ S with l:=aX id x S.l }
theorem og(id:Int)(h:St w0 (aE p S::l) w)(hg:aH id S.l=none):bP prog 97 [.pz p,.iz id] w fun v w'=>v=.bool false∧St w0 (aE p S::l) w':=by
 obtain⟨m,h⟩:=St.store.1 h;refine en func97 results97 ntmps97 ?_;refine pL ?_;refine Y7 ?_;refine aD (qq rfl (h.b 0) rfl) rfl ?_;refine Y0 ?_;refine aD (vw (h.f 1) rfl rfl hg) rfl ?_;refine Dl ?_;refine E4 ?_;refine AP ?_;refine Y8 ?_;refine EI ?_;refine Y3 ?_;exact qv (qk (bQ ⟨rfl,St.store.2 ⟨m,h⟩⟩))
theorem ou(id:Int){x:Kept}(h:St w0 (aE p S::l) w)(hg:aH id S.l=some x):bP prog 97 [.pz p,.iz id] w fun v w'=>v=.bool true∧St w0 (aE p (S.put id ⟨x.bs,IntKind.i64.wrap (x.holds+1)⟩)::l) w':=by
 obtain⟨m,h⟩:=St.store.1 h;obtain⟨e,h⟩:=St.uB (h.f 1) hg;obtain⟨a,c,h⟩:=St.kept.1 h;refine en func97 results97 ntmps97 ?_;refine pL ?_;refine Y7 ?_;refine aD (qq rfl (h.b 3) rfl) rfl ?_;refine Y0 ?_;refine aD (gh (h.f 2) rfl rfl) rfl ?_;refine Dl ?_;refine E4 ?_;refine AP ?_;refine Yh ?_;refine AV ?_;refine aD (qq rfl (h.b 0) rfl) rfl ?_;refine tC ?_;refine Yk ?_;refine aF rfl (qb 0 h rfl (show _=Value.int _ _ from rfl) rfl rfl rfl rfl fun w h=>?_);simp only[Vh,Vs,Nat.reduceAdd,Uz,Vu,Xn,Wg,Xg,Wo,Us,Ux,Uj,Xr] at h;refine Yl ?_;refine AP ?_;refine Y3 ?_;refine qv (qk (bQ ⟨rfl,St.store.2 ⟨m,?_⟩⟩));exact(St.tD (x:=⟨x.bs,IntKind.i64.wrap (x.holds+1)⟩) (St.kept.2 ⟨a,c,h⟩)).f 1
theorem ls(id:Int)(h:St w0 (aE p S::l) w)(hg:aH id S.l=none):bP prog 139 [.pz p,.iz id] w fun v w'=>v=.tuple [.slice none 0 0,.bool false].toArray∧St w0 (aE p S::l) w':=by
 obtain⟨m,h⟩:=St.store.1 h;refine en func139 results139 ntmps139 ?_;refine yZ ?_;refine Y7 ?_;refine aD (qq rfl (h.b 0) rfl) rfl ?_;refine Y0 ?_;refine aD (vw (h.f 1) rfl rfl hg) rfl ?_;refine Dl ?_;refine vU ?_;refine I2 ?_;exact qv (qk (jQ ⟨rfl,St.store.2 ⟨m,h⟩⟩))
theorem lm(id:Int){x:Kept}(h:St w0 (aE p S::l) w)(hg:aH id S.l=some x)(hn:x.bs.length<=140737488355328):bP prog 139 [.pz p,.iz id] w fun v w'=>
  ∃a c,v=.tuple [.slice a x.bs.length c,.bool true].toArray∧St w0 (eW 5 1 a x.bs.length c (aY x.bs)::aE p S::l) w':=by
 obtain⟨m,h⟩:=St.store.1 h;obtain⟨e,h⟩:=St.uB (h.f 1) hg;obtain⟨a,c,h⟩:=St.kept.1 h;refine en func139 results139 ntmps139 ?_;refine yZ ?_;refine Y7 ?_;refine aD (qq rfl (h.b 3) rfl) rfl ?_;refine Y0 ?_;refine aD (gh (h.f 2) rfl rfl) rfl ?_;refine Dl ?_;refine vU ?_;refine Y8 ?_;refine Y7 ?_;refine aD (qq rfl (h.b 0) rfl) rfl ?_;refine aF rfl (qg rfl (wq h (fun w' h'=>(h'.f 1).bU) (fU _) hn) ?_);rintro _ w ⟨a',c',rfl,_,h⟩;refine Yo ?_;refine Y3 ?_;refine qv (qk (jQ ⟨a',c',rfl,?_⟩));exact(St.store.2 ⟨m,(St.Bo hg (((St.kept.2 ⟨a,c,((h.f 1).f 2).f 1⟩).f 2).f 1)).f 2⟩).f 1
def eR.left(S:eR)(id:Int)(x:Kept):eR:=
 if IntKind.i64.wrap (x.holds-1)=0 then { S with bytes:=IntKind.i64.wrap (S.bytes-x.bs.length),l:=bY id S.l } else S.put id ⟨x.bs,IntKind.i64.wrap (x.holds-1)⟩
theorem p8(id:Int)(h:St w0 (aE p S::l) w)(hg:aH id S.l=none):bP prog 127 [.pz p,.iz id] w fun v w'=>v=.bool false∧St w0 (aE p S::l) w':=by
 obtain⟨m,h⟩:=St.store.1 h;refine en func127 results127 ntmps127 ?_;refine pL ?_;refine Y7 ?_;refine aD (qq rfl (h.b 0) rfl) rfl ?_;refine Y0 ?_;refine aD (vw (h.f 1) rfl rfl hg) rfl ?_;refine Dl ?_;refine vU ?_;refine GS ?_;exact qv (qk (bQ ⟨rfl,St.store.2 ⟨m,h⟩⟩))
theorem p9(id:Int){x:Kept}(h:St w0 (aE p S::l) w)(hg:aH id S.l=some x):bP prog 127 [.pz p,.iz id] w fun v w'=>
  v=.bool true∧St w0 (aE p (S.left id x)::l) w':=by
 obtain⟨m,h⟩:=St.store.1 h;obtain⟨e,h⟩:=St.uB (h.f 1) hg;obtain⟨a,c,h⟩:=St.kept.1 h;refine en func127 results127 ntmps127 ?_;refine pL ?_;refine Y7 ?_;refine aD (qq rfl (h.b 3) rfl) rfl ?_;refine Y0 ?_;refine aD (gh (h.f 2) rfl rfl) rfl ?_;refine Dl ?_;refine vU ?_;refine Y8 ?_;refine Y7 ?_;refine aD (qq rfl (h.b 0) rfl) rfl ?_;refine AQ ?_;refine Yk ?_;refine aF rfl (qb 0 h rfl (show _=Value.int _ _ from rfl) rfl rfl rfl rfl fun w h=>?_);simp only[Vh,Vs,Nat.reduceAdd,Uz,Vu,Xn,Wg,Xg,Wo,Us,Ux,Uj,Xr] at h;refine yX ?_;refine Y7 ?_;refine aD (qq rfl (h.b 0) rfl) rfl ?_;refine Yi ?_;refine qv (qo (IntKind.i64.wrap (x.holds-1)==0) rfl (fun hz=>?_) (fun hz=>?_))
 ·have Fv:IntKind.i64.wrap (x.holds-1)=0:=by simpa using hz
  refine qi (jz (some 12) (fun w=>St w0 _ w) O1 O1 h.drew fun w h=>?_);refine Y6 ?_;refine qj rfl rfl rfl rfl h (fun _ h=>qh rfl (qq rfl (h.b 3) rfl)) ?_;refine Y6 ?_;refine qj rfl rfl rfl rfl h (fun _ h=>qh rfl (qq rfl (h.b 0) rfl)) ?_;refine De ?_;refine cD rfl rfl rfl rfl h rfl (vk rfl rfl) ?_;refine Cg ?_;refine Ym ?_;refine jv 12 rfl rfl rfl ?_;refine qb 3 h rfl (show _=Value.int _ _ from rfl) rfl rfl rfl rfl fun w h=>?_;simp only[Vh,Vs] at h;refine AV ?_;refine aD (qq rfl (h.b 3) rfl) rfl ?_;refine Y0 ?_;refine aF rfl (QM (h.f 2) rfl rfl fun w h=>?_);refine Yl ?_;refine Y3 ?_;refine qv (qk (bQ ⟨rfl,?_⟩));rw[eR.left,if_pos Fv];exact St.store.2 ⟨m,(((h.f 1).drop.f 1).drop).f 1⟩
 ·have Fv:¬IntKind.i64.wrap (x.holds-1)=0:=by simpa using hz
  refine Yu ?_;refine Y1 ?_;refine Y3 ?_;refine qv (qk (bQ ⟨rfl,?_⟩));rw[eR.left,if_neg Fv];exact St.store.2 ⟨m,(St.tD (x:=⟨x.bs,IntKind.i64.wrap (x.holds-1)⟩) (St.kept.2 ⟨a,c,h⟩)).f 1⟩
theorem SY{sl:Option Addr}{n c:Nat}{bs:List UInt8}(h:St w0 (aE p S::l) w)(hr:∀w',St w0 l w'->Rd w' 1 sl n (aY bs))(hn:n<=140737488355328)(hfree:aH (IntKind.i64.wrap (S.last+1)) S.l=none):
  bP prog 145 [.pz p,.slice sl n c] w fun v w'=>
  if IntKind.i64.wrap (S.bA-IntKind.i64.wrap (S.bytes+S.aR))<n then v=.tuple [.iz 0,.bool false].toArray∧St w0 (aE p S::l) w'
  else v=.tuple [.iz (IntKind.i64.wrap (S.last+1)),.bool true].toArray∧
   St w0 (aE p ⟨S.bA,IntKind.i64.wrap (S.last+1),IntKind.i64.wrap (S.bytes+n),S.aR,aX (IntKind.i64.wrap (S.last+1)) ⟨bs,1⟩ S.l⟩::l) w':=by
 obtain⟨m,h⟩:=St.store.1 h
 have Mm:bs.length=n:=by
  have:=(hr w (h.drop.drop)).1;rw[vX] at this;omega
 refine en func145 results145 ntmps145 ?_;refine Y1 ?_;refine tZ ?_;refine qi (qi (jz none (fun w=>St w0 (rX p m S::iW Value.iz m nP S.l::l) w) O1 O1 h.drew fun w h=>?_));refine AR ?_;refine De ?_;refine Y6 ?_;refine qj rfl rfl rfl rfl h (fun _ h=>qh rfl (qq rfl (h.b 0) rfl)) ?_;refine tY ?_;refine Ys ?_;refine qd 7 rfl rfl rfl rfl ?_;refine qg rfl (xd h) ?_;rintro _ w ⟨rfl,h⟩;refine⟨fun _=>h,?_⟩;refine cD rfl rfl rfl rfl h rfl (vk rfl rfl) (cD rfl rfl rfl rfl h rfl (ue rfl rfl) ?_);refine qm ?_;refine qo _ rfl (fun hc=>?_) (fun hc=>?_)
 ·have Fb:IntKind.i64.wrap (S.bA-IntKind.i64.wrap (S.bytes+S.aR))<n:=by simpa using hc
  refine Y1 ?_;refine tZ ?_;refine qk (jQ ?_);rw[if_pos Fb];exact⟨rfl,St.store.2 ⟨m,h⟩⟩
 have Fb:¬IntKind.i64.wrap (S.bA-IntKind.i64.wrap (S.bytes+S.aR))<n:=by simpa using hc
 refine Yu ?_;refine Y7 ?_;refine aD (qq rfl (h.b 0) rfl) rfl ?_;refine tC ?_;refine Yk ?_;refine aF rfl (qb 0 h rfl (show _=Value.int _ _ from rfl) rfl rfl rfl rfl fun w h=>?_);simp only[Vh,Vs,Nat.reduceAdd,Uz,Vu,Xn,Wg,Xg,Wo,Us,Ux,Uj,Xr] at h;refine Y2 ?_;refine qi (jz (some 12) (fun w=>St w0 _ w) O1 O1 h.drew fun w h=>?_);refine Y6 ?_;refine qj rfl rfl rfl rfl h (fun _ h=>qh rfl (qq rfl (h.b 0) rfl)) ?_;refine Y6 ?_;refine qj rfl rfl rfl rfl h (fun _ h=>qh rfl (qq rfl (h.b 0) rfl)) ?_;refine AR ?_;refine nJ ?_;refine qd 9 rfl rfl rfl rfl ?_;refine qg rfl (wq h (fun w' h'=>hr w' (h'.drop.drop)) (fU _) hn) ?_;rintro _ w ⟨a,c',rfl,_,h⟩;refine⟨fun _=>h.drop,?_⟩;have h0:=h;replace h:=h0.drop;refine cD rfl rfl rfl rfl h rfl (qc rfl) ?_;refine Yn ?_;refine qd 11 rfl rfl rfl rfl ?_;refine jk h0 (show _=Value.agg [.slice a n c',.iz 1].toArray from rfl) fun e w h0=>⟨fun _=>h0.drop.drop,?_⟩;have h:=h0.drop.drop;refine Ym ?_;refine jv 12 rfl rfl rfl ?_;have h1:=(St.kept (x:=⟨bs,1⟩)).2 ⟨a,c',by rw[Mm];exact h0⟩
 refine QL ((h1.f 2).f 1) hfree rfl rfl rfl fun w h=>?_;replace h:=h.f 1;refine Y7 ?_;refine aD (qq rfl (h.b 0) rfl) rfl ?_;refine sV ?_;refine tC ?_;refine Yk ?_;refine aF rfl (qb 0 h rfl (show _=Value.int _ _ from rfl) rfl rfl rfl rfl fun w h=>?_);simp only[Vh,Vs,Nat.reduceAdd,Uz,Vu,Xn,Wg,Xg,Wo,Us,Ux,Uj,Xr] at h;refine Y2 ?_;refine Y7 ?_;refine aD (qq rfl (h.b 0) rfl) rfl ?_;refine tZ ?_;refine qk (jQ ?_);rw[if_neg Fb];exact⟨rfl,St.store.2 ⟨m,h⟩⟩
def eR.nQ(S:eR)(n:Int):eR:=
 let k:=if n<IntKind.i64.wrap (0-S.aR) then IntKind.i64.wrap (0-S.aR) else n
 { S with aR:=IntKind.i64.wrap (S.aR+k) }
theorem cq(n:Int)(h:St w0 (aE p S::l) w):bP prog 129 [.pz p,.iz n] w fun v w'=>
  if n>0∧n>IntKind.i64.wrap (S.bA-IntKind.i64.wrap (S.bytes+S.aR)) then v=.bool false∧St w0 (aE p S::l) w'
  else v=.bool true∧St w0 (aE p (S.nQ n)::l) w':=by
 obtain⟨m,h⟩:=St.store.1 h;refine en func129 results129 ntmps129 ?_;refine pL ?_;refine qf (Γ:=Unit) (fun _=>[(0,.pz p),(1,.iz n)]) (fun _ w=>¬(n>0∧n>IntKind.i64.wrap (S.bA-IntKind.i64.wrap (S.bytes+S.aR)))∧St w0 (rX p m S::iW Value.iz m nP S.l::l) w) ?_ ?_
 ·refine qi (jz none (fun w=>St w0 (rX p m S::iW Value.iz m nP S.l::l) w) O1 O1 h.drew fun w h=>?_);by_cases hn:n>0
  ·have hn1:decide (n>0)=true:=by simpa using hn
   refine Yt ?_;refine cD rfl rfl rfl rfl h rfl (ue rfl rfl) ?_;refine Yx ?_;refine qu rfl rfl rfl rfl (fun _=>h) (fun _=>qe rfl yR (v5 rfl)) (qu rfl rfl rfl rfl (fun _=>h) (fun _=>qe rfl yR (j1 rfl)) (qu rfl rfl rfl rfl (fun _=>h) (fun _=>qe rfl yR (uj rfl)) (qu rfl rfl rfl rfl (fun _=>h) (fun _=>qe rfl yR (vj rfl)) ?_)));refine qj rfl rfl rfl rfl h (fun _ h=>qe rfl yR (qq rfl (h.b 0) rfl)) ?_;refine qu rfl rfl rfl rfl (fun _=>h) (fun _=>qe rfl yR (j1 rfl)) ?_;refine nJ ?_;refine qd 9 rfl rfl rfl (vt rfl rfl hn1) ?_;refine qg rfl (xd h) ?_;rintro _ w ⟨rfl,h⟩;refine⟨fun _=>h,?_⟩;refine qu rfl rfl rfl rfl (fun _=>h) (fun _=>qe rfl yR (vk rfl rfl)) (qu rfl rfl rfl rfl (fun _=>h) (fun _=>qe rfl yR (ue rfl rfl)) (cD rfl rfl rfl rfl h rfl (jp rfl yR rfl) ?_));refine qm ?_;refine qo _ rfl (fun hc=>?_) (fun hc=>?_)
   ·have Fb:n>0∧n>IntKind.i64.wrap (S.bA-IntKind.i64.wrap (S.bytes+S.aR)):=⟨hn,by simpa using hc⟩
    refine pL ?_;refine qk (bQ ?_);rw[if_pos Fb];exact⟨rfl,St.store.2 ⟨m,h⟩⟩
   ·refine qa ⟨(),gS,fun h=>?_,h⟩;have:=h.2;simp at hc;omega
  ·have hn1:decide (n>0)=false:=by simpa using hn
   refine Yt ?_;refine cD rfl rfl rfl rfl h rfl (ue rfl rfl) ?_;refine Yx ?_;refine qu rfl rfl rfl rfl (fun _=>h) (fun _=>qp rfl yR) (qu rfl rfl rfl rfl (fun _=>h) (fun _=>qp rfl yR) (qu rfl rfl rfl rfl (fun _=>h) (fun _=>qp rfl yR) (qu rfl rfl rfl rfl (fun _=>h) (fun _=>qp rfl yR) (qu rfl rfl rfl rfl (fun _=>h) (fun _=>qp rfl yR) (qu rfl rfl rfl rfl (fun _=>h) (fun _=>qp rfl yR) ?_)))));refine qu rfl rfl rfl rfl (fun _=>h) (fun _=>qp rfl yR) (qu rfl rfl rfl rfl (fun _=>h) (fun _=>qp rfl yR) (qu rfl rfl rfl rfl (fun _=>h) (fun _=>qp rfl yR) (cD rfl rfl rfl rfl h rfl (jc rfl yR rfl) ?_)));refine qm ?_;refine qt rfl ?_;refine qa ⟨(),gS,fun h=>hn h.1,h⟩
 ·rintro-w e ⟨hc,h⟩;refine qf (Γ:=Int) (fun k=>[(0,.pz p),(1,.iz k)]) (fun k w=>k=(if n<IntKind.i64.wrap (0-S.aR) then IntKind.i64.wrap (0-S.aR) else n)∧St w0 (rX p m S::iW Value.iz m nP S.l::l) w) ?_ ?_
  ·refine Yb ?_;refine vE ?_;refine aD (qq rfl (h.b 0) rfl) rfl (aD (sx rfl) rfl ?_);refine yW ?_;refine Y2 ?_;refine qo _ rfl (fun hc=>?_) (fun hc=>?_)
   ·refine AV ?_;refine aD (qq rfl (h.b 0) rfl) rfl (aD (sx rfl) rfl ?_);refine Y4 ?_;exact qv ⟨_,gS,by rw[if_pos (by simpa using hc)],h⟩
   ·exact qa ⟨_,gS,by rw[if_neg (by simpa using hc)],h⟩
  ·rintro k w e ⟨hk,h⟩;refine Y7 ?_;refine aD (qq rfl (h.b 0) rfl) rfl ?_;refine Y0 ?_;refine tC ?_;refine Yk ?_;refine aF rfl (qb 0 h rfl (show _=Value.int _ _ from rfl) rfl rfl rfl rfl fun w h=>?_);simp only[Vh,Vs,Nat.reduceAdd,Uz,Vu,Xn,Wg,Xg,Wo,Us,Ux,Uj,Xr] at h;refine Yl ?_;refine Ya ?_;refine qk (bQ ?_);rw[if_neg hc];refine⟨rfl,St.store.2 ⟨m,?_⟩⟩;simp only[eR.nQ,<- hk];exact h
end
end
section
theorem wj{w0 w:World}{l:List aC}{sl:Option Addr}{n c:Nat}{xs:List Value}(h:St w0 l w)(hr:∀w',St w0 l w'->Rd w' 5 sl n xs)(hx:∀u∈xs,u.oneCell'=true)(hn:n*40<=140737488355328):bP prog 126 [.slice sl n c] w fun v w'=>∃a c',v=.slice a n c'∧(a=none↔sl=none)∧St w0 (eW 168 5 a n c' xs::l) w':=by
 refine en func126 results126 ntmps126 ?_;refine GP ?_;refine Yd ?_;refine aD (ur rfl rfl) rfl ?_;refine qv (qo sl.isNone rfl (fun hs=>?_) (fun hs=>?_))
 ·refine xV ?_;obtain rfl:sl=none:=by simpa using hs
  have h2:=hr w h;obtain⟨h3,h4⟩:=h2;obtain rfl:n=0:=by rcases h4 with h|⟨b,o,h,_⟩;exact h;cases h
  obtain rfl:xs=[]:=Uq (by simpa using h3)
  refine qv (qk (bQ ⟨none,0,rfl,by simp,St.aZ _ _ h⟩))
 ·refine Yu ?_;refine Y1 ?_;refine aF rfl (jq (r:=[]) h rfl rfl rfl fun b w h=>?_);refine Yp ?_;have h1:St w0 (eW 168 5 (sQ b) 0 0 []::l) w:=St.iH (cur:=[]) h rfl rfl (Ug _);refine aF rfl (ql h1 rfl rfl (hr w h1.drop) hx (Uz n) (Us _) hn O0 rfl fun a c' w hn h=>?_);refine Yo ?_;refine qv (qk (bQ ⟨a,c',rfl,?_,h⟩));exact⟨(fun h=>by cases hn h),(fun h=>by rw[h] at hs;cases hs)⟩
theorem uk{w0 w:World}{l:List aC}{sl:Option Addr}{n c:Nat}{xs:List Value}(h:St w0 l w)(hr:∀w',St w0 l w'->Rd w' 2 sl n xs)(hx:∀u∈xs,u.oneCell'=true)(hn:n*16<=140737488355328):bP prog 43 [.slice sl n c] w fun v w'=>∃a c',v=.slice a n c'∧(a=none↔sl=none)∧St w0 (eW 57 2 a n c' xs::l) w':=by
 refine en func43 results43 ntmps43 ?_;refine GP ?_;refine Yd ?_;refine aD (ur rfl rfl) rfl ?_;refine qv (qo sl.isNone rfl (fun hs=>?_) (fun hs=>?_))
 ·refine xV ?_;obtain rfl:sl=none:=by simpa using hs
  have h2:=hr w h;obtain⟨h3,h4⟩:=h2;obtain rfl:n=0:=by rcases h4 with h|⟨b,o,h,_⟩;exact h;cases h
  obtain rfl:xs=[]:=Uq (by simpa using h3)
  refine qv (qk (bQ ⟨none,0,rfl,by simp,St.aZ _ _ h⟩))
 ·refine Yu ?_;refine Y1 ?_;refine aF rfl (jq (r:=[]) h rfl rfl rfl fun b w h=>?_);refine Yp ?_;have h1:St w0 (eW 57 2 (sQ b) 0 0 []::l) w:=St.iH (cur:=[]) h rfl rfl (Ug _);refine aF rfl (ql h1 rfl rfl (hr w h1.drop) hx (Uz n) (Us _) hn O0 rfl fun a c' w hn h=>?_);refine Yo ?_;refine qv (qk (bQ ⟨a,c',rfl,?_,h⟩));exact⟨(fun h=>by cases hn h),(fun h=>by rw[h] at hs;cases hs)⟩
structure jA where
 bN:Int
 cW:Int
 lX:Int
 upto:Int
 pn:Nat
 pc:List Value
 tn:Nat
 tc:List Value
abbrev jA.cells(x:jA)(a1:Option Addr)(c1:Nat)(a2:Option Addr)(c2:Nat):List Value:=[.iz x.bN,.iz x.cW,.iz x.lX,.iz x.upto,.slice a1 x.pn c1,.slice a2 x.tn c2]
structure jA.Wf(x:jA):Prop where
 p1:∀u∈x.pc,u.oneCell'=true
 t1:∀u∈x.tc,u.oneCell'=true
 pn:x.pn*40<=140737488355328
 tn:x.tn*16<=140737488355328
structure One where
 aA:Int
 told:Int
 x:jA
 used:Bool
 who:Int
abbrev One.cells(o:One)(a1:Option Addr)(c1:Nat)(a2:Option Addr)(c2:Nat):List Value:=[.iz o.aA,.iz o.told,.iz o.x.bN,.iz o.x.cW,.iz o.x.lX,.iz o.x.upto,.slice a1 o.x.pn c1,.slice a2 o.x.tn c2,.bool o.used,.iz o.who]
abbrev oV(x:jA)(a1:Option Addr)(c1:Nat):aC:=eW 168 5 a1 x.pn c1 x.pc
abbrev oH(x:jA)(a2:Option Addr)(c2:Nat):aC:=eW 57 2 a2 x.tn c2 x.tc
def jB(e:Nat)(o:One):aC:=ex fun q:Option Addr×Nat×Option Addr×Nat=>all [pt e (.cells (o.cells q.1 q.2.1 q.2.2.1 q.2.2.2).toArray 181 (0,0)),oV o.x q.1 q.2.1,oH o.x q.2.2.1 q.2.2.2,lift o.x.Wf]
theorem St.one{w0 w:World}{l:List aC}{e:Nat}{o:One}:St w0 (jB e o::l) w↔o.x.Wf∧∃a1 c1 a2 c2,St w0 (pt e (.cells (o.cells a1 c1 a2 c2).toArray 181 (0,0))::oV o.x a1 c1::oH o.x a2 c2::l) w:=by
 unfold jB;rw[St.ex];constructor
 ·rintro⟨⟨a1,c1,a2,c2⟩,h⟩;have h1:=(h.join.f 3);obtain⟨hw,h2⟩:=St.lift.1 h1;exact⟨hw,a1,c1,a2,c2,h2⟩
 ·rintro⟨hw,a1,c1,a2,c2,h⟩;have h1:=(St.lift.2 ⟨hw,h⟩);have h2:St w0 ([pt e (.cells (o.cells a1 c1 a2 c2).toArray 181 (0,0)),oV o.x a1 c1,oH o.x a2 c2,lift o.x.Wf]++l) w:=h1.eH (by simp only[Wo,Us,jn];ac_rfl)
  exact⟨(a1,c1,a2,c2),St.fold _ h2⟩
structure Mn where
 last:Int
 l:List (Int×One)
abbrev lZ(p m:Nat)(T:Mn):aC:=pt p (.cells [.iz T.last,.map (some m)].toArray 100 (0,0))
def aS(p:Nat)(T:Mn):aC:=ex fun m:Nat=>all [lZ p m T,iW Value.iz m jB T.l]
theorem St.jC{w0 w:World}{l:List aC}{p:Nat}{T:Mn}:St w0 (aS p T::l) w↔∃m,St w0 (lZ p m T::iW Value.iz m jB T.l::l) w:=by
 unfold aS;rw[St.ex];exact⟨fun⟨m,h⟩=>⟨m,h.join⟩,fun⟨m,h⟩=>⟨m,St.fold [_,_] h⟩⟩
section
variable{w0 w:World}{l:List aC}{p m:Nat}{T:Mn}
theorem dk{x:jA}(wf:x.Wf){a1 a2:Option Addr}{c1 c2:Nat}(h:St w0 l w)(iX:∀w',St w0 l w'->Rd w' 5 a1 x.pn x.pc)(yF:∀w',St w0 l w'->Rd w' 2 a2 x.tn x.tc):
  bP prog 99 [.agg (x.cells a1 c1 a2 c2).toArray] w fun v w'=>∃yG uV yH yI,v=.agg (x.cells yG uV yH yI).toArray∧St w0 (oV x yG uV::oH x yH yI::l) w':=by
 refine en func99 results99 ntmps99 ?_;refine Y1 ?_;refine aF rfl (jk h (show _=Value.agg (x.cells a1 c1 a2 c2).toArray from rfl) fun b w h=>?_);refine aF rfl (qn h fun r w h=>?_);replace h:St w0 (pt r _::pt b (.cells (x.cells a1 c1 a2 c2).toArray 87 (0,0))::l) w:=h;refine Y2 ?_;refine qi (jz (some 7) (fun w=>St w0 _ w) O1 O1 h.drew fun w h=>?_);refine Yj ?_;refine qj rfl rfl rfl rfl h (fun _ h=>qh rfl (qq rfl (h.b 1) rfl)) ?_;refine EG ?_;refine qj rfl rfl rfl rfl h (fun _ h=>qh rfl (qq rfl (h.b 1) rfl)) ?_;refine Cu ?_;refine qd 2 rfl rfl rfl rfl ?_;refine(qg rfl (wj h (fun w' h'=>iX w' h'.drop.drop) wf.p1 wf.pn) ?_);rintro _ w ⟨yG,uV,rfl,_,h1⟩;refine⟨fun _=>h1.drop,?_⟩;replace h:=h1.drop;refine EG ?_;refine Ys ?_;refine qd 5 rfl rfl rfl rfl ?_;refine(qg rfl (uk h1 (fun w' h'=>yF w' h'.drop.drop.drop) wf.t1 wf.tn) ?_);rintro _ w ⟨yH,yI,rfl,_,h2⟩;refine⟨fun _=>h2.drop.drop,?_⟩;replace h:=h2.drop.drop;refine Ys ?_;refine jx 7 (some 9) rfl rfl rfl rfl ?_;refine qb 3 h2 rfl (show _=Value.slice _ _ _ from rfl) rfl rfl rfl rfl fun w h=>?_;refine jh h ?_;refine Di ?_;refine jv 9 rfl rfl rfl ?_;refine qb 3 h rfl (show _=Value.slice _ _ _ from rfl) rfl rfl rfl rfl fun w h=>?_;replace h:St w0 (oH x yH yI::oV x yG uV::pt r _::pt b (.cells (x.cells yG uV yH yI).toArray 87 (0,0))::l) w:=h;refine Y1 ?_;refine aD (qx (l:=x.cells yG uV yH yI) rfl rfl (qw (h.b 3 rfl) rfl)) rfl ?_;refine aF rfl (qy (vs:=x.cells yG uV yH yI) 2 h rfl rfl rfl rfl rfl rfl rfl fun w h=>?_);replace h:St w0 (oH x yH yI::oV x yG uV::pt r (.cells (x.cells yG uV yH yI).toArray 87 (0,0))::_::l) w:=h
 refine Y2 ?_;refine qk (uQ (l:=x.cells yG uV yH yI) rfl rfl (qw (h.b 2 rfl) rfl) ⟨_,_,_,_,rfl,?_⟩);exact((h.f 2).drop.f 2).drop.f 1
theorem SZ(h:St w0 l w):bP prog 34 [] w fun v w'=>∃p,v=.pz p∧St w0 (aS p ⟨0,[]⟩::l) w':=by
 refine en func34 results34 ntmps34 ?_;refine Y1 ?_;refine tW ?_;refine Yl ?_;refine aF rfl (ix Value.iz jB h fun m w h=>?_);refine aD (qc rfl) rfl ?_;refine aF rfl (jk h rfl fun p w h=>?_);refine tW ?_;refine qv (qk (bQ ⟨p,rfl,?_⟩));exact St.jC.2 ⟨m,h⟩
theorem oy(h:St w0 (aS p T::l) w):bP prog 21 [.pz p] w fun v w'=>v=.iz T.l.length∧St w0 (aS p T::l) w':=by
 obtain⟨m,h⟩:=St.jC.1 h;refine en func21 results21 ntmps21 ?_;refine Yr ?_;refine Y7 ?_;refine aD (qq rfl (h.b 0) rfl) rfl ?_;refine aD (QK (h.f 1) rfl) rfl ?_;refine Y5 ?_;exact qk (bQ ⟨rfl,St.jC.2 ⟨m,h⟩⟩)
theorem oz{x:jA}(wf:x.Wf){a1 a2:Option Addr}{c1 c2:Nat}(aA:Int)(h:St w0 (aS p T::l) w)(h8:T.l.length<8)(hfree:aH (T.last+1) T.l=none)(vI:0<=T.last)(rV:T.last<4611686018427387904)
  (iX:∀w',St w0 l w'->Rd w' 5 a1 x.pn x.pc) (yF:∀w',St w0 l w'->Rd w' 2 a2 x.tn x.tc):
  bP prog 64 [.pz p,.iz aA,.agg (x.cells a1 c1 a2 c2).toArray] w fun v w'=>
  v=.tuple [.iz (T.last+1),.bool true].toArray∧St w0 (aS p ⟨T.last+1,aX (T.last+1) ⟨aA,0,x,false,0⟩ T.l⟩::l) w':=by
 obtain⟨m,h⟩:=St.jC.1 h;refine en func64 results64 ntmps64 ?_;refine Y1 ?_;refine aF rfl (jk h (show _=Value.agg (x.cells a1 c1 a2 c2).toArray from rfl) fun b w h=>?_);refine tZ ?_;refine Bm ?_;refine aD (qq rfl (h.b 1) rfl) rfl ?_;refine aD (QK (h.f 2) rfl) rfl ?_;refine tX ?_;refine qz (.bool false) O5 ?_;refine Y8 ?_;refine Y7 ?_;refine aD (qq rfl (h.b 1) rfl) rfl ?_;refine tC ?_;refine qz (.iz (T.last+1)) Ce ?_;refine Yk ?_;refine aF rfl (qb 1 h rfl (show _=Value.iz (T.last+1) from rfl) rfl rfl rfl rfl fun w h=>?_);replace h:St w0 (pt b (.cells (x.cells a1 c1 a2 c2).toArray 87 (0,0))::lZ p m ⟨T.last+1,T.l⟩::iW Value.iz m jB T.l::l) w:=h;refine Y2 ?_;refine qi (jz (some 13) (fun w=>St w0 _ w) O1 O1 h.drew fun w h=>?_);refine Y6 ?_;refine qj rfl rfl rfl rfl h (fun _ h=>qh rfl (qq rfl (h.b 1) rfl)) ?_;refine Y6 ?_;refine qj rfl rfl rfl rfl h (fun _ h=>qh rfl (qq rfl (h.b 1) rfl)) ?_;refine Yt ?_;refine qj rfl rfl rfl rfl h (fun _ h=>qh rfl (qx (l:=x.cells a1 c1 a2 c2) rfl rfl (qw (h.b 0 rfl) rfl))) ?_;refine nJ ?_;refine qd 10 rfl rfl rfl rfl ?_;refine(qg rfl (dk wf h (fun w' h'=>iX w' h'.drop.drop.drop) (fun w' h'=>yF w' h'.drop.drop.drop)) ?_);rintro _ w ⟨yG,uV,yH,yI,rfl,h1⟩;refine⟨fun _=>h1.drop.drop,?_⟩;replace h:=h1.drop.drop;refine cD rfl rfl rfl rfl h rfl (qc (r:=(One.mk aA 0 x false 0).cells yG uV yH yI) rfl) ?_;refine Yn ?_;refine qd 12 rfl rfl rfl rfl ?_;refine(jk h1 (show _=Value.agg ((One.mk aA 0 x false 0).cells yG uV yH yI).toArray from rfl) fun q w h1=>?_);refine⟨fun _=>h1.drop.drop.drop,?_⟩
 replace h:=h1.drop.drop.drop;refine Ym ?_;refine jv 13 rfl rfl rfl ?_;have h2:=(St.one (o:=⟨aA,0,x,false,0⟩)).2 ⟨wf,yG,uV,yH,yI,h1⟩;refine QL ((h2.f 3).f 1) hfree rfl rfl rfl fun w h=>?_;replace h:=h.f 2;refine Y7 ?_;refine aD (qq rfl (h.b 0) rfl) rfl ?_;refine tZ ?_;exact qk (jQ ⟨rfl,St.jC.2 ⟨m,((h.f 1).f 2).drop.f 1⟩⟩)
theorem ln(id who:Int)(h:St w0 (aS p T::l) w)(hg:aH id T.l=none):bP prog 100 [.pz p,.iz id,.iz who] w fun v w'=>v=.iz 3∧St w0 (aS p T::l) w':=by
 obtain⟨m,h⟩:=St.jC.1 h;refine en func100 results100 ntmps100 ?_;refine Yr ?_;refine Y7 ?_;refine aD (qq rfl (h.b 0) rfl) rfl ?_;refine Y0 ?_;refine aD (vw (h.f 1) rfl rfl hg) rfl ?_;refine Dl ?_;refine Ch ?_;refine Y1 ?_;refine vC ?_;refine vD ?_;refine Yr ?_;exact qk (bQ ⟨rfl,St.jC.2 ⟨m,h⟩⟩)
theorem lp(id who:Int){o:One}(h:St w0 (aS p T::l) w)(hg:aH id T.l=some o)(hu:o.used=true)(hw:o.who≠who):
  bP prog 100 [.pz p,.iz id,.iz who] w fun v w'=>v=.iz 8∧St w0 (aS p T::l) w':=by
 obtain⟨m,h⟩:=St.jC.1 h;obtain⟨e0,h⟩:=St.uB (h.f 1) hg;obtain⟨wf,a1,c1,a2,c2,h⟩:=St.one.1 h;obtain⟨aA,told,x,used,Hg⟩:=o;dsimp only at hu hw wf;subst hu;refine en func100 results100 ntmps100 ?_;refine Yr ?_;refine Y7 ?_;refine aD (qq rfl (h.b 4) rfl) rfl ?_;refine Y0 ?_;refine aD (gh (h.f 3) rfl rfl) rfl ?_;refine Dl ?_;refine Ch ?_;refine Y1 ?_;refine vC ?_;refine Bj ?_;refine Y7 ?_;refine aD (qq rfl (h.b 0) rfl) rfl ?_;refine Cm ?_;refine aD (qq rfl (h.b 0) rfl) rfl ?_;refine xW ?_;refine Bi ?_;refine qz (.bool true) (by simp[hw]) ?_
 refine Ye ?_;refine vD ?_;refine Yr ?_;exact qk (bQ ⟨rfl,St.jC.2 ⟨m,(St.Bo hg (St.one.2 ⟨wf,a1,c1,a2,c2,h⟩)).f 1⟩⟩)
theorem lo(id who:Int){o:One}(h:St w0 (aS p T::l) w)(hg:aH id T.l=some o)(hu:o.used=true->o.who=who):
  bP prog 100 [.pz p,.iz id,.iz who] w fun v w'=>v=.iz 0∧St w0 (aS p ⟨T.last,aX id { o with used:=true,who:=who } T.l⟩::l) w':=by
 obtain⟨m,h⟩:=St.jC.1 h;obtain⟨e0,h⟩:=St.uB (h.f 1) hg;obtain⟨wf,a1,c1,a2,c2,h⟩:=St.one.1 h;obtain⟨aA,told,x,used,Hg⟩:=o;dsimp only at hu wf;refine en func100 results100 ntmps100 ?_;refine Yr ?_;refine Y7 ?_;refine aD (qq rfl (h.b 4) rfl) rfl ?_;refine Y0 ?_;refine aD (gh (h.f 3) rfl rfl) rfl ?_;refine Dl ?_;refine qf (Γ:=Unit) (fun _=>[(2,.iz who),(7,.pz e0)]) (fun _ w=>St w0 (pt e0 (.cells ((One.mk aA told x used Hg).cells a1 c1 a2 c2).toArray 181 (0,0))::oV x a1 c1::oH x a2 c2::oF Value.iz m jB id e0 T.l::lZ p m T::l) w) ?_ ?_
 ·refine Yg ?_;refine Y1 ?_;refine vC ?_;refine Bj ?_;cases used with
  |true=>
   have hu:=hu rfl;subst hu;refine Y7 ?_;refine aD (qq rfl (h.b 0) rfl) rfl ?_;refine Cm ?_;refine aD (qq rfl (h.b 0) rfl) rfl ?_;refine xW ?_;refine Bi ?_;refine qz (.bool false) O7 ?_;refine Ye ?_;refine Bj ?_;exact qa ⟨(),gS,h⟩
  |false=>
   refine Y7 ?_;refine aD (qq rfl (h.b 0) rfl) rfl ?_;refine Gm ?_;refine Y9 ?_;refine Bj ?_;exact qa ⟨(),gS,h⟩
 clear h;rintro⟨⟩ w e h;refine oE ?_;refine Y0 ?_;refine Yk ?_;refine aF rfl (qb 0 h rfl (show _=Value.bool true from rfl) rfl rfl rfl rfl fun w h=>?_);refine Yk ?_;refine aF rfl (qb 0 h rfl (show _=Value.iz who from rfl) rfl rfl rfl rfl fun w h=>?_);refine Yl ?_;refine Y5 ?_;exact qk (bQ ⟨rfl,St.jC.2 ⟨m,(St.tD ((St.one (o:=⟨aA,told,x,true,who⟩)).2 ⟨wf,a1,c1,a2,c2,h⟩)).f 1⟩⟩)
def One.by(o:One)(who:Int):Prop:=o.used=true∧o.who=who
theorem cj(id who:Int)(h:St w0 (lZ p m T::iW Value.iz m jB T.l::l) w)(hg:∀o,aH id T.l=some o->¬o.by who):
  bP prog 104 [.pz p,.iz id,.iz who] w fun v w'=>v=.pointer none∧St w0 (lZ p m T::iW Value.iz m jB T.l::l) w':=by
 refine en func104 results104 ntmps104 ?_;refine Gi ?_;refine Y7 ?_;refine aD (qq rfl (h.b 0) rfl) rfl ?_;refine Y0 ?_;cases Mo:aH id T.l with
 |none=>
  refine aD (vw (h.f 1) rfl rfl Mo) rfl ?_;refine Dl ?_;refine vU ?_;refine zX ?_;refine Cs ?_;refine Gm ?_;refine Ye ?_;refine Yy ?_;refine DU ?_;exact qk (bQ ⟨rfl,h⟩)
 |some o=>
  have hno:=hg o Mo;obtain⟨e0,h⟩:=St.uB (h.f 1) Mo;obtain⟨wf,a1,c1,a2,c2,h⟩:=St.one.1 h;obtain⟨aA,told,x,used,Hg⟩:=o;unfold One.by at hno
  dsimp only at hno wf;refine aD (gh (h.f 3) rfl rfl) rfl ?_;refine Dl ?_;refine E4 ?_;cases used with
  |true=>
   refine vC ?_;refine Cm ?_;refine aD (qq rfl (h.b 0) rfl) rfl ?_;refine HQ ?_;refine Cm ?_;refine aD (qq rfl (h.b 0) rfl) rfl ?_;refine xW ?_;refine Bi ?_;refine qz (.bool true) (by simp at hno;simp[hno]) ?_
   refine Y9 ?_;refine Yy ?_;refine DU ?_;exact qk (bQ ⟨rfl,(St.Bo Mo (St.one.2 ⟨wf,a1,c1,a2,c2,h⟩)).f 1⟩)
  |false=>
   refine vC ?_;refine Cm ?_;refine aD (qq rfl (h.b 0) rfl) rfl ?_;refine HQ ?_;refine Gm ?_;refine Ye ?_;refine Yy ?_;refine DU ?_;exact qk (bQ ⟨rfl,(St.Bo Mo (St.one.2 ⟨wf,a1,c1,a2,c2,h⟩)).f 1⟩)
theorem dy(id who:Int){o:One}(h:St w0 (lZ p m T::iW Value.iz m jB T.l::l) w)(hg:aH id T.l=some o)(hu:o.by who):
  bP prog 104 [.pz p,.iz id,.iz who] w fun v w'=>∃e,v=.pz e∧St w0 (jB e o::oF Value.iz m jB id e T.l::lZ p m T::l) w':=by
 obtain⟨e0,h⟩:=St.uB (h.f 1) hg;obtain⟨wf,a1,c1,a2,c2,h⟩:=St.one.1 h;obtain⟨aA,told,x,used,Hg⟩:=o;obtain⟨hu,hw⟩:=hu;dsimp only at hu hw wf;subst hu hw;refine en func104 results104 ntmps104 ?_;refine Gi ?_;refine Y7 ?_;refine aD (qq rfl (h.b 4) rfl) rfl ?_;refine Y0 ?_;refine aD (gh (h.f 3) rfl rfl) rfl ?_;refine Dl ?_;refine vU ?_;refine Cm ?_;refine aD (qq rfl (h.b 0) rfl) rfl ?_;refine HQ ?_;refine Cm ?_;refine aD (qq rfl (h.b 0) rfl) rfl ?_;refine xW ?_;refine Bi ?_;refine qz (.bool false) O7 ?_;refine Y9 ?_;refine Y8 ?_;refine Yq ?_;refine DU ?_;exact qk (bQ ⟨e0,rfl,St.one.2 ⟨wf,a1,c1,a2,c2,h⟩⟩)
theorem ox(id who:Int)(h:St w0 (aS p T::l) w)(hg:∀o,aH id T.l=some o->¬o.by who):
  bP prog 102 [.pz p,.iz id,.iz who] w fun v w'=>v=.bool false∧St w0 (aS p T::l) w':=by
 obtain⟨m,h⟩:=St.jC.1 h;refine en func102 results102 ntmps102 ?_;refine pL ?_;refine Yq ?_;refine DV ?_;refine aF rfl (qg rfl (cj id who h hg) ?_);rintro _ w ⟨rfl,h⟩;refine D0 ?_;refine Yy ?_;refine Ya ?_;exact qk (bQ ⟨rfl,St.jC.2 ⟨m,h⟩⟩)
theorem ow(id who:Int){o:One}(h:St w0 (aS p T::l) w)(hg:aH id T.l=some o)(hu:o.by who):
  bP prog 102 [.pz p,.iz id,.iz who] w fun v w'=>v=.bool true∧St w0 (aS p ⟨T.last,aX id { o with used:=false } T.l⟩::l) w':=by
 obtain⟨m,h⟩:=St.jC.1 h;refine en func102 results102 ntmps102 ?_;refine pL ?_;refine Yq ?_;refine DV ?_;refine aF rfl (qg rfl (dy id who h hg hu) ?_);rintro _ w ⟨e0,rfl,h⟩;refine D0 ?_;refine Y8 ?_;obtain⟨wf,a1,c1,a2,c2,h⟩:=St.one.1 h;refine Y7 ?_;refine aF rfl (qb 0 h rfl (show _=Value.bool false from rfl) rfl rfl rfl rfl fun w h=>?_);refine Yl ?_;refine Ya ?_;exact qk (bQ ⟨rfl,St.jC.2 ⟨m,(St.tD ((St.one (o:={ o with used:=false })).2 ⟨wf,a1,c1,a2,c2,h⟩)).f 1⟩⟩)
theorem oh(id who n:Int)(h:St w0 (aS p T::l) w)(hg:∀o,aH id T.l=some o->¬o.by who):
  bP prog 101 [.pz p,.iz id,.iz who,.iz n] w fun v w'=>v=.bool false∧St w0 (aS p T::l) w':=by
 obtain⟨m,h⟩:=St.jC.1 h;refine en func101 results101 ntmps101 ?_;refine pL ?_;refine Yq ?_;refine DV ?_;refine aF rfl (qg rfl (cj id who h hg) ?_);rintro _ w ⟨rfl,h⟩;refine D0 ?_;refine Yy ?_;refine Ya ?_;exact qk (bQ ⟨rfl,St.jC.2 ⟨m,h⟩⟩)
theorem od(id who n:Int){o:One}(h:St w0 (aS p T::l) w)(hg:aH id T.l=some o)(hu:o.by who):
  bP prog 101 [.pz p,.iz id,.iz who,.iz n] w fun v w'=>v=.bool true∧St w0 (aS p ⟨T.last,aX id { o with told:=IntKind.i64.wrap (o.told+max n 0) } T.l⟩::l) w':=by
 obtain⟨m,h⟩:=St.jC.1 h;refine en func101 results101 ntmps101 ?_;refine pL ?_;refine Yq ?_;refine DV ?_;refine aF rfl (qg rfl (dy id who h hg hu) ?_);rintro _ w ⟨e0,rfl,h⟩;refine D0 ?_;refine Y8 ?_;obtain⟨wf,a1,c1,a2,c2,h⟩:=St.one.1 h;refine Y7 ?_;refine aD (qq rfl (h.b 0) rfl) rfl ?_;refine Y0 ?_;refine aD (wi rfl rfl) rfl ?_;refine tC ?_;refine Yk ?_;refine aF rfl (qb 0 h rfl (show _=Value.iz _ from rfl) rfl rfl rfl rfl fun w h=>?_);refine Yl ?_;refine Ya ?_;exact qk (bQ ⟨rfl,St.jC.2 ⟨m,(St.tD ((St.one (o:={ o with told:=IntKind.i64.wrap (o.told+max n 0) })).2 ⟨wf,a1,c1,a2,c2,h⟩)).f 1⟩⟩)
abbrev nC:List Value:=[.iz 0,.iz 0,.iz 0,.iz 0,.slice none 0 0,.slice none 0 0]
theorem cg(id who:Int){o:One}(h:St w0 (aS p T::l) w)(hg:aH id T.l=some o)(hu:o.by who):
  bP prog 72 [.pz p,.iz id,.iz who] w fun v w'=>∃a1 c1 a2 c2,v=.tuple [.agg (o.x.cells a1 c1 a2 c2).toArray,.bool true].toArray∧
   St w0 (oV o.x a1 c1::oH o.x a2 c2::aS p ⟨T.last,bY id T.l⟩::l) w':=by
 obtain⟨m,h⟩:=St.jC.1 h;refine en func72 results72 ntmps72 ?_;refine Y1 ?_;refine aF rfl (qn h fun r w h=>?_);refine Ya ?_;refine Yq ?_;refine DV ?_;refine aF rfl (qg rfl (dy id who ((h.f 1).f 2 |>.f 1) hg hu) ?_);rintro _ w ⟨e0,rfl,h⟩;refine D0 ?_;refine Y8 ?_;obtain⟨wf,a1,c1,a2,c2,h⟩:=St.one.1 h;refine Y7 ?_;refine aD (qq rfl (h.b 4) rfl) rfl ?_;refine Y0 ?_;refine aF rfl (QM (h.f 3) rfl rfl fun w h=>?_);refine Y2 ?_;replace h:St w0 (iW Value.iz m jB (bY id T.l)::pt e0 (.cells (o.cells a1 c1 a2 c2).toArray 181 (0,0))::oV o.x a1 c1::oH o.x a2 c2::lZ p m T::pt r _::l) w:=h;refine Y7 ?_;refine aD (qx (l:=o.x.cells a1 c1 a2 c2) rfl rfl (qw (h.b 1 rfl) rfl)) rfl ?_;refine aF rfl (qy (vs:=o.x.cells a1 c1 a2 c2) 5 h rfl rfl rfl rfl rfl rfl rfl fun w h=>?_);replace h:St w0 (iW Value.iz m jB (bY id T.l)::pt e0 (.cells (o.cells a1 c1 a2 c2).toArray 181 (0,0))::oV o.x a1 c1::oH o.x a2 c2::lZ p m T::pt r (.cells (o.x.cells a1 c1 a2 c2).toArray 87 (0,0))::l) w:=h;refine Ya ?_;refine qk (uR (l:=o.x.cells a1 c1 a2 c2) rfl rfl (qw (h.b 5 rfl) rfl) ⟨a1,c1,a2,c2,rfl,?_⟩);replace h:=((h.f 5).drop.f 1).drop;replace h:St w0 (lZ p m ⟨T.last,bY id T.l⟩::iW Value.iz m jB (bY id T.l)::oV o.x a1 c1::oH o.x a2 c2::l) w:=h.f 3;exact((St.jC.2 ⟨m,h⟩).f 2).f 2
theorem S0(id:Int)(h:St w0 (aS p T::l) w)(hg:aH id T.l=none):
  bP prog 65 [.pz p,.iz id] w fun v w'=>v=.tuple [.iz 0,.agg nC.toArray,.iz 0,.bool false].toArray∧St w0 (aS p T::l) w':=by
 obtain⟨m,h⟩:=St.jC.1 h;refine en func65 results65 ntmps65 ?_;refine rC ?_;refine aF rfl (qn h fun r w h=>?_);refine tZ ?_;refine Y7 ?_;refine aD (qq rfl (h.b 1) rfl) rfl ?_;refine Y0 ?_;refine aD (vw (h.f 2) rfl rfl hg) rfl ?_;refine Dl ?_;refine vU ?_;refine Yy ?_;refine aD (qc (r:=nC) rfl) rfl ?_;refine Y4 ?_;refine aF rfl (qy (vs:=nC) 0 h rfl rfl rfl rfl rfl rfl rfl fun w h=>?_);replace h:St w0 (pt r (.cells nC.toArray 87 (0,0))::lZ p m T::iW Value.iz m jB T.l::l) w:=h;refine tZ ?_;exact qk (LJ (l:=nC) rfl rfl (qw (h.b 0 rfl) rfl) ⟨rfl,St.jC.2 ⟨m,h.drop⟩⟩)
theorem S4(id:Int){o:One}(h:St w0 (aS p T::l) w)(hg:aH id T.l=some o):
  bP prog 65 [.pz p,.iz id] w fun v w'=>∃a1 c1 a2 c2,v=.tuple [.iz o.aA,.agg (o.x.cells a1 c1 a2 c2).toArray,.iz o.told,.bool true].toArray∧
   St w0 (oV o.x a1 c1::oH o.x a2 c2::aS p T::l) w':=by
 obtain⟨m,h⟩:=St.jC.1 h;refine en func65 results65 ntmps65 ?_;refine rC ?_;refine aF rfl (qn h fun r w h=>?_);refine tZ ?_;obtain⟨e0,h⟩:=St.uB (h.f 2) hg;obtain⟨wf,a1,c1,a2,c2,h⟩:=St.one.1 h;refine Y7 ?_;refine aD (qq rfl (h.b 5) rfl) rfl ?_;refine Y0 ?_;refine aD (gh (h.f 3) rfl rfl) rfl ?_;refine Dl ?_;refine vU ?_;refine Y8 ?_;refine qi (jb [0,1,2,3,4,5,6,7,8,11,12,13,14,9,10,15,16] none (fun w=>w.heap[e0]?=some (.cells (o.cells a1 c1 a2 c2).toArray 181 (0,0))) O1 O1 ?_);replace h:=h.drew;generalize w.drew=w at h;have hs:=h;replace h:=hs.b 0 rfl;refine Y6 ?_;refine qj rfl rfl rfl rfl h (fun _ h=>qh rfl (qq rfl h rfl)) ?_;refine Y6 ?_;refine qj rfl rfl rfl rfl h (fun _ h=>qh rfl (qx (l:=o.x.cells a1 c1 a2 c2) rfl rfl (qw h rfl))) ?_;refine Ym ?_;refine Y6 ?_;refine qj rfl rfl rfl rfl h (fun _ h=>qh rfl (qq rfl h rfl)) ?_;refine nJ ?_;refine qd 8 rfl rfl rfl rfl ?_;refine(qg rfl (dk wf hs (fun w' h'=>(h'.f 1).bU) (fun w' h'=>(h'.f 2).bU)) ?_);rintro _ w ⟨yG,uV,yH,yI,rfl,hs⟩;refine⟨fun _=>hs.b 2 rfl,?_⟩;replace h:=hs.b 2 rfl;refine AS ?_;refine Ys ?_;refine qd 14 rfl rfl rfl rfl ?_;refine qy (vs:=o.x.cells yG uV yH yI) 6 hs rfl rfl rfl rfl rfl rfl rfl fun w hs=>?_;refine⟨fun _=>hs.b 2 rfl,?_⟩;replace h:=hs.b 2 rfl;refine AS ?_;refine rK ?_;refine qm ?_;replace h:St w0 (oV o.x yG uV::oH o.x yH yI::pt e0 (.cells (o.cells a1 c1 a2 c2).toArray 181 (0,0))::oV o.x a1 c1::oH o.x a2 c2::oF Value.iz m jB id e0 T.l::pt r (.cells (o.x.cells yG uV yH yI).toArray 87 (0,0))::lZ p m T::l) w:=hs
 refine qk (LJ (l:=o.x.cells yG uV yH yI) rfl rfl (qw (h.b 6 rfl) rfl) ⟨yG,uV,yH,yI,rfl,?_⟩);replace h:=(h.f 6).drop;have h2:St w0 (pt e0 (.cells (o.cells a1 c1 a2 c2).toArray 181 (0,0))::oV o.x a1 c1::oH o.x a2 c2::oF Value.iz m jB id e0 T.l::lZ p m T::oV o.x yG uV::oH o.x yH yI::l) w:=h.eH (by simp only[jn];ac_rfl)
 have h3:=(St.Bo hg (St.one.2 ⟨wf,a1,c1,a2,c2,h2⟩)).f 1;exact((St.jC.2 ⟨m,h3⟩).f 2).f 2
end
end
section
section
variable{w0 w:World}{l:List aC}
theorem ob{a:Option Addr}{n c:Nat}(h:St w0 l w)(hc:n<=c):bP prog 95 [.slice a n c] w fun v w'=>v=.slice a n n∧St w0 l w':=by
 refine en func95 results95 ntmps95 ?_;refine Bl ?_;refine Yd ?_;refine sV ?_;refine sV ?_;refine aD (xx rfl rfl rfl (Ug _) hc) rfl ?_;refine Yz ?_;exact qk (bQ ⟨rfl,h⟩)
theorem li{a:Option Addr}{n c:Nat}(h:St w0 l w)(hc:n<=c):bP prog 96 [.slice a n c] w fun v w'=>v=.slice a n n∧St w0 l w':=by
 refine en func96 results96 ntmps96 ?_;refine Bl ?_;refine Yd ?_;refine sV ?_;refine sV ?_;refine aD (xx rfl rfl rfl (Ug _) hc) rfl ?_;refine Yz ?_;exact qk (bQ ⟨rfl,h⟩)
theorem s9{x:jA}(wf:x.Wf){a1 a2:Option Addr}{c1 c2:Nat}(h:St w0 l w)(yF:∀w',St w0 l w'->Rd w' 2 a2 x.tn x.tc):
  bP prog 71 [.agg (x.cells a1 c1 a2 c2).toArray] w fun v w'=>∃a c,v=.slice a x.tn c∧St w0 (oH x a c::l) w':=by
 refine en func71 results71 ntmps71 ?_;refine Y1 ?_;refine aF rfl (jk h (show _=Value.agg (x.cells a1 c1 a2 c2).toArray from rfl) fun b w h=>?_);refine Yo ?_;refine Cv ?_;refine aD (qq rfl (h.b 0) rfl) rfl ?_;refine aF rfl (qg rfl (uk h (fun w' h'=>yF w' h'.drop) wf.t1 wf.tn) ?_);rintro _ w ⟨a,c,rfl,_,h⟩;refine Yz ?_;exact qk (bQ ⟨a,c,rfl,(h.f 1).drop⟩)
def eR.leave(S:eR):List gP->eR
 |[]=>S
 |p::ps=>eR.leave (match aH p.bB S.l with|none=>S|some x=>S.left p.bB x) ps
theorem eR.rY(ps qs:List gP):∀S:eR,S.leave (ps++qs)=(S.leave ps).leave qs:=by
 induction ps with
 |nil=>intro S;rfl
 |cons p ps ih=>intro S;exact ih _
theorem zd{p:Nat}{S:eR}(id:Int)(h:St w0 (aE p S::l) w):bP prog 127 [.pz p,.iz id] w fun v w'=>
  St w0 (aE p (match aH id S.l with|none=>S|some x=>S.left id x)::l) w':=by
 cases hg:aH id S.l with
 |none=>exact(p8 id h hg).mono fun _ _ h=>h.2
 |some x=>exact(p9 id h hg).mono fun _ _ h=>h.2
theorem dz{p:Nat}{S:eR}{a:Option Addr}{n c:Nat}{Ps:List gP}(h:St w0 (aE p S::l) w)(hr:∀w',St w0 l w'->Rd w' 5 a n (dP Ps))(hn:n<9223372036854775807):
  bP prog 98 [.pz p,.slice a n c] w fun v w'=>v=.tuple #[]∧St w0 (aE p (S.leave Ps)::l) w':=by
 have hl:Ps.length=n:=(hr w h.drop).count v8 O2;refine en func98 results98 ntmps98 ?_;refine I3 ?_;refine jy (Γ:=Nat) (fun k=>[(0,.pz p),(6,.slice a n c),(7,.iz n),(8,.iz k)]) (fun k w=>k<=n∧St w0 (aE p (S.leave (Ps.take k))::l) w) (fun k=>n-k) 0 iA ⟨Uf _,h⟩ ?_;clear h;rintro k w e ⟨hk,h⟩;refine Cj ?_;refine qi (qo (decide ((k:Int)<(n:Int))) rfl (fun hc=>?_) (fun hc=>?_))
 ·
  have hkn:k<n:=by simp at hc;omega
  obtain⟨b,o,rfl⟩:=(hr w h.drop).some O0;have fM:=Ub (show k<Ps.length by omega)
  generalize Ps[k]=q at fM;refine K4 ?_;refine aD (jj rfl rfl rfl hkn rfl) rfl ?_;refine aD (qx (l:=q.cells) rfl rfl ((hr w h.drop).elem v8 fM)) rfl ?_;refine aF rfl (qn h fun r w h=>?_);refine aF rfl (qy (vs:=q.cells) 0 h rfl rfl rfl rfl rfl rfl rfl fun w h=>?_);replace h:St w0 (pt r (.cells q.cells.toArray 168 (0,0))::aE p (S.leave (Ps.take k))::l) w:=h;refine GO ?_;refine Yc ?_;refine aD (qq (v:=.iz q.bB) rfl (h.b 0) rfl) rfl ?_;refine aF rfl (qg rfl (zd q.bB (h.f 1)) ?_);intro _ w h;refine E6 ?_;refine qz (.iz ((k+1:Nat):Int)) O8 ?_;refine Y0 ?_;refine qv ⟨k+1,iA,⟨cI,?_⟩,cI⟩
  have e1:S.leave (Ps.take (k+1))=(match aH q.bB (S.leave (Ps.take k)).l with|none=>S.leave (Ps.take k)|some x=>(S.leave (Ps.take k)).left q.bB x):=by
   rw[Vk,fM,eR.rY];rfl
  rw[e1];exact(h.f 1).drop
 have hkn:k=n:=by simp at hc;omega
 subst hkn;refine ju ?_;rw[Uu O0] at h;exact(show(rF []:Value)=.tuple #[]∧St w0 (aE p (S.leave Ps)::l) w from⟨rfl,h⟩)
def eR.hold(S:eR):List gP->List gP->Bool×eR
 |_,[]=>(true,S)
 |done,p::ps=>match aH p.bB S.l with
  |none=>(false,S.leave done)
  |some x=>eR.hold (S.put p.bB ⟨x.bs,IntKind.i64.wrap (x.holds+1)⟩) (done++[p]) ps
theorem S5{w:World}{a:Option Addr}{n k:Nat}{Ps:List gP}(h:Rd w 5 a n (dP Ps))(hk:k<=n):Rd w 5 a k (dP (Ps.take k)):=by
 have hl:=h.count v8 O2;refine⟨by rw[eT v8,Ul,Vn O0],?_⟩
 rcases h.2 with h0|⟨b,o,rfl,gO⟩
 ·exact .inl O0
 ·refine .inr ⟨b,o,rfl,fun j v hj=>gO j v ?_⟩;have e:dP Ps=dP (Ps.take k)++dP (Ps.drop k):=by rw[<- Xp,Xs]
  rw[e,Wh (Uc.1 hj).1];exact hj
theorem mq{p:Nat}{S:eR}{x:jA}{Ps:List gP}(hx:x.pc=dP Ps)(hn:x.pn<9223372036854775807){a1 a2:Option Addr}{c1 c2:Nat}(kZ:x.pn<=c1)(h:St w0 (aE p S::l) w)(hr:∀w',St w0 l w'->Rd w' 5 a1 x.pn x.pc):
  bP prog 63 [.pz p,.agg (x.cells a1 c1 a2 c2).toArray] w fun v w'=>v=.bool (S.hold [] Ps).1∧St w0 (aE p (S.hold [] Ps).2::l) w':=by
 obtain⟨bN,cW,lX,upto,n,pc,tn,tc⟩:=x;dsimp only at hx hn hr kZ;subst hx;have hl:Ps.length=n:=(hr w h.drop).count v8 O2;refine en func63 results63 ntmps63 ?_;refine Y1 ?_;refine aF rfl (jk h (show _=Value.agg ((jA.mk bN cW lX upto n (dP Ps) tn tc).cells a1 c1 a2 c2).toArray from rfl) fun r3 w h=>?_);replace h:St w0 (pt r3 (.cells ((jA.mk bN cW lX upto n (dP Ps) tn tc).cells a1 c1 a2 c2).toArray 87 (0,0))::aE p S::l) w:=h;refine Ya ?_;refine GW ?_;refine aD (qq rfl (h.b 0) rfl) rfl ?_;refine rJ ?_;refine DX ?_
 refine jy (Γ:=Nat×eR) (fun k=>[(0,.pz p),(3,.pz r3),(8,.slice a1 n c1),(9,.iz n),(10,.iz k.1)])
  (fun k w=>k.1<=n∧S.hold [] Ps=k.2.hold (Ps.take k.1) (Ps.drop k.1)∧St w0 (pt r3 (.cells ((jA.mk bN cW lX upto n (dP Ps) tn tc).cells a1 c1 a2 c2).toArray 87 (0,0))::aE p k.2::l) w) (fun k=>n-k.1) (0,S) pS ⟨Uf _,rfl,h⟩ ?_
 clear h;rintro⟨k,S'⟩ w e ⟨hk,hS,h⟩;dsimp only at hk hS h ⊢;refine Cj ?_;refine qi (qo (decide ((k:Int)<(n:Int))) rfl (fun hc=>?_) (fun hc=>?_))
 ·
  have hkn:k<n:=by simp at hc;omega
  obtain⟨b,o,rfl⟩:=(hr w h.drop.drop).some O0;have fM:=Ub (show k<Ps.length by omega)
  have Dx:Ps.drop k=Ps[k]::Ps.drop (k+1):=Vx O0;generalize Ps[k]=q at fM Dx;rw[Dx] at hS;refine DW ?_;refine Yb ?_;refine aD (jj rfl rfl rfl hkn rfl) rfl ?_;refine aD (qx (l:=q.cells) rfl rfl ((hr w h.drop.drop).elem v8 fM)) rfl ?_;refine aF rfl (qn h fun r w h=>?_);refine Y4 ?_;refine aF rfl (qy (vs:=q.cells) 0 h rfl rfl rfl rfl rfl rfl rfl fun w h=>?_);replace h:St w0 (pt r (.cells q.cells.toArray 168 (0,0))::pt r3 (.cells ((jA.mk bN cW lX upto n (dP Ps) tn tc).cells (some ⟨b,o,none⟩) c1 a2 c2).toArray 87 (0,0))::aE p S'::l) w:=h;refine rL ?_;refine Yc ?_;refine aD (qq (v:=.iz q.bB) rfl (h.b 0) rfl) rfl ?_;cases hg:aH q.bB S'.l with
  |none=>
   have Ia:S.hold [] Ps=(false,S'.leave (Ps.take k)):=by rw[hS];simp only[eR.hold,hg]
   refine aF rfl (qg rfl (og q.bB (h.f 2) hg) ?_);rintro _ w ⟨rfl,h⟩;refine oO ?_;refine Yh ?_;refine Yq ?_;refine Yc ?_;refine aD (qq (v:=.slice (some ⟨b,o,none⟩) n c1) rfl (h.b 2) rfl) rfl ?_;refine Y0 ?_;refine aD (vh rfl rfl O0) rfl ?_;refine aF rfl (qg rfl (dz h (fun w' h'=>S5 (hr w' h'.drop.drop) hk) O0) ?_);rintro _ w ⟨rfl,h⟩;refine Yl ?_;refine Ya ?_;refine qk (bQ ⟨?_,?_⟩)
   ·rw[Ia];rfl
   ·rw[Ia];exact((h.f 1).drop.f 1).drop
  |some x=>
   refine aF rfl (qg rfl (ou q.bB (h.f 2) hg) ?_);rintro _ w ⟨rfl,h⟩;refine Gl ?_;refine Yw ?_;refine qz (.iz ((k+1:Nat):Int)) O8 ?_;refine Y0 ?_;refine qv ⟨(k+1,S'.put q.bB ⟨x.bs,IntKind.i64.wrap (x.holds+1)⟩),pS,⟨gH,?_,?_⟩,gH⟩
   ·rw[hS];simp only[eR.hold,hg,Vk,fM,Option.toList_some]
   ·exact((h.f 1).drop).f 1
 have hkn:k=n:=by simp at hc;omega
 subst hkn;refine ju ?_;rw[Vv O0] at hS;refine pL ?_;refine qk (bQ ⟨?_,?_⟩)
 ·rw[hS];rfl
 ·rw[hS];exact h.drop
theorem dx{p:Nat}{S:eR}{x:jA}{Ps:List gP}(hx:x.pc=dP Ps)(hn:x.pn<9223372036854775807){a1 a2:Option Addr}{c1 c2:Nat}(h:St w0 (aE p S::l) w)(hr:∀w',St w0 l w'->Rd w' 5 a1 x.pn x.pc):
  bP prog 73 [.pz p,.agg (x.cells a1 c1 a2 c2).toArray] w fun v w'=>v=.tuple #[]∧St w0 (aE p (S.leave Ps)::l) w':=by
 refine en func73 results73 ntmps73 ?_;refine Y1 ?_;refine aF rfl (jk h (show _=Value.agg (x.cells a1 c1 a2 c2).toArray from rfl) fun b w h=>?_);refine GO ?_;refine Yc ?_;refine aD (qq rfl (h.b 0) rfl) rfl ?_;refine aF rfl (qg rfl (dz (h.f 1) (fun w' h'=>hx▸hr w' h'.drop) hn) ?_);rintro _ w ⟨rfl,h⟩;exact qv (uN ⟨rfl,(h.f 1).drop⟩)
end
end
section
structure aG where
 there:Bool
 closed:Bool
 bN:Int
 cW:Int
 any:Bool
 last:Int
 aQ:List bZ
 chunks:List gP
abbrev aG.cells(x:aG)(a4:Option Addr)(c4:Nat)(a5:Option Addr)(c5:Nat):List Value:=
 [.bool x.there,.bool x.closed,.iz x.bN,.iz x.cW,.bool x.any,.iz x.last,.slice a4 x.aQ.length c4,.slice a5 x.chunks.length c5]
def fN(f t:Int)(Ps:List gP):List gP:=Ps.filter fun p=>decide (max p.lX f<=min p.upto t)
def iN(f t:Int)(L:List bZ):List bZ:=L.filter fun o=>decide (o.T ≥ f)&&decide (o.T<=t)
theorem Aq(f t:Int){Ps:List gP}{k:Nat}{q:gP}(h:Ps[k]?=some q):fN f t (Ps.take (k+1))=if max q.lX f<=min q.upto t then fN f t (Ps.take k)++[q] else fN f t (Ps.take k):=by
 unfold fN;rw[Vk,h,List.filter_append];by_cases hc:max q.lX f<=min q.upto t
 ·rw[if_pos hc];simp[hc]
 ·rw[if_neg hc];simp[hc]
theorem BF(f t:Int){L:List bZ}{k:Nat}{q:bZ}(h:L[k]?=some q):iN f t (L.take (k+1))=if q.T ≥ f∧q.T<=t then iN f t (L.take k)++[q] else iN f t (L.take k):=by
 unfold iN;rw[Vk,h,List.filter_append];by_cases hc:q.T ≥ f∧q.T<=t
 ·rw[if_pos hc];simp[hc.1,hc.2]
 ·rw[if_neg hc]
  have:(decide (q.T ≥ f)&&decide (q.T<=t))=false:=by
   rw[Bool.and_eq_false_iff];simp only[decide_eq_false_iff_not];omega
  simp[this]
theorem lH(f t:Int)(Ps:List gP):(fN f t Ps).length<=Ps.length:=Wl _ _
theorem zG(f t:Int)(L:List bZ):(iN f t L).length<=L.length:=Wl _ _
abbrev AY(s:aG)(f t:Int)(P:List gP)(T:List bZ):jA:=⟨s.bN,s.cW,f,t,P.length,dP P,T.length,aW T⟩
section
variable{w0 w:World}{l:List aC}
theorem il{s:aG}(f t:Int){a4 a5:Option Addr}{c4 c5:Nat}(h:St w0 l w)(CE:∀w',St w0 l w'->Rd w' 2 a4 s.aQ.length (aW s.aQ))(Gr:∀w',St w0 l w'->Rd w' 5 a5 s.chunks.length (dP s.chunks))
  (AZ:(s.aQ.length+1)*16<=140737488355328) (Dy:(s.chunks.length+1)*40<=140737488355328):
  bP prog 62 [.agg (s.cells a4 c4 a5 c5).toArray,.iz f,.iz t] w fun v w'=>∃a1 a2,v=.agg ((AY s f t (fN f t s.chunks) (iN f t s.aQ)).cells a1 (fN f t s.chunks).length a2 (iN f t s.aQ).length).toArray∧
   St w0 (oV (AY s f t (fN f t s.chunks) (iN f t s.aQ)) a1 (fN f t s.chunks).length::oH (AY s f t (fN f t s.chunks) (iN f t s.aQ)) a2 (iN f t s.aQ).length::l) w':=by
 refine en func62 results62 ntmps62 ?_;refine Y1 ?_;refine aF rfl (jk h (show _=Value.agg (s.cells a4 c4 a5 c5).toArray from rfl) fun r3 w h=>?_);replace h:St w0 (pt r3 (.cells (s.cells a4 c4 a5 c5).toArray 85 (0,0))::l) w:=h;refine aF rfl (qn h fun r6 w h=>?_);refine Cv ?_;refine aD (qq rfl (h.b 1) rfl) rfl ?_;refine Yc ?_;refine aD (qq rfl (h.b 1) rfl) rfl ?_;refine DV ?_;refine aD (qc (r:=(AY s f t [] []).cells none 0 none 0) rfl) rfl ?_;refine aF rfl (qn h fun r7 w h=>?_);refine aF rfl (qy (vs:=(AY s f t [] []).cells none 0 none 0) 0 h rfl rfl rfl rfl rfl rfl rfl fun w h=>?_);replace h:St w0 (pt r7 (.cells ((AY s f t [] []).cells none 0 none 0).toArray 87 (0,0))::pt r6 (.cells nC.toArray 87 (0,0))::pt r3 (.cells (s.cells a4 c4 a5 c5).toArray 85 (0,0))::l) w:=h;refine yX ?_;refine qK ?_;refine aD (qq rfl (h.b 2) rfl) rfl ?_;refine rJ ?_;refine DX ?_
 refine jy (Γ:=Nat×Option Addr×Nat×List gP) (fun k=>[(1,.iz f),(2,.iz t),(3,.pz r3),(6,.pz r6),(7,.pz r7),(20,.slice a5 s.chunks.length c5),(21,.iz s.chunks.length),(22,.iz k.1)])
  (fun k w=>k.1<=s.chunks.length∧k.2.2.2=fN f t (s.chunks.take k.1)∧St w0 (eW 168 5 k.2.1 k.2.2.2.length k.2.2.1 (dP k.2.2.2)::pt r7 (.cells ((AY s f t k.2.2.2 []).cells k.2.1 k.2.2.1 none 0).toArray 87 (0,0))::pt r6 (.cells nC.toArray 87 (0,0))::pt r3 (.cells (s.cells a4 c4 a5 c5).toArray 85 (0,0))::l) w)
  (fun k=>s.chunks.length-k.1) (0,none,0,[]) IP ⟨Uf _,rfl,St.aZ _ _ h⟩ ?_
 clear h;rintro⟨k,a,c,P⟩ w e ⟨hk,hP,h⟩;dsimp only at hk hP h ⊢;refine Cj ?_;refine qi (qo (decide ((k:Int)<(s.chunks.length:Int))) rfl (fun hc=>?_) (fun hc=>?_))
 ·
  have hkn:k<s.chunks.length:=by simp at hc;omega
  obtain⟨b5,o5,rfl⟩:=(Gr w h.drop.drop.drop.drop).some O0;have fM:=Ub hkn;generalize s.chunks[k]=q at fM;have hstep:=Aq f t fM;have XV:P.length<=s.chunks.length:=by rw[hP];exact Uw (lH _ _ _) O5
  refine K4 ?_;refine aD (jj rfl rfl rfl hkn rfl) rfl ?_;refine aD (qx (l:=q.cells) rfl rfl ((Gr w h.drop.drop.drop.drop).elem v8 fM)) rfl ?_;refine aF rfl (qn h fun r9 w h=>?_);refine aF rfl (qy (vs:=q.cells) 0 h rfl rfl rfl rfl rfl rfl rfl fun w h=>?_);replace h:St w0 (pt r9 (.cells q.cells.toArray 168 (0,0))::eW 168 5 a P.length c (dP P)::pt r7 (.cells ((AY s f t P []).cells a c none 0).toArray 87 (0,0))::pt r6 (.cells nC.toArray 87 (0,0))::pt r3 (.cells (s.cells a4 c4 (some ⟨b5,o5,none⟩) c5).toArray 85 (0,0))::l) w:=h;refine Cv ?_;refine aD (qq (v:=.iz q.lX) rfl (h.b 0) rfl) rfl ?_;refine Y0 ?_;refine aD (wi rfl rfl) rfl ?_;refine Yc ?_;refine aD (qq (v:=.iz q.upto) rfl (h.b 0) rfl) rfl ?_;refine Y0 ?_;refine K1 ?_;refine EF ?_;refine Y2 ?_;refine qo _ rfl (fun hc=>?_) (fun hc=>?_)
  ·
   have hin:max q.lX f<=min q.upto t:=by simpa using hc
   rw[if_pos hin,<- hP] at hstep;refine Dj ?_;refine aD (qq (v:=.slice a P.length c) rfl (h.b 2) rfl) rfl ?_;refine aD (qx (l:=q.cells) rfl rfl (qw (h.b 0 rfl) rfl)) rfl ?_;refine aF rfl (jq (r:=q.cells) h rfl rfl rfl fun bs w h=>?_);refine aF rfl (ql (ys:=q.cells) (zs:=dP (P++[q])) (m3:=(P++[q]).length) (h.f 2) rfl rfl ⟨rfl,.inr ⟨bs,0,rfl,qw (h.b 0 rfl) rfl⟩⟩ (fun u hu=>by have:=uu [q] u;simpa using this (by simpa using hu)) O7 (by simp[dP]) O5 O5 rfl fun a' c' w _ h=>?_)
   replace h:St w0 (eW 168 5 a' (P++[q]).length c' (dP (P++[q]))::pt bs _::pt r9 _::pt r7 (.cells ((AY s f t P []).cells a c none 0).toArray 87 (0,0))::pt r6 (.cells nC.toArray 87 (0,0))::pt r3 (.cells (s.cells a4 c4 (some ⟨b5,o5,none⟩) c5).toArray 85 (0,0))::l) w:=h;refine Yc ?_;refine aF rfl (qb 3 h rfl (show _=Value.slice _ _ _ from rfl) rfl rfl rfl rfl fun w h=>?_);replace h:=((h.f 1).drop.f 1).drop;refine E6 ?_;refine qz (.iz ((k+1:Nat):Int)) O8 ?_;refine Y0 ?_;exact qv ⟨(k+1,a',c',P++[q]),IP,⟨gH,hstep.symm,h⟩,gH⟩
  ·
   have hin:¬max q.lX f<=min q.upto t:=by simpa using hc
   rw[if_neg hin,<- hP] at hstep;refine HR ?_;refine qz (.iz ((k+1:Nat):Int)) O8 ?_;refine Y0 ?_;exact qv ⟨(k+1,a,c,P),IP,⟨gH,hstep.symm,h.drop⟩,gH⟩
 have hkn:k=s.chunks.length:=by simp at hc;omega
 rw[hkn,Uu (Ug _)] at hP;clear hc hk hkn;refine ju ?_;refine GW ?_;refine Yc ?_;refine aD (qq rfl (h.b 3) rfl) rfl ?_;refine rJ ?_;refine DX ?_
 refine jy (Γ:=Nat×Option Addr×Nat×List bZ) (fun k=>[(1,.iz f),(2,.iz t),(6,.pz r6),(7,.pz r7),(44,.slice a4 s.aQ.length c4),(45,.iz s.aQ.length),(46,.iz k.1)])
  (fun k w=>k.1<=s.aQ.length∧k.2.2.2=iN f t (s.aQ.take k.1)∧St w0 (eW 57 2 k.2.1 k.2.2.2.length k.2.2.1 (aW k.2.2.2)::pt r7 (.cells ((AY s f t P k.2.2.2).cells a c k.2.1 k.2.2.1).toArray 87 (0,0))::eW 168 5 a P.length c (dP P)::pt r6 (.cells nC.toArray 87 (0,0))::l) w)
  (fun k=>s.aQ.length-k.1) (0,none,0,[]) yQ ⟨Uf _,rfl,St.aZ _ _ ((h.f 3).drop.f 1)⟩ ?_
 clear h;rintro⟨k,a',c',T⟩ w e ⟨hk,hT,h⟩;dsimp only at hk hT h ⊢;refine Cj ?_;refine qi (qo (decide ((k:Int)<(s.aQ.length:Int))) rfl (fun hc=>?_) (fun hc=>?_))
 ·
  have hkn:k<s.aQ.length:=by simp at hc;omega
  have lC:=h;obtain⟨b4,o4,rfl⟩:=(CE w h.drop.drop.drop.drop).some O0;replace h:=lC;have fM:=Ub hkn;generalize s.aQ[k]=q at fM;have hstep:=BF f t fM;have XW:T.length<=s.aQ.length:=by rw[hT];exact Uw (zG _ _ _) O5
  refine K4 ?_;refine aD (jj rfl rfl rfl hkn rfl) rfl ?_;refine aD (qx (l:=q.cells) rfl rfl ((CE w h.drop.drop.drop.drop).elem jt fM)) rfl ?_;refine aF rfl (qn h fun Q8 w h=>?_);refine aF rfl (qy (vs:=q.cells) 0 h rfl rfl rfl rfl rfl rfl rfl fun w h=>?_);replace h:St w0 (pt Q8 (.cells q.cells.toArray 57 (0,0))::eW 57 2 a' T.length c' (aW T)::pt r7 (.cells ((AY s f t P T).cells a c a' c').toArray 87 (0,0))::eW 168 5 a P.length c (dP P)::pt r6 (.cells nC.toArray 87 (0,0))::l) w:=h;refine Cv ?_;refine aD (qq (v:=.iz q.T) rfl (h.b 0) rfl) rfl ?_;refine Y0 ?_;refine tX ?_;by_cases hge:q.T ≥ f
  ·refine qz (.bool true) (by simpa using hge) ?_
   refine pV ?_;refine aD (qq (v:=.iz q.T) rfl (h.b 0) rfl) rfl ?_;refine xW ?_;refine EF ?_;refine Ye ?_;refine Y2 ?_;refine qo _ rfl (fun hc=>?_) (fun hc=>?_)
   ·
    have hin:q.T ≥ f∧q.T<=t:=⟨hge,by simpa using hc⟩
    rw[if_pos hin,<- hT] at hstep;refine Dj ?_;refine aD (qq (v:=.slice a' T.length c') rfl (h.b 2) rfl) rfl ?_;refine aD (qx (l:=q.cells) rfl rfl (qw (h.b 0 rfl) rfl)) rfl ?_;refine aF rfl (jq (r:=q.cells) h rfl rfl rfl fun bs w h=>?_);refine aF rfl (ql (ys:=q.cells) (zs:=aW (T++[q])) (m3:=(T++[q]).length) (h.f 2) rfl rfl ⟨rfl,.inr ⟨bs,0,rfl,qw (h.b 0 rfl) rfl⟩⟩ (fun u hu=>by have:=jm [q] u;simpa using this (by simpa using hu)) O7 (by simp[aW]) O5 O5 rfl fun a2 c2 w _ h=>?_)
    replace h:St w0 (eW 57 2 a2 (T++[q]).length c2 (aW (T++[q]))::pt bs _::pt Q8 _::pt r7 (.cells ((AY s f t P T).cells a c a' c').toArray 87 (0,0))::eW 168 5 a P.length c (dP P)::pt r6 (.cells nC.toArray 87 (0,0))::l) w:=h;refine Yc ?_;refine aF rfl (qb 3 h rfl (show _=Value.slice _ _ _ from rfl) rfl rfl rfl rfl fun w h=>?_);replace h:=((h.f 1).drop.f 1).drop;refine E6 ?_;refine qz (.iz ((k+1:Nat):Int)) O8 ?_;refine Y0 ?_;exact qv ⟨(k+1,a2,c2,T++[q]),yQ,⟨gH,hstep.symm,h⟩,gH⟩
   ·
    have hin:¬(q.T ≥ f∧q.T<=t):=fun h=>by simp at hc;omega
    rw[if_neg hin,<- hT] at hstep;refine HR ?_;refine qz (.iz ((k+1:Nat):Int)) O8 ?_;refine Y0 ?_;exact qv ⟨(k+1,a',c',T),yQ,⟨gH,hstep.symm,h.drop⟩,gH⟩
  ·refine qz (.bool false) (by simpa using hge) ?_
   refine zX ?_;refine Y9 ?_;refine Df ?_;have hin:¬(q.T ≥ f∧q.T<=t):=fun h=>hge h.1;rw[if_neg hin,<- hT] at hstep;refine HR ?_;refine qz (.iz ((k+1:Nat):Int)) O8 ?_;refine Y0 ?_;exact qv ⟨(k+1,a',c',T),yQ,⟨gH,hstep.symm,h.drop⟩,gH⟩
 have hkn:k=s.aQ.length:=by simp at hc;omega
 rw[hkn,Uu (Ug _)] at hT;clear hc hk hkn;refine ju ?_;rw[<- hP,<- hT];have S6:=h.bT.2.1;have S7:=(h.f 2).bT.2.1;refine qi (jz (some 7) (fun w=>St w0 _ w) O1 O1 h.drew fun w h=>?_);refine Yj ?_;refine qj rfl rfl rfl rfl h (fun _ h=>qh rfl (qq rfl (h.b 1) rfl)) ?_;refine EG ?_;refine qj rfl rfl rfl rfl h (fun _ h=>qh rfl (qq rfl (h.b 1) rfl)) ?_;refine Cu ?_;refine qd 2 rfl rfl rfl rfl ?_;refine(qg rfl (ob h S7) ?_);rintro _ w ⟨rfl,h⟩;refine⟨fun _=>h,?_⟩;refine EG ?_;refine Ys ?_;refine qd 5 rfl rfl rfl rfl ?_;refine(qg rfl (li h S6) ?_);rintro _ w ⟨rfl,h⟩;refine⟨fun _=>h,?_⟩;refine Ys ?_;refine jx 7 (some 9) rfl rfl rfl rfl ?_;refine qb 1 h rfl (show _=Value.slice _ _ _ from rfl) rfl rfl rfl rfl fun w h=>?_;refine jh h ?_;refine Di ?_;refine jv 9 rfl rfl rfl ?_;refine qb 1 h rfl (show _=Value.slice _ _ _ from rfl) rfl rfl rfl rfl fun w h=>?_;replace h:St w0 (eW 57 2 a' T.length c' (aW T)::pt r7 (.cells ((AY s f t P T).cells a P.length a' T.length).toArray 87 (0,0))::eW 168 5 a P.length c (dP P)::pt r6 (.cells nC.toArray 87 (0,0))::l) w:=h;refine Y1 ?_;refine aD (qx (l:=(AY s f t P T).cells a P.length a' T.length) rfl rfl (qw (h.b 1 rfl) rfl)) rfl ?_;refine aF rfl (qy (vs:=(AY s f t P T).cells a P.length a' T.length) 3 h rfl rfl rfl rfl rfl rfl rfl fun w h=>?_);replace h:St w0 (eW 57 2 a' T.length c' (aW T)::pt r7 _::eW 168 5 a P.length c (dP P)::pt r6 (.cells ((AY s f t P T).cells a P.length a' T.length).toArray 87 (0,0))::l) w:=h;refine Y2 ?_;refine qk (uQ (l:=(AY s f t P T).cells a P.length a' T.length) rfl rfl (qw (h.b 3 rfl) rfl) ⟨a,a',rfl,?_⟩)
 replace h:=((h.f 3).drop.f 1).drop;exact((h.mY.f 1).mY)
end
end
end Go.Proofs.YtngdfdangkdgcaaGreatDoor
namespace Go.Hw
section
section
variable{P:Program}{e:Env}{w w0:World}{K:Env->World->Prop}{l:List aC}
variable{ty:TypeId}{pos:String}{af:Array Edge}{g:Option (Nat×Bool)}
end
end
section
section
variable{P:Program}{n:Nat}{ops:Array Oper}{Q:Post}{rest:List Oper}{e:Env}{w w0:World}{l:List aC}
end
end
section
section
variable{P:Program}{ops:Array Oper}{e:Env}{w:World}{d:Option Nat}{ty:TypeId}{pos:String}{af:Array Edge}{g:Option (Nat×Bool)}
end
end
section
def Fw:Nat->List Nat->List aC->List aC
 |0,_,l=>l
 |_+1,[],l=>l
 |n+1,k::ks,l=>match l[k]? with
  |none=>l
  |some P=>P::Fw n (ks.map fun j=>bif Kl k j then j-1 else j) (l.eraseIdx k)
theorem cv:∀(n:Nat) (ks:List Nat) (l:List aC),all (Fw n ks l)=all l
 |0,_,_=>rfl
 |_+1,[],_=>rfl
 |n+1,k::ks,l=>by
  rw[Fw];split
  ·rfl
  ·rename_i P hP
   rw[jn,cv n,<- jn,<- ut k l hP,yo]
def zH:Nat->List aC->List aC
 |0,l=>l
 |n+1,_::l=>zH n l
 |_+1,[]=>[]
section
variable{w w0:World}{l:List aC}
theorem St.o(ks:List Nat)(h:St w0 l w):St w0 (Fw ks.length ks l) w:=h.eH (cv _ _ _).symm
theorem St.zH:∀{n:Nat} {l:List aC},St w0 l w->St w0 (zH n l) w
 |0,_,h=>h
 |_+1,[],h=>h
 |n+1,_::l,h=>St.zH (n:=n) (l:=l) h.drop
theorem St.x(ks:List Nat)(h:St w0 l w):St w0 (Hw.zH ks.length (Fw ks.length ks l)) w:=(h.o ks).zH
end
end
section
section
variable{P:Program}{e:Env}{w:World}{K:Env->World->Prop}{d:Option Nat}{ty:TypeId}{pos:String}{af:Array Edge}{g:Option (Nat×Bool)}
theorem S8{x:Operand}{f:FuncId}(hx:ev e x=.func (.func f) #[] #[]):Qv P e ⟨d,.move x,ty,pos,af,g⟩ w (.func (.func f) #[] #[]):=by
 unfold Qv;simp[execOp,hx]
theorem S9{c:Option Nat}{f:FuncId}{y:Operand}{xs:List Operand}{tys:Array TypeId}{vs:List Value}{φ:Value->World->Prop}[hf:cC P f](hy:ev e y=.func (.func f) #[] #[])(hv:xs.map (ev e)=vs)(h:bP P f vs w φ)(k:∀v w',φ v w'->K (kY e c v) w'):
  Ex P ⟨c,.call ⟨.value y,xs.toArray,tys⟩,ty,pos,af,g⟩ e w K:=by
 obtain⟨fn,h1,h2,h3⟩:=hf.h;have hb:fn.body.isNone=false:=h3
 have hrun:(execOp (ev e) ⟨c,.call ⟨.value y,xs.toArray,tys⟩,ty,pos,af,g⟩).run P w=.ok (.enter f vs.toArray) w:=by
  have hp:∀w,(program).run P w=.ok P w:=fun _=>rfl;simp only[execOp,resolve,hy,Deferred.ofValue,invoke,callFunc,Sem.run_bind,Sem.run_pure,Result.andThen_ok,hp,h1,h2,hb,Xl,hv];simp
 unfold bP at h;unfold Ex;rw[hrun];exact Calls.mono h fun _ _ ⟨v,a,b⟩=>⟨v,a,k _ _ b⟩
end
end
section
section
variable{P:Program}{e:Env}{w:World}{d:Option Nat}{ty:TypeId}{pos:String}{af:Array Edge}{g:Option (Nat×Bool)}
theorem Ta {f : FuncId} {fn : Func} {E : Array Value -> Sem Value} {xs : List Operand} {tys : Array TypeId} {vs : List Value} {v : Value} (hf : P.funcs[f]? = some fn) (hname : (fn.name == "runtime.NumGoroutine") = false)
  (hb:fn.body.isNone=true) (hn:Extern.findNext fn=none) (he:Extern.find fn=some E) (hv:xs.map (ev e)=vs) (hr:(E vs.toArray).run P w=.ok v w):Qv P e ⟨d,.call ⟨.value (.func f),xs.toArray,tys⟩,ty,pos,af,g⟩ w v:=by
 unfold Qv;have h1:=run_callFunc_extern hf hname hb hn he vs.toArray w;rw[hr] at h1;simp only[execOp,resolve,ev,Deferred.ofValue,invoke,Sem.run_bind,Sem.run_pure,Result.andThen_ok,Xl,hv];simpa using h1
end
end
section
section
variable{P:Program}{e:Env}{w w0:World}{K:Env->World->Prop}{l:List aC}
variable{d:Option Nat}{ty:TypeId}{pos:String}{af:Array Edge}{g:Option (Nat×Bool)}
theorem om{f:FuncId}{xs:List Operand}{vs:List Value}(hx:xs.map (ev e)=vs):Qv P e ⟨d,.makeFunc (.func f) #[] xs.toArray,ty,pos,af,g⟩ w (.func (.func f) #[] vs.toArray):=by
 unfold Qv;simp only[execOp,Instr.makeFunc,Xl,hx];rfl
theorem Tc{x:Operand}{f:FuncId}{vs:List Value}(hx:ev e x=.func (.func f) #[] vs.toArray):Qv P e ⟨d,.move x,ty,pos,af,g⟩ w (.func (.func f) #[] vs.toArray):=by
 unfold Qv;simp only[execOp,hx];rfl
theorem Td{c:Option Nat}{f:FuncId}{y:Operand}{xs:List Operand}{tys:Array TypeId}{vs us:List Value}{φ:Value->World->Prop}[hf:cC P f](hy:ev e y=.func (.func f) #[] us.toArray)(hv:xs.map (ev e)=vs)(h:bP P f (vs++us) w φ)(k:∀v w',φ v w'->K (kY e c v) w'):
  Ex P ⟨c,.call ⟨.value y,xs.toArray,tys⟩,ty,pos,af,g⟩ e w K:=by
 obtain⟨fn,h1,h2,h3⟩:=hf.h;have hb:fn.body.isNone=false:=h3
 have hrun:(execOp (ev e) ⟨c,.call ⟨.value y,xs.toArray,tys⟩,ty,pos,af,g⟩).run P w=.ok (.enter f (vs++us).toArray) w:=by
  have hp:∀w,(program).run P w=.ok P w:=fun _=>rfl;simp only[execOp,resolve,hy,Deferred.ofValue,invoke,callFunc,Sem.run_bind,Sem.run_pure,Result.andThen_ok,hp,h1,h2,hb,Xl,hv];simp
 unfold bP at h;unfold Ex;rw[hrun];exact Calls.mono h fun _ _ ⟨v,a,b⟩=>⟨v,a,k _ _ b⟩
theorem Pm{t el:TypeId}{tys:List TypeId}[hu:eV P t (.slice el)]{x:Operand}{a:Option Addr}{m c:Nat}(hx:ev e x=.slice a m c):
  Qv P e ⟨d,.call ⟨.builtin .cap,[x].toArray,(t::tys).toArray⟩,ty,pos,af,g⟩ w (.iz (c:Int)):=by
 unfold Qv;have hu:=hu.h;simp[execOp,resolve,hx,invoke,builtin,Builtin.cap_,run_underlying hu,goInt]
theorem JE{t T:TypeId}[ht:eV P t (.slice T)]{z:List Value}{agg:Bool}{bytes:Nat}[hi:cM P T z agg bytes]{x y y' y2:Operand}{a:Option Addr}{m c i j h:Nat}{k k' k2:IntKind}
  (hx:ev e x=.slice a m c) (hy:ev e y=.int k (i:Int)) (hy':ev e y'=.int k' (j:Int)) (Te:ev e y2=.int k2 (h:Int)) (h1:i<=j) (h2:j<=h) (h3:h<=c):Qv P e ⟨d,.slice t x (some y) (some y') (some y2),ty,pos,af,g⟩ w (.slice (nI a (i*z.length) (Nat.beq h i)) (j-i) (h-i)):=by
 unfold Qv;have hz:=hi.sizeOf w
 have e1:(Instr.sliceBound (.int k2 (h:Int)) c .slice3Acap).run P w=.ok h w:=by
  simp[Instr.sliceBound,asIntOf,h3]
 have e2:(Instr.sliceBound (.int k' (j:Int)) h .slice3B).run P w=.ok j w:=by
  simp[Instr.sliceBound,asIntOf,h2]
 have Tf:(Instr.sliceBound (.int k (i:Int)) j .slice3C).run P w=.ok i w:=by
  simp[Instr.sliceBound,asIntOf,h1]
 have e3:(Instr.sliceBounds true m c (some (.int k (i:Int))) (some (.int k' (j:Int))) (some (.int k2 (h:Int)))).run P w=.ok (i,j,h) w:=by
  simp[Instr.sliceBounds,e1,e2,Tf]
 have key:(Instr.sliceAt t (.slice a m c) (some (.int k (i:Int))) (some (.int k' (j:Int))) (some (.int k2 (h:Int)))).run P w=.ok (.slice (nI a (i*z.length) (Nat.beq h i)) (j-i) (h-i)) w:=by
  simp[Instr.sliceAt,Instr.slice,run_underlying ht.h,e3,hz,nI]
 simp only[execOp,hx,hy,hy',Te,Option.map_none,Ww,Sem.run_bind,key,Result.andThen_ok];rfl
section
variable{T sz n c:Nat}{a:Option Addr}{xs:List Value}
theorem St.BG(h:St w0 (eW T sz a n c xs::l) w){i:Nat}(hi:i<=n):St w0 (eW T sz a i c (xs.take (i*sz))::l) w:=by
 refine h.mono ?_;rintro p ⟨h1,h2,h3⟩;have hle:i*sz<=n*sz:=Uv _ hi;refine⟨by rw[Ul];omega,cI,?_⟩
 rcases h3 with h3|⟨g,cur,e1,e2,e3,e4⟩
 ·exact .inl h3
 ·refine .inr ⟨g,cur,e1,e2,?_,e4⟩;rw[<- e3,Kf,Vn hle]
theorem St.Hh(h:St w0 (eW T sz a n c xs::l) w){m:Nat}(hm:n<=m)(hc:m<=c):∃ys,ys.length=(m-n)*sz∧St w0 (eW T sz a m c (xs++ys)::l) w:=by
 obtain⟨h1,h2,⟨rfl,rfl,rfl,h5⟩|⟨g,cur,rfl,h5,h6,h7⟩⟩:=h.bT
 ·obtain rfl:m=0:=by omega
  have:xs=[]:=Uq (by simpa using h1)
  subst this;exact⟨[],by simp,h5.aZ T sz⟩
 ·have hle:m*sz<=c*sz:=Uv _ hc;have Tg:n*sz<=m*sz:=Uv _ hm;refine⟨(cur.drop (n*sz)).take ((m-n)*sz),?_,St.kL h7 h5 ?_ hc⟩
  ·rw[Ul,Um,Nat.sub_mul];omega
  ·rw[<- h6,show m*sz=n*sz+(m-n)*sz by rw[Nat.sub_mul];omega,List.take_add]
def putAt(xs:List Value)(o:Nat)(ys:List Value):List Value:=xs.take o++ys++xs.drop (o+ys.length)
theorem St.D9(h:St w0 (eW T sz a n c xs::l) w){g o:Nat}(ha:a=some ⟨g,0,none⟩){ys:List Value}(ho:o+ys.length<=n*sz)(h1:∀u∈ys,u.oneCell'=true):
  ∃w',(storeCells ⟨g,o,none⟩ ys).run P w=.ok () w'∧St w0 (eW T sz a n c (putAt xs o ys)::l) w':=by
 obtain⟨h2,h3,⟨rfl,_⟩|⟨g',cur,e,h5,h6,h7⟩⟩:=h.bT
 ·cases ha
 ·subst ha;cases e
  have hle:n*sz<=c*sz:=Uv _ h3;have hst:=run_storeCells_at P g o T ys 0 cur.toArray w h7.hd.1 (by simp only[Xd];omega) h1
  simp only[Ws] at hst
  have h8:St w0 (pt g (.cells (cur.take o++ys++cur.drop (o+ys.length)).toArray T (0,0))::l) (w.setRow g (cur.take o++ys++cur.drop (o+ys.length)).toArray):=
   h7.put rfl rfl rfl O7 (fun k hk=>setRow_other w g k _ hk) (setRow_heap w g _ _ T (0,0) h7.hd.1)
  refine⟨_,?_,St.kL h8 (c:=c) ?_ ?_ h3⟩
  ·rw[hst]
  ·simp only[Ua,Ul,Um];omega
  ·unfold putAt;rw[<- h6];have e1:(cur.take (n*sz)).take o=cur.take o:=by rw[Kf,Vn O0]
   rw[e1,List.drop_take];have e2:(cur.take o++ys).length=o+ys.length:=by simp only[Ua,Ul];omega
   rw[Zt,e2,Uu O0]
theorem ns{cc:Nat}{t t2:TypeId}[ht:eV P t (.slice T)]{z:List Value}{agg:Bool}{bytes:Nat}[hi:cM P T z agg bytes]{x y:Operand}{a2:Option Addr}{g' m m2 c1 c2 o:Nat}{ys:List Value}(h:St w0 (eW T sz a n c xs::l) w)
  (hx:ev e x=.slice (some ⟨g',o,none⟩) m c1) (ha:a=some ⟨g',0,none⟩) (hy:ev e y=.slice a2 m2 c2) (hr:Rd w sz a2 m2 ys) (h1:∀u∈ys.take (min m2 m*sz),u.oneCell'=true) (ho:o+(min m2 m)*sz<=n*sz) (hz:z.length=sz)
  (k:∀w',St w0 (eW T sz a n c (putAt xs o (ys.take (min m2 m*sz)))::l) w'->K (upd e cc (.iz (min m2 m:Nat))) w'):Ex P ⟨some cc,.call ⟨.builtin .copy,[x,y].toArray,[t,t2].toArray⟩,ty,pos,af,g⟩ e w K:=by
 subst hz
 have hr':Rd w z.length a2 (min m2 m) (ys.take (min m2 m*z.length)):=by
  obtain⟨r1,r2⟩:=hr;have hle:min m2 m*z.length<=m2*z.length:=Uv _ (Nat.min_le_left ..);refine⟨by rw[Ul];omega,?_⟩
  rcases r2 with r2|⟨b,o,r2,r3⟩
  ·exact .inl O0
  ·exact .inr ⟨b,o,r2,fun j v hj=>r3 j v (by rw[Zu] at hj;split at hj;exact hj;cases hj)⟩
 have hf:(Builtin.firstCells z.length (min m2 m) (.slice a2 m2 c2)).run P w=.ok (ys.take (min m2 m*z.length)).toArray w:=by
  have:=hr'.first (P:=P) c2
  cases a2 <;> exact this
 obtain⟨w',e1,h2⟩:=h.D9 (P:=P) (ys:=ys.take (min m2 m*z.length)) (o:=o) ha (by
  have:(ys.take (min m2 m*z.length)).length<=min m2 m*z.length:=by rw[Ul];omega
  omega) h1
 refine EC (v:=.iz (min m2 m:Nat)) (w':=w') ?_ (k w' h2);have hs:=hi.sizeOf w;have e0:Nat.min m2 m=min m2 m:=rfl;simp[execOp,resolve,hx,hy,invoke,builtin,Builtin.copy_,run_underlying ht.h,Builtin.lenOf,hs,e0,hf,e1,goInt]
theorem Th{cc:Option Nat}{t:TypeId}[ht:eV P t (.slice T)]{z:List Value}{agg:Bool}{bytes:Nat}[hi:cM P T z agg bytes]{x:Operand}{g' m c1 o:Nat}(h:St w0 (eW T sz a n c xs::l) w)
  (hx:ev e x=.slice (some ⟨g',o,none⟩) m c1) (ha:a=some ⟨g',0,none⟩) (ho:o=n*sz) (hm:n+m<=c) (hz:z.length=sz) (Hi:∀u∈z,u.oneCell'=true)
  (k:∀w',St w0 (eW T sz a n c xs::l) w'->K (kY e cc (.tuple #[])) w'):Ex P ⟨cc,.call ⟨.builtin .clear,[x].toArray,[t].toArray⟩,ty,pos,af,g⟩ e w K:=by
 subst hz ha ho;have Q9:=hi.zeroValue w;have ED:=hi.cells;rcases Wb m with h0|h0
 ·subst h0;refine EC (v:=.tuple #[]) (w':=w) ?_ (k w h);simp[execOp,resolve,hx,invoke,builtin,Builtin.clear_,run_underlying ht.h]
 ·obtain⟨h2,h3,⟨e0,_⟩|⟨g2,cur,e0,h5,h6,h7⟩⟩:=h.bT
  ·cases e0
  ·cases e0
   have hle:(n+m)*z.length<=c*z.length:=Uv _ hm;rw[Vj] at hle;have hzl:(Builtin.zeroCells z.toArray m).toList.length=m*z.length:=by rw[gA];simp
   have hone:∀u∈(Builtin.zeroCells z.toArray m).toList,u.oneCell'=true:=by
    intro u hu;simp only[Builtin.zeroCells,Array.toList_map,Va,Array.mem_toList_iff,Array.mem_range] at hu;obtain⟨j,hj,rfl⟩:=hu;simp only[Xd] at hj;have Ib:0<z.length:=by rcases Wb z.length with h|h;simp[h] at hj;exact h
    have hlt:j%z.length<z.length:=Vw _ Ib;have e1:z.toArray[j%z.toArray.size]! = z[j%z.length]:=by simp[hlt]
    rw[e1];exact Hi _ (Zq _)
   have hst:=run_storeCells_at P g' (n*z.length) T (Builtin.zeroCells z.toArray m).toList 0 cur.toArray w h7.hd.1 (by simp only[Xd,hzl];omega) hone
   simp only[Ws] at hst
   have h8:St w0 (pt g' (.cells (cur.take (n*z.length)++(Builtin.zeroCells z.toArray m).toList++cur.drop (n*z.length+(Builtin.zeroCells z.toArray m).toList.length)).toArray T (0,0))::l) (w.setRow g' (cur.take (n*z.length)++(Builtin.zeroCells z.toArray m).toList++cur.drop (n*z.length+(Builtin.zeroCells z.toArray m).toList.length)).toArray):=
    h7.put rfl rfl rfl O7 (fun k hk=>setRow_other w g' k _ hk) (setRow_heap w g' _ _ T (0,0) h7.hd.1)
   have h9:St w0 (eW T z.length (sQ g') n c xs::l) _:=St.kL h8 (c:=c) (by simp only[Ua,Ul,Um,hzl];omega) (by
    rw[Uo,Zt,Kf,Nat.min_self,h6,h2,Xv,Xn,Ux]) h3
   refine EC (v:=.tuple #[]) (w':=w.setRow g' (cur.take (n*z.length)++(Builtin.zeroCells z.toArray m).toList++cur.drop (n*z.length+(Builtin.zeroCells z.toArray m).toList.length)).toArray) ?_ (k _ h9);obtain⟨m,rfl⟩:∃m',m=m'+1:=⟨m-1,cI⟩;generalize (if agg then Value.agg z.toArray else z.getD 0 undef)=zz at Q9 ED
   simp[execOp,resolve,hx,invoke,builtin,Builtin.clear_,run_underlying ht.h,Q9,ED,hst]
theorem Ti{cc:Nat}{t:TypeId}[ht:eV P t (.slice T)]{z:List Value}{agg:Bool}{bytes:Nat}[hi:cM P T z agg bytes]{x y:Operand}{a2:Option Addr}{g' m2 m3 c2:Nat}{ys zs:List Value}(h:St w0 (eW T sz a n c xs::l) w)
  (ha:a=some ⟨g',0,none⟩) (hx:ev e x=.slice a n c) (hy:ev e y=.slice a2 m2 c2) (hr:Rd w sz a2 m2 ys) (h1:∀u∈ys,u.oneCell'=true) (hm:n+m2=m3) (hc:m3<=c) (hzs:xs++ys=zs) (hz:z.length=sz)
  (k:∀w',St w0 (eW T sz a m3 c zs::l) w'->K (upd e cc (.slice a m3 c)) w'):Ex P ⟨some cc,.call ⟨.builtin .append,[x,y].toArray,[t,t].toArray⟩,ty,pos,af,g⟩ e w K:=by
 subst hm hzs hz ha;obtain⟨h2,h3,⟨e0,_⟩|⟨g2,cur,e0,h5,h6,h7⟩⟩:=h.bT
 ·cases e0
 ·cases e0
  have hrun:=oN (P:=P) (ty:=ty) (n:=n) (m:=m2) (c2:=c2) ht.h hi h7.hd.1 h5 hr hc h1;have hle:(n+m2)*z.length<=c*z.length:=Uv _ hc;rw[Vj] at hle
  have h8:St w0 (pt g' (.cells (cur.take (n*z.length)++ys++cur.drop (n*z.length+ys.length)).toArray T (0,0))::l) (w.setRow g' (cur.take (n*z.length)++ys++cur.drop (n*z.length+ys.length)).toArray):=
   h7.put rfl rfl rfl O7 (fun k hk=>setRow_other w g' k _ hk) (setRow_heap w g' _ _ T (0,0) h7.hd.1)
  have h9:St w0 (eW T z.length (sQ g') (n+m2) c (xs++ys)::l) (w.setRow g' (cur.take (n*z.length)++ys++cur.drop (n*z.length+ys.length)).toArray):=by
   refine St.kL h8 (c:=c) ?_ ?_ hc
   ·simp only[Ua,Ul,Um,hr.1];omega
   ·rw[h6];exact List.take_left' (by rw[Ua,h2,hr.1,Vj])
  refine EC (v:=.slice (sQ g') (n+m2) c) ?_ (k _ h9);simp[execOp,resolve,hx,hy,invoke,builtin,hrun]
theorem JF{cc:Nat}{t u:TypeId}[ht:eV P t (.slice T)](hu:P.underlying u=some (.int .i64)){z:List Value}{agg:Bool}{bytes:Nat}[hi:cM P T z agg bytes]{x y:Operand}{m k' c1:Nat}(h:St w0 l w)
  (hx:ev e x=.slice a m c1) (hy:ev e y=.iz (k':Int)) (hr:Rd w sz a m xs) (hg:c1<m+k') (hb:(m+k')*bytes<=140737488355328) (h63:m+k'<=9223372036854775807) (hz:z.length=sz)
  (k:∀b c2 ys w',ys.length=k'*sz->St w0 (eW T sz (sQ b) (m+k') c2 (xs++ys)::l) w'->K (upd e cc (.slice (sQ b) (m+k') c2)) w'):Ex P ⟨some cc,.call ⟨.builtin .append,[x,y].toArray,[t,u].toArray⟩,ty,pos,af,g⟩ e w K:=by
 subst hz;obtain⟨i,h1,h2,h3,h4⟩:=hi.get;subst h4;have K0:=(show Rd w.drew z.length a m xs from hr).first (P:=P) c1
 have hge:m+k'<=grownCap w (m+k') c1 T:=by simp[grownCap,Question.cut]
 have hfit:=growslice_fits hg hb;have ED:=hi.cells;have hn1:¬(m+k'<=c1):=by omega
 have hn2:¬((9223372036854775807:Int)<(m:Int)+(k':Int)):=by omega
 have Bc:¬(281474976710656<Builtin.nextslicecap (m+k') c1*i.bytes):=by omega
 have XX:k'*i.bytes<=(m+k')*i.bytes:=Uv _ O0;have hw:IntKind.i64.wrap (k':Int)=(k':Int):=by unfold IntKind.wrap;simp[IntKind.signed,IntKind.bits];omega
 have AZ:¬((281474976710656:Int)<(k':Int)*(i.bytes:Int)):=by
  rw[<- Int.natCast_mul];omega
 have Dy:¬((k':Int)<0):=by omega
 have hzl:(Builtin.zeroCells z.toArray k').toList.length=k'*z.length:=by rw[gA];simp
 rw[<- h3] at K0
 have hap:(Builtin.append_ #[t,u] ty #[.slice a m c1,.iz (k':Int)]).run P w=.ok (.slice (some ⟨w.heap.size,0,none⟩) (m+k') (grownCap w (m+k') c1 T)) (w.drew.alloc (.cells (xs++(Builtin.zeroCells z.toArray k').toList++(Builtin.zeroCells z.toArray (grownCap w (m+k') c1 T-(m+k'))).toList).toArray T)):=by
  generalize (if agg then Value.agg z.toArray else z.getD 0 undef)=zz at h2 ED
  have ha:∀w,(asInt (.iz (k':Int))).run P w=.ok (k':Int) w:=fun _=>rfl;by_cases Ib:k'*i.size=0
  ·have e0:(Builtin.zeroCells z.toArray k')=#[]:=by
    apply Array.eq_empty_of_size_eq_zero;have:=hzl;rw[Array.length_toList] at this;rw[this,<- h3];exact Ib
   simp[Builtin.append_,run_underlying ht.h,run_underlying hu,sizeOf,typeInfo,zeroValue,h1,h2,ha,hw,hn1,hn2,Bc,AZ,Dy,Ib,Question.forced,newRow,K0,grownCap,ED,e0];congr 2;apply Array.ext';simp
  ·simp[Builtin.append_,run_underlying ht.h,run_underlying hu,sizeOf,typeInfo,zeroValue,h1,h2,ha,hw,hn1,hn2,Bc,AZ,Dy,Ib,Question.forced,newRow,K0,grownCap,ED];congr 2;apply Array.ext';simp
 refine EC (v:=.slice (some ⟨w.heap.size,0,none⟩) (m+k') (grownCap w (m+k') c1 T)) ?_ (k _ _ (Builtin.zeroCells z.toArray k').toList _ hzl (St.iH ((h.drew).alloc (.cells (xs++(Builtin.zeroCells z.toArray k').toList++(Builtin.zeroCells z.toArray (grownCap w (m+k') c1 T-(m+k'))).toList).toArray T)) (c:=grownCap w (m+k') c1 T) ?_ ?_ hge))
 ·simp[execOp,resolve,hx,hy,invoke,builtin,hap]
 ·simp only[Ua,gA,hr.1,Xd];rw[<- Vj,<- Vj];congr 1;omega
 ·exact List.take_left' (by rw[Ua,hzl,hr.1,Vj])
end
end
end
section
structure bL where
 aA:Int
 bN:Int
 bB:Int
deriving DecidableEq
structure Pg where
 key:bL
 kind:Int
 ref:Bool
 bW:Bool
 pins:Int
deriving DecidableEq
def Pg.bK(p:Pg):Bool:=p.kind==1
def Pg.test(p:Pg):Bool:=p.kind==3
def Pg.aJ(p:Pg):Bool:=p.kind==1||p.kind==2
def Pg.free(p:Pg):Bool:=p.aJ&&p.pins==0
def Pg.cA(p:Pg):Bool:=p.kind==2&&p.pins==0
def Pg.Ok(p:Pg):Prop:=(p.kind=1∨p.kind=2∨p.kind=3)∧0<=p.pins∧(p.kind=3->p.pins=0)
structure aT where
 most:Int
 target:Int
 pages:List Pg
 bK:Nat
 bM:Nat
 test:Nat
namespace aT
def count(q:aT)(f:Pg->Bool):Nat:=q.pages.countP f
def eF(i n h:Nat):Nat:=if(if h>i then h-1 else h) ≥ n then 0 else(if h>i then h-1 else h)
def goes(q:aT)(i:Nat):aT:=⟨q.most,q.target,q.pages.eraseIdx i,eF i (q.pages.length-1) q.bK,eF i (q.pages.length-1) q.bM,eF i (q.pages.length-1) q.test⟩
def qS(q:aT)(n:Int):aT:=⟨q.most,min (max (q.target+n) 1) q.most,q.pages,q.bK,q.bM,q.test⟩
def cT(q:aT)(i:Nat)(p:Pg):aT:=⟨q.most,q.target,q.pages.set i p,q.bK,q.bM,q.test⟩
def gV(q:aT):aT:=⟨q.most,q.target,q.pages,(q.bK+1)%q.pages.length,q.bM,q.test⟩
def cZ(q:aT):aT:=⟨q.most,q.target,q.pages,q.bK,(q.bM+1)%q.pages.length,q.test⟩
def jJ(q:aT):aT:=⟨q.most,q.target,q.pages,q.bK,q.bM,(q.test+1)%q.pages.length⟩
def eB(q:aT)(p:Pg):aT×Bool:=
 if p.kind=3 then((q.goes q.bK).qS (-1),false)
 else if p.kind=1 then(if p.ref then((q.cT q.bK { p with ref:=false }).gV,false) else((q.cT q.bK { p with kind:=2,ref:=false,bW:=false }).gV,true))
 else((q.cT q.bK { p with bW:=false }).gV,false)
def nR:Nat->aT->aT
 |0,q=>q
 |k+1,q=>match q.pages[q.bK]? with
  |none=>q
  |some p=>if(q.eB p).2 then(q.eB p).1 else nR k (q.eB p).1
def eM(q:aT):aT:=if q.count Pg.bK=0 then q else nR ((q.pages.length+1)*(q.pages.length+1)) q
def dQ(q:aT)(p:Pg):aT×Bool:=
 if p.kind=3 then((q.goes q.test).qS (-1),true)
 else if p.kind=2∧p.bW=true then(((q.cT q.test { p with bW:=false }).qS (-1)).jJ,false)
 else(q.jJ,false)
def kP:Nat->aT->aT
 |0,q=>q
 |k+1,q=>match q.pages[q.test]? with
  |none=>q
  |some p=>if(q.dQ p).2 then(q.dQ p).1 else kP k (q.dQ p).1
def fP(q:aT):aT:=if q.count Pg.test=0 then q else kP (q.pages.length+1) q
def iO:Nat->aT->aT
 |0,q=>q
 |k+1,q=>if(q.count Pg.bK:Int)>q.most-q.target then iO k q.eM else q
def kQ(q:aT):aT:=iO (q.pages.length+1) q
def jN:Nat->aT->aT
 |0,q=>q
 |k+1,q=>if q.count Pg.cA=0 then jN k q.eM else q
def fI(q:aT):aT:=jN (q.pages.length+1) q
def jO:Nat->aT->aT
 |0,q=>q
 |k+1,q=>if(q.count Pg.test:Int)>q.most then jO k q.fP else q
def BH(q:aT):aT:=jO (q.pages.length+1) q
def nS(q:aT)(p:Pg):aT:=(if p.bW then(q.cT q.bM { p with kind:=3 }).cZ else q.goes q.bM).BH
def dZ(q:aT)(p:Pg):aT×Option bL:=
 if p.cA=false then(q.cZ,none)
 else if p.ref then(if p.bW then(((q.cT q.bM { p with kind:=1,ref:=false,bW:=false }).cZ).kQ,none) else((q.cT q.bM { p with ref:=false,bW:=true }).cZ,none))
 else(q.nS p,some p.key)
def jP:Nat->aT->aT×Option bL
 |0,q=>(q,none)
 |k+1,q=>match q.fI.pages[q.fI.bM]? with
  |none=>(q,none)
  |some p=>match q.fI.dZ p with
   |(q',some key)=>(q',some key)
   |(q',none)=>jP k q'
def rZ(q:aT):Nat:=(q.pages.length+2)*(2*q.pages.length+4)
def dS(q:aT):aT×Option bL:=jP q.rZ q
def find(q:aT)(k:bL):Option Nat:=q.pages.findIdx? (fun p=>p.key==k)
def comes(q:aT)(p:Pg):aT:=
 if q.pages=[] then⟨q.most,q.target,[p],0,0,0⟩
 else⟨q.most,q.target,q.pages.take q.bK++p::q.pages.drop q.bK,q.bK+1,if q.bM ≥ q.bK then q.bM+1 else q.bM,if q.test ≥ q.bK then q.test+1 else q.test⟩
def new(most:Int):aT:=⟨min (max most 1) 1000,1,[],0,0,0⟩
def cH(q:aT)(k:bL):aT×Bool:=match q.find k with
 |none=>(q,false)
 |some i=>match q.pages[i]? with
  |none=>(q,false)
  |some p=>if p.aJ then(q.cT i { p with ref:=true },true) else(q,false)
def fS(q:aT)(k:bL)(n:Int):aT×Bool:=match q.find k with
 |none=>(q,false)
 |some i=>match q.pages[i]? with
  |none=>(q,false)
  |some p=>if p.aJ then(q.cT i { p with pins:=max (p.pins+n) 0 },true) else(q,false)
def drop(q:aT)(k:bL):aT×Bool:=match q.find k with
 |none=>(q,false)
 |some i=>(q.goes i,true)
def room(q:aT):aT×List bL:=if(q.count Pg.aJ:Int) ≥ q.most then(q.dS.1,q.dS.2.toList) else(q,[])
def lets(q:aT)(k:bL):aT×List bL×Bool:=
 if(q.cH k).2 then((q.cH k).1,[],true)
 else if(q.count Pg.aJ:Int) ≥ q.most∧q.count Pg.free=0 then(q,[],false)
 else
  let q1:=match q.find k with
   |none=>q
   |some i=>(q.goes i).qS 1
  let p:Pg:=if(q.find k).isSome then⟨k,1,false,false,0⟩ else⟨k,2,false,true,0⟩
  ((q1.room.1.comes p).kQ,q1.room.2,true)
structure Wf(q:aT):Prop where
 most:1<=q.most∧q.most<=1000
 target:1<=q.target∧q.target<=q.most
 kinds:∀p∈q.pages,p.Ok
 bK:q.bK<max q.pages.length 1
 bM:q.bM<max q.pages.length 1
 test:q.test<max q.pages.length 1
end aT
end
section
def sA(l:List Pg)(h:Nat):List Pg:=l.drop h++l.take h
theorem kc{l:List Pg}{h:Nat}{p:Pg}(hp:l[h]?=some p):sA l h=p::(l.drop (h+1)++l.take h):=by
 have hlt:=(Uc.1 hp).1;unfold sA;rw[Vx hlt,(Uc.1 hp).2];rfl
theorem wh{l:List Pg}{h:Nat}{p:Pg}(hp:l[h]?=some p)(p':Pg):sA (l.set h p') ((h+1)%l.length)=(l.drop (h+1)++l.take h)++[p']:=by
 have hlt:=(Uc.1 hp).1;unfold sA;by_cases he:h+1=l.length
 ·rw[he,Nat.mod_self,Xg,Xn,Ux,Vv (Ug _),Us];have h0:h=l.length-1:=by omega
  rw[Zi,if_pos hlt,he,Vv (Ug _)]
 ·rw[Un O0];rw[Zi,if_pos hlt];have hl:(l.take h).length=h:=by rw[Ul];omega
  have e1:(l.take h++p'::l.drop (h+1)).drop (h+1)=l.drop (h+1):=by
   rw[Zs,hl,Vv O0,Us,show h+1-h=1 by omega];rfl
  have e2:(l.take h++p'::l.drop (h+1)).take (h+1)=l.take h++[p']:=by
   rw[Zt,hl,Uu O0,show h+1-h=1 by omega];rfl
  rw[e1,e2,Uo]
theorem xb(f:Pg->Bool)(l:List Pg)(h:Nat):(sA l h).countP f=l.countP f:=by
 unfold sA;rw[List.countP_append,Wy,<- List.countP_append,Xs]
theorem zj(l:List Pg)(h:Nat):(sA l h).length=l.length:=by
 unfold sA;rw[Ua,Um,Ul];omega
theorem j0(f:Pg->Bool){l:List Pg}{i:Nat}{p:Pg}(hp:l[i]?=some p)(p':Pg):(l.set i p').countP f+(if f p then 1 else 0)=l.countP f+(if f p' then 1 else 0):=by
 induction l generalizing i with
 |nil=>cases hp
 |cons a l ih=>
  cases i with
  |zero=>cases hp;simp only[Vh,Wr];omega
  |succ i=>simp only[Vs,Wr];have:=ih (i:=i) (by simpa using hp);omega
theorem gd(f:Pg->Bool){l:List Pg}{i:Nat}{p:Pg}(hp:l[i]?=some p):(l.eraseIdx i).countP f+(if f p then 1 else 0)=l.countP f:=by
 induction l generalizing i with
 |nil=>cases hp
 |cons a l ih=>
  cases i with
  |zero=>cases hp;simp only[List.eraseIdx_cons_zero,Wr]
  |succ i=>simp only[Xm,Wr];have:=ih (i:=i) (by simpa using hp);omega
namespace aT
def res(q:aT):List (bL×Int):=(q.pages.filter Pg.aJ).map fun p=>(p.key,p.pins)
def keys(q:aT):List bL:=q.pages.map (·.key)
structure Le(q q':aT):Prop where
 most:q'.most=q.most
 res:q'.res=q.res
 keys:List.Sublist q'.keys q.keys
 refs:q'.pages.countP Pg.ref<=q.pages.countP Pg.ref
 tests:q'.count Pg.test<=q.count Pg.test
theorem Le.refl(q:aT):Le q q:=⟨rfl,rfl,List.Sublist.refl _,Ug _,Ug _⟩
theorem Le.trans{a b c:aT}(h:Le a b)(g:Le b c):Le a c:=⟨g.most.trans h.most,g.res.trans h.res,g.keys.trans h.keys,Uw g.refs h.refs,Uw g.tests h.tests⟩
theorem Le.len{a b:aT}(h:Le a b):b.pages.length<=a.pages.length:=by have:=h.keys.length_le;simpa[aT.keys] using this
theorem hH(q:aT):q.res.length=q.count Pg.aJ:=by unfold res count;rw[Vf,List.countP_eq_length_filter]
theorem yx(q:aT):q.res.countP (fun x=>x.2==0)=q.count Pg.free:=by
 unfold res count;rw[List.countP_map,List.countP_filter];congr 1;funext p;unfold Pg.free;simp[Bool.and_comm]
theorem Le.aJ{a b:aT}(h:Le a b):b.count Pg.aJ=a.count Pg.aJ:=by rw[<- hH,<- hH,h.res]
theorem Le.free{a b:aT}(h:Le a b):b.count Pg.free=a.count Pg.free:=by rw[<- yx,<- yx,h.res]
theorem ie{l:List Pg}{i:Nat}{p p':Pg}(hp:l[i]?=some p)(hk:p'.key=p.key)(hn:p'.pins=p.pins)(hr:p'.aJ=p.aJ):
  ((l.set i p').filter Pg.aJ).map (fun p=>(p.key,p.pins))=(l.filter Pg.aJ).map (fun p=>(p.key,p.pins)):=by
 induction l generalizing i with
 |nil=>cases hp
 |cons a l ih=>
  cases i with
  |zero=>
   cases hp
   simp only[Vh,Vz,hr];split <;> simp[hk,hn]
  |succ i=>
   have:=ih (i:=i) (by simpa using hp)
   simp only[Vs,Vz];split <;> simp[this]
theorem xm{l:List Pg}{i:Nat}{p:Pg}(hp:l[i]?=some p)(hr:p.aJ=false):
  ((l.eraseIdx i).filter Pg.aJ).map (fun p=>(p.key,p.pins))=(l.filter Pg.aJ).map (fun p=>(p.key,p.pins)):=by
 induction l generalizing i with
 |nil=>cases hp
 |cons a l ih=>
  cases i with
  |zero=>cases hp;simp[Vz,hr]
  |succ i=>
   have:=ih (i:=i) (by simpa using hp)
   simp only[Xm,Vz];split <;> simp[this]
theorem dw{α:Type}{l:List α}{i:Nat}{x:α}(h:l[i]?=some x):l.set i x=l:=by
 apply Ka;intro j;have hi:=(Uc.1 h).1;rw[Kb];split
 ·rename_i e;subst e;first|exact h.symm|(rw[if_pos hi];exact h.symm)
 ·rfl
theorem nD{l:List Pg}{i:Nat}{p p':Pg}(hp:l[i]?=some p)(hk:p'.key=p.key):(l.set i p').map (·.key)=l.map (·.key):=by
 rw[Zm,hk];exact dw (by rw[Vb,hp];rfl)
theorem Le.cT(q:aT){i:Nat}{p p':Pg}(hp:q.pages[i]?=some p)(hk:p'.key=p.key)(hn:p'.pins=p.pins)(hr:p'.aJ=p.aJ)(hf:p'.ref=true->p.ref=true)(ht:p'.test=p.test):Le q (q.cT i p'):=by
 refine⟨rfl,ie hp hk hn hr,?_,?_,?_⟩
 ·show List.Sublist ((q.pages.set i p').map (·.key)) (q.pages.map (·.key));rw[nD hp hk];exact List.Sublist.refl _
 ·have:=j0 Pg.ref hp p';show(q.pages.set i p').countP Pg.ref<=_;split at this <;> split at this <;> first|omega|simp_all
 ·have:=j0 Pg.test hp p';show(q.pages.set i p').countP Pg.test<=q.pages.countP Pg.test;rw[ht] at this;omega
theorem Le.goes(q:aT){i:Nat}{p:Pg}(hp:q.pages[i]?=some p)(ht:p.kind=3):Le q (q.goes i):=by
 have hr:p.aJ=false:=by unfold Pg.aJ;simp[ht]
 refine⟨rfl,xm hp hr,?_,?_,?_⟩
 ·show List.Sublist ((q.pages.eraseIdx i).map (·.key)) (q.pages.map (·.key));exact(Zh _ _).map _
 ·have:=gd Pg.ref hp;show(q.pages.eraseIdx i).countP Pg.ref<=_;omega
 ·have:=gd Pg.test hp;show(q.pages.eraseIdx i).countP Pg.test<=q.pages.countP Pg.test;omega
theorem Le.qS(q:aT)(n:Int):Le q (q.qS n):=⟨rfl,rfl,List.Sublist.refl _,Ug _,Ug _⟩
theorem Le.gV(q:aT):Le q q.gV:=⟨rfl,rfl,List.Sublist.refl _,Ug _,Ug _⟩
theorem Le.cZ(q:aT):Le q q.cZ:=⟨rfl,rfl,List.Sublist.refl _,Ug _,Ug _⟩
theorem Le.jJ(q:aT):Le q q.jJ:=⟨rfl,rfl,List.Sublist.refl _,Ug _,Ug _⟩
theorem Wf.cT{q:aT}(h:q.Wf){i:Nat}{p':Pg}(hk:p'.Ok):(q.cT i p').Wf:=by
 refine⟨h.most,h.target,fun p hp=>?_,?_,?_,?_⟩
 ·rcases Xb hp with hp|rfl
  ·exact h.kinds p hp
  ·exact hk
 ·show q.bK<max (q.pages.set i p').length 1;rw[Vd];exact h.bK
 ·show q.bM<max (q.pages.set i p').length 1;rw[Vd];exact h.bM
 ·show q.test<max (q.pages.set i p').length 1;rw[Vd];exact h.test
theorem wM{i n h:Nat}(hh:h<max (n+1) 1)(hi:i<n+1):eF i n h<max n 1:=by
 unfold eF;split <;> split <;> omega
theorem Wf.goes{q:aT}(h:q.Wf){i:Nat}(hi:i<q.pages.length):(q.goes i).Wf:=by
 have hl:(q.pages.eraseIdx i).length=q.pages.length-1:=Zd hi;have e:q.pages.length-1+1=q.pages.length:=by omega
 refine⟨h.most,h.target,fun p hp=>h.kinds p (List.mem_of_mem_eraseIdx hp),?_,?_,?_⟩
 ·show eF i _ _<max (q.pages.eraseIdx i).length 1;rw[hl];exact wM (by rw[e];exact h.bK) O0
 ·show eF i _ _<max (q.pages.eraseIdx i).length 1;rw[hl];exact wM (by rw[e];exact h.bM) O0
 ·show eF i _ _<max (q.pages.eraseIdx i).length 1;rw[hl];exact wM (by rw[e];exact h.test) O0
theorem Wf.qS{q:aT}(h:q.Wf)(n:Int):(q.qS n).Wf:=by
 have:=h.most;exact⟨h.most,⟨by show 1<=min (max (q.target+n) 1) q.most;omega,by show min (max (q.target+n) 1) q.most<=q.most;omega⟩,h.kinds,h.bK,h.bM,h.test⟩
theorem Wf.gV{q:aT}(h:q.Wf)(hn:q.pages≠[]):q.gV.Wf:=by
 have:0<q.pages.length:=Vy.2 hn;exact⟨h.most,h.target,h.kinds,by show(q.bK+1)%q.pages.length<_;have:=Vw (q.bK+1) this;show _<max q.pages.length 1;omega,h.bM,h.test⟩
theorem Wf.cZ{q:aT}(h:q.Wf)(hn:q.pages≠[]):q.cZ.Wf:=by
 have:0<q.pages.length:=Vy.2 hn;exact⟨h.most,h.target,h.kinds,h.bK,by show(q.bM+1)%q.pages.length<_;have:=Vw (q.bM+1) this;show _<max q.pages.length 1;omega,h.test⟩
theorem Wf.jJ{q:aT}(h:q.Wf)(hn:q.pages≠[]):q.jJ.Wf:=by
 have:0<q.pages.length:=Vy.2 hn;exact⟨h.most,h.target,h.kinds,h.bK,h.bM,by show(q.test+1)%q.pages.length<_;have:=Vw (q.test+1) this;show _<max q.pages.length 1;omega⟩
theorem mQ{l:List Pg}{i:Nat}{p p':Pg}(hp:l[i]?=some p):l.set i p'≠[]:=by
 have:=(Uc.1 hp).1;intro h;have h2:=congrArg List.length h;rw[Vd,Xr] at h2;omega
theorem tL{l:List Pg}{i:Nat}{p:Pg}(hp:l[i]?=some p):l≠[]:=by
 rintro rfl;cases hp
/-! the hand Hot -/
theorem sB{q:aT}(h:q.Wf){p:Pg}(hp:q.pages[q.bK]?=some p):(q.eB p).1.Wf∧Le q (q.eB p).1∧(q.eB p).1.count Pg.bK+(if(q.eB p).2 then 1 else 0)=q.count Pg.bK:=by
 have hlt:=(Uc.1 hp).1;have hk:=h.kinds p (Ue hp);unfold eB;split
 ·rename_i h3
  refine⟨(h.goes hlt).qS _,(Le.goes q hp h3).trans (Le.qS _ _),?_⟩;have:=gd Pg.bK hp;have e:p.bK=false:=by unfold Pg.bK;simp[h3]
  rw[e] at this;exact this
 ·split
  ·rename_i h1
   split
   ·rename_i hr
    have c:=j0 Pg.bK hp { p with ref:=false }
    have e1:Pg.bK p=true:=by unfold Pg.bK;simp[h1]
    have e2:Pg.bK { p with ref:=false }=true:=e1
    rw[e1,e2] at c;refine⟨(h.cT (p':={ p with ref:=false }) hk).gV (mQ hp),(Le.cT q (p':={ p with ref:=false }) hp rfl rfl rfl (fun h=>by cases h) rfl).trans (Le.gV _),?_⟩
    show(q.pages.set q.bK _).countP Pg.bK+_=q.pages.countP Pg.bK;simp at c ⊢;omega
   ·rename_i hr
    have c:=j0 Pg.bK hp { p with kind:=2,ref:=false,bW:=false }
    have e1:Pg.bK p=true:=by unfold Pg.bK;simp[h1]
    have e2:Pg.bK { p with kind:=2,ref:=false,bW:=false }=false:=rfl
    rw[e1,e2] at c;refine⟨(h.cT (p':={ p with kind:=2,ref:=false,bW:=false }) ⟨.inr (.inl rfl),hk.2.1,fun h=>by cases h⟩).gV (mQ hp),(Le.cT q (p':={ p with kind:=2,ref:=false,bW:=false }) hp rfl rfl (by unfold Pg.aJ;simp[h1]) (fun h=>by cases h) (by unfold Pg.test;simp[h1])).trans (Le.gV _),?_⟩
    show(q.pages.set q.bK _).countP Pg.bK+_=q.pages.countP Pg.bK;simp at c ⊢;omega
  ·rename_i h1
   have c:=j0 Pg.bK hp { p with bW:=false }
   have e2:Pg.bK { p with bW:=false }=Pg.bK p:=rfl
   rw[e2] at c;refine⟨(h.cT (p':={ p with bW:=false }) hk).gV (mQ hp),(Le.cT q (p':={ p with bW:=false }) hp rfl rfl rfl id rfl).trans (Le.gV _),?_⟩
   show(q.pages.set q.bK _).countP Pg.bK+_=q.pages.countP Pg.bK;simp at c ⊢;omega
def jZ:Nat->aT->Prop
 |0,_=>False
 |k+1,q=>∃p,q.pages[q.bK]?=some p∧((q.eB p).2=true∨jZ k (q.eB p).1)
theorem mA:∀{k m:Nat} {q:aT},jZ k q->k<=m->jZ m q
 |0,_,_,h,_=>h.elim
 |k+1,m+1,q,⟨p,hp,h⟩,hm=>⟨p,hp,h.imp id fun h=>mA h O0⟩
 |k+1,0,_,_,h=>by omega
def act(p:Pg):Bool:=p.test||(p.bK&&p.ref)
def eU(p:Pg):Bool:=p.test||p.bK
theorem iP{f:Pg->Bool}{a b:List Pg}(h:a.findIdx f<a.length):(a++b).findIdx f=a.findIdx f:=by
 rw[List.findIdx_append,if_pos h]
theorem Tj(N:Nat):∀(A d:Nat) (q:aT),q.Wf->1<=q.count Pg.bK->q.pages.countP act<=A->q.pages.length<=N->(sA q.pages q.bK).findIdx eU<=d->jZ (A*(N+1)+d+1) q:=by
 intro A;induction A with
 |zero=>
  intro d;induction d with
  |zero=>
   intro q h h1 hA hN hd;have hpos:0<q.pages.length:=by have:=Wc (p:=Pg.bK) (l:=q.pages);unfold count at h1;omega
   have Hj:=h.bK;obtain⟨p,hp⟩:∃p,q.pages[q.bK]?=some p:=⟨_,Ub (show q.bK<q.pages.length by omega)⟩
   refine⟨p,hp,.inl ?_⟩;rw[kc hp,Zn] at hd;have hw:eU p=true:=by cases hh:eU p <;> simp[hh] at hd ⊢
   have ha:act p=false:=by
    cases hh:act p with
    |false=>rfl
    |true=>
     have:=Xq.2 ⟨p,Ue hp,hh⟩;omega
   unfold act at ha;unfold eU at hw;unfold Pg.test Pg.bK at ha hw;unfold eB;simp at ha hw;have h3:¬p.kind=3:=ha.1;have h1':p.kind=1:=hw.resolve_left h3;rw[if_neg h3,if_pos h1',if_neg (by rw[ha.2 h1'];simp)]
  |succ d ih=>
   intro q h h1 hA hN hd;have hpos:0<q.pages.length:=by have:=Wc (p:=Pg.bK) (l:=q.pages);unfold count at h1;omega
   have Hj:=h.bK;obtain⟨p,hp⟩:∃p,q.pages[q.bK]?=some p:=⟨_,Ub (show q.bK<q.pages.length by omega)⟩
   refine⟨p,hp,?_⟩
   have ha:act p=false:=by
    cases hh:act p with
    |false=>rfl
    |true=>
     have:=Xq.2 ⟨p,Ue hp,hh⟩;omega
   by_cases hw:eU p=true
   ·left;unfold act at ha;unfold eU at hw;unfold Pg.test Pg.bK at ha hw;unfold eB;simp at ha hw;have h3:¬p.kind=3:=ha.1;have h1':p.kind=1:=hw.resolve_left h3;rw[if_neg h3,if_pos h1',if_neg (by rw[ha.2 h1'];simp)]
   ·right;exact zI h h1 hp hw hN hd (fun q' w1 w2 w3 w4 w5=>ih q' w1 w2 (Uw w3 hA) w4 w5)
 |succ A Ra=>
  intro d;induction d with
  |zero=>
   intro q h h1 hA hN hd;have hpos:0<q.pages.length:=by have:=Wc (p:=Pg.bK) (l:=q.pages);unfold count at h1;omega
   have Hj:=h.bK;obtain⟨p,hp⟩:∃p,q.pages[q.bK]?=some p:=⟨_,Ub (show q.bK<q.pages.length by omega)⟩
   refine⟨p,hp,?_⟩;rw[kc hp,Zn] at hd;have hw:eU p=true:=by cases hh:eU p <;> simp[hh] at hd ⊢
   exact zJ h h1 hp hw hA hN fun q' w1 w2 w3 w4=>mA (Ra N q' w1 w2 w3 w4 (by have:=Xo (p:=eU) (xs:=sA q'.pages q'.bK);rw[zj] at this;omega)) (by rw[Zv];omega)
  |succ d ih=>
   intro q h h1 hA hN hd;have hpos:0<q.pages.length:=by have:=Wc (p:=Pg.bK) (l:=q.pages);unfold count at h1;omega
   have Hj:=h.bK;obtain⟨p,hp⟩:∃p,q.pages[q.bK]?=some p:=⟨_,Ub (show q.bK<q.pages.length by omega)⟩
   refine⟨p,hp,?_⟩;by_cases hw:eU p=true
   ·exact zJ h h1 hp hw hA hN fun q' w1 w2 w3 w4=>mA (Ra N q' w1 w2 w3 w4 (by have:=Xo (p:=eU) (xs:=sA q'.pages q'.bK);rw[zj] at this;omega)) (by rw[Zv];omega)
   ·right;exact zI h h1 hp hw hN hd (fun q' w1 w2 w3 w4 w5=>ih q' w1 w2 (Uw w3 hA) w4 w5)
where
 zI {N d:Nat} {q:aT} {p:Pg} (h:q.Wf) (h1:1<=q.count Pg.bK) (hp:q.pages[q.bK]?=some p) (hw:¬eU p=true) (hN:q.pages.length<=N) (hd:(sA q.pages q.bK).findIdx eU<=d+1) {K:Nat}
   (k:∀q':aT,q'.Wf->1<=q'.count Pg.bK->q'.pages.countP act<=q.pages.countP act->q'.pages.length<=N->(sA q'.pages q'.bK).findIdx eU<=d->jZ K q'):jZ K (q.eB p).1:=by
  obtain⟨o1,o2,o3⟩:=sB h hp;have NK:=hw;unfold eU Pg.test Pg.bK at NK;simp at NK;have e:q.eB p=((q.cT q.bK { p with bW:=false }).gV,false):=by unfold eB;rw[if_neg NK.1,if_neg NK.2]
  rw[e] at o1 o2 o3 ⊢;replace o3:(q.cT q.bK { p with bW:=false }).gV.count Pg.bK+0=q.count Pg.bK:=o3
  have o4:(q.cT q.bK { p with bW:=false }).gV.pages.length<=q.pages.length:=o2.len
  refine k _ o1 (show 1<=(q.cT q.bK { p with bW:=false }).gV.count Pg.bK by omega) ?_ (Uw o4 hN) ?_
  ·have c:=j0 act hp { p with bW:=false }
   have e2:act { p with bW:=false }=act p:=rfl
   rw[e2] at c;show(q.pages.set q.bK _).countP act<=_;omega
  ·show(sA (q.pages.set q.bK { p with bW:=false }) ((q.bK+1)%(q.pages.set q.bK { p with bW:=false }).length)).findIdx eU<=d
   rw[Vd,wh hp];rw[kc hp,Zn] at hd;have hwf:eU p=false:=by simpa using hw
   rw[hwf] at hd
   have hex:(q.pages.drop (q.bK+1)++q.pages.take q.bK).findIdx eU<(q.pages.drop (q.bK+1)++q.pages.take q.bK).length:=by
    rw[List.findIdx_lt_length];have hc:1<=(sA q.pages q.bK).countP Pg.bK:=by rw[xb];exact h1
    rw[kc hp,Wr] at hc;have xQ:Pg.bK p=false:=by unfold eU at hwf;simp at hwf;exact hwf.2
    rw[xQ] at hc;obtain⟨x,hx,BA⟩:=Xq.1 (show 0<(q.pages.drop (q.bK+1)++q.pages.take q.bK).countP Pg.bK by simp only[Xi,if_false,Ws] at hc;omega)
    exact⟨x,hx,by unfold eU;simp[BA]⟩
   rw[iP hex];simp at hd;omega
 zJ {N A:Nat} {q:aT} {p:Pg} (h:q.Wf) (h1:1<=q.count Pg.bK) (hp:q.pages[q.bK]?=some p) (hw:eU p=true) (hA:q.pages.countP act<=A+1) (hN:q.pages.length<=N) {K:Nat}
   (k:∀q':aT,q'.Wf->1<=q'.count Pg.bK->q'.pages.countP act<=A->q'.pages.length<=N->jZ K q'):(q.eB p).2=true∨jZ K (q.eB p).1:=by
  obtain⟨o1,o2,o3⟩:=sB h hp;by_cases uW:(q.eB p).2=true
  ·exact .inl uW
  ·right;rw[if_neg uW] at o3;refine k _ o1 O0 ?_ (by have:=o2.len;omega)
   by_cases h3:p.kind=3
   ·have e:q.eB p=((q.goes q.bK).qS (-1),false):=by unfold eB;rw[if_pos h3]
    rw[e];have c:=gd act hp;have e2:act p=true:=by unfold act Pg.test;simp[h3]
    rw[e2] at c;show(q.pages.eraseIdx q.bK).countP act<=A;simp at c;omega
   ·have hk1:p.kind=1:=by
     unfold eU Pg.test Pg.bK at hw;simp at hw;exact hw.resolve_left h3
    have hr:p.ref=true:=by
     cases hr:p.ref with
     |true=>rfl
     |false=>exact absurd (by unfold eB;rw[if_neg h3,if_pos hk1,if_neg (by rw[hr];simp)]) uW
    have e:q.eB p=((q.cT q.bK { p with ref:=false }).gV,false):=by unfold eB;rw[if_neg h3,if_pos hk1,if_pos hr]
    rw[e];have c:=j0 act hp { p with ref:=false }
    have e2:act p=true:=by unfold act Pg.bK;simp[hk1,hr]
    have e3:act { p with ref:=false }=false:=by unfold act Pg.test Pg.bK;simp[hk1]
    rw[e2,e3] at c;show(q.pages.set q.bK _).countP act<=A;simp at c;omega
theorem Dz{q:aT}(h:q.Wf)(h1:1<=q.count Pg.bK):jZ ((q.pages.length+1)*(q.pages.length+1)) q:=by
 have h2:=Tj q.pages.length (q.pages.countP act) q.pages.length q h h1 (Ug _) (Ug _) (by have:=Xo (p:=eU) (xs:=sA q.pages q.bK);rw[zj] at this;exact this)
 refine mA h2 ?_;have h3:=Wc (p:=act) (l:=q.pages);have h4:q.pages.countP act*(q.pages.length+1)<=q.pages.length*(q.pages.length+1):=Uv _ h3;rw[Vj q.pages.length 1,Nat.one_mul];omega
theorem zK:∀(k:Nat) (q:aT),jZ k q->q.Wf->(nR k q).Wf∧Le q (nR k q)∧(nR k q).count Pg.bK+1=q.count Pg.bK
 |0,_,h,_=>h.elim
 |k+1,q,⟨p,hp,hf⟩,h=>by
  obtain⟨o1,o2,o3⟩:=sB h hp;unfold nR;rw[hp];dsimp only;by_cases uW:(q.eB p).2=true
  ·rw[if_pos uW];rw[if_pos uW] at o3;exact⟨o1,o2,o3⟩
  ·rw[if_neg uW];rw[if_neg uW] at o3;obtain⟨a,b,c⟩:=zK k _ (hf.resolve_left uW) o1;exact⟨a,o2.trans b,cI⟩
theorem mB{q:aT}(h:q.Wf):q.eM.Wf∧Le q q.eM∧(q.eM.count Pg.bK=q.count Pg.bK-1):=by
 unfold eM;split
 ·rename_i h0;exact⟨h,Le.refl q,cI⟩
 ·obtain⟨a,b,c⟩:=zK _ q (Dz h O0) h;exact⟨a,b,cI⟩
end aT
end
section
namespace aT
/-! the hand Test -/
theorem tM{q:aT}(h:q.Wf){p:Pg}(hp:q.pages[q.test]?=some p):(q.dQ p).1.Wf∧Le q (q.dQ p).1∧(q.dQ p).1.count Pg.test+(if(q.dQ p).2 then 1 else 0)=q.count Pg.test:=by
 have hlt:=(Uc.1 hp).1;have hk:=h.kinds p (Ue hp);unfold dQ;split
 ·rename_i h3
  refine⟨(h.goes hlt).qS _,(Le.goes q hp h3).trans (Le.qS _ _),?_⟩;have:=gd Pg.test hp;have e:p.test=true:=by unfold Pg.test;simp[h3]
  rw[e] at this;exact this
 ·rename_i h3
  split
  ·rename_i h2
   have c:=j0 Pg.test hp { p with bW:=false }
   have e2:Pg.test { p with bW:=false }=Pg.test p:=rfl
   rw[e2] at c;refine⟨((h.cT (p':={ p with bW:=false }) hk).qS _).jJ (mQ hp),((Le.cT q (p':={ p with bW:=false }) hp rfl rfl rfl id rfl).trans (Le.qS _ _)).trans (Le.jJ _),?_⟩
   show(q.pages.set q.test _).countP Pg.test+_=q.pages.countP Pg.test;simp at c ⊢;omega
  ·exact⟨h.jJ (tL hp),Le.jJ q,rfl⟩
def pP:Nat->aT->Prop
 |0,_=>False
 |k+1,q=>∃p,q.pages[q.test]?=some p∧((q.dQ p).2=true∨pP k (q.dQ p).1)
theorem ll:∀(d:Nat) (q:aT),q.Wf->1<=q.count Pg.test->(sA q.pages q.test).findIdx Pg.test<=d->pP (d+1) q:=by
 intro d;induction d with
 |zero=>
  intro q h h1 hd;have hpos:0<q.pages.length:=by have:=Wc (p:=Pg.test) (l:=q.pages);unfold count at h1;omega
  have hh:=h.test;obtain⟨p,hp⟩:∃p,q.pages[q.test]?=some p:=⟨_,Ub (show q.test<q.pages.length by omega)⟩
  refine⟨p,hp,.inl ?_⟩;rw[kc hp,Zn] at hd;have hw:Pg.test p=true:=by cases hh:Pg.test p <;> simp[hh] at hd ⊢
  unfold Pg.test at hw;simp at hw;unfold dQ;rw[if_pos hw]
 |succ d ih=>
  intro q h h1 hd;have hpos:0<q.pages.length:=by have:=Wc (p:=Pg.test) (l:=q.pages);unfold count at h1;omega
  have hh:=h.test;obtain⟨p,hp⟩:∃p,q.pages[q.test]?=some p:=⟨_,Ub (show q.test<q.pages.length by omega)⟩
  obtain⟨o1,o2,o3⟩:=tM h hp;refine⟨p,hp,?_⟩;by_cases h3:p.kind=3
  ·left;unfold dQ;rw[if_pos h3]
  ·right;have hf:Pg.test p=false:=by unfold Pg.test;simp[h3]
   have hnot:(q.dQ p).2=false:=by unfold dQ;rw[if_neg h3];split <;> rfl
   rw[hnot] at o3;refine ih _ o1 (by simp only[Xi,if_false,Ws] at o3;omega) ?_
   have key:∃p',sA (q.dQ p).1.pages (q.dQ p).1.test=(q.pages.drop (q.test+1)++q.pages.take q.test)++[p']:=by
    unfold dQ;rw[if_neg h3];split
    ·refine⟨{ p with bW:=false },?_⟩
     show sA (q.pages.set q.test { p with bW:=false }) ((q.test+1)%(q.pages.set q.test { p with bW:=false }).length)=_
     rw[Vd,wh hp]
    ·refine⟨p,?_⟩;show sA q.pages ((q.test+1)%q.pages.length)=_;have:=wh hp p;rw[dw hp] at this;exact this
   obtain⟨p',e⟩:=key;rw[e];rw[kc hp,Zn,hf] at hd
   have hex:(q.pages.drop (q.test+1)++q.pages.take q.test).findIdx Pg.test<(q.pages.drop (q.test+1)++q.pages.take q.test).length:=by
    rw[List.findIdx_lt_length];have hc:1<=(sA q.pages q.test).countP Pg.test:=by rw[xb];exact h1
    rw[kc hp,Wr,hf] at hc;obtain⟨x,hx,BA⟩:=Xq.1 (show 0<(q.pages.drop (q.test+1)++q.pages.take q.test).countP Pg.test by simp only[Xi,if_false,Ws] at hc;omega)
    exact⟨x,hx,BA⟩
   rw[iP hex];simp at hd;omega
theorem BI{q:aT}(h:q.Wf)(h1:1<=q.count Pg.test):pP (q.pages.length+1) q:=
 ll q.pages.length q h h1 (by have:=Xo (p:=Pg.test) (xs:=sA q.pages q.test);rw[zj] at this;exact this)
theorem wN:∀(k:Nat) (q:aT),pP k q->q.Wf->(kP k q).Wf∧Le q (kP k q)∧(kP k q).count Pg.test+1=q.count Pg.test
 |0,_,h,_=>h.elim
 |k+1,q,⟨p,hp,hf⟩,h=>by
  obtain⟨o1,o2,o3⟩:=tM h hp;unfold kP;rw[hp];dsimp only;by_cases uW:(q.dQ p).2=true
  ·rw[if_pos uW];rw[if_pos uW] at o3;exact⟨o1,o2,o3⟩
  ·rw[if_neg uW];rw[if_neg uW] at o3;obtain⟨a,b,c⟩:=wN k _ (hf.resolve_left uW) o1;exact⟨a,o2.trans b,cI⟩
theorem sC{q:aT}(h:q.Wf):q.fP.Wf∧Le q q.fP∧(q.fP.count Pg.test=q.count Pg.test-1):=by
 unfold fP;split
 ·rename_i h0;exact⟨h,Le.refl q,cI⟩
 ·obtain⟨a,b,c⟩:=wN _ q (BI h O0) h;exact⟨a,b,cI⟩
/-! turns again and again -/
theorem jK(q:aT)(f:Pg->Bool):q.count f<=q.pages.length:=Wc
theorem wO:∀(k:Nat) (q:aT),q.count Pg.bK<k->q.Wf->(iO k q).Wf∧Le q (iO k q)∧((iO k q).count Pg.bK:Int)<=(iO k q).most-(iO k q).target
 |0,_,h,_=>by omega
 |k+1,q,hk,h=>by
  unfold iO;split
  ·rename_i hc
   obtain⟨a,b,c⟩:=mB h;have:=h.target;obtain⟨d,e,f⟩:=wO k q.eM O0 a;exact⟨d,b.trans e,f⟩
  ·exact⟨h,Le.refl q,cI⟩
theorem nn{q:aT}(h:q.Wf):q.kQ.Wf∧Le q q.kQ∧(q.kQ.count Pg.bK:Int)<=q.kQ.most-q.kQ.target:=
 wO _ q (by have:=jK q Pg.bK;omega) h
theorem zL(q:aT)(h:q.count Pg.cA=0)(h1:1<=q.count Pg.free):1<=q.count Pg.bK:=by
 obtain⟨p,hp,hf⟩:=Xq.1 (show 0<q.pages.countP Pg.free from h1);refine Xq.2 ⟨p,hp,?_⟩;have h0:=List.countP_eq_zero.1 h p hp;unfold Pg.free Pg.aJ at hf;unfold Pg.cA at h0;unfold Pg.bK;simp at hf h0 ⊢;exact hf.1.resolve_right fun h2=>h0 h2 hf.2
theorem wP:∀(k:Nat) (q:aT),q.count Pg.bK<k->1<=q.count Pg.free->q.Wf->(jN k q).Wf∧Le q (jN k q)∧1<=(jN k q).count Pg.cA
 |0,_,h,_,_=>by omega
 |k+1,q,hk,h1,h=>by
  unfold jN;split
  ·rename_i hc
   have:=zL q hc h1;obtain⟨a,b,c⟩:=mB h;obtain⟨d,e,f⟩:=wP k q.eM O0 (by rw[b.free];exact h1) a
   exact⟨d,b.trans e,f⟩
  ·exact⟨h,Le.refl q,cI⟩
theorem sD{q:aT}(h:q.Wf)(h1:1<=q.count Pg.free):q.fI.Wf∧Le q q.fI∧1<=q.fI.count Pg.cA:=
 wP _ q (by have:=jK q Pg.bK;omega) h1 h
theorem lr{q:aT}(h:1<=q.count Pg.cA):q.fI=q:=by
 unfold fI jN;rw[if_neg O0]
theorem wQ:∀(k:Nat) (q:aT),q.count Pg.test<k->q.Wf->(jO k q).Wf∧Le q (jO k q)∧((jO k q).count Pg.test:Int)<=(jO k q).most
 |0,_,h,_=>by omega
 |k+1,q,hk,h=>by
  unfold jO;split
  ·rename_i hc
   obtain⟨a,b,c⟩:=sC h;have:=h.most;obtain⟨d,e,f⟩:=wQ k q.fP O0 a;exact⟨d,b.trans e,f⟩
  ·exact⟨h,Le.refl q,cI⟩
theorem ir{q:aT}(h:q.Wf):q.BH.Wf∧Le q q.BH∧(q.BH.count Pg.test:Int)<=q.BH.most:=
 wQ _ q (by have:=jK q Pg.test;omega) h
/-! the hand Cold -/
structure Out(q q':aT)(k:bL):Prop where
 most:q'.most=q.most
 res:q.res.Perm ((k,0)::q'.res)
 sub:List.Sublist q'.res q.res
 keys:List.Sublist q'.keys q.keys
 tests:(q'.count Pg.test:Int)<=q'.most
theorem mR{l:List Pg}{i:Nat}{p:Pg}(hp:l[i]?=some p)(hr:p.aJ=true):
  ((l.filter Pg.aJ).map fun p=>(p.key,p.pins)).Perm ((p.key,p.pins)::((l.eraseIdx i).filter Pg.aJ).map fun p=>(p.key,p.pins))∧List.Sublist (((l.eraseIdx i).filter Pg.aJ).map fun p=>(p.key,p.pins)) ((l.filter Pg.aJ).map fun p=>(p.key,p.pins)):=by
 refine⟨?_,((Zh l i).filter _).map _⟩;induction l generalizing i with
 |nil=>cases hp
 |cons a l ih=>
  cases i with
  |zero=>cases hp;simp[Vz,hr]
  |succ i=>
   have:=ih (i:=i) (by simpa using hp)
   simp only[Xm,Vz];split
   ·simp only[Uy];exact(this.cons _).trans (List.Perm.swap _ _ _)
   ·exact this
theorem BJ{l:List Pg}{i:Nat}{p p':Pg}(hp:l[i]?=some p)(hr:p.aJ=true)(hr':p'.aJ=false):
  ((l.filter Pg.aJ).map fun p=>(p.key,p.pins)).Perm ((p.key,p.pins)::((l.set i p').filter Pg.aJ).map fun p=>(p.key,p.pins))∧List.Sublist (((l.set i p').filter Pg.aJ).map fun p=>(p.key,p.pins)) ((l.filter Pg.aJ).map fun p=>(p.key,p.pins)):=by
 have e:(l.set i p').filter Pg.aJ=(l.eraseIdx i).filter Pg.aJ:=by
  clear hr;induction l generalizing i with
  |nil=>cases hp
  |cons a l ih=>
   cases i with
   |zero=>simp[Vz,hr']
   |succ i=>
    have:=ih (i:=i) (by simpa using hp)
    simp only[Vs,Xm,Vz,this]
 rw[e];exact mR hp hr
theorem Ea{q:aT}(h:q.Wf){p:Pg}(hp:q.pages[q.bM]?=some p)(hc:p.cA=true):(q.nS p).Wf∧Out q (q.nS p) p.key:=by
 have hlt:=(Uc.1 hp).1;have lO:p.kind=2∧p.pins=0:=by unfold Pg.cA at hc;simpa using hc
 have hr:p.aJ=true:=by unfold Pg.aJ;simp[lO.1]
 unfold nS;split
 ·obtain⟨a,b,c⟩:=ir ((h.cT (i:=q.bM) (p':={ p with kind:=3 }) ⟨.inr (.inr rfl),by show 0<=p.pins;omega,fun _=>lO.2⟩).cZ (mQ hp))
  have r:=BJ (p':={ p with kind:=3 }) hp hr rfl
  have e0:((p.key,p.pins):bL×Int)=(p.key,0):=by rw[lO.2]
  refine⟨a,b.most,?_,?_,b.keys.trans ?_,c⟩
  ·rw[b.res,<- e0];exact r.1
  ·rw[b.res];exact r.2
  ·show List.Sublist ((q.pages.set q.bM { p with kind:=3 }).map (·.key)) (q.pages.map (·.key))
   rw[nD (p':={ p with kind:=3 }) hp rfl]
   exact List.Sublist.refl _
 ·obtain⟨a,b,c⟩:=ir (h.goes hlt);have r:=mR hp hr;have e0:((p.key,p.pins):bL×Int)=(p.key,0):=by rw[lO.2]
  refine⟨a,b.most,?_,?_,b.keys.trans ((Zh _ _).map _),c⟩
  ·rw[b.res,<- e0];exact r.1
  ·rw[b.res];exact r.2
theorem tN{q:aT}(h:q.Wf){p:Pg}(hp:q.pages[q.bM]?=some p):
  (q.dZ p).1.Wf∧((q.dZ p).2=none∧Le q (q.dZ p).1∨∃k,(q.dZ p).2=some k∧Out q (q.dZ p).1 k):=by
 have hk:=h.kinds p (Ue hp);unfold dZ;split
 ·exact⟨h.cZ (tL hp),.inl ⟨rfl,Le.cZ q⟩⟩
 ·rename_i hc
  have kZ:p.cA=true:=by simpa using hc
  have lO:p.kind=2∧p.pins=0:=by unfold Pg.cA at kZ;simpa using kZ
  split
  ·split
   ·have w:=(h.cT (i:=q.bM) (p':={ p with kind:=1,ref:=false,bW:=false }) ⟨.inl rfl,hk.2.1,fun h=>by cases h⟩).cZ (mQ hp)
    obtain⟨a,b,_⟩:=nn w;exact⟨a,.inl ⟨rfl,((Le.cT q (p':={ p with kind:=1,ref:=false,bW:=false }) hp rfl rfl (by unfold Pg.aJ;simp[lO.1]) (fun h=>by cases h) (by unfold Pg.test;simp[lO.1])).trans (Le.cZ _)).trans b⟩⟩
   ·exact⟨(h.cT (i:=q.bM) (p':={ p with ref:=false,bW:=true }) hk).cZ (mQ hp),.inl ⟨rfl,(Le.cT q (p':={ p with ref:=false,bW:=true }) hp rfl rfl rfl (fun h=>by cases h) rfl).trans (Le.cZ _)⟩⟩
  ·obtain⟨a,b⟩:=Ea h hp kZ;exact⟨a,.inr ⟨p.key,rfl,b⟩⟩
def hU:Nat->aT->Prop
 |0,_=>False
 |k+1,q=>∃p,q.fI.pages[q.fI.bM]?=some p∧((∃key,(q.fI.dZ p).2=some key)∨hU k (q.fI.dZ p).1)
theorem nT:∀{k m:Nat} {q:aT},hU k q->k<=m->hU m q
 |0,_,_,h,_=>h.elim
 |k+1,m+1,q,⟨p,hp,h⟩,hm=>⟨p,hp,h.imp id fun h=>nT h O0⟩
 |k+1,0,_,_,h=>by omega
theorem zg{N R d:Nat}{q:aT}(h:q.Wf)(hf:1<=q.count Pg.free)(hR:q.fI.pages.countP Pg.ref<=R)(hN:q.fI.pages.length<=N)(hd:(sA q.fI.pages q.fI.bM).findIdx Pg.cA<=d){K:Nat}
  (kA:∀q':aT,q'.Wf->1<=q'.count Pg.free->q'.fI.pages.countP Pg.ref<=R->q'.fI.pages.length<=N->∀d',d=d'+1->(sA q'.fI.pages q'.fI.bM).findIdx Pg.cA<=d'->hU K q')
  (kC:∀q':aT,q'.Wf->1<=q'.count Pg.free->∀R',R=R'+1->q'.fI.pages.countP Pg.ref<=R'->q'.fI.pages.length<=N->hU K q'):hU (K+1) q:=by
 obtain⟨w1,w2,w3⟩:=sD h hf;have hf':1<=q.fI.count Pg.free:=by rw[w2.free];exact hf
 generalize hw:q.fI=u at *;have hpos:0<u.pages.length:=by have:=jK u Pg.cA;omega
 have hh:=w1.bM;obtain⟨p,hp⟩:∃p,u.pages[u.bM]?=some p:=⟨_,Ub (show u.bM<u.pages.length by omega)⟩
 refine⟨p,by rw[hw];exact hp,?_⟩
 rw[hw];by_cases hc:p.cA=false
 ·right;have e:u.dZ p=(u.cZ,none):=by unfold dZ;rw[if_pos hc]
  rw[e];have e2:u.cZ.fI=u.cZ:=lr (show 1<=u.cZ.count Pg.cA from w3);have hd2:=hd;rw[kc hp,Zn,hc] at hd2;have XY:(u.pages.drop (u.bM+1)++u.pages.take u.bM).findIdx Pg.cA+1<=d:=by simpa using hd2
  refine kA _ (w1.cZ (tL hp)) hf' (by rw[e2];exact hR) (by rw[e2];exact hN) (d-1) O0 ?_
  rw[e2];show(sA u.pages ((u.bM+1)%u.pages.length)).findIdx Pg.cA<=d-1;have hr:=wh hp p;rw[dw hp] at hr;rw[hr]
  have hex:(u.pages.drop (u.bM+1)++u.pages.take u.bM).findIdx Pg.cA<(u.pages.drop (u.bM+1)++u.pages.take u.bM).length:=by
   rw[List.findIdx_lt_length];have La:1<=(sA u.pages u.bM).countP Pg.cA:=by rw[xb];exact w3
   rw[kc hp,Wr,hc] at La;obtain⟨x,hx,BA⟩:=Xq.1 (show 0<(u.pages.drop (u.bM+1)++u.pages.take u.bM).countP Pg.cA by simp only[Xi,if_false,Ws] at La;omega)
   exact⟨x,hx,BA⟩
  rw[iP hex];omega
 ·have kZ:p.cA=true:=by simpa using hc
  by_cases hr:p.ref=true
  ·right;obtain⟨o1,o2⟩:=tN w1 hp
   have key:(u.dZ p).2=none∧(u.dZ p).1.pages.countP Pg.ref+1<=u.pages.countP Pg.ref:=by
    unfold dZ;rw[if_neg hc,if_pos hr];by_cases ht:p.bW=true
    ·rw[if_pos ht];refine⟨rfl,?_⟩;have c:=j0 Pg.ref hp { p with kind:=1,ref:=false,bW:=false }
     have hk:=w1.kinds p (Ue hp);obtain⟨_,b,_⟩:=nn ((w1.cT (i:=u.bM) (p':={ p with kind:=1,ref:=false,bW:=false }) ⟨.inl rfl,hk.2.1,fun h=>by cases h⟩).cZ (mQ hp))
     have hb:=b.refs;show(((u.cT u.bM { p with kind:=1,ref:=false,bW:=false }).cZ).kQ).pages.countP Pg.ref+1<=_
     have e1:Pg.ref p=true:=hr;have e2:Pg.ref { p with kind:=1,ref:=false,bW:=false }=false:=rfl
     rw[e1,e2] at c;simp only[if_true,Xi,if_false] at c;have IU:(((u.cT u.bM { p with kind:=1,ref:=false,bW:=false }).cZ).kQ).pages.countP Pg.ref<=(u.pages.set u.bM { p with kind:=1,ref:=false,bW:=false }).countP Pg.ref:=hb
     omega
    ·rw[if_neg ht];refine⟨rfl,?_⟩;have c:=j0 Pg.ref hp { p with ref:=false,bW:=true }
     show(u.pages.set u.bM { p with ref:=false,bW:=true }).countP Pg.ref+1<=_
     have e1:Pg.ref p=true:=hr;have e2:Pg.ref { p with ref:=false,bW:=true }=false:=rfl
     rw[e1,e2] at c;simp only[if_true,Xi,if_false] at c;omega
   rcases o2 with⟨_,o2⟩|⟨k,hk,_⟩
   ·have f2:1<=(u.dZ p).1.count Pg.free:=by rw[o2.free];exact hf'
    obtain⟨v1,v2,v3⟩:=sD o1 f2;have l1:=v2.len;have l2:=o2.len;have r1:=v2.refs;exact kC _ o1 f2 (R-1) O0 O0 O0
   ·rw[key.1] at hk;cases hk
  ·left;unfold dZ;rw[if_neg hc,if_neg hr];exact⟨p.key,rfl⟩
theorem l8(N:Nat):∀(R d:Nat) (q:aT),q.Wf->1<=q.count Pg.free->q.fI.pages.countP Pg.ref<=R->q.fI.pages.length<=N->(sA q.fI.pages q.fI.bM).findIdx Pg.cA<=d->hU (R*(N+1)+d+1) q:=by
 intro R;induction R with
 |zero=>
  intro d;induction d with
  |zero=>intro q h hf hR hN hd;exact zg h hf hR hN hd (fun _ _ _ _ _ d' e=>by omega) (fun _ _ _ R' e=>by omega)
  |succ d ih=>intro q h hf hR hN hd;exact zg h hf hR hN hd (fun q' a b c e d' ed f=>by cases ed;exact ih q' a b c e f) (fun _ _ _ R' e=>by omega)
 |succ R Tl=>
  have kC:∀K,(R+1)*(N+1)<=K->∀q':aT,q'.Wf->1<=q'.count Pg.free->∀R',R+1=R'+1->q'.fI.pages.countP Pg.ref<=R'->q'.fI.pages.length<=N->hU K q':=by
   intro K hK q' a b R' e c f;cases e
   refine nT (Tl N q' a b c f ?_) ?_
   ·have:=Xo (p:=Pg.cA) (xs:=sA q'.fI.pages q'.fI.bM);rw[zj] at this;omega
   ·rw[Zv] at hK;omega
  intro d;induction d with
  |zero=>intro q h hf hR hN hd;exact zg h hf hR hN hd (fun _ _ _ _ _ d' e=>by omega) (kC _ (Ug _))
  |succ d ih=>intro q h hf hR hN hd;exact zg h hf hR hN hd (fun q' a b c e d' ed f=>by cases ed;exact ih q' a b c e f) (kC _ O0)
theorem BK{q:aT}(h:q.Wf)(hf:1<=q.count Pg.free):hU q.rZ q:=by
 obtain⟨w1,w2,w3⟩:=sD h hf;have l:=w2.len;have h2:=l8 q.pages.length (q.fI.pages.countP Pg.ref) q.pages.length q h hf (Ug _) l (by have:=Xo (p:=Pg.cA) (xs:=sA q.fI.pages q.fI.bM);rw[zj] at this;omega)
 refine nT h2 ?_;have h3:=Wc (p:=Pg.ref) (l:=q.fI.pages);have h4:q.fI.pages.countP Pg.ref*(q.pages.length+1)<=q.pages.length*(q.pages.length+1):=Uv _ O0;unfold rZ;have h5:q.pages.length*(q.pages.length+1)+q.pages.length+1=(q.pages.length+1)*(q.pages.length+1):=by rw[Vj q.pages.length 1,Nat.one_mul];omega
 have h6:(q.pages.length+1)*(q.pages.length+1)<=(q.pages.length+2)*(2*q.pages.length+4):=Ke O0 O0;omega
theorem Le.out{a b c:aT}{k:bL}(h:Le a b)(g:Out b c k):Out a c k:=⟨g.most.trans h.most,by rw[<- h.res];exact g.res,by rw[<- h.res];exact g.sub,g.keys.trans h.keys,g.tests⟩
theorem wR:∀(k:Nat) (q:aT),hU k q->q.Wf->1<=q.count Pg.free->∃key,(jP k q).2=some key∧(jP k q).1.Wf∧Out q (jP k q).1 key
 |0,_,h,_,_=>h.elim
 |k+1,q,⟨p,hp,hf⟩,h,h1=>by
  obtain⟨w1,w2,w3⟩:=sD h h1;obtain⟨o1,o2⟩:=tN w1 hp;unfold jP;rw[hp];dsimp only;rcases o2 with⟨e,o2⟩|⟨key,e,o2⟩
  ·have Q6:=hf.resolve_left (by rintro⟨key,hk⟩;rw[e] at hk;cases hk)
   obtain⟨key,a,b,c⟩:=wR k _ Q6 o1 (by rw[o2.free,w2.free];exact h1)
   generalize hr:q.fI.dZ p=r at *;obtain⟨r1,r2⟩:=r;dsimp only at e a b c o2;subst e;exact⟨key,a,b,(w2.trans o2).out c⟩
  ·generalize hr:q.fI.dZ p=r at *;obtain⟨r1,r2⟩:=r;dsimp only at e o1 o2;subst e;exact⟨key,rfl,o1,w2.out o2⟩
theorem sE{q:aT}(h:q.Wf)(h1:1<=q.count Pg.free):∃key,q.dS.2=some key∧q.dS.1.Wf∧Out q q.dS.1 key:=
 wR _ q (BK h h1) h h1
end aT
end
section
namespace aT
theorem BL{q:aT}(h:q.Wf){p:Pg}(hp:p.Ok):(q.comes p).Wf∧(q.comes p).pages.length=q.pages.length+1:=by
 unfold comes;have h1:=h.bK;have h2:=h.bM;have h3:=h.test;split
 ·rename_i h0
  refine⟨⟨h.most,h.target,fun x hx=>?_,by simp,by simp,by simp⟩,by rw[h0];rfl⟩
  obtain rfl:x=p:=by simpa using hx
  exact hp
 ·rename_i h0
  have hpos:0<q.pages.length:=Vy.2 h0
  have hl:(q.pages.take q.bK++p::q.pages.drop q.bK).length=q.pages.length+1:=by
   simp only[Ua,Uj,Ul,Um];omega
  refine⟨⟨h.most,h.target,fun x hx=>?_,?_,?_,?_⟩,hl⟩
  ·rcases Vc.1 hx with hx|hx
   ·exact h.kinds x (Vl hx)
   ·rcases Up.1 hx with rfl|hx
    ·exact hp
    ·exact h.kinds x (Wv hx)
  ·show q.bK+1<max (q.pages.take q.bK++p::q.pages.drop q.bK).length 1;rw[hl];omega
  ·show(if q.bM ≥ q.bK then q.bM+1 else q.bM)<max (q.pages.take q.bK++p::q.pages.drop q.bK).length 1;rw[hl];split <;> omega
  ·show(if q.test ≥ q.bK then q.test+1 else q.test)<max (q.pages.take q.bK++p::q.pages.drop q.bK).length 1;rw[hl];split <;> omega
end aT
end
end Go.Hw
