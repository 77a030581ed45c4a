/- What the proof of ProgAlone needs, part 8: plain lemmas, and what each function does. -/
import Derived.Test.YtngdfdangkdgcaaGreatDoorQProgAloneg
set_option linter.unusedVariables false
set_option linter.unusedSimpArgs false
set_option linter.unnecessarySimpa false
set_option maxRecDepth 100000
set_option maxHeartbeats 4000000
namespace Go.Proofs.YtngdfdangkdgcaaGreatDoor
open Go.Hw _root_.Go.Proofs.Tryz
section
section
variable{w0 w:World}{l M:List aC}{E:List SQ}{F:List IQ}{sa ia:Option Addr}{sc ic:Nat}{nx:Int}{o:gR}{N:Md}{g:aC}
abbrev aO(b:Nat)(r:iS)(a:Option Addr)(c:Nat):aC:=pt b (.cells (r.C a c).toArray 28 (0,0))
abbrev cJ(b:Nat)(o:gR):aC:=pt b (.cells o.C.toArray 33 (0,0))
structure Ls(w0:World)(l:List aC)(E:List SQ)(F:List IQ)(sa ia:Option Addr):Prop where
 s:Reads w0 l 5 sa E.length (gZ E)
 i:Reads w0 l 2 ia F.length (lS F)
 rs:∀x∈E,Reads w0 l 2 x.2.1 x.1.L.length (aW x.1.L)
 ri:∀x∈F,Reads w0 l 2 x.2.1 x.1.2.length (aW x.1.2)
theorem Ng{P:List aC}{sz n:Nat}{a:Option Addr}{xs:List Value}(h:Reads w0 (P++l) sz a n xs):Reads w0 (all P::l) sz a n xs:=h.swap (vq P l).symm
theorem KG{sz n:Nat}{a:Option Addr}{xs:List Value}(h:Reads w0 (g::l) sz a n xs)(X M:List aC):Reads w0 (X++g::(M++l)) sz a n xs:=
 (h.more (X++M)).swap (by simp only[vq,all];ac_rfl)
def C6(w0:World)(l M:List aC)(N:Md)(o:gR)(v:Value)(w:World):Prop:=
 ∃(E:List SQ) (F:List IQ) (sa:Option Addr) (sc:Nat) (ia:Option Addr) (ic:Nat) (nx:Int) (res:iS) (ra:Option Addr) (rc:Nat) (G:aC),v=.tuple [.agg (EB E F sa sc ia ic nx).toArray,.agg (res.C ra rc).toArray].toArray∧
  lM N o ⟨E.map (·.1),F.map (·.1),nx⟩ res∧Ls w0 (G::l) E F sa ia∧Reads w0 (G::l) 2 ra res.list.length (aW res.list)∧St w0 (G::(M++l)) w
theorem ly{res:iS}{ra:Option Addr}{rc:Nat}{R:aC}(hD:lM N o ⟨E.map (·.1),F.map (·.1),nx⟩ res)(lT:∀x∈E,gG w0 (g::l) x.2.1 x.2.2 x.1.L)(sU:∀x∈F,gG w0 (g::l) x.2.1 x.2.2 x.1.2)
  (hres:Reads w0 (R::g::l) 2 ra res.list.length (aW res.list)) (h:St w0 (aV sa sc E::bI ia ic F::R::g::(M++l)) w):
  C6 w0 l M N o (.tuple [.agg (bD sa E.length sc ia F.length ic nx).toArray,.agg (res.C ra rc).toArray].toArray) w:=
 ⟨E,F,sa,sc,ia,ic,nx,res,ra,rc,all [aV sa sc E,bI ia ic F,R,g],rfl,hD,
  ⟨Ng Reads.own,Ng (P:=[aV sa sc E,bI ia ic F,R,g]) Reads.own.cons,fun x hx=>Ng (P:=[aV sa sc E,bI ia ic F,R,g]) ((lT x hx).1.more [_,_,_]),fun x hx=>Ng (P:=[aV sa sc E,bI ia ic F,R,g]) ((sU x hx).1.more [_,_,_])⟩,
  Ng (P:=[aV sa sc E,bI ia ic F,R,g]) (hres.more [_,_]),St.fold [_,_,_,_] h⟩
theorem KH(h:St w0 l w):St w0 (all []::l) w:=St.fold [] h
theorem yf{e:Int}(hD:lM N o ⟨E.map (·.1),F.map (·.1),nx⟩ ⟨e,0,[]⟩)(lT:∀x∈E,gG w0 (g::l) x.2.1 x.2.2 x.1.L)(sU:∀x∈F,gG w0 (g::l) x.2.1 x.2.2 x.1.2)(h:St w0 (aV sa sc E::bI ia ic F::g::(M++l)) w):
  C6 w0 l M N o (.tuple [.agg (bD sa E.length sc ia F.length ic nx).toArray,.agg ((⟨e,0,[]⟩:iS).C none 0).toArray].toArray) w:=ly hD lT sU Reads.nil ((KH h).o [1,2,0])
structure XD where
 E:List SQ
 F:List IQ
 sa:Option Addr
 sc:Nat
 ia:Option Addr
 ic:Nat
 nx:Int
 res:iS
 ra:Option Addr
 rc:Nat
 R:aC
 g:aC
def Nh(E:List SQ)(F:List IQ)(o:gR)(k:Option Nat):Prop:=
 (1<=o.kind∧o.kind<=5∧aP.bad o=false∧AtR (E.map fun x=>x.1.id) o.aA k∧(k=none->o.kind=1))∨((o.kind=6∨o.kind=7)∧AtR (keys (F.map (·.1))) o.iter k∧k≠none)
theorem Nh.oB{k:Option Nat}(h:Nh E F o k)(h1:1<=o.kind)(h5:o.kind<=5):aP.bad o=false∧AtR (E.map fun x=>x.1.id) o.aA k∧(k=none->o.kind=1):=by
 rcases h with⟨_,_,h⟩|⟨h,_⟩
 ·exact h
 ·omega
theorem Nh.it{k:Option Nat}(h:Nh E F o k)(h6:o.kind=6∨o.kind=7):∃i y,k=some i∧AtR (keys (F.map (·.1))) o.iter (some i)∧F[i]?=some y∧y.1.1=o.iter:=by
 rcases h with⟨_,_,_⟩|⟨_,ha,hk⟩
 ·omega
 ·cases k with
  |none=>exact absurd rfl hk
  |some i=>
   have h1:=ha.1;unfold keys at h1;rw[Vb,Vb] at h1;cases hy:F[i]? with
   |none=>rw[hy] at h1;cases h1
   |some y=>rw[hy] at h1;exact⟨i,y,rfl,ha,hy,Uk h1⟩
theorem AtR.here{i:Nat}{id:Int}(h:AtR (E.map fun x=>x.1.id) id (some i)):∃x,E[i]?=some x∧x.1.id=id:=by
 have h1:=h.1;rw[Vb] at h1;cases hx:E[i]? with
 |none=>rw[hx] at h1;cases h1
 |some x=>rw[hx] at h1;exact⟨x,rfl,Uk h1⟩
theorem ub{α β:Type}{E:List (α×β)}{i:Nat}{x:α×β}(h:E[i]?=some x):(E.map (·.1))[i]?=some x.1:=by rw[Vb,h];rfl
theorem XE{α:Type}{A B:List α}{x y:α}{j:Nat}(h:A.length=j):(A++x::B).set j y=A++y::B:=by
 subst h;rw[List.set_append_right _ _ (Ug _),Xv];rfl
theorem XF{α:Type}(L:List α)(c:Nat):L.take (min c L.length)=L.take c∧L.drop (min c L.length)=L.drop c:=by
 rcases Nat.le_total c L.length with h|h
 ·rw[Vn h];exact⟨rfl,rfl⟩
 ·rw[Nat.min_eq_right h,Uu (Ug _),Uu h,Xz (Ug _),Xz h];exact⟨rfl,rfl⟩
theorem Gf{n:Nat}{E0:List SQ}{F0:List IQ}{Ni Nj:Option Addr}{N5 N6:Nat}(hb:Bd ⟨E0.map (·.1),F0.map (·.1),nx⟩ n)(hn:n<=900)(hR:Ls w0 l E0 F0 Ni Nj)(h:St w0 (M++l) w):
  bP prog 29 [.agg (EB E0 F0 Ni N5 Nj N6 nx).toArray,.agg o.C.toArray] w fun v w'=>C6 w0 l M ⟨E0.map (·.1),F0.map (·.1),nx⟩ o v w':=by
 have Qq:=hb.s;have Qr:=hb.i;have hn0:=hb.n0;have hn1:=hb.n1;dsimp only at Qq Qr hn0 hn1;rw[Vf] at Qq Qr;refine en func29 results29 ntmps29 ?_;refine Y1 ?_;refine aF rfl (jk h (show _=Value.agg (EB E0 F0 Ni N5 Nj N6 nx).toArray from rfl) fun b2 w h=>?_);refine aF rfl (jk h (show _=Value.agg o.C.toArray from rfl) fun b3 w h=>?_);refine aF rfl (qn h fun b4 w h=>?_);refine aF rfl (qn h fun b5 w h=>?_);replace h:St w0 ((aO b5 ⟨0,0,[]⟩ none 0::aN b4 (bD none 0 0 none 0 0 0)::cJ b3 o::aN b2 (bD Ni E0.length N5 Nj F0.length N6 nx)::M)++l) w:=h;refine Yl ?_;refine aD (qx (l:=bD Ni E0.length N5 Nj F0.length N6 nx) rfl rfl (qw (h.b 3 rfl) rfl)) rfl ?_;refine aF rfl (qg rfl (AN O0 O0 hR.s hR.i (fun x hx=>⟨hR.rs x hx,by have:=hb.rs x.1 (Va.2 ⟨x,hx,rfl⟩);omega⟩) (fun x hx=>⟨hR.ri x hx,by have:=hb.ri x.1 (Va.2 ⟨x,hx,rfl⟩);omega⟩) h) ?_)
 clear h;rintro _ w ⟨E,F,sa,sc,ia,ic,g,rfl,Qs,Qt,lT,sU,h⟩;rw[<- Qs,<- Qt] at hb ⊢;have XG:E.length=E0.length:=by have:=congrArg List.length Qs;rwa [Vf,Vf] at this
 have XH:F.length=F0.length:=by have:=congrArg List.length Qt;rwa [Vf,Vf] at this
 have hrl:∀x∈E,x.1.L.length<=900:=fun x hx=>by have:=hb.rs x.1 (Va.2 ⟨x,hx,rfl⟩);omega
 have hil:∀x∈F,x.1.2.length<=900:=fun x hx=>by have:=hb.ri x.1 (Va.2 ⟨x,hx,rfl⟩);omega
 have YS:E.length<=900:=by omega
 have YT:F.length<=900:=by omega
 clear Qs Qt hR XG XH Qq Qr;refine aF rfl (qy (vs:=bD sa E.length sc ia F.length ic nx) 6 h rfl rfl rfl rfl rfl rfl rfl fun w h=>?_);replace h:St w0 (aV sa sc E::bI ia ic F::g::aO b5 ⟨0,0,[]⟩ none 0::aN b4 (bD none 0 0 none 0 0 0)::cJ b3 o::aN b2 (bD sa E.length sc ia F.length ic nx)::(M++l)) w:=h;replace h:St w0 (aV sa sc E::bI ia ic F::aO b5 ⟨0,0,[]⟩ none 0::aN b4 (bD none 0 0 none 0 0 0)::cJ b3 o::aN b2 (bD sa E.length sc ia F.length ic nx)::g::(M++l)) w:=h.o [0,1,3,4,5,6,2];refine Yl ?_;refine aD (qx (l:=(bD sa E.length sc ia F.length ic nx)) rfl rfl (qw (h.b 5 rfl) rfl)) rfl ?_;refine Yc ?_;refine aD (qq (v:=.iz o.aA) rfl (h.b 4 rfl) rfl) rfl ?_;refine aF rfl (qg rfl (Gd (F:=F) (ia:=ia) (ic:=ic) (nx:=nx) o.aA O0 h) ?_);clear h;rintro _ w ⟨k,hk,rfl,h⟩;refine Y4 ?_;obtain⟨nm,hnm⟩:∃nm,decide (0<=o.aA∧o.aA<=15)=nm:=⟨_,rfl⟩;refine Y2 ?_;refine qf (Γ:=Unit) (fun _=>[(2,.pz b2),(3,.pz b3),(4,.pz b4),(5,.pz b5),(6,.iz (kI k)),(7,.bool nm)]) (fun _ w=>St w0 (aV sa sc E::bI ia ic F::aO b5 ⟨0,0,[]⟩ none 0::aN b4 (bD none 0 0 none 0 0 0)::cJ b3 o::aN b2 (bD sa E.length sc ia F.length ic nx)::g::(M++l)) w) ?_ ?_
 ·refine Dj ?_;refine aD (qq (v:=.iz o.aA) rfl (h.b 4 rfl) rfl) rfl ?_;refine tX ?_;by_cases h0:0<=o.aA
  ·refine qz (.bool true) (by congr 1;exact decide_eq_true h0) ?_
   refine pV ?_;refine aD (qq (v:=.iz o.aA) rfl (h.b 4 rfl) rfl) rfl ?_;refine Yf ?_;refine EF ?_;refine qz (.bool nm) (by congr 1;rw[<- hnm,Zx,decide_eq_true_eq,decide_eq_true_eq];omega) ?_
   refine Dh ?_;exact qv ⟨(),kX,h⟩
  ·refine qz (.bool false) (by congr 1;exact decide_eq_false h0) ?_
   refine DZ ?_;refine xM ?_;exact qv ⟨(),⟨rfl,rfl,rfl,rfl,rfl,congrArg Value.bool (by rw[<- hnm];symm;rw[decide_eq_false_iff_not];omega),trivial⟩,h⟩
 clear h;rintro _ w e h;refine qf (Γ:=Option Nat) (fun k=>[(2,.pz b2),(3,.pz b3),(4,.pz b4),(5,.pz b5),(6,.iz (kI k))]) (fun k w=>Nh E F o k∧St w0 (aV sa sc E::bI ia ic F::aO b5 ⟨0,0,[]⟩ none 0::aN b4 (bD none 0 0 none 0 0 0)::cJ b3 o::aN b2 (bD sa E.length sc ia F.length ic nx)::g::(M++l)) w) ?_ ?_
 ·refine qK ?_;refine aD (qq (v:=.iz o.kind) rfl (h.b 4 rfl) rfl) rfl ?_;refine K2 ?_;refine qf (Γ:=Unit) (fun _=>[(2,.pz b2),(3,.pz b3),(4,.pz b4),(5,.pz b5),(6,.iz (kI k)),(7,.bool nm),(28,.iz o.kind),(31,.bool (decide (1<=o.kind∧o.kind<=5)))]) (fun _ w=>St w0 (aV sa sc E::bI ia ic F::aO b5 ⟨0,0,[]⟩ none 0::aN b4 (bD none 0 0 none 0 0 0)::cJ b3 o::aN b2 (bD sa E.length sc ia F.length ic nx)::g::(M++l)) w) ?_ ?_
  ·refine GN ?_;by_cases h1:o.kind=1
   ·refine qz (.bool true) KR ?_;refine Y3 ?_;exact qv (j6 rfl (qa ⟨(),⟨rfl,rfl,rfl,rfl,rfl,rfl,rfl,(congrArg Value.bool (decide_eq_true O0).symm),trivial⟩,h⟩))
   refine qz (.bool false) KO ?_;refine xN ?_;by_cases h2:o.kind=2
   ·refine qz (.bool true) KQ ?_;refine Y3 ?_;exact qv (j6 rfl (qa ⟨(),⟨rfl,rfl,rfl,rfl,rfl,rfl,rfl,(congrArg Value.bool (decide_eq_true O0).symm),trivial⟩,h⟩))
   refine qz (.bool false) KN ?_;refine xN ?_;by_cases h3:o.kind=3
   ·refine qz (.bool true) Nt ?_;refine Y3 ?_;exact qv (j6 rfl (qa ⟨(),⟨rfl,rfl,rfl,rfl,rfl,rfl,rfl,(congrArg Value.bool (decide_eq_true O0).symm),trivial⟩,h⟩))
   refine qz (.bool false) Nq ?_;refine xN ?_;by_cases h4:o.kind=4
   ·refine qz (.bool true) (by congr 1;rw[beq_iff_eq];exact h4) ?_
    refine Y3 ?_;exact qv (j6 rfl (qa ⟨(),⟨rfl,rfl,rfl,rfl,rfl,rfl,rfl,(congrArg Value.bool (decide_eq_true O0).symm),trivial⟩,h⟩))
   refine qz (.bool false) (by congr 1;rw[beq_eq_false_iff_ne];exact h4) ?_
   refine Bj ?_;refine je ?_;refine Yi ?_;refine qz (.bool (decide (1<=o.kind∧o.kind<=5))) (by congr 1;rw[Zx,beq_iff_eq,decide_eq_true_eq];omega) ?_
   refine Y3 ?_;exact qv ⟨(),IP,h⟩
  clear h;rintro _ w e h;refine qo (decide (1<=o.kind∧o.kind<=5)) rfl (fun hc=>?_) (fun hc=>?_)
  ·rw[decide_eq_true_eq] at hc;refine vU ?_;cases nm with
   |false=>
    rw[decide_eq_false_iff_not] at hnm;refine qz (.bool true) rfl ?_;refine Yh ?_;have fH:aP.bad o=true:=by unfold aP.bad;rw[if_pos hc,Bool.or_eq_true,decide_eq_true_eq,decide_eq_true_eq];omega
    refine Y1 ?_;refine aD (qx (l:=(bD sa E.length sc ia F.length ic nx)) rfl rfl (qw (h.b 5 rfl) rfl)) rfl ?_;refine aD (qc (r:=(⟨4,0,[]⟩:iS).C none 0) rfl) rfl ?_;refine aF rfl (qy (vs:=(bD sa E.length sc ia F.length ic nx)) 3 h rfl rfl rfl rfl rfl rfl rfl fun w h=>?_);refine aF rfl (qy (vs:=(⟨4,0,[]⟩:iS).C none 0) 2 h rfl rfl rfl rfl rfl rfl rfl fun w h=>?_);replace h:St w0 (aV sa sc E::bI ia ic F::aO b5 ⟨4,0,[]⟩ none 0::aN b4 (bD sa E.length sc ia F.length ic nx)::cJ b3 o::aN b2 (bD sa E.length sc ia F.length ic nx)::g::(M++l)) w:=h;exact qv (qk (AM (l:=(bD sa E.length sc ia F.length ic nx)) (l2:=(⟨4,0,[]⟩:iS).C none 0) rfl rfl (qw (h.b 3 rfl) rfl) rfl rfl (qw (h.b 2 rfl) rfl) (yf (R4 fH) lT sU (h.x [2,3,4,5]))))
   |true=>
    rw[decide_eq_true_eq] at hnm;refine qz (.bool false) rfl ?_;refine Y8 ?_;have fH:aP.bad o=false:=by unfold aP.bad;rw[if_pos hc,Zl,decide_eq_false_iff_not,decide_eq_false_iff_not];omega
    refine Cl ?_;cases k with
    |none=>
     refine qz (.bool true) rfl ?_;refine pV ?_;refine aD (qq (v:=.iz o.kind) rfl (h.b 4 rfl) rfl) rfl ?_;refine Yf ?_;refine Bi ?_;by_cases h1:o.kind=1
     ·refine qz (.bool false) (by congr 1;rw[h1];rfl) ?_
      refine Ye ?_;exact qv (qt rfl (qa ⟨none,pS,.inl ⟨hc.1,hc.2,fH,hk,fun _=>h1⟩,h⟩))
     refine qz (.bool true) Ns ?_;refine Ye ?_;refine Yy ?_;refine aD (qx (l:=(bD sa E.length sc ia F.length ic nx)) rfl rfl (qw (h.b 5 rfl) rfl)) rfl ?_;refine aD (qc (r:=(⟨3,0,[]⟩:iS).C none 0) rfl) rfl ?_;refine aF rfl (qy (vs:=(bD sa E.length sc ia F.length ic nx)) 3 h rfl rfl rfl rfl rfl rfl rfl fun w h=>?_);refine aF rfl (qy (vs:=(⟨3,0,[]⟩:iS).C none 0) 2 h rfl rfl rfl rfl rfl rfl rfl fun w h=>?_);replace h:St w0 (aV sa sc E::bI ia ic F::aO b5 ⟨3,0,[]⟩ none 0::aN b4 (bD sa E.length sc ia F.length ic nx)::cJ b3 o::aN b2 (bD sa E.length sc ia F.length ic nx)::g::(M++l)) w:=h;exact qv (qk (AM (l:=(bD sa E.length sc ia F.length ic nx)) (l2:=(⟨3,0,[]⟩:iS).C none 0) rfl rfl (qw (h.b 3 rfl) rfl) rfl rfl (qw (h.b 2 rfl) rfl) (yf (W0 fH O0 (by show AtR ((E.map (·.1)).map (·.id)) _ _;rw[List.map_map];exact hk)) lT sU (h.x [2,3,4,5]))))
    |some i=>
     refine qz (.bool false) rfl ?_;refine DZ ?_;refine Y9 ?_;exact qv (qt rfl (qa ⟨some i,pS,.inl ⟨hc.1,hc.2,fH,hk,fun h=>by cases h⟩,h⟩))
  ·rw[decide_eq_false_iff_not] at hc;refine qf (Γ:=Unit) (fun _=>[(2,.pz b2),(3,.pz b3),(4,.pz b4),(5,.pz b5),(50,.bool (decide (o.kind=6∨o.kind=7)))]) (fun _ w=>St w0 (aV sa sc E::bI ia ic F::aO b5 ⟨0,0,[]⟩ none 0::aN b4 (bD none 0 0 none 0 0 0)::cJ b3 o::aN b2 (bD sa E.length sc ia F.length ic nx)::g::(M++l)) w) ?_ ?_
   ·refine GN ?_;by_cases h6:o.kind=6
    ·refine qz (.bool true) (by congr 1;rw[beq_iff_eq];exact h6) ?_
     refine Y3 ?_;exact qv (j6 rfl (qa ⟨(),⟨rfl,rfl,rfl,rfl,(congrArg Value.bool (decide_eq_true O0).symm),trivial⟩,h⟩))
    refine qz (.bool false) (by congr 1;rw[beq_eq_false_iff_ne];exact h6) ?_
    refine Bj ?_;refine je ?_;refine Yi ?_;refine qz (.bool (decide (o.kind=6∨o.kind=7))) (by congr 1;rw[Zx,beq_iff_eq,decide_eq_true_eq];omega) ?_
    refine Y3 ?_;exact qv ⟨(),pS,h⟩
   clear h;rintro _ w e h;refine qo (decide (o.kind=6∨o.kind=7)) rfl (fun hd=>?_) (fun hd=>?_)
   ·rw[decide_eq_true_eq] at hd;refine Y1 ?_;refine aD (qx (l:=(bD sa E.length sc ia F.length ic nx)) rfl rfl (qw (h.b 5 rfl) rfl)) rfl ?_;refine Yc ?_;refine aD (qq (v:=.iz o.iter) rfl (h.b 4 rfl) rfl) rfl ?_;refine aF rfl (qg rfl (C4 (E:=E) (sa:=sa) (sc:=sc) (nx:=nx) o.iter O0 (h.f 1)) ?_);clear h hk;rintro _ w ⟨k,hk,rfl,h⟩;replace h:St w0 (aV sa sc E::bI ia ic F::aO b5 ⟨0,0,[]⟩ none 0::aN b4 (bD none 0 0 none 0 0 0)::cJ b3 o::aN b2 (bD sa E.length sc ia F.length ic nx)::g::(M++l)) w:=h.o [1,0];refine Y5 ?_;refine Cl ?_;cases k with
    |none=>
     refine qz (.bool true) rfl ?_;refine Yy ?_;refine aD (qx (l:=(bD sa E.length sc ia F.length ic nx)) rfl rfl (qw (h.b 5 rfl) rfl)) rfl ?_;refine aD (qc (r:=(⟨3,0,[]⟩:iS).C none 0) rfl) rfl ?_;refine aF rfl (qy (vs:=(bD sa E.length sc ia F.length ic nx)) 3 h rfl rfl rfl rfl rfl rfl rfl fun w h=>?_);refine aF rfl (qy (vs:=(⟨3,0,[]⟩:iS).C none 0) 2 h rfl rfl rfl rfl rfl rfl rfl fun w h=>?_);replace h:St w0 (aV sa sc E::bI ia ic F::aO b5 ⟨3,0,[]⟩ none 0::aN b4 (bD sa E.length sc ia F.length ic nx)::cJ b3 o::aN b2 (bD sa E.length sc ia F.length ic nx)::g::(M++l)) w:=h;exact qv (qk (AM (l:=(bD sa E.length sc ia F.length ic nx)) (l2:=(⟨3,0,[]⟩:iS).C none 0) rfl rfl (qw (h.b 3 rfl) rfl) rfl rfl (qw (h.b 2 rfl) rfl) (yf (W1 hd hk) lT sU (h.x [2,3,4,5]))))
    |some i=>
     refine qz (.bool false) rfl ?_;exact qv (qt rfl (qa ⟨some i,pS,.inr ⟨hd,hk,fun h=>by cases h⟩,h⟩))
   ·rw[decide_eq_false_iff_not] at hd;have fH:aP.bad o=true:=by unfold aP.bad;rw[if_neg hc,Ur,Wi,Wi,beq_eq_false_iff_ne,beq_eq_false_iff_ne];omega
    refine Y1 ?_;refine aD (qx (l:=(bD sa E.length sc ia F.length ic nx)) rfl rfl (qw (h.b 5 rfl) rfl)) rfl ?_;refine aD (qc (r:=(⟨4,0,[]⟩:iS).C none 0) rfl) rfl ?_;refine aF rfl (qy (vs:=(bD sa E.length sc ia F.length ic nx)) 3 h rfl rfl rfl rfl rfl rfl rfl fun w h=>?_);refine aF rfl (qy (vs:=(⟨4,0,[]⟩:iS).C none 0) 2 h rfl rfl rfl rfl rfl rfl rfl fun w h=>?_);replace h:St w0 (aV sa sc E::bI ia ic F::aO b5 ⟨4,0,[]⟩ none 0::aN b4 (bD sa E.length sc ia F.length ic nx)::cJ b3 o::aN b2 (bD sa E.length sc ia F.length ic nx)::g::(M++l)) w:=h;exact qv (qk (AM (l:=(bD sa E.length sc ia F.length ic nx)) (l2:=(⟨4,0,[]⟩:iS).C none 0) rfl rfl (qw (h.b 3 rfl) rfl) rfl rfl (qw (h.b 2 rfl) rfl) (yf (R4 fH) lT sU (h.x [2,3,4,5]))))
 clear h hk hnm;rintro k w e ⟨hK,h⟩;refine Y1 ?_;refine aD (qc (r:=(⟨0,0,[]⟩:iS).C none 0) rfl) rfl ?_;refine aF rfl (qn h fun b8 w h=>?_);refine aF rfl (qy (vs:=(⟨0,0,[]⟩:iS).C none 0) 0 h rfl rfl rfl rfl rfl rfl rfl fun w h=>?_);replace h:St w0 (aO b8 ⟨0,0,[]⟩ none 0::aV sa sc E::bI ia ic F::aO b5 ⟨0,0,[]⟩ none 0::aN b4 (bD none 0 0 none 0 0 0)::cJ b3 o::aN b2 (bD sa E.length sc ia F.length ic nx)::g::(M++l)) w:=h;replace h:St w0 (aV sa sc E::bI ia ic F::aO b5 ⟨0,0,[]⟩ none 0::aN b4 (bD none 0 0 none 0 0 0)::cJ b3 o::aN b2 (bD sa E.length sc ia F.length ic nx)::aO b8 ⟨0,0,[]⟩ none 0::g::(M++l)) w:=h.o [1,2,3,4,5,6,0];refine Y2 ?_
 refine qf (Γ:=XD) (fun _=>[(2,.pz b2),(4,.pz b4),(5,.pz b5),(8,.pz b8)])
  (fun d w=>lM ⟨E.map (·.1),F.map (·.1),nx⟩ o ⟨d.E.map (·.1),d.F.map (·.1),d.nx⟩ d.res∧(∀x∈d.E,gG w0 (d.g::l) x.2.1 x.2.2 x.1.L)∧(∀x∈d.F,gG w0 (d.g::l) x.2.1 x.2.2 x.1.2)∧Reads w0 (d.R::d.g::l) 2 d.ra d.res.list.length (aW d.res.list)∧St w0 (aV d.sa d.sc d.E::bI d.ia d.ic d.F::aO b5 ⟨0,0,[]⟩ none 0::aN b4 (bD none 0 0 none 0 0 0)::aN b2 (bD d.sa d.E.length d.sc d.ia d.F.length d.ic d.nx)::aO b8 d.res d.ra d.rc::d.R::d.g::(M++l)) w) ?_ ?_
 ·refine qK ?_;refine aD (qq (v:=.iz o.kind) rfl (h.b 4 rfl) rfl) rfl ?_;refine I1 ?_;by_cases h1:o.kind=1;rotate_left
  ·refine qz (.bool false) KO ?_;refine xN ?_;by_cases h2:o.kind=2;rotate_left
   ·refine qz (.bool false) KN ?_;refine xN ?_;by_cases h3:o.kind=3;rotate_left
    ·refine qz (.bool false) Nq ?_;refine xN ?_;by_cases h4:o.kind=4;rotate_left
     ·refine qz (.bool false) (by congr 1;rw[beq_eq_false_iff_ne];exact h4) ?_
      refine xN ?_;by_cases h5:o.kind=5;rotate_left
      ·refine qz (.bool false) (by congr 1;rw[beq_eq_false_iff_ne];exact h5) ?_
       refine xN ?_;by_cases h6:o.kind=6;rotate_left
       ·refine qz (.bool false) (by congr 1;rw[beq_eq_false_iff_ne];exact h6) ?_
        refine xN ?_;by_cases h7:o.kind=7;rotate_left
        ·refine qz (.bool false) (by congr 1;rw[beq_eq_false_iff_ne];exact h7) ?_
         refine Bj ?_;exfalso;rcases hK with⟨_,_,_⟩|⟨h,_⟩ <;> omega
        refine qz (.bool true) (by congr 1;rw[beq_iff_eq];exact h7) ?_
        refine vD ?_;obtain⟨i,y,rfl,gO,hy,hid⟩:=hK.it (.inr h7);have hlt:i<F.length:=(Uc.1 hy).1;have hy':(F.map (·.1))[i]?=some (o.iter,y.1.2):=by rw[ub hy,<- hid]
        have hcap:=(h.f 1).bT.2.1;have hrd:Reads w0 (aV sa sc E::bI ia ic F::aO b5 ⟨0,0,[]⟩ none 0::aN b4 (bD none 0 0 none 0 0 0)::cJ b3 o::aN b2 (bD sa E.length sc ia F.length ic nx)::aO b8 ⟨0,0,[]⟩ none 0::g::(M++l)) 2 ia F.length (lS F):=Reads.own.cons;have yL:(lS F).take (i*2)=lS (F.take i):=kz kl F i;have Nf:(lS F).drop ((i+1)*2)=lS (F.drop (i+1)):=kh kl F (i+1);have Cf:(F.take i).length=i:=by rw[Ul];omega
        refine jz (some 13) (fun w=>St w0 (aV sa sc E::bI ia ic F::aO b5 ⟨0,0,[]⟩ none 0::aN b4 (bD none 0 0 none 0 0 0)::cJ b3 o::aN b2 (bD sa E.length sc ia F.length ic nx)::aO b8 ⟨0,0,[]⟩ none 0::g::(M++l)) w) O1 O1 h.drew fun w h=>?_;refine EG ?_;refine qj rfl rfl rfl rfl h (fun _ h=>qh rfl (qq (v:=.slice ia F.length ic) rfl (h.b 5 rfl) rfl)) ?_;refine Yt ?_;refine cD rfl rfl rfl rfl h rfl (vh (h:=i) rfl rfl O0) ?_;refine EG ?_;refine qj rfl rfl rfl rfl h (fun _ h=>qh rfl (qq (v:=.slice ia F.length ic) rfl (h.b 5 rfl) rfl)) ?_;refine Yt ?_;refine cD rfl rfl rfl rfl h rfl (q9 (v':=.iz ((i+1:Nat):Int)) (vv rfl rfl) (by show Value.iz (IntKind.i64.wrap ((i:Int)+1))=_;rw[wrap64 O0 O0];congr 1)) ?_
        refine cD rfl rfl rfl rfl h rfl (gu (i:=i+1) rfl rfl O0) ?_;refine Ys ?_;refine qd 0 rfl rfl rfl rfl ?_;refine jq (r:=[]) h rfl rfl rfl fun b6 w h6=>?_;replace h6:St w0 (eW 124 2 (sQ b6) 0 0 []::aV sa sc E::bI ia ic F::aO b5 ⟨0,0,[]⟩ none 0::aN b4 (bD none 0 0 none 0 0 0)::cJ b3 o::aN b2 (bD sa E.length sc ia F.length ic nx)::aO b8 ⟨0,0,[]⟩ none 0::g::(M++l)) w:=St.iH (cur:=[]) h6 rfl rfl (Ug _);clear h;have h:=h6.drop;refine⟨fun _=>h,?_⟩;refine nJ ?_;refine qd 5 rfl rfl rfl rfl ?_;refine ql (ys:=lS (F.take i)) (zs:=lS (F.take i)) (m3:=(F.take i).length) h6 rfl rfl (by rw[<- yL];exact((hrd.head O0).more [_]).at_ h6) (wb _) O0 rfl O0 O0 rfl fun a6 c6 w _ h6=>?_
        clear h;have h:=h6.drop;refine⟨fun _=>h,?_⟩;refine Ys ?_;refine qd 11 rfl rfl rfl rfl ?_;refine ql (ys:=lS (F.drop (i+1))) (zs:=lS (F.take i++F.drop (i+1))) (m3:=(F.take i++F.drop (i+1)).length) h6 rfl rfl (by rw[<- Nf];exact((hrd.tail O0 hcap).more [_]).at_ h6) (wb _) (by rw[Ua,Um]) (by simp[lS]) Np Np rfl fun a7 c7 w _ h6=>?_
        clear h;have h:=h6.drop;refine⟨fun _=>h,?_⟩;refine Di ?_;refine jv 13 rfl rfl rfl ?_;obtain⟨E2,C5⟩:∃E2,F.take i++F.drop (i+1)=E2:=⟨_,rfl⟩;rw[C5] at h6 ⊢;clear h;refine qb 6 h6 rfl (show _=Value.slice a7 E2.length c7 from rfl) rfl rfl rfl rfl fun w h=>?_;replace h:St w0 (bI a7 c7 E2::aV sa sc E::bI ia ic F::aO b5 ⟨0,0,[]⟩ none 0::aN b4 (bD none 0 0 none 0 0 0)::cJ b3 o::aN b2 (bD sa E.length sc a7 E2.length c7 nx)::aO b8 ⟨0,0,[]⟩ none 0::g::(M++l)) w:=h;exact⟨⟨E,E2,sa,sc,a7,c7,nx,⟨0,0,[]⟩,none,0,all [],g⟩,iA,(by rw[<- C5,Vo,List.map_take,List.map_drop];exact(XB (M:=⟨E.map (·.1),F.map (·.1),nx⟩) h7 gO hy')),lT,fun z hz=>sU z (by rw[<- C5] at hz;rcases Vc.1 hz with hz|hz;exact Vl hz;exact Wv hz),Reads.nil,(KH ((h.x [2,5]).o [1,0])).o [1,2,3,4,5,6,0]⟩
       refine qz (.bool true) (by congr 1;rw[beq_iff_eq];exact h6) ?_
       refine vD ?_;obtain⟨i,y,rfl,gO,hy,hid⟩:=hK.it (.inl h6);have hlt:i<F.length:=(Uc.1 hy).1;obtain⟨b0,rfl⟩:=(h.f 1).dF O0;have hy':(F.map (·.1))[i]?=some (o.iter,y.1.2):=by rw[ub hy,<- hid]
       have YU:=hil y (Ue hy);obtain⟨R6,XI⟩:=sU y (Ue hy);obtain⟨cap,hcap⟩:∃cap,(min (max o.N 0) 1000).toNat=cap:=⟨_,rfl⟩;obtain⟨m,hm⟩:∃m,min cap y.1.2.length=m:=⟨_,rfl⟩;have hml:m<=y.1.2.length:=by omega
       obtain⟨t1,t2⟩:=XF y.1.2 cap;rw[hm] at t1 t2;have hD:=XA (M:=⟨E.map (·.1),F.map (·.1),nx⟩) h6 gO hy';rw[hcap,<- t1,<- t2] at hD;refine qf (Γ:=Unit) (fun _=>[(2,.pz b2),(4,.pz b4),(5,.pz b5),(6,.iz (kI (some i))),(8,.pz b8),(12,.iz (m:Int))]) (fun _ w=>St w0 (aV sa sc E::bI (sQ b0) ic F::aO b5 ⟨0,0,[]⟩ none 0::aN b4 (bD none 0 0 none 0 0 0)::cJ b3 o::aN b2 (bD sa E.length sc (sQ b0) F.length ic nx)::aO b8 ⟨0,0,[]⟩ none 0::g::(M++l)) w) ?_ ?_
       ·refine jz none (fun w=>St w0 (aV sa sc E::bI (sQ b0) ic F::aO b5 ⟨0,0,[]⟩ none 0::aN b4 (bD none 0 0 none 0 0 0)::cJ b3 o::aN b2 (bD sa E.length sc (sQ b0) F.length ic nx)::aO b8 ⟨0,0,[]⟩ none 0::g::(M++l)) w) O1 O1 h.drew fun w h=>?_;refine Yj ?_;refine qj rfl rfl rfl rfl h (fun _ h=>qh rfl (qq (v:=.iz o.N) rfl (h.b 4 rfl) rfl)) ?_;refine cD rfl rfl rfl rfl h rfl (wi rfl rfl) ?_;refine Yj ?_;refine qj rfl rfl rfl rfl h (fun _ h=>qh rfl (qq (v:=.slice (sQ b0) F.length ic) rfl (h.b 5 rfl) rfl)) ?_;refine Yt ?_;refine cD rfl rfl rfl rfl h rfl (jj (j:=i) (o':=i*2) rfl rfl rfl hlt O7) ?_;refine Yj ?_;refine qj rfl rfl rfl rfl h (fun _ h=>qh rfl (qr (v:=.slice y.2.1 y.1.2.length y.2.2) rfl (by have:=(h.f 1).bU.elem kl hy 1 _ rfl;simpa using this))) ?_
        refine De ?_;refine cD rfl rfl rfl rfl h rfl (q9 (v':=.iz (m:Int)) (IX rfl rfl rfl) (by congr 1;omega)) ?_
        refine AS ?_;exact qm ⟨(),kX,h⟩
       clear h;rintro _ w e h;refine qK ?_;refine aD (qq (v:=.slice (sQ b0) F.length ic) rfl (h.b 5 rfl) rfl) rfl ?_;refine Y0 ?_;refine aD (jj (j:=i) (o':=i*2) rfl rfl rfl hlt O7) rfl ?_;refine Yc ?_;refine aD (qr (v:=.slice y.2.1 y.1.2.length y.2.2) rfl (by have:=(h.f 1).bU.elem kl hy 1 _ rfl;simpa using this)) rfl ?_
       refine Y0 ?_;refine aD (vh (h:=m) rfl rfl O0) rfl ?_;have rV:(y.1.2.take m).length=m:=by rw[Ul];omega
       have AX:(y.1.2.drop m).length=y.1.2.length-m:=by rw[Um]
       have iX:Reads w0 (g::l) 2 y.2.1 (y.1.2.take m).length (aW (y.1.2.take m)):=by rw[rV,show aW (y.1.2.take m)=(aW y.1.2).take (m*2) from(kz jt y.1.2 m).symm];exact R6.head hml
       have yF:Reads w0 (g::l) 2 (nI y.2.1 (m*2) (Nat.beq y.2.2 m)) (y.1.2.drop m).length (aW (y.1.2.drop m)):=by rw[AX,show aW (y.1.2.drop m)=(aW y.1.2).drop (m*2) from(kh jt y.1.2 m).symm];exact R6.tail hml XI
       obtain⟨L1,XJ⟩:∃L1,y.1.2.take m=L1:=⟨_,rfl⟩;obtain⟨L2,Lq⟩:∃L2,y.1.2.drop m=L2:=⟨_,rfl⟩;rw[XJ] at iX rV hD;rw[Lq] at yF AX hD;have Gg:=kW (c:=y.2.2) O0 (KG iX [_,_,_,_,_,_,_] M) h;rw[rV] at Gg;refine aF rfl (qg rfl Gg ?_);clear Gg h;rintro _ w ⟨ra,rc,rfl,h⟩;refine Yc ?_;refine aF rfl (qb 7 h rfl (show _=Value.slice ra m rc from rfl) rfl rfl rfl rfl fun w h=>?_);have e8:aO b8 ⟨0,0,L1⟩ ra rc=pt b8 (.cells [.iz 0,.iz 0,.slice ra m rc].toArray 28 (0,0)):=by rw[<- rV];rfl
       replace h:St w0 (aB ra rc L1::aV sa sc E::bI (sQ b0) ic F::aO b5 ⟨0,0,[]⟩ none 0::aN b4 (bD none 0 0 none 0 0 0)::cJ b3 o::aN b2 (bD sa E.length sc (sQ b0) F.length ic nx)::aO b8 ⟨0,0,L1⟩ ra rc::g::(M++l)) w:=by rw[e8];exact h
       refine Y2 ?_;refine jz (some 14) (fun w=>St w0 (aB ra rc L1::aV sa sc E::bI (sQ b0) ic F::aO b5 ⟨0,0,[]⟩ none 0::aN b4 (bD none 0 0 none 0 0 0)::cJ b3 o::aN b2 (bD sa E.length sc (sQ b0) F.length ic nx)::aO b8 ⟨0,0,L1⟩ ra rc::g::(M++l)) w) O1 O1 h.drew fun w h=>?_;refine Yj ?_;refine qj rfl rfl rfl rfl h (fun _ h=>qh rfl (qq (v:=.slice (sQ b0) F.length ic) rfl (h.b 6 rfl) rfl)) ?_;refine Yt ?_;refine Yj ?_;refine qj rfl rfl rfl rfl h (fun _ h=>qh rfl (qq (v:=.slice (sQ b0) F.length ic) rfl (h.b 6 rfl) rfl)) ?_;refine Yt ?_;refine cD rfl rfl rfl rfl h rfl (jj (j:=i) (o':=i*2) rfl rfl rfl hlt O7) ?_;refine Yj ?_;refine qj rfl rfl rfl rfl h (fun _ h=>qh rfl (qr (v:=.slice y.2.1 y.1.2.length y.2.2) rfl (by have:=(h.f 2).bU.elem kl hy 1 _ rfl;simpa using this))) ?_
       refine Yt ?_;refine cD rfl rfl rfl rfl h rfl (gu (i:=m) rfl rfl hml) ?_;refine nJ ?_;refine qd 11 rfl rfl rfl rfl ?_;have Gh:=kW (c:=y.2.2-m) O0 (KG yF [_,_,_,_,_,_,_,_] M) h;rw[AX] at Gh;refine qg rfl Gh ?_;clear Gh h;rintro _ w ⟨a2,c2,rfl,hs⟩;have h:=hs.drop;refine⟨fun _=>h,?_⟩;have HG:gG w0 (all [aB a2 c2 L2,g]::l) a2 c2 L2:=gG.new hs;refine cD rfl rfl rfl rfl h rfl (jj (j:=i) (o':=i*2) rfl rfl rfl hlt O7) ?_;refine Di ?_;refine jv 14 rfl rfl rfl ?_;clear h;have Qu:=uv kl F i y ((y.1.1,L2),a2,c2) 1 (.slice a2 (y.1.2.length-m) c2) hy O2 (by rw[<- AX];rfl)
       refine jo (v:=.slice a2 (y.1.2.length-m) c2) (hs.f 3) rfl rfl O0 rfl fun w h=>?_;rw[Qu] at h;obtain⟨F2,N7⟩:∃F2,F.set i ((y.1.1,L2),a2,c2)=F2:=⟨_,rfl⟩;have G9:F.length=F2.length:=by rw[<- N7,Vd]
       rw[N7,G9] at h;replace h:St w0 (bI (sQ b0) ic F2::aB a2 c2 L2::aB ra rc L1::aV sa sc E::aO b5 ⟨0,0,[]⟩ none 0::aN b4 (bD none 0 0 none 0 0 0)::cJ b3 o::aN b2 (bD sa E.length sc (sQ b0) F2.length ic nx)::aO b8 ⟨0,0,L1⟩ ra rc::g::(M++l)) w:=h;have h9:=St.two (((h.x [6])).o [1,8,0,2,3,4,5,6,7]);refine⟨⟨E,F2,sa,sc,(sQ b0),ic,nx,⟨0,0,L1⟩,ra,rc,aB ra rc L1,(all [aB a2 c2 L2,g])⟩,iA,by rw[<- N7,Zm];rw[<- hid] at hD;exact hD,fun z hz=>(lT z hz).grow,fun z hz=>?_,Reads.own,h9.o [3,1,4,5,6,7,2,0]⟩
       rw[<- N7] at hz;rcases Xb hz with hz|rfl
       ·exact(sU z hz).grow
       ·exact HG
      refine qz (.bool true) (by congr 1;rw[beq_iff_eq];exact h5) ?_
      refine vD ?_;obtain⟨fH,gO,hkn⟩:=hK.oB O0 O0;cases k with
      |none=>exact absurd (hkn rfl) O0
      |some i=>
       obtain⟨x,hx,hid⟩:=gO.here;have hlt:i<E.length:=(Uc.1 hx).1;obtain⟨b0,hb0⟩:=h.dF O0;refine GW ?_;refine aD (qq (v:=.slice ia F.length ic) rfl (h.b 5 rfl) rfl) rfl ?_;refine rJ ?_;refine tX ?_;by_cases h8:8<=F.length
       ·refine qz (.bool true) (by congr 1;rw[decide_eq_true_eq];show(8:Int)<=(F.length:Int);omega) ?_
        refine Yy ?_;refine aD (qx (l:=(bD sa E.length sc ia F.length ic nx)) rfl rfl (qw (h.b 5 rfl) rfl)) rfl ?_;refine aD (qc (r:=(⟨5,0,[]⟩:iS).C none 0) rfl) rfl ?_;refine aF rfl (qy (vs:=(bD sa E.length sc ia F.length ic nx)) 3 h rfl rfl rfl rfl rfl rfl rfl fun w h=>?_);refine aF rfl (qy (vs:=(⟨5,0,[]⟩:iS).C none 0) 2 h rfl rfl rfl rfl rfl rfl rfl fun w h=>?_);replace h:St w0 (aV sa sc E::bI ia ic F::aO b5 ⟨5,0,[]⟩ none 0::aN b4 (bD sa E.length sc ia F.length ic nx)::cJ b3 o::aN b2 (bD sa E.length sc ia F.length ic nx)::aO b8 ⟨0,0,[]⟩ none 0::g::(M++l)) w:=h;exact qv (qk (AM (l:=(bD sa E.length sc ia F.length ic nx)) (l2:=(⟨5,0,[]⟩:iS).C none 0) rfl rfl (qw (h.b 3 rfl) rfl) rfl rfl (qw (h.b 2 rfl) rfl) (yf (W4 fH h5 (ub hx) hid (by show 8<=(F.map _).length;rw[Vf];exact h8)) lT sU (h.x [2,3,4,5,6]))))
       refine qz (.bool false) (by congr 1;rw[decide_eq_false_iff_not];show ¬(8:Int)<=(F.length:Int);omega) ?_
       refine Y8 ?_;refine qK ?_;refine aD (qq (v:=.iz nx) rfl (h.b 5 rfl) rfl) rfl ?_;refine tC ?_;refine qz (.iz (nx+1)) Ce ?_;refine Yc ?_;refine aF rfl (qb 5 h rfl (show _=Value.iz (nx+1) from rfl) rfl rfl rfl rfl fun w h=>?_);replace h:St w0 (aV sa sc E::bI ia ic F::aO b5 ⟨0,0,[]⟩ none 0::aN b4 (bD none 0 0 none 0 0 0)::cJ b3 o::aN b2 (bD sa E.length sc ia F.length ic (nx+1))::aO b8 ⟨0,0,[]⟩ none 0::g::(M++l)) w:=h;refine Y2 ?_
       refine qf (Γ:=Option Addr×Nat×aC×IQ) (fun _=>[(2,.pz b2),(4,.pz b4),(5,.pz b5),(8,.pz b8)])
        (fun y w=>y.2.2.2.1=(nx+1,within x.1.L o.F o.To)∧(∀x∈E,gG w0 (y.2.2.1::l) x.2.1 x.2.2 x.1.L)∧(∀x∈F++[y.2.2.2],gG w0 (y.2.2.1::l) x.2.1 x.2.2 x.1.2)∧St w0 (bI y.1 y.2.1 (F++[y.2.2.2])::aV sa sc E::aO b5 ⟨0,0,[]⟩ none 0::aN b4 (bD none 0 0 none 0 0 0)::aN b2 (bD sa E.length sc y.1 (F++[y.2.2.2]).length y.2.1 (nx+1))::aO b8 ⟨0,0,[]⟩ none 0::y.2.2.1::(M++l)) w) ?_ ?_
       ·refine jb [0,1,2,3,4,5,6,7,8,9,10,11,12,13,14,15,16,17,18,19] (some 19) (fun w=>St w0 (aV sa sc E::aO b5 ⟨0,0,[]⟩ none 0::aN b4 (bD none 0 0 none 0 0 0)::cJ b3 o::aN b2 (bD sa E.length sc ia F.length ic (nx+1))::aO b8 ⟨0,0,[]⟩ none 0::g::(M++l)) w) O1 O1 ?_;have hs:=h.drew;clear h;generalize w.drew=w1 at hs ⊢;have h:St w0 (aV sa sc E::aO b5 ⟨0,0,[]⟩ none 0::aN b4 (bD none 0 0 none 0 0 0)::cJ b3 o::aN b2 (bD sa E.length sc ia F.length ic (nx+1))::aO b8 ⟨0,0,[]⟩ none 0::g::(M++l)) w1:=hs.x [1];refine Yj ?_;refine qj rfl rfl rfl rfl h (fun _ h=>qh rfl (qq (v:=.slice ia F.length ic) rfl (h.b 4 rfl) rfl)) ?_;refine Yj ?_;refine qj rfl rfl rfl rfl h (fun _ h=>qh rfl (qq (v:=.iz (nx+1)) rfl (h.b 4 rfl) rfl)) ?_;refine Yj ?_;refine qj rfl rfl rfl rfl h (fun _ h=>qh rfl (qq (v:=.slice sa E.length sc) rfl (h.b 4 rfl) rfl)) ?_;refine Yt ?_;refine cD rfl rfl rfl rfl h rfl (jj (b:=b0) (j:=i) (o':=i*5) (congrArg (fun z=>Value.slice z E.length sc) hb0) rfl rfl hlt O7) ?_;refine Yj ?_;refine qj rfl rfl rfl rfl h (fun _ h=>qh rfl (qr (v:=.slice x.2.1 x.1.L.length x.2.2) rfl (by have:=(hb0▸h.bU).elem gz hx 4 _ rfl;simpa using this))) ?_
        refine Yj ?_;refine qj rfl rfl rfl rfl h (fun _ h=>qh rfl (qq (v:=.iz o.F) rfl (h.b 3 rfl) rfl)) ?_;refine Yj ?_;refine qj rfl rfl rfl rfl h (fun _ h=>qh rfl (qq (v:=.iz o.To) rfl (h.b 3 rfl) rfl)) ?_;refine xO ?_;refine qd 14 rfl rfl rfl rfl ?_;refine qg rfl (sS o.F o.To (by have:=hrl x (Ue hx);omega) (KG (lT x (Ue hx)).1 [_,_,_,_,_,_,_] M) hs) ?_
        clear h hs;rintro _ w ⟨a',c',rfl,hs⟩;have h:St w0 (aV sa sc E::aO b5 ⟨0,0,[]⟩ none 0::aN b4 (bD none 0 0 none 0 0 0)::cJ b3 o::aN b2 (bD sa E.length sc ia F.length ic (nx+1))::aO b8 ⟨0,0,[]⟩ none 0::g::(M++l)) w:=hs.x [0,2];refine⟨fun _=>h,?_⟩;obtain⟨L,hL⟩:∃L,within x.1.L o.F o.To=L:=⟨_,rfl⟩;rw[hL] at hs ⊢;have HG:gG w0 (all [aB a' c' L,g]::l) a' c' L:=gG.new hs;obtain⟨y,hy⟩:∃y:IQ,((nx+1,L),a',c')=y:=⟨_,rfl⟩;refine cD rfl rfl rfl rfl h rfl (qc (r:=Nd ((nx+1,L),a',c')) rfl) ?_;rw[hy];refine nJ ?_;refine qd 16 rfl rfl rfl rfl ?_;refine jq (r:=lS [y]) hs rfl rfl rfl fun b6 w hs=>?_;clear h;have h:St w0 (aV sa sc E::aO b5 ⟨0,0,[]⟩ none 0::aN b4 (bD none 0 0 none 0 0 0)::cJ b3 o::aN b2 (bD sa E.length sc ia F.length ic (nx+1))::aO b8 ⟨0,0,[]⟩ none 0::g::(M++l)) w:=hs.x [0,1,3];refine⟨fun _=>h,?_⟩;refine Ys ?_;refine qd 17 rfl rfl rfl rfl ?_;refine ql (ys:=lS [y]) (zs:=lS (F++[y])) (m3:=(F++[y]).length) (hs.f 3) rfl rfl ⟨rfl,.inr ⟨b6,0,rfl,qw (hs.b 0 rfl) rfl⟩⟩ (wb _) O7 (by simp[lS]) O5 O5 rfl fun a2 c2 w _ hs=>?_
        clear h;replace hs:St w0 (bI a2 c2 (F++[y])::aB a' c' L::aV sa sc E::aO b5 ⟨0,0,[]⟩ none 0::aN b4 (bD none 0 0 none 0 0 0)::cJ b3 o::aN b2 (bD sa E.length sc ia F.length ic (nx+1))::aO b8 ⟨0,0,[]⟩ none 0::g::(M++l)) w:=hs.x [1];have h:St w0 (aV sa sc E::aO b5 ⟨0,0,[]⟩ none 0::aN b4 (bD none 0 0 none 0 0 0)::cJ b3 o::aN b2 (bD sa E.length sc ia F.length ic (nx+1))::aO b8 ⟨0,0,[]⟩ none 0::g::(M++l)) w:=hs.x [0,1];refine⟨fun _=>h,?_⟩;refine Di ?_;refine jv 19 rfl rfl rfl ?_;clear h;refine qb 6 hs rfl (show _=Value.slice a2 (F++[y]).length c2 from rfl) rfl rfl rfl rfl fun w h=>?_;replace h:St w0 (bI a2 c2 (F++[y])::aB a' c' L::aV sa sc E::aO b5 ⟨0,0,[]⟩ none 0::aN b4 (bD none 0 0 none 0 0 0)::cJ b3 o::aN b2 (bD sa E.length sc a2 (F++[y]).length c2 (nx+1))::aO b8 ⟨0,0,[]⟩ none 0::g::(M++l)) w:=h;refine⟨(a2,c2,all [aB a' c' L,g],y),iA,by rw[<- hy],fun z hz=>(lT z hz).grow,fun z hz=>?_,(St.two ((h.x [5]).o [1,7,0,2,3,4,5,6])).o [1,2,3,4,5,6,0]⟩
        rcases Vc.1 hz with hz|hz
        ·exact(sU z hz).grow
        ·rw[Vi] at hz;rw[hz,<- hy];exact HG
       clear h lT sU;rintro⟨a2,c2,g2,y⟩ w e ⟨hy,lT,sU,h⟩;dsimp only at hy lT sU h;refine Dj ?_;refine aD (qq (v:=.iz (nx+1)) rfl (h.b 4 rfl) rfl) rfl ?_;refine Yc ?_;refine aF rfl (qb 5 h rfl (show _=Value.iz (nx+1) from rfl) rfl rfl rfl rfl fun w h=>?_);replace h:St w0 (bI a2 c2 (F++[y])::aV sa sc E::aO b5 ⟨0,0,[]⟩ none 0::aN b4 (bD none 0 0 none 0 0 0)::aN b2 (bD sa E.length sc a2 (F++[y]).length c2 (nx+1))::aO b8 ⟨0,nx+1,[]⟩ none 0::g2::(M++l)) w:=h;have hD:=W5 (M:=⟨E.map (·.1),F.map (·.1),nx⟩) fH h5 (ub hx) hid (by show(F.map _).length<8;rw[Vf];omega)
       exact qv ⟨⟨E,(F++[y]),sa,sc,a2,c2,(nx+1),⟨0,nx+1,[]⟩,none,0,all [],g2⟩,iA,by rw[Vo];show lM _ _ ⟨_,_++[y.1],_⟩ _;rw[hy];exact hD,lT,sU,Reads.nil,(KH (h.o [1,0])).o [1,2,3,4,5,6,0]⟩
     refine qz (.bool true) (by congr 1;rw[beq_iff_eq];exact h4) ?_
     refine vD ?_;obtain⟨fH,gO,hkn⟩:=hK.oB O0 O0;cases k with
     |none=>exact absurd (hkn rfl) O0
     |some i=>
      obtain⟨x,hx,hid⟩:=gO.here;have hlt:i<E.length:=(Uc.1 hx).1;have hcap:=h.bT.2.1;have hrd:Reads w0 (aV sa sc E::bI ia ic F::aO b5 ⟨0,0,[]⟩ none 0::aN b4 (bD none 0 0 none 0 0 0)::cJ b3 o::aN b2 (bD sa E.length sc ia F.length ic nx)::aO b8 ⟨0,0,[]⟩ none 0::g::(M++l)) 5 sa E.length (gZ E):=Reads.own;have yL:(gZ E).take (i*5)=gZ (E.take i):=kz gz E i;have Nf:(gZ E).drop ((i+1)*5)=gZ (E.drop (i+1)):=kh gz E (i+1);have Cf:(E.take i).length=i:=by rw[Ul];omega
      refine jz (some 13) (fun w=>St w0 (aV sa sc E::bI ia ic F::aO b5 ⟨0,0,[]⟩ none 0::aN b4 (bD none 0 0 none 0 0 0)::cJ b3 o::aN b2 (bD sa E.length sc ia F.length ic nx)::aO b8 ⟨0,0,[]⟩ none 0::g::(M++l)) w) O1 O1 h.drew fun w h=>?_;refine EG ?_;refine qj rfl rfl rfl rfl h (fun _ h=>qh rfl (qq (v:=.slice sa E.length sc) rfl (h.b 5 rfl) rfl)) ?_;refine Yt ?_;refine cD rfl rfl rfl rfl h rfl (vh (h:=i) rfl rfl O0) ?_;refine EG ?_;refine qj rfl rfl rfl rfl h (fun _ h=>qh rfl (qq (v:=.slice sa E.length sc) rfl (h.b 5 rfl) rfl)) ?_;refine Yt ?_;refine cD rfl rfl rfl rfl h rfl (q9 (v':=.iz ((i+1:Nat):Int)) (vv rfl rfl) (by show Value.iz (IntKind.i64.wrap ((i:Int)+1))=_;rw[wrap64 O0 O0];congr 1)) ?_
      refine cD rfl rfl rfl rfl h rfl (gu (i:=i+1) rfl rfl O0) ?_;refine Ys ?_;refine qd 0 rfl rfl rfl rfl ?_;refine jq (r:=[]) h rfl rfl rfl fun b6 w h6=>?_;replace h6:St w0 (eW 119 5 (sQ b6) 0 0 []::aV sa sc E::bI ia ic F::aO b5 ⟨0,0,[]⟩ none 0::aN b4 (bD none 0 0 none 0 0 0)::cJ b3 o::aN b2 (bD sa E.length sc ia F.length ic nx)::aO b8 ⟨0,0,[]⟩ none 0::g::(M++l)) w:=St.iH (cur:=[]) h6 rfl rfl (Ug _);clear h;have h:=h6.drop;refine⟨fun _=>h,?_⟩;refine nJ ?_;refine qd 5 rfl rfl rfl rfl ?_;refine ql (ys:=gZ (E.take i)) (zs:=gZ (E.take i)) (m3:=(E.take i).length) h6 rfl rfl (by rw[<- yL];exact((hrd.head O0).more [_]).at_ h6) (zw _) O0 rfl O0 O0 rfl fun a6 c6 w _ h6=>?_
      clear h;have h:=h6.drop;refine⟨fun _=>h,?_⟩;refine Ys ?_;refine qd 11 rfl rfl rfl rfl ?_;refine ql (ys:=gZ (E.drop (i+1))) (zs:=gZ (E.take i++E.drop (i+1))) (m3:=(E.take i++E.drop (i+1)).length) h6 rfl rfl (by rw[<- Nf];exact((hrd.tail O0 hcap).more [_]).at_ h6) (zw _) (by rw[Ua,Um]) (by simp[gZ]) Np Np rfl fun a7 c7 w _ h6=>?_
      clear h;have h:=h6.drop;refine⟨fun _=>h,?_⟩;refine Di ?_;refine jv 13 rfl rfl rfl ?_;obtain⟨E2,C5⟩:∃E2,E.take i++E.drop (i+1)=E2:=⟨_,rfl⟩;rw[C5] at h6 ⊢;clear h;refine qb 6 h6 rfl (show _=Value.slice a7 E2.length c7 from rfl) rfl rfl rfl rfl fun w h=>?_;replace h:St w0 (aV a7 c7 E2::aV sa sc E::bI ia ic F::aO b5 ⟨0,0,[]⟩ none 0::aN b4 (bD none 0 0 none 0 0 0)::cJ b3 o::aN b2 (bD a7 E2.length c7 ia F.length ic nx)::aO b8 ⟨0,0,[]⟩ none 0::g::(M++l)) w:=h;exact⟨⟨E2,F,a7,c7,ia,ic,nx,⟨0,0,[]⟩,none,0,all [],g⟩,iA,(by rw[<- C5,Vo,List.map_take,List.map_drop];exact(KC (M:=⟨E.map (·.1),F.map (·.1),nx⟩) fH h4 (ub hx) hid)),fun z hz=>lT z (by rw[<- C5] at hz;rcases Vc.1 hz with hz|hz;exact Vl hz;exact Wv hz),sU,Reads.nil,(KH (h.x [1,5])).o [1,2,3,4,5,6,0]⟩
    refine qz (.bool true) Nt ?_;refine vD ?_;obtain⟨fH,gO,hkn⟩:=hK.oB O0 O0;cases k with
    |none=>exact absurd (hkn rfl) O0
    |some i=>
     obtain⟨x,hx,hid⟩:=gO.here;have hlt:i<E.length:=(Uc.1 hx).1;obtain⟨b0,hb0⟩:=h.dF O0;refine GW ?_;refine aD (qq (v:=.slice sa E.length sc) rfl (h.b 5 rfl) rfl) rfl ?_;refine Y0 ?_;refine aD (jj (b:=b0) (j:=i) (o':=i*5) (congrArg (fun z=>Value.slice z E.length sc) hb0) rfl rfl hlt O7) rfl ?_;refine Yc ?_;refine aD (qr (v:=.bool x.1.cl) rfl (by have:=(hb0▸h.bU).elem gz hx 1 _ rfl;simpa using this)) rfl ?_
     cases hc:x.1.cl with
     |true=>
      refine Yy ?_;refine aD (qx (l:=(bD sa E.length sc ia F.length ic nx)) rfl rfl (qw (h.b 5 rfl) rfl)) rfl ?_;refine aD (qc (r:=(⟨2,0,[]⟩:iS).C none 0) rfl) rfl ?_;refine aF rfl (qy (vs:=(bD sa E.length sc ia F.length ic nx)) 3 h rfl rfl rfl rfl rfl rfl rfl fun w h=>?_);refine aF rfl (qy (vs:=(⟨2,0,[]⟩:iS).C none 0) 2 h rfl rfl rfl rfl rfl rfl rfl fun w h=>?_);replace h:St w0 (aV sa sc E::bI ia ic F::aO b5 ⟨2,0,[]⟩ none 0::aN b4 (bD sa E.length sc ia F.length ic nx)::cJ b3 o::aN b2 (bD sa E.length sc ia F.length ic nx)::aO b8 ⟨0,0,[]⟩ none 0::g::(M++l)) w:=h;exact qv (qk (AM (l:=(bD sa E.length sc ia F.length ic nx)) (l2:=(⟨2,0,[]⟩:iS).C none 0) rfl rfl (qw (h.b 3 rfl) rfl) rfl rfl (qw (h.b 2 rfl) rfl) (yf (ny fH (.inr h3) (ub hx) hid hc) lT sU (h.x [2,3,4,5,6]))))
     |false=>
      subst hb0;refine Y8 ?_;refine Dj ?_;refine aD (qq (v:=.slice (sQ b0) E.length sc) rfl (h.b 5 rfl) rfl) rfl ?_;refine Y0 ?_;refine aD (jj (j:=i) (o':=i*5) rfl rfl rfl hlt O7) rfl ?_;refine Yc ?_;have Qu:=uv gz E i x ({ x.1 with cl:=true },x.2) 1 (.bool true) hx O2 rfl
      refine aF rfl (jo (v:=.bool true) h rfl rfl O0 rfl fun w h=>?_);rw[Qu] at h;obtain⟨E2,C5⟩:∃E2,E.set i ({ x.1 with cl:=true },x.2)=E2:=⟨_,rfl⟩
      have AX:E.length=E2.length:=by rw[<- C5,Vd]
      rw[C5,AX] at h;have hD:=W8 (M:=⟨E.map (·.1),F.map (·.1),nx⟩) fH h3 (ub hx) hid hc;refine qv ⟨⟨E2,F,(sQ b0),sc,ia,ic,nx,⟨0,0,[]⟩,none,0,all [],g⟩,iA,by rw[<- C5,Zm];exact hD,fun z hz=>?_,sU,Reads.nil,KH (h.x [4]) |>.o [1,2,3,4,5,6,0]⟩
      rw[<- C5] at hz;rcases Xb hz with hz|rfl
      ·exact lT z hz
      ·exact lT x (Ue hx)
   refine qz (.bool true) KQ ?_;refine vD ?_;obtain⟨fH,gO,hkn⟩:=hK.oB O0 O0;cases k with
   |none=>exact absurd (hkn rfl) O0
   |some i=>
    obtain⟨x,hx,hid⟩:=gO.here;have hlt:i<E.length:=(Uc.1 hx).1;obtain⟨b0,rfl⟩:=h.dF O0;refine jz (some 12) (fun w=>St w0 (aV (sQ b0) sc E::bI ia ic F::aO b5 ⟨0,0,[]⟩ none 0::aN b4 (bD none 0 0 none 0 0 0)::cJ b3 o::aN b2 (bD (sQ b0) E.length sc ia F.length ic nx)::aO b8 ⟨0,0,[]⟩ none 0::g::(M++l)) w) O1 O1 h.drew fun w h=>?_;refine Yj ?_;refine qj rfl rfl rfl rfl h (fun _ h=>qh rfl (qq (v:=.slice (sQ b0) E.length sc) rfl (h.b 5 rfl) rfl)) ?_;refine Yt ?_;refine cD rfl rfl rfl rfl h rfl (jj (j:=i) (o':=i*5) rfl rfl rfl hlt O7) ?_;refine Yj ?_;refine qj rfl rfl rfl rfl h (fun _ h=>qh rfl (qr (v:=.slice x.2.1 x.1.L.length x.2.2) rfl (by have:=h.bU.elem gz hx 4 _ rfl;simpa using this))) ?_
    refine Yj ?_;refine qj rfl rfl rfl rfl h (fun _ h=>qh rfl (qq (v:=.iz o.F) rfl (h.b 4 rfl) rfl)) ?_;refine Yj ?_;refine qj rfl rfl rfl rfl h (fun _ h=>qh rfl (qq (v:=.iz o.To) rfl (h.b 4 rfl) rfl)) ?_;refine Ys ?_;refine qd 10 rfl rfl rfl rfl ?_;refine qg rfl (sS o.F o.To (by have:=hrl x (Ue hx);omega) (KG (lT x (Ue hx)).1 [_,_,_,_,_,_,_] M) h) ?_
    clear h;rintro _ w ⟨ra,rc,rfl,hs⟩;have h:=hs.drop;refine⟨fun _=>h,?_⟩;refine Di ?_;refine jv 12 rfl rfl rfl ?_;obtain⟨L,hL⟩:∃L,within x.1.L o.F o.To=L:=⟨_,rfl⟩;have hD:=W3 (M:=⟨E.map (·.1),F.map (·.1),nx⟩) fH h2 (ub hx) hid;rw[hL] at hs hD ⊢;clear h;refine qb 7 hs rfl (show _=Value.slice ra L.length rc from rfl) rfl rfl rfl rfl fun w h=>?_;replace h:St w0 (aB ra rc L::aV (sQ b0) sc E::bI ia ic F::aO b5 ⟨0,0,[]⟩ none 0::aN b4 (bD none 0 0 none 0 0 0)::cJ b3 o::aN b2 (bD (sQ b0) E.length sc ia F.length ic nx)::aO b8 ⟨0,0,L⟩ ra rc::g::(M++l)) w:=h;exact⟨⟨E,F,(sQ b0),sc,ia,ic,nx,⟨0,0,L⟩,ra,rc,aB ra rc L,g⟩,iA,hD,lT,sU,Reads.own,(h.x [5]).o [1,2,3,4,5,6,0]⟩
  refine qz (.bool true) KR ?_;refine vD ?_;obtain⟨fH,gO,_⟩:=hK.oB O0 O0
  have xP:∀i x,k=some i->E[i]?=some x->x.1.id=o.aA:=fun i x hi hx=>by
   subst hi;obtain⟨z,hz,hid⟩:=gO.here;rw[hx] at hz;rw[Uk hz];exact hid
  refine qf (Γ:=Unit) (fun _=>[(2,.pz b2),(3,.pz b3),(4,.pz b4),(5,.pz b5),(6,.iz (kI k)),(8,.pz b8)]) (fun _ w=>(∀i x,k=some i->E[i]?=some x->x.1.cl=false)∧St w0 (aV sa sc E::bI ia ic F::aO b5 ⟨0,0,[]⟩ none 0::aN b4 (bD none 0 0 none 0 0 0)::cJ b3 o::aN b2 (bD sa E.length sc ia F.length ic nx)::aO b8 ⟨0,0,[]⟩ none 0::g::(M++l)) w) ?_ ?_
  ·refine Yb ?_;refine tX ?_;cases k with
   |none=>
    refine qz (.bool false) rfl ?_;refine Gm ?_;refine Y9 ?_;exact qv (qt rfl (qa ⟨(),kX,fun i x h=>(by cases h),h⟩))
   |some i=>
    obtain⟨x,hx,hid⟩:=gO.here;have hlt:i<E.length:=(Uc.1 hx).1;obtain⟨b0,hb0⟩:=h.dF O0;refine qz (.bool true) rfl ?_;refine pV ?_;refine aD (qq (v:=.slice sa E.length sc) rfl (h.b 5 rfl) rfl) rfl ?_;refine xW ?_;refine aD (jj (b:=b0) (j:=i) (o':=i*5) (congrArg (fun z=>Value.slice z E.length sc) hb0) rfl rfl hlt O7) rfl ?_;refine Dk ?_;refine aD (qr (v:=.bool x.1.cl) rfl (by have:=(hb0▸h.bU).elem gz hx 1 _ rfl;simpa using this)) rfl ?_
    refine Ye ?_;cases hc:x.1.cl with
    |true=>
     refine Yy ?_;refine aD (qx (l:=(bD sa E.length sc ia F.length ic nx)) rfl rfl (qw (h.b 5 rfl) rfl)) rfl ?_;refine aD (qc (r:=(⟨2,0,[]⟩:iS).C none 0) rfl) rfl ?_;refine aF rfl (qy (vs:=(bD sa E.length sc ia F.length ic nx)) 3 h rfl rfl rfl rfl rfl rfl rfl fun w h=>?_);refine aF rfl (qy (vs:=(⟨2,0,[]⟩:iS).C none 0) 2 h rfl rfl rfl rfl rfl rfl rfl fun w h=>?_);replace h:St w0 (aV sa sc E::bI ia ic F::aO b5 ⟨2,0,[]⟩ none 0::aN b4 (bD sa E.length sc ia F.length ic nx)::cJ b3 o::aN b2 (bD sa E.length sc ia F.length ic nx)::aO b8 ⟨0,0,[]⟩ none 0::g::(M++l)) w:=h;exact qv (qk (AM (l:=(bD sa E.length sc ia F.length ic nx)) (l2:=(⟨2,0,[]⟩:iS).C none 0) rfl rfl (qw (h.b 3 rfl) rfl) rfl rfl (qw (h.b 2 rfl) rfl) (yf (ny fH (.inl h1) (ub hx) hid hc) lT sU (h.x [2,3,4,5,6]))))
    |false=>
     exact qv (qt rfl (qa ⟨(),kX,fun j z hj hz=>(by rw[<- Uk hj,hx] at hz;rw[<- Uk hz];exact hc),h⟩))
  clear h;rintro _ w e ⟨Nk,h⟩;refine qf (Γ:=Unit) (fun _=>[(2,.pz b2),(3,.pz b3),(4,.pz b4),(5,.pz b5),(8,.pz b8)]) (fun _ w=>(∀i x,k=some i->E[i]?=some x->¬(x.1.any=true∧o.T<=x.1.last))∧St w0 (aV sa sc E::bI ia ic F::aO b5 ⟨0,0,[]⟩ none 0::aN b4 (bD none 0 0 none 0 0 0)::cJ b3 o::aN b2 (bD sa E.length sc ia F.length ic nx)::aO b8 ⟨0,0,[]⟩ none 0::g::(M++l)) w) ?_ ?_
  ·refine qi (jz none (fun w=>St w0 (aV sa sc E::bI ia ic F::aO b5 ⟨0,0,[]⟩ none 0::aN b4 (bD none 0 0 none 0 0 0)::cJ b3 o::aN b2 (bD sa E.length sc ia F.length ic nx)::aO b8 ⟨0,0,[]⟩ none 0::g::(M++l)) w) O1 O1 h.drew fun w h=>?_);refine Yt ?_;cases k with
   |none=>
    refine cD rfl rfl rfl rfl h rfl (q9 (v':=.bool false) (ka rfl rfl) rfl) ?_;refine Yx ?_;refine qu rfl rfl rfl rfl (fun _=>h) (fun _=>qp rfl rfl) ?_;refine qu rfl rfl rfl rfl (fun _=>h) (fun _=>qp rfl rfl) ?_;refine qu rfl rfl rfl rfl (fun _=>h) (fun _=>qp rfl rfl) ?_;refine qu rfl rfl rfl rfl (fun _=>h) (fun _=>qp rfl rfl) ?_;refine qu rfl rfl rfl rfl (fun _=>h) (fun _=>qp rfl rfl) ?_;refine qu rfl rfl rfl rfl (fun _=>h) (fun _=>qp rfl rfl) ?_;refine cD rfl rfl rfl rfl h rfl (jc rfl rfl rfl) ?_;refine Yx ?_;refine qu rfl rfl rfl rfl (fun _=>h) (fun _=>qp rfl rfl) ?_;refine qu rfl rfl rfl rfl (fun _=>h) (fun _=>qp rfl rfl) ?_;refine qu rfl rfl rfl rfl (fun _=>h) (fun _=>qp rfl rfl) ?_;refine qu rfl rfl rfl rfl (fun _=>h) (fun _=>qp rfl rfl) ?_;refine qu rfl rfl rfl rfl (fun _=>h) (fun _=>qp rfl rfl) ?_;refine qu rfl rfl rfl rfl (fun _=>h) (fun _=>qp rfl rfl) ?_;refine qu rfl rfl rfl rfl (fun _=>h) (fun _=>qp rfl rfl) ?_;refine qu rfl rfl rfl rfl (fun _=>h) (fun _=>qp rfl rfl) ?_;refine qu rfl rfl rfl rfl (fun _=>h) (fun _=>qp rfl rfl) ?_;refine cD rfl rfl rfl rfl h rfl (jc rfl rfl rfl) ?_;exact qm (qt rfl (qa ⟨(),pS,fun i x h=>(by cases h),h⟩))
   |some i=>
    obtain⟨x,hx,hid⟩:=gO.here;have hlt:i<E.length:=(Uc.1 hx).1;obtain⟨b0,hb0⟩:=h.dF O0;refine cD rfl rfl rfl rfl h rfl (q9 (v':=.bool true) (ka rfl rfl) (congrArg Value.bool (by rw[decide_eq_true_eq];show(0:Int)<=(i:Int);omega))) ?_
    refine Yx ?_;refine qu rfl rfl rfl rfl (fun _=>h) (fun _=>qe rfl rfl (vj rfl)) ?_;refine qj rfl rfl rfl rfl h (fun _ h=>qe rfl rfl (qq (v:=.slice sa E.length sc) rfl (h.b 5 rfl) rfl)) ?_;refine qu rfl rfl rfl rfl (fun _=>h) (fun _=>qe rfl rfl (v5 rfl)) ?_;refine qu rfl rfl rfl rfl (fun _=>h) (fun _=>qe rfl rfl (jj (b:=b0) (j:=i) (o':=i*5) (congrArg (fun z=>Value.slice z E.length sc) hb0) rfl rfl hlt O7)) ?_;refine qu rfl rfl rfl rfl (fun _=>h) (fun _=>qe rfl rfl (vj rfl)) ?_;refine qj rfl rfl rfl rfl h (fun _ h=>qe rfl rfl (qr (v:=.bool x.1.any) rfl (by have:=(hb0▸h.bU).elem gz hx 2 _ rfl;simpa using this))) ?_
    refine cD rfl rfl rfl rfl h rfl (jp rfl rfl rfl) ?_;cases ha:x.1.any with
    |false=>
     refine Yx ?_;refine qu rfl rfl rfl rfl (fun _=>h) (fun _=>qp rfl rfl) ?_;refine qu rfl rfl rfl rfl (fun _=>h) (fun _=>qp rfl rfl) ?_;refine qu rfl rfl rfl rfl (fun _=>h) (fun _=>qp rfl rfl) ?_;refine qu rfl rfl rfl rfl (fun _=>h) (fun _=>qp rfl rfl) ?_;refine qu rfl rfl rfl rfl (fun _=>h) (fun _=>qp rfl rfl) ?_;refine qu rfl rfl rfl rfl (fun _=>h) (fun _=>qp rfl rfl) ?_;refine qu rfl rfl rfl rfl (fun _=>h) (fun _=>qp rfl rfl) ?_;refine qu rfl rfl rfl rfl (fun _=>h) (fun _=>qp rfl rfl) ?_;refine qu rfl rfl rfl rfl (fun _=>h) (fun _=>qp rfl rfl) ?_;refine cD rfl rfl rfl rfl h rfl (jc rfl rfl rfl) ?_;exact qm (qt rfl (qa ⟨(),pS,fun j z hj hz=>(by rw[<- Uk hj,hx] at hz;rw[<- Uk hz,ha];exact fun hh=>by cases hh.1),h⟩))
    |true=>
     refine Yx ?_;refine qu rfl rfl rfl rfl (fun _=>h) (fun _=>qe rfl rfl (vj rfl)) ?_;refine qj rfl rfl rfl rfl h (fun _ h=>qe rfl rfl (qq (v:=.iz o.T) rfl (h.b 4 rfl) rfl)) ?_;refine qu rfl rfl rfl rfl (fun _=>h) (fun _=>qe rfl rfl (vj rfl)) ?_;refine qj rfl rfl rfl rfl h (fun _ h=>qe rfl rfl (qq (v:=.slice sa E.length sc) rfl (h.b 5 rfl) rfl)) ?_;refine qu rfl rfl rfl rfl (fun _=>h) (fun _=>qe rfl rfl (v5 rfl)) ?_;refine qu rfl rfl rfl rfl (fun _=>h) (fun _=>qe rfl rfl (jj (b:=b0) (j:=i) (o':=i*5) (congrArg (fun z=>Value.slice z E.length sc) hb0) rfl rfl hlt O7)) ?_;refine qu rfl rfl rfl rfl (fun _=>h) (fun _=>qe rfl rfl (vj rfl)) ?_;refine qj rfl rfl rfl rfl h (fun _ h=>qe rfl rfl (qr (v:=.iz x.1.last) rfl (by have:=(hb0▸h.bU).elem gz hx 3 _ rfl;simpa using this))) ?_
     by_cases hT:o.T<=x.1.last
     ·refine qu rfl rfl rfl rfl (fun _=>h) (fun _=>qe rfl rfl (q9 (v':=.bool true) (wt rfl rfl) (congrArg Value.bool (decide_eq_true hT)))) ?_;refine cD rfl rfl rfl rfl h rfl (jp rfl rfl rfl) ?_;refine qm (j6 rfl ?_);refine Y1 ?_;refine aD (qx (l:=(bD sa E.length sc ia F.length ic nx)) rfl rfl (qw (h.b 5 rfl) rfl)) rfl ?_;refine aD (qc (r:=(⟨1,0,[]⟩:iS).C none 0) rfl) rfl ?_;refine aF rfl (qy (vs:=(bD sa E.length sc ia F.length ic nx)) 3 h rfl rfl rfl rfl rfl rfl rfl fun w h=>?_);refine aF rfl (qy (vs:=(⟨1,0,[]⟩:iS).C none 0) 2 h rfl rfl rfl rfl rfl rfl rfl fun w h=>?_);replace h:St w0 (aV sa sc E::bI ia ic F::aO b5 ⟨1,0,[]⟩ none 0::aN b4 (bD sa E.length sc ia F.length ic nx)::cJ b3 o::aN b2 (bD sa E.length sc ia F.length ic nx)::aO b8 ⟨0,0,[]⟩ none 0::g::(M++l)) w:=h;exact qv (qk (AM (l:=(bD sa E.length sc ia F.length ic nx)) (l2:=(⟨1,0,[]⟩:iS).C none 0) rfl rfl (qw (h.b 3 rfl) rfl) rfl rfl (qw (h.b 2 rfl) rfl) (yf (W2 fH h1 (ub hx) hid (Nk i x rfl hx) hT) lT sU (h.x [2,3,4,5,6]))))
     ·refine qu rfl rfl rfl rfl (fun _=>h) (fun _=>qe rfl rfl (q9 (v':=.bool false) (wt rfl rfl) (congrArg Value.bool (decide_eq_false hT)))) ?_;refine cD rfl rfl rfl rfl h rfl (jp rfl rfl rfl) ?_;exact qm (qt rfl (qa ⟨(),pS,fun j z hj hz=>(by rw[<- Uk hj,hx] at hz;rw[<- Uk hz];exact fun hh=>hT hh.2),h⟩))
  clear h;rintro _ w e ⟨XK,h⟩;refine Y1 ?_;refine aD (qx (l:=(bD sa E.length sc ia F.length ic nx)) rfl rfl (qw (h.b 5 rfl) rfl)) rfl ?_;refine Yc ?_;refine aD (qq (v:=.iz o.aA) rfl (h.b 4 rfl) rfl) rfl ?_;refine aF rfl (qg rfl (B9 (F:=F) (ia:=ia) (ic:=ic) (nx:=nx) o.aA O0 h) ?_);clear h;rintro _ w ⟨E2,Qp,iV,j,rfl,h,hlo,MC⟩
  have Nl:∀z∈(E.map (·.1)).take j,z.id<o.aA:=fun z hz=>by
   rw[<- List.map_take] at hz;obtain⟨y,hy,rfl⟩:=Va.1 hz;exact hlo y hy
  have KI:∃z,E2[j]?=some z∧gG w0 (g::l) z.2.1 z.2.2 z.1.L∧z.1.L.length<=900∧E2.length<=901∧(∀x∈E2,gG w0 (g::l) x.2.1 x.2.2 x.1.L)∧
    lM ⟨E.map (·.1),F.map (·.1),nx⟩ o ⟨(E2.map (·.1)).set j { z.1 with any:=true,last:=o.T,L:=z.1.L++[⟨o.T,(o.V:Int)⟩] },F.map (·.1),nx⟩ ⟨0,0,[]⟩:=by
   rcases MC with⟨rfl,x,hx,hid⟩|⟨hj,rfl,hgt⟩
   ·have R7:k=some j:=by
     cases k with
     |none=>exact absurd hid (gO x.1.id (Va.2 ⟨x,Ue hx,rfl⟩))
     |some i=>
      obtain⟨y,hy,XL⟩:=gO.here;rcases Nat.lt_trichotomy i j with h3|h3|h3
      ·have h4:=hlo y (Ue (by rw[List.getElem?_take_of_lt h3];exact hy))
       omega
      ·rw[h3]
      ·exact absurd hid (gO.2 j _ h3 (by rw[Vb,hx];rfl))
    exact⟨x,hx,lT x (Ue hx),hrl x (Ue hx),cI,lT,KB fH h1 (ub hx) hid (Nk j x R7 hx) (XK j x R7 hx)⟩
   ·have hjl:(E.take j).length=j:=by rw[Ul];omega
    have hz:(E.take j++newS o.aA::E.drop j)[j]?=some (newS o.aA):=by
     rw[Wt O0,hjl,Xv];rfl
    have NS:gG w0 (g::l) (newS o.aA).2.1 (newS o.aA).2.2 (newS o.aA).1.L:=⟨Reads.nil,Ug _⟩;refine⟨_,hz,NS,Uf _,by rw[Ua,Uj,Um,hjl];omega,fun x hx=>?_,?_⟩
    ·rcases Vc.1 hx with hx|hx
     ·exact lT x (Vl hx)
     ·rcases Up.1 hx with rfl|hx
      ·exact NS
      ·exact lT x (Wv hx)
    ·have hD:=KE (M:=⟨E.map (·.1),F.map (·.1),nx⟩) (i:=j) fH h1 Nl (fun z hz=>by
      have Fv:(E.map (·.1))[j]?=some z:=hz;rw[Vb] at Fv;cases hy:E[j]? with
      |none=>rw[hy] at Fv;cases Fv
      |some y=>rw[hy] at Fv;rw[<- Uk Fv];exact hgt y hy)
     have e:((E.take j++newS o.aA::E.drop j).map (·.1)).set j { (newS o.aA).1 with any:=true,last:=o.T,L:=(newS o.aA).1.L++[⟨o.T,(o.V:Int)⟩] }=(E.map (·.1)).take j++⟨o.aA,false,true,o.T,[⟨o.T,(o.V:Int)⟩]⟩::(E.map (·.1)).drop j:=by
      rw[Vo,Uy,List.map_take,List.map_drop];exact XE (by rw[Ul,Vf];omega)
     rw[e];exact hD
  obtain⟨z,hz,R8,hzl,XM,Qw,hD⟩:=KI;have KJ:j<E2.length:=(Uc.1 hz).1;obtain⟨b0,rfl⟩:=h.dF O0;clear MC hlo Nl;refine Ct ?_;refine aF rfl (qn h fun b9 w h=>?_);refine aF rfl (qy (vs:=(bD (sQ b0) E2.length iV ia F.length ic nx)) 0 h rfl rfl rfl rfl rfl rfl rfl fun w h=>?_);replace h:St w0 (aN b9 (bD (sQ b0) E2.length iV ia F.length ic nx)::aV (sQ b0) iV E2::bI ia ic F::aO b5 ⟨0,0,[]⟩ none 0::aN b4 (bD none 0 0 none 0 0 0)::cJ b3 o::aN b2 (bD sa E.length sc ia F.length ic nx)::aO b8 ⟨0,0,[]⟩ none 0::g::(M++l)) w:=h;refine Y5 ?_;refine Y1 ?_;refine aD (qx (l:=(bD (sQ b0) E2.length iV ia F.length ic nx)) rfl rfl (qw (h.b 0 rfl) rfl)) rfl ?_;refine aF rfl (qy (vs:=(bD (sQ b0) E2.length iV ia F.length ic nx)) 6 h rfl rfl rfl rfl rfl rfl rfl fun w h=>?_);replace h:St w0 (aN b9 (bD (sQ b0) E2.length iV ia F.length ic nx)::aV (sQ b0) iV E2::bI ia ic F::aO b5 ⟨0,0,[]⟩ none 0::aN b4 (bD none 0 0 none 0 0 0)::cJ b3 o::aN b2 (bD (sQ b0) E2.length iV ia F.length ic nx)::aO b8 ⟨0,0,[]⟩ none 0::g::(M++l)) w:=h;replace h:St w0 (aV (sQ b0) iV E2::bI ia ic F::aO b5 ⟨0,0,[]⟩ none 0::aN b4 (bD none 0 0 none 0 0 0)::cJ b3 o::aN b2 (bD (sQ b0) E2.length iV ia F.length ic nx)::aO b8 ⟨0,0,[]⟩ none 0::g::(M++l)) w:=h.drop;refine Cv ?_;refine aD (qq (v:=.slice (sQ b0) E2.length iV) rfl (h.b 5 rfl) rfl) rfl ?_;refine Y0 ?_;refine aD (jj (j:=j) (o':=j*5) rfl rfl rfl KJ O7) rfl ?_;refine aD (qx (l:=uZ z) rfl rfl (by have:=h.bU.elem gz hz;simpa using this)) rfl ?_
  refine aF rfl (qn h fun oJ w h=>?_);refine aF rfl (qy (vs:=uZ z) 0 h rfl rfl rfl rfl rfl rfl rfl fun w h=>?_);replace h:St w0 (pt oJ (.cells (uZ z).toArray 119 (0,0))::aV (sQ b0) iV E2::bI ia ic F::aO b5 ⟨0,0,[]⟩ none 0::aN b4 (bD none 0 0 none 0 0 0)::cJ b3 o::aN b2 (bD (sQ b0) E2.length iV ia F.length ic nx)::aO b8 ⟨0,0,[]⟩ none 0::g::(M++l)) w:=h;refine Y2 ?_;obtain⟨sm,LD⟩:∃sm:bZ,⟨o.T,(o.V:Int)⟩=sm:=⟨_,rfl⟩;rw[LD] at hD
  refine qf (Γ:=Option Addr×Nat) (fun _=>[(2,.pz b2),(4,.pz b4),(5,.pz b5),(8,.pz b8),(10,.iz (j:Int)),(11,.pz oJ)])
   (fun y w=>St w0 (aB y.1 y.2 (z.1.L++[sm])::pt oJ (.cells (uZ ({ z.1 with any:=true,last:=o.T,L:=z.1.L++[sm] },y.1,y.2)).toArray 119 (0,0))::aV (sQ b0) iV E2::bI ia ic F::aO b5 ⟨0,0,[]⟩ none 0::aN b4 (bD none 0 0 none 0 0 0)::aN b2 (bD (sQ b0) E2.length iV ia F.length ic nx)::aO b8 ⟨0,0,[]⟩ none 0::g::(M++l)) w) ?_ ?_
  ·refine jb [12,13,0,1,2,3,4,5,6,7,8,9,10,11,14,15,16,17] (some 17) (fun w=>St w0 (aV (sQ b0) iV E2::bI ia ic F::aO b5 ⟨0,0,[]⟩ none 0::aN b4 (bD none 0 0 none 0 0 0)::cJ b3 o::aN b2 (bD (sQ b0) E2.length iV ia F.length ic nx)::aO b8 ⟨0,0,[]⟩ none 0::g::(M++l)) w∧w.cell? ⟨oJ,4,none⟩=some (.slice z.2.1 z.1.L.length z.2.2)) O1 O1 ?_;have hs:=h.drew;clear h;generalize w.drew=w at hs ⊢;have h:St w0 (aV (sQ b0) iV E2::bI ia ic F::aO b5 ⟨0,0,[]⟩ none 0::aN b4 (bD none 0 0 none 0 0 0)::cJ b3 o::aN b2 (bD (sQ b0) E2.length iV ia F.length ic nx)::aO b8 ⟨0,0,[]⟩ none 0::g::(M++l)) w∧w.cell? ⟨oJ,4,none⟩=some (.slice z.2.1 z.1.L.length z.2.2):=⟨hs.x [0],(show At w oJ 0 (uZ z) from qw (hs.b 0 rfl) rfl) 4 _ rfl⟩;refine Yj ?_;refine qj rfl rfl rfl rfl h (fun _ h=>qh rfl (qq (v:=.iz o.T) rfl (h.1.b 4 rfl) rfl)) ?_;refine Yj ?_;refine qj rfl rfl rfl rfl h (fun _ h=>qh rfl (qr (v:=.slice z.2.1 z.1.L.length z.2.2) rfl h.2)) ?_;refine EG ?_;refine qj rfl rfl rfl rfl h (fun _ h=>qh rfl (qq (v:=.iz o.T) rfl (h.1.b 4 rfl) rfl)) ?_;refine Yj ?_;refine qj rfl rfl rfl rfl h (fun _ h=>qh rfl (qq (v:=.int .u64 (o.V:Int)) rfl (h.1.b 4 rfl) rfl)) ?_;refine cD rfl rfl rfl rfl h rfl (qc (r:=(⟨o.T,(o.V:Int)⟩:bZ).cells) rfl) ?_;rw[LD];refine Yn ?_;refine Yj ?_;refine Cu ?_;refine j5 4 10 rfl rfl rfl rfl rfl rfl ?_ ?_
   ·refine qg rfl (kW O0 (KG R8.1 [_,_,_,_,_,_,_,_] M) hs) ?_;clear h hs;rintro _ w ⟨a1,c1,rfl,hs⟩;have h:St w0 (aV (sQ b0) iV E2::bI ia ic F::aO b5 ⟨0,0,[]⟩ none 0::aN b4 (bD none 0 0 none 0 0 0)::cJ b3 o::aN b2 (bD (sQ b0) E2.length iV ia F.length ic nx)::aO b8 ⟨0,0,[]⟩ none 0::g::(M++l)) w∧w.cell? ⟨oJ,4,none⟩=some (.slice z.2.1 z.1.L.length z.2.2):=⟨hs.x [0,1],(show At w oJ 0 (uZ z) from qw (hs.b 1 rfl) rfl) 4 _ rfl⟩;refine⟨fun _=>h,?_⟩;refine Fa ?_;refine qd 10 rfl rfl rfl rfl ?_;refine jq (r:=aW [sm]) hs rfl rfl rfl fun b7 w hs=>?_;clear h;have h:St w0 (aV (sQ b0) iV E2::bI ia ic F::aO b5 ⟨0,0,[]⟩ none 0::aN b4 (bD none 0 0 none 0 0 0)::cJ b3 o::aN b2 (bD (sQ b0) E2.length iV ia F.length ic nx)::aO b8 ⟨0,0,[]⟩ none 0::g::(M++l)) w∧w.cell? ⟨oJ,4,none⟩=some (.slice z.2.1 z.1.L.length z.2.2):=⟨hs.x [0,1,2],(show At w oJ 0 (uZ z) from qw (hs.b 2 rfl) rfl) 4 _ rfl⟩;refine⟨fun _=>h,?_⟩;refine xO ?_;refine qd 11 rfl rfl rfl rfl ?_;refine ql (ys:=aW [sm]) (zs:=aW (z.1.L++[sm])) (m3:=(z.1.L++[sm]).length) (hs.f 1) rfl rfl ⟨rfl,.inr ⟨b7,0,rfl,qw (hs.b 0 rfl) rfl⟩⟩ (jm _) O7 (by simp[aW]) O5 O5 rfl fun a2 c2 w _ hs=>?_
    clear h;have h:St w0 (aV (sQ b0) iV E2::bI ia ic F::aO b5 ⟨0,0,[]⟩ none 0::aN b4 (bD none 0 0 none 0 0 0)::cJ b3 o::aN b2 (bD (sQ b0) E2.length iV ia F.length ic nx)::aO b8 ⟨0,0,[]⟩ none 0::g::(M++l)) w∧w.cell? ⟨oJ,4,none⟩=some (.slice z.2.1 z.1.L.length z.2.2):=⟨hs.x [0,1,2],(show At w oJ 0 (uZ z) from qw (hs.b 2 rfl) rfl) 4 _ rfl⟩;refine⟨fun _=>h,?_⟩;refine Cu ?_;refine qd 13 rfl rfl rfl rfl ?_;clear h;refine qb 2 hs rfl (show _=Value.bool true from rfl) rfl rfl rfl rfl fun w hs=>?_;replace hs:St w0 (aB a2 c2 (z.1.L++[sm])::pt b7 (.cells (aW [sm]).toArray 57 (0,0))::pt oJ (.cells [.iz z.1.id,.bool z.1.cl,.bool true,.iz z.1.last,.slice z.2.1 z.1.L.length z.2.2].toArray 119 (0,0))::aV (sQ b0) iV E2::bI ia ic F::aO b5 ⟨0,0,[]⟩ none 0::aN b4 (bD none 0 0 none 0 0 0)::cJ b3 o::aN b2 (bD (sQ b0) E2.length iV ia F.length ic nx)::aO b8 ⟨0,0,[]⟩ none 0::g::(M++l)) w:=hs;have h:St w0 (aV (sQ b0) iV E2::bI ia ic F::aO b5 ⟨0,0,[]⟩ none 0::aN b4 (bD none 0 0 none 0 0 0)::cJ b3 o::aN b2 (bD (sQ b0) E2.length iV ia F.length ic nx)::aO b8 ⟨0,0,[]⟩ none 0::g::(M++l)) w∧w.cell? ⟨oJ,4,none⟩=some (.slice z.2.1 z.1.L.length z.2.2):=⟨hs.x [0,1,2],(show At w oJ 0 [.iz z.1.id,.bool z.1.cl,.bool true,.iz z.1.last,.slice z.2.1 z.1.L.length z.2.2] from qw (hs.b 2 rfl) rfl) 4 _ rfl⟩;refine⟨fun _=>h,?_⟩;refine Yj ?_;refine Ys ?_;refine qd 15 rfl rfl rfl rfl ?_;clear h;refine qb 2 hs rfl (show _=Value.iz o.T from rfl) rfl rfl rfl rfl fun w hs=>?_;replace hs:St w0 (aB a2 c2 (z.1.L++[sm])::pt b7 (.cells (aW [sm]).toArray 57 (0,0))::pt oJ (.cells [.iz z.1.id,.bool z.1.cl,.bool true,.iz o.T,.slice z.2.1 z.1.L.length z.2.2].toArray 119 (0,0))::aV (sQ b0) iV E2::bI ia ic F::aO b5 ⟨0,0,[]⟩ none 0::aN b4 (bD none 0 0 none 0 0 0)::cJ b3 o::aN b2 (bD (sQ b0) E2.length iV ia F.length ic nx)::aO b8 ⟨0,0,[]⟩ none 0::g::(M++l)) w:=hs
    have h:St w0 (aV (sQ b0) iV E2::bI ia ic F::aO b5 ⟨0,0,[]⟩ none 0::aN b4 (bD none 0 0 none 0 0 0)::cJ b3 o::aN b2 (bD (sQ b0) E2.length iV ia F.length ic nx)::aO b8 ⟨0,0,[]⟩ none 0::g::(M++l)) w∧w.cell? ⟨oJ,4,none⟩=some (.slice z.2.1 z.1.L.length z.2.2):=⟨hs.x [0,1,2],(show At w oJ 0 [.iz z.1.id,.bool z.1.cl,.bool true,.iz o.T,.slice z.2.1 z.1.L.length z.2.2] from qw (hs.b 2 rfl) rfl) 4 _ rfl⟩;refine⟨fun _=>h,?_⟩;refine Di ?_;refine jv 17 rfl rfl rfl ?_;clear h;refine qb 2 hs rfl (show _=Value.slice a2 (z.1.L++[sm]).length c2 from rfl) rfl rfl rfl rfl fun w h=>?_;replace h:St w0 (aB a2 c2 (z.1.L++[sm])::pt b7 (.cells (aW [sm]).toArray 57 (0,0))::pt oJ (.cells (uZ ({ z.1 with any:=true,last:=o.T,L:=z.1.L++[sm] },a2,c2)).toArray 119 (0,0))::aV (sQ b0) iV E2::bI ia ic F::aO b5 ⟨0,0,[]⟩ none 0::aN b4 (bD none 0 0 none 0 0 0)::cJ b3 o::aN b2 (bD (sQ b0) E2.length iV ia F.length ic nx)::aO b8 ⟨0,0,[]⟩ none 0::g::(M++l)) w:=h
    exact⟨(a2,c2),kX,h.x [1,7]⟩
   ·refine jq (r:=aW [sm]) hs rfl rfl rfl fun b7 w hs=>?_;clear h;have h:St w0 (aV (sQ b0) iV E2::bI ia ic F::aO b5 ⟨0,0,[]⟩ none 0::aN b4 (bD none 0 0 none 0 0 0)::cJ b3 o::aN b2 (bD (sQ b0) E2.length iV ia F.length ic nx)::aO b8 ⟨0,0,[]⟩ none 0::g::(M++l)) w∧w.cell? ⟨oJ,4,none⟩=some (.slice z.2.1 z.1.L.length z.2.2):=⟨hs.x [0,1],(show At w oJ 0 (uZ z) from qw (hs.b 1 rfl) rfl) 4 _ rfl⟩;refine⟨fun _=>h,?_⟩;refine Fa ?_;refine qd 4 rfl rfl rfl rfl ?_;refine qg rfl (kW O0 (KG R8.1 [_,_,_,_,_,_,_,_,_] M) hs) ?_;clear h hs;rintro _ w ⟨a1,c1,rfl,hs⟩;have h:St w0 (aV (sQ b0) iV E2::bI ia ic F::aO b5 ⟨0,0,[]⟩ none 0::aN b4 (bD none 0 0 none 0 0 0)::cJ b3 o::aN b2 (bD (sQ b0) E2.length iV ia F.length ic nx)::aO b8 ⟨0,0,[]⟩ none 0::g::(M++l)) w∧w.cell? ⟨oJ,4,none⟩=some (.slice z.2.1 z.1.L.length z.2.2):=⟨hs.x [0,1,2],(show At w oJ 0 (uZ z) from qw (hs.b 2 rfl) rfl) 4 _ rfl⟩;refine⟨fun _=>h,?_⟩;refine xO ?_;refine qd 11 rfl rfl rfl rfl ?_;refine ql (ys:=aW [sm]) (zs:=aW (z.1.L++[sm])) (m3:=(z.1.L++[sm]).length) hs rfl rfl ⟨rfl,.inr ⟨b7,0,rfl,qw (hs.b 1 rfl) rfl⟩⟩ (jm _) O7 (by simp[aW]) O5 O5 rfl fun a2 c2 w _ hs=>?_
    clear h;have h:St w0 (aV (sQ b0) iV E2::bI ia ic F::aO b5 ⟨0,0,[]⟩ none 0::aN b4 (bD none 0 0 none 0 0 0)::cJ b3 o::aN b2 (bD (sQ b0) E2.length iV ia F.length ic nx)::aO b8 ⟨0,0,[]⟩ none 0::g::(M++l)) w∧w.cell? ⟨oJ,4,none⟩=some (.slice z.2.1 z.1.L.length z.2.2):=⟨hs.x [0,1,2],(show At w oJ 0 (uZ z) from qw (hs.b 2 rfl) rfl) 4 _ rfl⟩;refine⟨fun _=>h,?_⟩;refine Cu ?_;refine qd 13 rfl rfl rfl rfl ?_;clear h;refine qb 2 hs rfl (show _=Value.bool true from rfl) rfl rfl rfl rfl fun w hs=>?_;replace hs:St w0 (aB a2 c2 (z.1.L++[sm])::pt b7 (.cells (aW [sm]).toArray 57 (0,0))::pt oJ (.cells [.iz z.1.id,.bool z.1.cl,.bool true,.iz z.1.last,.slice z.2.1 z.1.L.length z.2.2].toArray 119 (0,0))::aV (sQ b0) iV E2::bI ia ic F::aO b5 ⟨0,0,[]⟩ none 0::aN b4 (bD none 0 0 none 0 0 0)::cJ b3 o::aN b2 (bD (sQ b0) E2.length iV ia F.length ic nx)::aO b8 ⟨0,0,[]⟩ none 0::g::(M++l)) w:=hs;have h:St w0 (aV (sQ b0) iV E2::bI ia ic F::aO b5 ⟨0,0,[]⟩ none 0::aN b4 (bD none 0 0 none 0 0 0)::cJ b3 o::aN b2 (bD (sQ b0) E2.length iV ia F.length ic nx)::aO b8 ⟨0,0,[]⟩ none 0::g::(M++l)) w∧w.cell? ⟨oJ,4,none⟩=some (.slice z.2.1 z.1.L.length z.2.2):=⟨hs.x [0,1,2],(show At w oJ 0 [.iz z.1.id,.bool z.1.cl,.bool true,.iz z.1.last,.slice z.2.1 z.1.L.length z.2.2] from qw (hs.b 2 rfl) rfl) 4 _ rfl⟩;refine⟨fun _=>h,?_⟩;refine Yj ?_;refine Ys ?_;refine qd 15 rfl rfl rfl rfl ?_;clear h;refine qb 2 hs rfl (show _=Value.iz o.T from rfl) rfl rfl rfl rfl fun w hs=>?_;replace hs:St w0 (aB a2 c2 (z.1.L++[sm])::pt b7 (.cells (aW [sm]).toArray 57 (0,0))::pt oJ (.cells [.iz z.1.id,.bool z.1.cl,.bool true,.iz o.T,.slice z.2.1 z.1.L.length z.2.2].toArray 119 (0,0))::aV (sQ b0) iV E2::bI ia ic F::aO b5 ⟨0,0,[]⟩ none 0::aN b4 (bD none 0 0 none 0 0 0)::cJ b3 o::aN b2 (bD (sQ b0) E2.length iV ia F.length ic nx)::aO b8 ⟨0,0,[]⟩ none 0::g::(M++l)) w:=hs
    have h:St w0 (aV (sQ b0) iV E2::bI ia ic F::aO b5 ⟨0,0,[]⟩ none 0::aN b4 (bD none 0 0 none 0 0 0)::cJ b3 o::aN b2 (bD (sQ b0) E2.length iV ia F.length ic nx)::aO b8 ⟨0,0,[]⟩ none 0::g::(M++l)) w∧w.cell? ⟨oJ,4,none⟩=some (.slice z.2.1 z.1.L.length z.2.2):=⟨hs.x [0,1,2],(show At w oJ 0 [.iz z.1.id,.bool z.1.cl,.bool true,.iz o.T,.slice z.2.1 z.1.L.length z.2.2] from qw (hs.b 2 rfl) rfl) 4 _ rfl⟩;refine⟨fun _=>h,?_⟩;refine Di ?_;refine jv 17 rfl rfl rfl ?_;clear h;refine qb 2 hs rfl (show _=Value.slice a2 (z.1.L++[sm]).length c2 from rfl) rfl rfl rfl rfl fun w h=>?_;replace h:St w0 (aB a2 c2 (z.1.L++[sm])::pt b7 (.cells (aW [sm]).toArray 57 (0,0))::pt oJ (.cells (uZ ({ z.1 with any:=true,last:=o.T,L:=z.1.L++[sm] },a2,c2)).toArray 119 (0,0))::aV (sQ b0) iV E2::bI ia ic F::aO b5 ⟨0,0,[]⟩ none 0::aN b4 (bD none 0 0 none 0 0 0)::cJ b3 o::aN b2 (bD (sQ b0) E2.length iV ia F.length ic nx)::aO b8 ⟨0,0,[]⟩ none 0::g::(M++l)) w:=h
    exact⟨(a2,c2),kX,h.x [1,7]⟩
  clear h;rintro⟨a2,c2⟩ w e h;dsimp only at h;have HG:gG w0 (all [aB a2 c2 (z.1.L++[sm]),g]::l) a2 c2 (z.1.L++[sm]):=gG.new h;obtain⟨y,hy⟩:∃y:SQ,({ z.1 with any:=true,last:=o.T,L:=z.1.L++[sm] },a2,c2)=y:=⟨_,rfl⟩
  rw[hy] at h;refine Dj ?_;refine aD (qq (v:=.slice (sQ b0) E2.length iV) rfl (h.b 6 rfl) rfl) rfl ?_;refine Y0 ?_;refine aD (qx (l:=uZ y) rfl rfl (qw (h.b 1 rfl) rfl)) rfl ?_;refine aD (jj (j:=j) (o':=j*5) rfl rfl rfl KJ O7) rfl ?_;refine aF rfl (em (vs:=uZ y) (h.f 2) rfl rfl rfl (by rw[gz];omega) rfl fun w h=>?_)
  rw[yw gz y E2 j KJ] at h;obtain⟨E3,N8⟩:∃E3,E2.set j y=E3:=⟨_,rfl⟩;have G9:E2.length=E3.length:=by rw[<- N8,Vd]
  rw[N8,G9] at h;replace h:St w0 (aV (sQ b0) iV E3::aB a2 c2 (z.1.L++[sm])::pt oJ (.cells (uZ y).toArray 119 (0,0))::bI ia ic F::aO b5 ⟨0,0,[]⟩ none 0::aN b4 (bD none 0 0 none 0 0 0)::aN b2 (bD (sQ b0) E3.length iV ia F.length ic nx)::aO b8 ⟨0,0,[]⟩ none 0::g::(M++l)) w:=h;have h9:=KH (St.two ((h.x [2]).o [1,7,0,2,3,4,5,6]));refine qv ⟨⟨E3,F,(sQ b0),iV,ia,ic,nx,⟨0,0,[]⟩,none,0,all [],(all [aB a2 c2 (z.1.L++[sm]),g])⟩,iA,by rw[<- N8,Zm,<- hy];exact hD,fun x hx=>?_,fun x hx=>(sU x hx).grow,Reads.nil,h9.o [2,3,4,5,6,7,0,1]⟩
  rw[<- N8] at hx;rcases Xb hx with hx|rfl
  ·exact(Qw x hx).grow
  ·rw[<- hy];exact HG
 clear h lT sU;rintro d w e ⟨hD,lT,sU,hres,h⟩;refine qi (jb [0,2,1,3] (some 3) (fun w=>St w0 (aV d.sa d.sc d.E::bI d.ia d.ic d.F::aO b5 ⟨0,0,[]⟩ none 0::aN b2 (bD d.sa d.E.length d.sc d.ia d.F.length d.ic d.nx)::aO b8 d.res d.ra d.rc::d.R::d.g::(M++l)) w) O1 O1 ?_);have hs:=h.drew;clear h;generalize w.drew=w at hs ⊢;have h:St w0 (aV d.sa d.sc d.E::bI d.ia d.ic d.F::aO b5 ⟨0,0,[]⟩ none 0::aN b2 (bD d.sa d.E.length d.sc d.ia d.F.length d.ic d.nx)::aO b8 d.res d.ra d.rc::d.R::d.g::(M++l)) w:=hs.x [3];refine qj rfl rfl rfl rfl h (fun _ h=>qh rfl (qx (l:=(bD d.sa d.E.length d.sc d.ia d.F.length d.ic d.nx)) rfl rfl (qw (h.b 3 rfl) rfl))) ?_;refine qj rfl rfl rfl rfl h (fun _ h=>qh rfl (qx (l:=d.res.C d.ra d.rc) rfl rfl (qw (h.b 4 rfl) rfl))) ?_;refine Yn ?_;refine qd 2 rfl rfl rfl rfl ?_;clear h;refine qy (vs:=(bD d.sa d.E.length d.sc d.ia d.F.length d.ic d.nx)) 3 hs rfl rfl rfl rfl rfl rfl rfl fun w hs=>?_;replace hs:St w0 (aV d.sa d.sc d.E::bI d.ia d.ic d.F::aO b5 ⟨0,0,[]⟩ none 0::aN b4 (bD d.sa d.E.length d.sc d.ia d.F.length d.ic d.nx)::aN b2 (bD d.sa d.E.length d.sc d.ia d.F.length d.ic d.nx)::aO b8 d.res d.ra d.rc::d.R::d.g::(M++l)) w:=hs;have h:St w0 (aV d.sa d.sc d.E::bI d.ia d.ic d.F::aO b5 ⟨0,0,[]⟩ none 0::aN b2 (bD d.sa d.E.length d.sc d.ia d.F.length d.ic d.nx)::aO b8 d.res d.ra d.rc::d.R::d.g::(M++l)) w:=hs.x [3];refine⟨fun _=>h,?_⟩;refine Ym ?_;refine jv 3 rfl rfl rfl ?_;clear h;refine qy (vs:=d.res.C d.ra d.rc) 2 hs rfl rfl rfl rfl rfl rfl rfl fun w h=>?_;replace h:St w0 (aV d.sa d.sc d.E::bI d.ia d.ic d.F::aO b5 d.res d.ra d.rc::aN b4 (bD d.sa d.E.length d.sc d.ia d.F.length d.ic d.nx)::aN b2 (bD d.sa d.E.length d.sc d.ia d.F.length d.ic d.nx)::aO b8 d.res d.ra d.rc::d.R::d.g::(M++l)) w:=h
 exact qk (AM (l:=(bD d.sa d.E.length d.sc d.ia d.F.length d.ic d.nx)) (l2:=d.res.C d.ra d.rc) rfl rfl (qw (h.b 3 rfl) rfl) rfl rfl (qw (h.b 2 rfl) rfl) (ly hD lT sU hres (h.x [2,3,4,5])))
end
end
end Go.Proofs.YtngdfdangkdgcaaGreatDoor
namespace Go.Hw
section
open Go.ChangeShapes Go.WideShapes Go.ChangeAt Go.RowKit
section
variable{H:Type}{enc:TypeId×Value->H}{P:Program}{W:World}{r:Reach}{b0:Nat}
theorem rm{e:TypeId}{ks:List IntKind}[he:EM P e ks](hC:P.cellsOf e=ks.length)(h1:((P.fieldsOf e).toList.all fun f=>P.cellsOf f.type==1)=true){base n:Nat}{spare:Nat->Bool}{held:Bool}{cs:List Value}{y:DataW H×List MemPlace}
  (h:DataW.trod enc P W base spare held n e cs=some y):∃aL:List Int,aL.length=ks.length∧cs=ints ks aL∧∀(j:Nat) k a,ks[j]?=some k->aL[j]?=some a->(Lit.int k a).wf=true:=by
 obtain⟨fl,hu,hf⟩:=he.u;obtain⟨xs,m,_,_,hlen,hxl,hg⟩:=DataW.trod_struct hu h;rw[hC] at hlen;have hfl:fl.length=ks.length:=by have:=congrArg List.length hf;simpa using this
 have hfo:P.fieldsOf e=fl.toArray:=by unfold Program.fieldsOf;rw[hu]
 rw[hfo] at h1
 have each:∀j,j<ks.length->∃a:Int,∀k,ks[j]?=some k->cs[j]?=some (.int k a)∧(Lit.int k a).wf=true:=by
  intro j hj;have R9:fl[j]?=some (fl[j]'O0):=Ub O0;have Sa:=congrArg (fun l=>l[j]?) hf;simp only[Vb,R9,Ww,List.getElem?_zipIdx,Ub hj,Uz,Vr,Prod.mk.injEq] at Sa;obtain⟨_,ho,ht⟩:=Sa
  have kZ:P.cellsOf (fl[j]'O0).type=1:=by
   have:=Wx.1 h1 _ (Zq (show j<fl.length by omega))
   simpa using this
  have h2:=hg j (fl[j]'O0) (by rw[List.getElem?_toArray];exact R9)
  rw[ho,kZ] at h2;have XN:xs[j]?=some (xs[j]'(by rw[hxl];simpa using by omega)):=Ub _
  rw[XN] at h2;obtain⟨a,h3,_,h4⟩:=DataW.trod_int ht h2;refine⟨a,fun k hk=>?_⟩;rw[Ub hj] at hk;cases hk
  refine⟨?_,h4⟩;have M6:j<cs.length:=by omega
  rw[Ub M6];have h5:List.take 1 (List.drop j cs)=[cs[j]]:=by rw[Vx M6];rfl
  rw[h5] at h3;simpa using h3
 obtain⟨f,hf'⟩:=Go.Deep.choose_lt each;refine⟨(List.range ks.length).map f,by simp,?_,?_⟩
 ·apply Ka;intro j;rw[SK];by_cases hj:j<ks.length
  ·rw[(hf' j hj _ (Ub hj)).1];simp[hj]
  ·rw[Vq O0,Vq (show ks.length<=j by omega)]
   rfl
 ·intro j k a hk ha;have hj:j<ks.length:=(Uc.1 hk).1;simp[hj] at ha;subst ha;exact(hf' j hj k hk).2
theorem fi{α:Type}[Inhabited α]{t e:TypeId}{ks:List IntKind}[he:EM P e ks]{v:Value}{d:DataW H}{p:List MemPlace}(cf:α->List Value)(good:α->Prop)(Gs:∀x,(cf x).length=ks.length)
  (hmk:∀aL:List Int,aL.length=ks.length->(∀(j:Nat) k a,ks[j]?=some k->aL[j]?=some a->(Lit.int k a).wf=true)->∃x,cf x=ints ks aL∧good x)
  (ht:P.underlying t=some (.slice e)) (hC:P.cellsOf e=ks.length) (hks:0<ks.length) (h1:((P.fieldsOf e).toList.all fun f=>P.cellsOf f.type==1)=true)
  (hval:Value.okWide P W r b0 t v) (h:DataW.Trod enc P W 0 (fun _=>true) true t v d p) (hlt:∀x∈p,x.block<W.heap.size):
  ∃(a:Option Addr) (n c:Nat) (xs:List α),v=.slice a n c∧n<=maxLen∧(∀x∈xs,good x)∧Rd W ks.length a n (xs.flatMap cf)∧∀b o,a=some ⟨b,o,none⟩->0<n->b<W.heap.size:=by
 obtain⟨a0,len,cap,rfl⟩:=okWide_slice ht hval;obtain⟨fuel,hf⟩:=h;rcases Go.Deep.open_slice ht hf with⟨hcs,hx⟩|⟨a,len',cap',m,n,D,Pl,hcs,_,hl,hm,D1,hx,hel⟩
 ·simp[Value.cells] at hcs;obtain⟨rfl,rfl,rfl⟩:=hcs;exact⟨none,0,0,[],rfl,Uf _,(fun _ h=>by cases h),⟨by simp,.inl rfl⟩,fun _ _ h=>by cases h⟩
 ·simp[Value.cells] at hcs;obtain⟨rfl,rfl,rfl⟩:=hcs;simp only[Prod.mk.injEq] at hx;obtain⟨rfl,rfl⟩:=hx;simp only[if_true] at D1;subst D1
  have each:∀i,i<len->∃x:α,good x∧∀j v,(cf x)[j]?=some v->W.cell? ((a.add (i*ks.length)).add j)=some v:=by
   intro i hi;obtain⟨cs',hc,My⟩:=hel i O0;rw[hC] at hc;obtain⟨aL,h2,h3,h4⟩:=rm hC h1 My;obtain⟨x,h5,h6⟩:=hmk aL h2 h4;refine⟨x,h6,fun j v hj=>?_⟩;obtain⟨_,xP,gO⟩:=World.cells?_some hc;have hj':j<ks.length:=by have:=(Uc.1 hj).1;rwa [Gs] at this
   rw[gO j hj',h3,<- h5];exact hj
  obtain⟨f,hf'⟩:=Go.Deep.choose_lt each;refine⟨some a,len,_,(List.range len).map f,rfl,Uw hl hm,?_,⟨by rw[eT Gs];simp,?_⟩,?_⟩
  ·intro x hx;simp only[Va,List.mem_range] at hx;obtain⟨i,hi,rfl⟩:=hx;exact(hf' i hi).1
  ·rcases Wb len with h0|h0
   ·exact .inl h0
   ·obtain⟨b,off,spot⟩:=a;have hc0:=(hf' 0 h0).2 0 _ (Ub (show 0<(cf (f 0)).length by rw[Gs];exact hks))
    have Fc:spot=none:=by simpa[Addr.add] using World.cell?_spot hc0
    subst Fc;refine .inr ⟨b,off,rfl,fun j v hj=>?_⟩
    have hjl:j<len*ks.length:=by
     have:=(Uc.1 hj).1;rw[eT Gs] at this;simpa using this
    have hi:j / ks.length<len:=(Zy hks).2 hjl;have Sb:j=j / ks.length*ks.length+j%ks.length:=by rw[Wm];exact(Nat.div_add_mod _ _).symm
    have hmod:j%ks.length<(cf (f (j / ks.length))).length:=by rw[Gs];exact Vw _ hks
    have hv:=yu Gs ((List.range len).map f) (j / ks.length) (f (j / ks.length)) (by simp[hi]) (j%ks.length) _ (Ub hmod)
    rw[<- Sb,hj] at hv;cases hv
    have:=(hf' _ hi).2 _ _ (Ub hmod);rw[Go.Deep.add_add,<- Sb,Addr.add_mid] at this;exact this
  ·intro b o hb hn;cases hb
   exact hlt (.cell b o) (List.mem_append_left _ (MemPlace.mem_row.2 ⟨0,by rw[hC];exact Nat.mul_pos O0 hks,by simp⟩))
end
end
section
open Go.ChangeShapes Go.WideShapes Go.ChangeAt Go.RowKit
section
variable{P:Program}{W:World}{H:Type}{enc:TypeId×Value->H}{r:Reach}{b0:Nat}
end
end
section
theorem t8(o:gR):o.C.length=8:=rfl
abbrev opsV(os:List gR):List Value:=os.flatMap gR.C
section
variable{P:Program}{W:World}{H:Type}{enc:TypeId×Value->H}{r:Reach}{b0:Nat}
theorem arg_opsR{t e:TypeId}[he:EM P e [.i64,.i64,.i64,.i64,.u64,.i64,.i64,.i64]]{v:Value}{d:DataW H}{p:List MemPlace}(ht:P.underlying t=some (.slice e))(hC:P.cellsOf e=8)(h1:((P.fieldsOf e).toList.all fun f=>P.cellsOf f.type==1)=true)
  (hval:Value.okWide P W r b0 t v) (h:DataW.Trod enc P W 0 (fun _=>true) true t v d p) (hlt:∀x∈p,x.block<W.heap.size):
  ∃(a:Option Addr) (c:Nat) (L:List gR),v=.slice a L.length c∧L.length<=9223372036854775807∧(∀o∈L,o.Wf)∧Reads W [] 8 a L.length (opsV L):=by
 haveI:Inhabited gR:=⟨⟨0,0,0,0,0,0,0,0⟩⟩
 obtain⟨a,n,c,L,rfl,h2,h3,h4,h5⟩:=fi (ks:=[.i64,.i64,.i64,.i64,.u64,.i64,.i64,.i64]) gR.C gR.Wf t8 (fun aL h2 h4=>by
  match aL,h2 with
  |[a,b,c,d,e,f,g,i],_=>
   have x0:=h4 0 .i64 a rfl rfl;have x1:=h4 1 .i64 b rfl rfl;have x2:=h4 2 .i64 c rfl rfl;have x3:=h4 3 .i64 d rfl rfl;have x4:=h4 4 .u64 e rfl rfl;have x5:=h4 5 .i64 f rfl rfl;have x6:=h4 6 .i64 g rfl rfl;have x7:=h4 7 .i64 i rfl rfl;simp[Lit.wf,IntKind.min,IntKind.max,IntKind.signed,IntKind.bits] at x0 x1 x2 x3 x4 x5 x6 x7;have e4:((e.toNat:Nat):Int)=e:=by omega
   refine⟨⟨a,b,c,d,e.toNat,f,g,i⟩,?_,?_⟩
   ·show[.iz a,.iz b,.iz c,.iz d,.int .u64 ((e.toNat:Nat):Int),.iz f,.iz g,.iz i]=ints [.i64,.i64,.i64,.i64,.u64,.i64,.i64,.i64] [a,b,c,d,e,f,g,i];rw[e4];rfl
   ·refine⟨⟨?_,?_⟩,⟨?_,?_⟩,⟨?_,?_⟩,⟨?_,?_⟩,?_,⟨?_,?_⟩,⟨?_,?_⟩,⟨?_,?_⟩⟩ <;> dsimp only <;> omega) ht hC O2 h1 hval h hlt
 have hl:L.length=n:=h4.count t8 O2;subst hl;exact⟨a,c,L,rfl,zF h2,h3,Reads.old h4 h5⟩
end
end
end Go.Hw
namespace Go.Proofs.YtngdfdangkdgcaaGreatDoor
open Go.Hw _root_.Go.Proofs.Tryz
section
instance Sc:EM prog 33 [.i64,.i64,.i64,.i64,.u64,.i64,.i64,.i64]:=⟨⟨_,underlying33,by kernel_rfl⟩,by kernel_rfl,by kernel_rfl⟩
theorem XO(m:qI)(o:gR):(m.act o).2.err≠9:=by
 unfold qI.act qI.err
 repeat' split
 all_goals (dsimp only;decide)
section
variable{w0 w:World}{l:List aC}
theorem Bd.one{M:Md}{n:Nat}(h:Bd M n):Bd M (n+1):=⟨by have:=h.s;omega,by have:=h.i;omega,fun x hx=>by have:=h.rs x hx;omega,fun x hx=>by have:=h.ri x hx;omega,h.n0,by have:=h.n1;omega⟩
theorem Ls.two{E:List SQ}{F:List IQ}{sa ia:Option Addr}{P Q:aC}(h:Ls w0 (P::Q::l) E F sa ia):Ls w0 (all [P,Q]::l) E F sa ia:=
 ⟨h.s.swap (ke P Q l),h.i.swap (ke P Q l),fun x hx=>(h.rs x hx).swap (ke P Q l),fun x hx=>(h.ri x hx).swap (ke P Q l)⟩
structure Qx where
 i:Nat
 s:cG
 E:List SQ
 F:List IQ
 sa:Option Addr
 sc:Nat
 ia:Option Addr
 ic:Nat
 nx:Int
 g:aC
structure Sd(w0:World)(l:List aC)(f b:Int)(p bm:Nat)(y:Qx)(w:World):Prop where
 rest:∃G,Rest y.s G y.i∧GF (abs y.s G) ⟨y.E.map (·.1),y.F.map (·.1),y.nx⟩
 bd:Bd ⟨y.E.map (·.1),y.F.map (·.1),y.nx⟩ y.i
 most:y.s.c.bE.most=f
 bA:y.s.b.bA=b
 YV:Ls w0 (y.g::l) y.E y.F y.sa y.ia
 st:St w0 (aU p y.s::aN bm (bD y.sa y.E.length y.sc y.ia y.F.length y.ic y.nx)::y.g::l) w
theorem law22_ProgAlone(hT:Tz w0)(fr bu:Int){st:Option Addr}{ct:Nat}{xs:List Int}(hx:∀x∈xs,rM x)(hn:xs.length<=9223372036854775807)(Cy:Reads w0 l 1 st xs.length (gU xs))
  {so:Option Addr} {co:Nat} {os:List gR} (hos:∀o∈os,o.Wf) (hno:os.length<=9223372036854775807) (hro:Reads w0 l 8 so os.length (opsV os)) (h:St w0 l w):
  bP prog 10 [.iz fr,.iz bu,.slice st xs.length ct,.slice so os.length co] w fun v w'=>v=.bool true∧St w0 l w':=by
 obtain⟨fm,Se⟩:=Int.eq_ofNat_of_zero_le (show 0<=fr%2^2 by omega)
 obtain⟨bm,Od⟩:∃bm,bu%2^13=bm:=⟨_,rfl⟩;obtain⟨bb,YW⟩:∃bb,200+bm=bb:=⟨_,rfl⟩;have SP:fm<=3:=by omega
 have IU:200<=bb∧bb<=8391:=by omega
 refine en func10 results10 ntmps10 ?_;refine pL ?_;refine Yb ?_;refine aD (q9 (v':=.iz bm) (gx rfl rfl) (congrArg Value.iz ((yj 13 O2 O2).trans Od))) rfl ?_;refine tC ?_;refine qz (.iz bb) KS ?_;refine HT ?_;refine aD (q9 (v':=.iz (fm:Int)) (gx rfl rfl) (congrArg Value.iz ((yj 2 O2 O2).trans Se))) rfl ?_;refine tC ?_;refine qz (.iz ((fm+1:Nat):Int)) KS ?_;refine Y0 ?_;refine aF rfl (qg rfl (yh ((fm+1:Nat):Int) bb h) ?_);clear h;rintro _ w ⟨p,rfl,h⟩;refine Ox ?_;refine aF rfl (qg rfl (uK h) ?_);clear h;rintro _ w ⟨rfl,h⟩;refine Gl ?_;refine Y1 ?_;refine aF rfl (qn h fun mX w h=>?_);replace h:St w0 (aN mX (bD none 0 0 none 0 0 0)::aU p (cG.new ((fm+1:Nat):Int) bb)::l) w:=h;replace h:St w0 (aU p (cG.new ((fm+1:Nat):Int) bb)::aN mX (bD none 0 0 none 0 0 0)::all []::l) w:=(KH h).o [2,1,0];refine Y2 ?_;refine qf (Γ:=Unit) (fun _=>[]) (fun _ w=>St w0 l w) ?_ ?_;rotate_left
 ·clear h;rintro _ w e h;refine Y1 ?_;refine aF rfl (qg rfl (B8 hT h) ?_);clear h;rintro _ w ⟨rfl,h⟩;refine Y3 ?_;exact qv (qk (bQ ⟨rfl,h⟩))
 refine GR ?_
 refine jy (Γ:=Qx) (fun y=>[(0,.iz fr),(1,.iz bb),(2,.slice st xs.length ct),(3,.slice so os.length co),(9,.pz p),(10,.pz mX),(11,.iz (y.i:Int))])
  (fun y w=>(y.i<=xs.length∧y.i<=150)∧Sd w0 l ((fm+1:Nat):Int) bb p mX y w) (fun y=>150-y.i) ⟨0,cG.new ((fm+1:Nat):Int) bb,[],[],none,0,none,0,0,all []⟩ yQ
  ⟨⟨Uf _,Uf _⟩,⟨_,Rest.new _ _,XC _ _⟩,⟨Ug _,Ug _,fun x hx=>(by cases hx),fun x hx=>(by cases hx),Ut _,Ut _⟩,by show min (max ((fm+1:Nat):Int) 1) 1000=_;omega,by show min (max bb 0) 1073741824=_;omega,
   ⟨Reads.nil,Reads.nil,fun x hx=>(by cases hx),fun x hx=>(by cases hx)⟩,h⟩ ?_
 clear h;rintro⟨i,s,E,F,sa,sc,ia,ic,nx,g⟩ w e ⟨⟨hi1,hi2⟩,hA⟩;dsimp only at hi1 hi2;obtain⟨⟨G,hF,KK⟩,hbd,IL,Ey,KL,h⟩:=hA;dsimp only at hF KK hbd IL Ey KL h ⊢;refine vT ?_;refine sV ?_;refine yW ?_;by_cases Is:i<xs.length∧i<150;rotate_left
 ·by_cases yD:i<xs.length
  ·refine qz (.bool true) O3 ?_;refine AU ?_;refine aD (q9 (v':=.bool false) (yq rfl rfl) (congrArg Value.bool Nr)) rfl ?_;refine Ye ?_;refine qv (qt rfl (ju ?_));exact Eq.mpr (if_pos rfl) ⟨(),trivial,h.x [0,1,2]⟩
  ·refine qz (.bool false) O4 ?_;refine yY ?_;refine Y9 ?_;refine qv (qt rfl (ju ?_));exact Eq.mpr (if_pos rfl) ⟨(),trivial,h.x [0,1,2]⟩
 obtain⟨yD,Gw⟩:=Is;refine qz (.bool true) O3 ?_;refine AU ?_;refine aD (q9 (v':=.bool true) (yq rfl rfl) (congrArg Value.bool (by rw[decide_eq_true_eq];omega))) rfl ?_
 refine Ye ?_;refine E7 ?_;obtain⟨v,hv⟩:∃v,xs[i]?=some v:=⟨_,Ub yD⟩
 refine qf (Γ:=Qx) (fun _=>[(0,.iz fr),(1,.iz bb),(2,.slice st xs.length ct),(3,.slice so os.length co),(9,.pz p),(10,.pz mX),(11,.iz (i:Int))])
  (fun y w=>y.i=i+1∧Sd w0 l ((fm+1:Nat):Int) bb p mX y w) (yt ?_) ?_
 rotate_left
 ·clear h;rintro⟨i2,s,E,F,sa,sc,ia,ic,nx,g⟩ w e ⟨hi,hA⟩;obtain rfl:i2=i+1:=hi;refine Bk ?_;refine qz (.iz ((i+1:Nat):Int)) KS ?_;refine Y4 ?_;exact qv ⟨⟨i+1,s,E,F,sa,sc,ia,ic,nx,g⟩,yQ,⟨⟨gH,gH⟩,hA⟩,gH⟩
 obtain⟨Qy,oo,hst⟩:∃bb oo,st=some ⟨bb,oo,none⟩:=((Cy.more [_,_,_]).at_ h).some O0
 have Nm:Value.slice st xs.length ct=.slice (some ⟨Qy,oo,none⟩) xs.length ct:=by rw[hst]
 refine EJ ?_;refine aD (jj (b:=Qy) (j:=i) (o':=oo+i) Nm rfl rfl yD O7) rfl ?_;refine aD (qr (v:=.iz v) rfl ((hst▸(Cy.more [_,_,_]).at_ h).cell (by simp[gU,hv]))) rfl ?_
 refine Y0 ?_;refine aF rfl (qg rfl (Gc (n:=v) (at_:=(i:Int)) O0 O0 h) ?_)
 clear h;rintro _ w ⟨rfl,h⟩;refine aF rfl (qn h fun Ca w h=>?_);refine aF rfl (qy (vs:=(lR v (i:Int)).C) 0 h rfl rfl rfl rfl rfl rfl rfl fun w h=>?_);replace h:St w0 (cJ Ca (lR v (i:Int))::aU p s::aN mX (bD sa E.length sc ia F.length ic nx)::g::l) w:=h;refine Y2 ?_
 refine qf (Γ:=gR) (fun _=>[(0,.iz fr),(1,.iz bb),(2,.slice st xs.length ct),(3,.slice so os.length co),(9,.pz p),(10,.pz mX),(11,.iz (i:Int)),(12,.pz Ca)])
  (fun o w=>o.Wf∧St w0 (aU p s::cJ Ca o::aN mX (bD sa E.length sc ia F.length ic nx)::g::l) w) ?_ ?_
 ·refine EJ ?_;refine aD (jj (b:=Qy) (j:=i) (o':=oo+i) Nm rfl rfl yD O7) rfl ?_;refine aD (qr (v:=.iz v) rfl ((hst▸(Cy.more [_,_,_,_]).at_ h).cell (by simp[gU,hv]))) rfl ?_
  refine aD (j2 rfl rfl O2) rfl ?_;refine aD (q9 (v':=.iz (bf v 28 2)) (gx rfl rfl) (congrArg Value.iz (vo (s:=28) (k:=2) O2 O2))) rfl ?_;refine Yi ?_;by_cases hz:bf v 28 2=0∧i<os.length;rotate_left
  ·have hend:(cJ Ca (lR v (i:Int)))=cJ Ca (lR v (i:Int)):=rfl;by_cases Hi:bf v 28 2=0
   ·refine qz (.bool true) (by congr 1;rw[beq_iff_eq];exact Hi) ?_
    refine AU ?_;refine K3 ?_;refine ND ?_;refine aD (q9 (v':=.bool false) (yq rfl rfl) (congrArg Value.bool Nr)) rfl ?_;refine Ye ?_;exact qv (qt rfl (qa ⟨_,IP,DP O0 O0,h.o [1,0]⟩))
   ·refine qz (.bool false) (by congr 1;rw[beq_eq_false_iff_ne];exact Hi) ?_
    refine zX ?_;refine Y9 ?_;exact qv (qt rfl (qa ⟨_,IP,DP O0 O0,h.o [1,0]⟩))
  obtain⟨Hi,Eo⟩:=hz;refine qz (.bool true) (by congr 1;rw[beq_iff_eq];exact Hi) ?_
  refine AU ?_;refine K3 ?_;refine ND ?_;refine aD (q9 (v':=.bool true) (yq rfl rfl) (congrArg Value.bool (by rw[decide_eq_true_eq];omega))) rfl ?_
  refine Ye ?_;refine Yh ?_;refine je ?_;obtain⟨o,ho⟩:∃o,os[i]?=some o:=⟨_,Ub Eo⟩;obtain⟨b2,o2,P8⟩:∃bb oo,so=some ⟨bb,oo,none⟩:=((hro.more [_,_,_,_]).at_ h).some O0
  have Qz:Value.slice so os.length co=.slice (some ⟨b2,o2,none⟩) os.length co:=by rw[P8]
  refine HO ?_;refine aD (jj (b:=b2) (j:=i) (o':=o2+i*8) Qz rfl rfl Eo rfl) rfl ?_;refine aD (qx (l:=o.C) rfl rfl ((P8▸(hro.more [_,_,_,_]).at_ h).elem t8 ho)) rfl ?_
  refine aF rfl (qy (vs:=o.C) 0 h rfl rfl rfl rfl rfl rfl rfl fun w h=>?_);replace h:St w0 (cJ Ca o::aU p s::aN mX (bD sa E.length sc ia F.length ic nx)::g::l) w:=h;exact qv ⟨o,IP,hos o (Ue ho),h.o [1,0]⟩
 clear h;rintro o w e ⟨how,h⟩;obtain⟨m,r',s',d,G',k1,k2,k3,k4,k5,k6,k7,k8,k9,XP⟩:=hF.op O0 0 how;have hout:r'.out=r'.res:=by unfold aP.out;rw[k7];rfl
 refine Yq ?_;refine aD (qx (l:=o.C) rfl rfl (qw (h.b 1 rfl) rfl)) rfl ?_;refine aF rfl (qg rfl (iF hT k1 O0 k7 k8 O0 h) ?_);clear h;rintro _ w ⟨la,lc,rfl,h⟩;refine E9 ?_;refine aF rfl (qn h fun GG w h=>?_);refine aF rfl (qy (vs:=r'.res.C la lc) 0 h rfl rfl rfl rfl rfl rfl rfl fun w h=>?_);replace h:St w0 (aO GG r'.res la lc::aB la lc r'.res.list::aU p s'::cJ Ca o::aN mX (bD sa E.length sc ia F.length ic nx)::g::l) w:=h;replace h:St w0 (aU p s'::aO GG r'.res la lc::aB la lc r'.res.list::cJ Ca o::aN mX (bD sa E.length sc ia F.length ic nx)::g::l) w:=h.o [2,0,1];refine Y4 ?_;refine Y3 ?_;obtain⟨u1,u2,u3,u4⟩:=k5.used;have C7:s'.c.bE.most=((fm+1:Nat):Int):=k6.most.trans IL;have IM:s'.b.bA=bb:=k6.bA.trans Ey
 have hfr:(s'.c.rows.length:Int)<=((fm+1:Nat):Int):=by
  obtain⟨acc,n,_,_,hI,_⟩:=k5;rw[<- C7];exact hI.oL.good.FO
 refine yX ?_;refine Y1 ?_;refine vC ?_;refine DY ?_;refine aF rfl (qg rfl (mn h) ?_);clear h;rintro _ w ⟨q,rfl,h⟩;replace h:St w0 (aE q.b s'.b::bV p q::bF q.d s'.d::aK q.c s'.c::aS q.t s'.t.V::aO GG r'.res la lc::aB la lc r'.res.list::cJ Ca o::aN mX (bD sa E.length sc ia F.length ic nx)::g::l) w:=h.f 3;refine Yf ?_;refine aF rfl (qg rfl (fz u4 h) ?_);clear h;rintro _ w ⟨rfl,h⟩;replace h:St w0 (aU p s'::aO GG r'.res la lc::aB la lc r'.res.list::cJ Ca o::aN mX (bD sa E.length sc ia F.length ic nx)::g::l) w:=St.lJ.2 ⟨q,h.o [1,2,3,0]⟩;refine xW ?_;refine aD (q9 (v':=.bool false) (ue rfl rfl) (congrArg Value.bool Nr)) rfl ?_;refine Y9 ?_;refine DY ?_;refine aF rfl (qg rfl (ms h) ?_);clear h;rintro _ w ⟨q,rfl,h⟩;replace h:St w0 (aK q.c s'.c::bV p q::bF q.d s'.d::aE q.b s'.b::aS q.t s'.t.V::aO GG r'.res la lc::aB la lc r'.res.list::cJ Ca o::aN mX (bD sa E.length sc ia F.length ic nx)::g::l) w:=h.f 2;refine Yf ?_;refine aF rfl (qg rfl (ce h) ?_);clear h;rintro _ w ⟨rfl,h⟩;replace h:St w0 (aU p s'::aO GG r'.res la lc::aB la lc r'.res.list::cJ Ca o::aN mX (bD sa E.length sc ia F.length ic nx)::g::l) w:=St.lJ.2 ⟨q,h.o [1,2,0,3,4]⟩;refine xW ?_;refine aD (q9 (v':=.iz (fm:Int)) (gx rfl rfl) (congrArg Value.iz ((yj 2 O2 O2).trans Se))) rfl ?_;refine Yf ?_;refine tC ?_;refine qz (.iz ((fm+1:Nat):Int)) KS ?_;refine Yf ?_;refine aD (q9 (v':=.bool false) (ue rfl rfl) (congrArg Value.bool Nr)) rfl ?_;refine Y9 ?_;refine Y8 ?_;refine GW ?_;refine aD (qq (v:=.iz r'.res.err) rfl (h.b 1 rfl) rfl) rfl ?_
 refine Yi ?_
 have Nn:(r'.res.err=9∧abs s' G'=abs s G)∨(r'.res.err≠9∧(abs s G).act o=(abs s' G',r'.res)):=by
  cases XP with
  |gF ha=>
   refine .inr ⟨fun h9=>XO (abs s G) o ?_,ha⟩;rw[ha];exact h9
  |full ha hr=>exact .inl ⟨by rw[hr],ha⟩
 rcases Nn with⟨h9,ha⟩|⟨h9,ha⟩
 ·refine qz (.bool true) (by congr 1;rw[beq_iff_eq];exact h9) ?_
  refine qv (j6 rfl (ju ?_));exact Eq.mpr (if_pos rfl) ⟨⟨i+1,s',E,F,sa,sc,ia,ic,nx,g⟩,yQ,rfl,⟨G',k5,by rw[ha];exact KK⟩,hbd.one,C7,IM,KL,h.x [1,2,3]⟩
 refine qz (.bool false) (by congr 1;rw[beq_eq_false_iff_ne];exact h9) ?_
 refine Y8 ?_;refine Y1 ?_;refine aD (qx (l:=bD sa E.length sc ia F.length ic nx) rfl rfl (qw (h.b 4 rfl) rfl)) rfl ?_;refine aD (qx (l:=o.C) rfl rfl (qw (h.b 3 rfl) rfl)) rfl ?_;replace h:St w0 ([aU p s',aO GG r'.res la lc,aB la lc r'.res.list,cJ Ca o,aN mX (bD sa E.length sc ia F.length ic nx)]++(g::l)) w:=h;refine aF rfl (qg rfl (Gf hbd O0 KL h) ?_);clear h;rintro _ w ⟨E',F',sa',Ge,sX,sY,IN,res,ra,rc,G2,rfl,hD,No,hres,h⟩;obtain⟨d1,d2⟩:=hD.rep _ KK;rw[ha] at d1 d2;dsimp only at d1 d2;subst d1;replace h:St w0 (G2::aU p s'::aO GG r'.res la lc::aB la lc r'.res.list::cJ Ca o::aN mX (bD sa E.length sc ia F.length ic nx)::g::l) w:=h;refine Ct ?_;refine aF rfl (qn h fun Sf w h=>?_);refine aF rfl (qn h fun Sg w h=>?_);refine aF rfl (qy (vs:=bD sa' E'.length Ge sX F'.length sY IN) 1 h rfl rfl rfl rfl rfl rfl rfl fun w h=>?_);refine aF rfl (qy (vs:=r'.res.C ra rc) 0 h rfl rfl rfl rfl rfl rfl rfl fun w h=>?_);replace h:St w0 (aO Sg r'.res ra rc::aN Sf (bD sa' E'.length Ge sX F'.length sY IN)::G2::aU p s'::aO GG r'.res la lc::aB la lc r'.res.list::cJ Ca o::aN mX (bD sa E.length sc ia F.length ic nx)::g::l) w:=h;refine yX ?_;refine Y1 ?_;refine aD (qx (l:=r'.res.C la lc) rfl rfl (qw (h.b 4 rfl) rfl)) rfl ?_;refine aD (qx (l:=r'.res.C ra rc) rfl rfl (qw (h.b 0 rfl) rfl)) rfl ?_;refine aF rfl (qg rfl (tV (a:=r'.res) (b:=r'.res) O0 ((Reads.own (l:=cJ Ca o::aN mX (bD sa E.length sc ia F.length ic nx)::g::l)).more [_,_,_,_,_]) (KG hres [_,_] [_,_,_,_,_]) h) ?_);clear h;rintro _ w ⟨rfl,h⟩;refine qz (.bool true) (by congr 1;rw[decide_eq_true_eq];exact⟨rfl,rfl,rfl⟩) ?_
 refine oO ?_;refine qz (.bool false) rfl ?_;refine Y8 ?_;refine je ?_;refine aD (qx (l:=bD sa' E'.length Ge sX F'.length sY IN) rfl rfl (qw (h.b 1 rfl) rfl)) rfl ?_;refine aF rfl (qy (vs:=bD sa' E'.length Ge sX F'.length sY IN) 7 h rfl rfl rfl rfl rfl rfl rfl fun w h=>?_);replace h:St w0 (aO Sg r'.res ra rc::aN Sf (bD sa' E'.length Ge sX F'.length sY IN)::G2::aU p s'::aO GG r'.res la lc::aB la lc r'.res.list::cJ Ca o::aN mX (bD sa' E'.length Ge sX F'.length sY IN)::g::l) w:=h;replace h:St w0 (G2::g::aU p s'::aN mX (bD sa' E'.length Ge sX F'.length sY IN)::l) w:=(h.x [0,1,4,5,6]).o [0,3,1,2];exact qv ⟨⟨i+1,s',E',F',sa',Ge,sX,sY,IN,all [G2,g]⟩,yQ,rfl,⟨G',k5,d2⟩,hD.bd _ hbd,C7,IM,No.two,(St.two h).o [1,2,0]⟩
end
end
end Go.Proofs.YtngdfdangkdgcaaGreatDoor
