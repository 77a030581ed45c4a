/- What the proof of ProgAlone needs, part 3: plain lemmas, and what each function does. -/
import Derived.Test.YtngdfdangkdgcaaGreatDoorQProgAloneb
import Derived.KernelRfl
set_option linter.unusedVariables false
set_option linter.unusedSimpArgs false
set_option linter.unnecessarySimpa false
set_option maxRecDepth 100000
set_option maxHeartbeats 4000000
namespace Go.Hw
section
def bL.C(k:bL):List Value:=[.iz k.aA,.iz k.bN,.iz k.bB]
def Pg.C(p:Pg):List Value:=[.iz p.key.aA,.iz p.key.bN,.iz p.key.bB,.iz p.kind,.bool p.ref,.bool p.bW,.iz p.pins]
def aT.C(a:Option Addr)(c:Nat)(q:aT):List Value:=[.iz q.most,.iz q.target,.slice a q.pages.length c,.iz (q.bK:Int),.iz (q.bM:Int),.iz (q.test:Int)]
abbrev cO(l:List Pg):List Value:=l.flatMap Pg.C
theorem gb(p:Pg):p.C.length=7:=rfl
theorem up(l:List Pg):(cO l).length=l.length*7:=eT gb l
theorem xj(l:List Pg):∀u∈cO l,u.oneCell'=true:=by
 intro u hu;obtain⟨p,_,hp⟩:=Xk.1 hu;simp only[Pg.C,Up,Zb,or_false] at hp;rcases hp with rfl|rfl|rfl|rfl|rfl|rfl|rfl <;> rfl
theorem dh(l:List Pg)(i:Nat):(cO l).take (i*7)=cO (l.take i):=by
 induction l generalizing i with
 |nil=>simp[cO]
 |cons a l ih=>
  cases i with
  |zero=>simp[cO]
  |succ i=>
   rw[Vu,cO,cO,Ui,Ui,Zv,Wy,Zt,gb,Xx,Uu (by rw[gb];omega)]
   exact congrArg _ (ih i)
theorem db(l:List Pg)(i:Nat):(cO l).drop (i*7)=cO (l.drop i):=by
 induction l generalizing i with
 |nil=>simp[cO]
 |cons a l ih=>
  cases i with
  |zero=>simp[cO]
  |succ i=>
   rw[Wg,cO,cO,Ui,Zv,Wy,Zs,gb,Xx,Vv (by rw[gb];omega),Us]
   exact ih i
end
end Go.Hw
namespace Go.Proofs.YtngdfdangkdgcaaGreatDoor
open Go.Hw _root_.Go.Proofs.Tryz
section
instance JG:EM prog 51 [.i64,.i64,.i64]:=⟨⟨_,underlying51,by kernel_rfl⟩,by kernel_rfl,by kernel_rfl⟩
abbrev bC(a:Option Addr)(c:Nat)(l:List Pg):aC:=eW 113 7 a l.length c (cO l)
abbrev pT(b:Nat)(p:Pg):aC:=pt b (.cells p.C.toArray 113 (0,0))
abbrev dR(b:Nat)(a:Option Addr)(c:Nat)(q:aT):aC:=pt b (.cells (q.C a c).toArray 104 (0,0))
abbrev bS(b:Nat)(k:bL):aC:=pt b (.cells k.C.toArray 51 (0,0))
section
variable{w0 w:World}{l:List aC}
def Eb(f:FuncId)(pr:Pg->Bool):Prop:=∀{w0 w:World} {l:List aC} (p:Pg),St w0 l w->bP prog f [.agg p.C.toArray] w fun v w'=>v=.bool (pr p)∧St w0 l w'
theorem cu:Eb 121 Pg.bK:=by
 intro w0 w l p h;refine en func121 results121 ntmps121 ?_;refine Y1 ?_;refine aF rfl (jk h (show _=Value.agg p.C.toArray from rfl) fun b w h=>?_);replace h:St w0 (pT b p::l) w:=h;refine Ya ?_;refine qK ?_;refine aD (qq (v:=.iz p.kind) rfl (h.b 0 rfl) rfl) rfl ?_;refine Yi ?_;refine Y3 ?_;exact qv (qk (bQ ⟨rfl,h.drop⟩))
theorem mj:Eb 133 Pg.test:=by
 intro w0 w l p h;refine en func133 results133 ntmps133 ?_;refine Y1 ?_;refine aF rfl (jk h (show _=Value.agg p.C.toArray from rfl) fun b w h=>?_);replace h:St w0 (pT b p::l) w:=h;refine Ya ?_;refine qK ?_;refine aD (qq (v:=.iz p.kind) rfl (h.b 0 rfl) rfl) rfl ?_;refine Yi ?_;refine Y3 ?_;exact qv (qk (bQ ⟨rfl,h.drop⟩))
theorem gl:Eb 80 Pg.aJ:=by
 intro w0 w l p h;refine en func80 results80 ntmps80 ?_;refine Y1 ?_;refine aF rfl (jk h (show _=Value.agg p.C.toArray from rfl) fun b w h=>?_);replace h:St w0 (pT b p::l) w:=h;refine Ya ?_;refine qK ?_;refine aD (qq (v:=.iz p.kind) rfl (h.b 0 rfl) rfl) rfl ?_;refine Yi ?_;cases hc:(p.kind==1)
 ·refine pV ?_;refine aD (qq (v:=.iz p.kind) rfl (h.b 0 rfl) rfl) rfl ?_;refine EH ?_;refine xM ?_;exact qv (qk (bQ ⟨by unfold Pg.aJ;rw[hc];rfl,h.drop⟩))
 ·refine yY ?_;refine Cs ?_;refine Y3 ?_;exact qv (qk (bQ ⟨by unfold Pg.aJ;rw[hc];rfl,h.drop⟩))
theorem l9:Eb 81 Pg.free:=by
 intro w0 w l p h;refine en func81 results81 ntmps81 ?_;refine Y1 ?_;refine aF rfl (jk h (show _=Value.agg p.C.toArray from rfl) fun b w h=>?_);replace h:St w0 (pT b p::l) w:=h;refine Ya ?_;refine Y1 ?_;refine aD (qx (l:=p.C) rfl rfl (qw (h.b 0 rfl) rfl)) rfl ?_;refine aF rfl (qg rfl (gl p h) ?_);clear h;rintro _ w ⟨rfl,h⟩;cases hc:p.aJ
 ·refine DZ ?_;refine xM ?_;exact qv (qk (bQ ⟨by unfold Pg.free;rw[hc];rfl,h.drop⟩))
 ·refine pV ?_;refine aD (qq (v:=.iz p.pins) rfl (h.b 0 rfl) rfl) rfl ?_;refine EH ?_;refine Dh ?_;exact qv (qk (bQ ⟨by unfold Pg.free;rw[hc];rfl,h.drop⟩))
theorem zb:Eb 116 Pg.cA:=by
 intro w0 w l p h;refine en func116 results116 ntmps116 ?_;refine Y1 ?_;refine aF rfl (jk h (show _=Value.agg p.C.toArray from rfl) fun b w h=>?_);replace h:St w0 (pT b p::l) w:=h;refine Ya ?_;refine qK ?_;refine aD (qq (v:=.iz p.kind) rfl (h.b 0 rfl) rfl) rfl ?_;refine Yi ?_;cases hc:(p.kind==2)
 ·refine DZ ?_;refine xM ?_;exact qv (qk (bQ ⟨by unfold Pg.cA;rw[hc];rfl,h.drop⟩))
 ·refine pV ?_;refine aD (qq (v:=.iz p.pins) rfl (h.b 0 rfl) rfl) rfl ?_;refine EH ?_;refine Dh ?_;exact qv (qk (bQ ⟨by unfold Pg.cA;rw[hc];rfl,h.drop⟩))
theorem tO{l:List Pg}{k:Nat}{p:Pg}(hp:l[k]?=some p)(f:Pg->Bool):(l.take (k+1)).countP f=(l.take k).countP f+(if f p then 1 else 0):=by
 rw[Vk,hp];simp[List.countP_append,Wr]
theorem gm{f:FuncId}{pr:Pg->Bool}[cC prog f](hf:Eb f pr){a:Option Addr}{c:Nat}{q:aT}(hn:q.pages.length<=1000000)(hr:Reads w0 l 7 a q.pages.length (cO q.pages))(h:St w0 l w):
  bP prog 79 [.agg (q.C a c).toArray,.func (.func f) #[] #[]] w fun v w'=>v=.iz (q.count pr)∧St w0 l w':=by
 refine en func79 results79 ntmps79 ?_;refine Y1 ?_;refine aF rfl (jk h (show _=Value.agg (q.C a c).toArray from rfl) fun b w h=>?_);replace h:St w0 (dR b a c q::l) w:=h;refine Y5 ?_;refine Yr ?_;refine GW ?_;refine aD (qq (v:=.slice a q.pages.length c) rfl (h.b 0 rfl) rfl) rfl ?_;refine rJ ?_;refine Y0 ?_;refine Y2 ?_;replace h:=h.drop;refine Yg ?_
 refine jy (Γ:=Nat) (fun k=>[(1,.func (.func f) #[] #[]),(5,.iz ((q.pages.take k).countP pr:Nat)),(9,.slice a q.pages.length c),(10,.iz q.pages.length),(11,.iz k)])
  (fun k w=>k<=q.pages.length∧St w0 l w) (fun k=>q.pages.length-k) 0 pS ⟨Uf _,h⟩ ?_
 clear h;rintro k w e ⟨hkn,h⟩;refine E5 ?_;by_cases hlt:k<q.pages.length
 ·refine qz (.bool true) O3 ?_;refine Gj ?_;refine Yu ?_;have fM:q.pages[k]?=some q.pages[k]:=Ub hlt;generalize q.pages[k]=p at fM;have lC:=h;obtain⟨b2,o2,rfl⟩:=(hr.at_ h).some O0
  have h:=lC;refine Ch ?_;refine Y1 ?_;refine aD (jj (j:=k) (o':=o2+k*7) rfl rfl rfl hlt rfl) rfl ?_;refine aD (qx (l:=p.C) rfl rfl ((hr.at_ h).elem gb fM)) rfl ?_
  refine aF rfl (qn h fun b5 w h=>?_);refine aF rfl (qy (vs:=p.C) 0 h rfl rfl rfl rfl rfl rfl rfl fun w h=>?_);replace h:St w0 (pT b5 p::l) w:=h;refine Yl ?_;refine aD (S8 rfl) rfl ?_;refine aD (qx (l:=p.C) rfl rfl (qw (h.b 0 rfl) rfl)) rfl ?_;refine aF rfl (S9 rfl rfl (hf p h) ?_);clear h;rintro _ w ⟨rfl,h⟩;replace h:=h.drop;have Lb:=tO fM pr;have xP:=Wc (p:=pr) (l:=q.pages.take k);have Am:(q.pages.take k).length=k:=by rw[Ul];omega
  refine qv (qo (pr p) rfl (fun hc=>?_) (fun hc=>?_))
  ·refine Bk ?_;refine Y5 ?_;refine Yw ?_;refine qz (.iz (k+1:Nat)) C8 ?_;refine Y0 ?_;refine qv ⟨k+1,⟨rfl,?_,rfl,rfl,rfl,trivial⟩,⟨hlt,h⟩,cI⟩;rw[Lb,if_pos hc];show Value.iz (IntKind.i64.wrap (((q.pages.take k).countP pr:Nat)+1))=_;rw[wrap64 O0 O0];rfl
  ·refine HR ?_;refine qz (.iz (k+1:Nat)) C8 ?_;refine Y0 ?_;refine qv ⟨k+1,⟨rfl,?_,rfl,rfl,rfl,trivial⟩,⟨hlt,h⟩,cI⟩;rw[Lb,if_neg (by rw[hc];simp)]
   rfl
 ·refine qz (.bool false) O4 ?_;refine qv (qi (qt rfl (ju ?_)));refine GX ?_;obtain rfl:k=q.pages.length:=by omega
  refine qv (qk (bQ ⟨?_,h⟩));show Value.iz ((q.pages.take q.pages.length).countP pr:Nat)=_;rw[Xa];rfl
theorem np{f:FuncId}{pr:Pg->Bool}{us:List Value}[cC prog f]{a:Option Addr}{c:Nat}{L:List Pg}(hf:∀w (p:Pg),St w0 l w->bP prog f ([.agg p.C.toArray]++us) w fun v w'=>v=.bool (pr p)∧St w0 l w')(hn:L.length<=1000000)(hr:Reads w0 l 7 a L.length (cO L))(h:St w0 l w):
  bP prog 112 [.slice a L.length c,.func (.func f) #[] us.toArray] w fun v w'=>v=.iz ((L.findIdx? pr).elim (-1) (fun i:Nat=>(i:Int)))∧St w0 l w':=by
 refine en func112 results112 ntmps112 ?_;refine Yr ?_;refine LI ?_;refine DX ?_
 refine jy (Γ:=Nat) (fun k=>[(0,.slice a L.length c),(1,.func (.func f) #[] us.toArray),(7,.iz L.length),(8,.iz k)])
  (fun k w=>k<=L.length∧(∀x∈L.take k,pr x=false)∧St w0 l w) (fun k=>L.length-k) 0 iA ⟨Uf _,by simp,h⟩ ?_
 clear h;rintro k w e ⟨hkn,hpre,h⟩;refine E5 ?_;by_cases hlt:k<L.length
 ·refine qz (.bool true) O3 ?_;refine Gj ?_;refine Yu ?_;have fM:L[k]?=some L[k]:=Ub hlt;generalize L[k]=p at fM;have lC:=h;obtain⟨b2,o2,rfl⟩:=(hr.at_ h).some O0
  have h:=lC;refine Ch ?_;refine GQ ?_;refine Y1 ?_;refine aD (Tc rfl) rfl ?_;refine HO ?_;refine aD (jj (j:=k) (o':=o2+k*7) rfl rfl rfl hlt rfl) rfl ?_;refine aD (qx (l:=p.C) rfl rfl ((hr.at_ h).elem gb fM)) rfl ?_
  refine aF rfl (Td rfl rfl (hf w p h) ?_);clear h;rintro _ w ⟨rfl,h⟩;refine qv (qo (pr p) rfl (fun hc=>?_) (fun hc=>?_))
  ·refine GX ?_;refine qv (qk (bQ ⟨?_,h⟩))
   have Lc:L.findIdx? pr=some k:=by
    rw[Zj];refine⟨hlt,by rw[(Uc.1 fM).2];exact hc,fun j hj=>?_⟩
    have:=hpre L[j] (List.mem_take_iff_getElem.2 ⟨j,cI,rfl⟩);simp[this]
   rw[Lc];rfl
  ·refine HR ?_;refine qz (.iz (k+1:Nat)) C8 ?_;refine Y0 ?_;refine qv ⟨k+1,iA,⟨hlt,fun x hx=>?_,h⟩,cI⟩;rw[Vk,fM] at hx;rcases Vc.1 hx with hx|hx
   ·exact hpre x hx
   ·obtain rfl:x=p:=by simpa using hx
    exact hc
 ·refine qz (.bool false) O4 ?_;refine qv (qi (qt rfl (ju ?_)));refine rC ?_;refine qv (qk (bQ ⟨?_,h⟩))
  have Lc:L.findIdx? pr=none:=by
   rw[List.findIdx?_eq_none_iff];intro x hx;exact hpre x (by rw[Uu O0];exact hx)
  rw[Lc];rfl
theorem ot{b:Nat}{k:bL}(p:Pg){M:List aC}(h:St w0 (bS b k::M) w):bP prog 113 ([.agg p.C.toArray]++[.pz b]) w fun v w'=>v=.bool (p.key==k)∧St w0 (bS b k::M) w':=by
 refine en func113 results113 ntmps113 ?_;refine Y1 ?_;refine aF rfl (jk h (show _=Value.agg p.C.toArray from rfl) fun b2 w h=>?_);replace h:St w0 (pT b2 p::bS b k::M) w:=h;refine Ya ?_;refine qK ?_;refine aD (qx (l:=p.key.C) rfl rfl (qw (h.b 0 rfl) rfl)) rfl ?_;refine aD (qx (l:=k.C) rfl rfl (qw (h.b 1 rfl) rfl)) rfl ?_;refine aD (Mc [p.key.aA,p.key.bN,p.key.bB] [k.aA,k.bN,k.bB] rfl rfl rfl rfl) rfl ?_;refine Y3 ?_;refine qv (qk (bQ ⟨?_,h.drop⟩));show Value.bool ([p.key.aA,p.key.bN,p.key.bB]==[k.aA,k.bN,k.bB])=_;congr 1;rw[Zx,beq_iff_eq,beq_iff_eq];obtain⟨⟨a,b,c⟩,_⟩:=p;obtain⟨d,e,f⟩:=k;simp
def DA(o:Option Nat):Int:=o.elim (-1) (fun i:Nat=>(i:Int))
theorem zv{a:Option Addr}{c:Nat}{q:aT}{k:bL}(hn:q.pages.length<=1000000)(hr:Reads w0 l 7 a q.pages.length (cO q.pages))(h:St w0 l w):
  bP prog 83 [.agg (q.C a c).toArray,.agg k.C.toArray] w fun v w'=>v=.iz (DA (q.find k))∧St w0 l w':=by
 refine en func83 results83 ntmps83 ?_;refine Y1 ?_;refine aF rfl (jk h (show _=Value.agg (q.C a c).toArray from rfl) fun b w h=>?_);refine aF rfl (jk h (show _=Value.agg k.C.toArray from rfl) fun b2 w h=>?_);replace h:St w0 (bS b2 k::dR b a c q::l) w:=h;refine Y5 ?_;refine qK ?_;refine aD (qq (v:=.slice a q.pages.length c) rfl (h.b 1 rfl) rfl) rfl ?_;refine aD (om rfl) rfl ?_;refine aF rfl (qg rfl (np (us:=[.pz b2]) (pr:=fun p=>p.key==k) (fun w p h=>ot p h) hn (hr.more [_,_]) h) ?_);clear h;rintro _ w ⟨rfl,h⟩;refine Y4 ?_;exact qv (qk (bQ ⟨rfl,h.drop.drop⟩))
theorem oi{a:Option Addr}{c:Nat}{L:List Pg}(hn:L.length<=1000000)(hr:Reads w0 l 7 a L.length (cO L))(h:St w0 l w):
  bP prog 111 [.slice a L.length c] w fun v w'=>∃a' c',v=.slice a' L.length c'∧St w0 (bC a' c' L::l) w':=by
 refine en func111 results111 ntmps111 ?_;refine GP ?_;refine Yd ?_;refine aD (ur rfl rfl) rfl ?_;refine qv (qo a.isNone rfl (fun hs=>?_) (fun hs=>?_))
 ·refine xV ?_;obtain rfl:a=none:=by simpa using hs
  obtain⟨h3,h4⟩:=hr.at_ h
  have hl:L.length=0:=by rcases h4 with h|⟨b,o,h,_⟩;exact h;cases h
  obtain rfl:L=[]:=Uq hl;exact qv (qk (bQ ⟨none,0,rfl,St.aZ _ _ h⟩))
 ·refine Yu ?_;refine Y1 ?_;refine aF rfl (jq (r:=[]) h rfl rfl rfl fun b w h=>?_);refine Yp ?_;have h1:St w0 (eW 113 7 (sQ b) 0 0 []::l) w:=St.iH (cur:=[]) h rfl rfl (Ug _);refine aF rfl (ql (ys:=cO L) (zs:=cO L) (m3:=L.length) h1 rfl rfl (hr.cons.at_ h1) (xj _) O0 rfl O0 O0 rfl fun a' c' w _ h=>?_)
  refine Yo ?_;exact qv (qk (bQ ⟨a',c',rfl,h⟩))
theorem eq{a:Option Addr}{c:Nat}{L:List Pg}(h:St w0 (bC a c L::l) w):
  bP prog 110 [.slice a L.length c] w fun v w'=>v=.slice a L.length L.length∧St w0 (bC a L.length L::l) w':=by
 have hc:=h.bT.2.1;refine en func110 results110 ntmps110 ?_;refine Bl ?_;refine Yd ?_;refine sV ?_;refine sV ?_;refine aD (xx rfl rfl rfl (Ug _) hc) rfl ?_;refine Yo ?_;exact qv (qk (bQ ⟨rfl,h.mY⟩))
theorem gn{a:Option Addr}{c:Nat}{q:aT}(hn:q.pages.length<=1000000)(hr:Reads w0 l 7 a q.pages.length (cO q.pages))(h:St w0 l w):
  bP prog 82 [.agg (q.C a c).toArray] w fun v w'=>∃a' c',v=.agg (q.C a' c').toArray∧St w0 (bC a' c' q.pages::l) w':=by
 refine en func82 results82 ntmps82 ?_;refine Y1 ?_;refine aF rfl (jk h (show _=Value.agg (q.C a c).toArray from rfl) fun b w h=>?_);refine aF rfl (qn h fun b2 w h=>?_);replace h:St w0 (pt b2 (.cells [.iz 0,.iz 0,.slice none 0 0,.iz 0,.iz 0,.iz 0].toArray 104 (0,0))::dR b a c q::l) w:=h;refine Cv ?_;refine aD (qq (v:=.slice a q.pages.length c) rfl (h.b 1 rfl) rfl) rfl ?_;refine aF rfl (qg rfl (oi hn (hr.more [_,_]) h) ?_);clear h;rintro _ w ⟨a',c',rfl,h⟩;refine aF rfl (qg rfl (eq h) ?_);clear h;rintro _ w ⟨rfl,h⟩;refine Yc ?_;refine aF rfl (qb 2 h rfl (show _=Value.slice a' q.pages.length q.pages.length from rfl) rfl rfl rfl rfl fun w h=>?_);replace h:St w0 (bC a' q.pages.length q.pages::pt b2 (.cells [.iz 0,.iz 0,.slice none 0 0,.iz 0,.iz 0,.iz 0].toArray 104 (0,0))::dR b a' q.pages.length q::l) w:=h;refine Yl ?_;refine aD (qx (l:=q.C a' q.pages.length) rfl rfl (qw (h.b 2 rfl) rfl)) rfl ?_;refine aF rfl (qy (vs:=q.C a' q.pages.length) 1 h rfl rfl rfl rfl rfl rfl rfl fun w h=>?_);refine qv (qk ?_);refine Ly (v:=.agg (q.C a' q.pages.length).toArray) (js (by rfl) (qw (h.b 1 rfl) rfl)) ⟨a',q.pages.length,rfl,?_⟩
 exact h.x [1,2]
end
end
section
section
variable{w0 w:World}{l:List aC}
theorem Tm(a b:List Pg):cO a++cO b=cO (a++b):=by simp[cO]
theorem BM(L:List Pg)(i:Nat):L.take i++L.drop (i+1)=L.eraseIdx i:=by rw[List.eraseIdx_eq_take_drop_succ]
theorem xn{g c i m:Nat}(h:i<c):nI (sQ g) (i*m) (Nat.beq c i)=some ⟨g,i*m,none⟩:=by
 have:Nat.beq c i=false:=by
  cases hh:Nat.beq c i with
  |false=>rfl
  |true=>have:=Vg hh;omega
 rw[this];show some (Addr.add ⟨g,0,none⟩ (i*m))=_;unfold Addr.add;split
 ·rename_i h0;rw[h0]
 ·simp
theorem cy{a:Option Addr}{c i:Nat}{L:List Pg}(hn:L.length<=1000000)(hi:i<L.length)(h:St w0 (bC a c L::l) w):
  bP prog 114 [.slice a L.length c,.iz i,.iz (i+1:Nat)] w fun v w'=>v=.slice a (L.eraseIdx i).length c∧St w0 (bC a c (L.eraseIdx i)::l) w':=by
 have hc:=h.bT.2.1;have AX:(L.eraseIdx i).length=L.length-1:=Zd hi;obtain⟨g,rfl⟩:=h.dF O0;refine en func114 results114 ntmps114 ?_;refine Bl ?_;refine EJ ?_;refine Y0 ?_;refine sV ?_;refine aD (JE rfl rfl rfl rfl (Nat.le_succ i) O0 hc) rfl ?_;refine yX ?_;refine Gk ?_;refine Yi ?_;refine qz (.bool false) O6 ?_;refine Y8 ?_;refine HS ?_;refine Y5 ?_;refine qi (jz (some 6) (fun w=>St w0 (bC (sQ g) c L::l) w) O1 O1 h.drew fun w h=>?_);refine Dg ?_;refine cD rfl rfl rfl rfl h rfl (vh (h:=i) rfl rfl O0) ?_;refine Dg ?_;refine cD rfl rfl rfl rfl h rfl (gu (i:=i+1) rfl rfl O0) ?_;refine Yn ?_
 have hrd:Rd w 7 (nI (sQ g) ((i+1)*7) (Nat.beq c (i+1))) (L.length-(i+1)) (cO (L.drop (i+1))):=by
  rw[<- db];exact h.bU.tail O0 hc
 have ht:=h.BG (i:=i) O0;rw[dh] at ht;refine jx 6 none rfl rfl rfl rfl ?_;refine Ti (g':=g) (m3:=(L.eraseIdx i).length) (zs:=cO (L.eraseIdx i)) ht rfl (show _=Value.slice (sQ g) i c from rfl) rfl hrd (xj _) O0 O0 (by rw[Tm,BM]) rfl fun w h=>?_
 refine jh h ?_;clear ht hrd;refine zW ?_;refine qm ?_;refine Yd ?_;refine sV ?_;refine Y0 ?_
 refine aD (q9 (v':=.slice (some ⟨g,(L.eraseIdx i).length*7,none⟩) 1 (c-(L.eraseIdx i).length)) (HW (i:=(L.eraseIdx i).length) (j:=L.length) rfl rfl rfl O0 O0) (by
  rw[show L.length-(L.eraseIdx i).length=1 by omega]
  exact congrArg (fun a=>Value.slice a 1 (c-(L.eraseIdx i).length)) (xn O0))) rfl ?_
 refine aF rfl (Th h rfl rfl rfl O0 rfl O2 fun w h=>?_);refine Y2 ?_;refine Yd ?_;refine Yo ?_;exact qv (qk (bQ ⟨rfl,h⟩))
abbrev iG(L:List Pg)(i:Nat)(p:Pg):List Pg:=L.take i++p::L.drop i
theorem BN{L:List Pg}{i:Nat}{p:Pg}(hi:i<=L.length):(iG L i p).length=L.length+1:=by
 simp only[iG,Ua,Uj,Ul,Um];omega
theorem Mp{L:List Pg}{i:Nat}{p:Pg}(hi:i<=L.length){ys:List Value}(hy:ys.length=(L.length+1-i)*7):putAt (putAt (cO (L.take i)++ys) (i*7) p.C) ((i+1)*7) (cO (L.drop i))=cO (iG L i p):=by
 have e1:(cO (L.take i)).length=i*7:=by rw[up,Ul,Vn hi]
 have e3:(cO (L.drop i)).length=(L.length-i)*7:=by rw[up,Um]
 have e2:(putAt (cO (L.take i)++ys) (i*7) p.C)=cO (L.take i)++p.C++ys.drop 7:=by
  unfold putAt;rw[<- e1,Kh,Zs,gb,Vv O0,Us,show(cO (L.take i)).length+7-(cO (L.take i)).length=7 by omega]
 rw[e2];unfold putAt;have e4:(cO (L.take i)++p.C).length=(i+1)*7:=by rw[Ua,e1,gb];omega
 have e5:(cO (L.take i)++p.C++ys.drop 7).length<=(cO (L.take i)++p.C).length+(cO (L.drop i)).length:=by rw[Ua,e4,Um,e3];omega
 rw[<- e4,Kh,Vv e5,Ux];simp[iG,cO,Xp,Ui]
theorem Mq{L:List Pg}{i:Nat}{p:Pg}(hi:i<=L.length){ys:List Value}(hy:ys.length=7):putAt (putAt (cO L++ys) ((i+1)*7) ((cO (L.drop i)++ys).take ((L.length-i)*7))) (i*7) p.C=cO (iG L i p):=by
 have e0:(cO L).length=L.length*7:=up L;have e1:(cO (L.take i)).length=i*7:=by rw[up,Ul,Vn hi]
 have e3:(cO (L.drop i)).length=(L.length-i)*7:=by rw[up,Um]
 rw[<- e3,Kh]
 have e4:putAt (cO L++ys) ((i+1)*7) (cO (L.drop i))=(cO L++ys).take ((i+1)*7)++cO (L.drop i):=by
  unfold putAt;have e5:(cO L++ys).length<=(i+1)*7+(cO (L.drop i)).length:=by rw[Ua,e0,hy,e3];omega
  rw[Vv e5,Ux]
 rw[e4];unfold putAt;have e5:((cO L++ys).take ((i+1)*7)).length=(i+1)*7:=by rw[Ul,Ua,e0,hy];omega
 have e6:((cO L++ys).take ((i+1)*7)++cO (L.drop i)).take (i*7)=cO (L.take i):=by
  rw[Xw O0,Kf,Vn O0,Xw O0,dh]
 rw[e6,Zs,e5,gb,Vv O0,Us,show i*7+7-(i+1)*7=0 by omega,Xg]
 simp[iG,cO,Xp,Ui]
theorem cz{a:Option Addr}{c i bv:Nat}{L:List Pg}{p:Pg}(hn:L.length<=1000000)(hi:i<=L.length)(hL:0<L.length)(h:St w0 (pT bv p::bC a c L::l) w):
  bP prog 120 [.slice a L.length c,.iz i,.slice (sQ bv) 1 1] w fun v w'=>∃a' c',v=.slice a' (iG L i p).length c'∧St w0 (bC a' c' (iG L i p)::l) w':=by
 have hc:=(h.f 1).bT.2.1;have hil:=BN (p:=p) hi;obtain⟨g,rfl⟩:=(h.f 1).dF hL;have hv:∀{w:World},w.heap[bv]?=some (.cells p.C.toArray 113 (0,0))->Rd w 7 (sQ bv) 1 p.C:=fun h=>⟨rfl,.inr ⟨bv,0,rfl,qw h rfl⟩⟩;have A0:∀u∈p.C,u.oneCell'=true:=by have:=xj [p];simpa[cO] using this
 refine en func120 results120 ntmps120 ?_;refine Bl ?_;refine EJ ?_;refine aD (gu (i:=i) rfl rfl hi) rfl ?_;refine Y2 ?_;refine HS ?_;refine Y5 ?_;refine K7 ?_;refine Y8 ?_;refine HS ?_;refine Y5 ?_;refine vT ?_;refine Y0 ?_;refine Yi ?_;by_cases hin:i=L.length
 ·refine qz (.bool true) HH ?_;refine Yh ?_;refine Yd ?_;refine Yp ?_;refine aF rfl (ql (ys:=p.C) (zs:=cO (iG L i p)) (m3:=(iG L i p).length) (h.f 1) rfl rfl (hv (h.b 0 rfl)) A0 O0 (by rw[hin];simp[iG,cO,Xp]) O0 O0 rfl fun a' c' w _ h=>?_)
  refine Yo ?_;exact qv (qk (bQ ⟨a',c',rfl,h.x [1]⟩))
 refine qz (.bool false) O6 ?_;refine Y8 ?_;refine vT ?_;refine Y0 ?_;refine aD (q9 (v':=.iz (L.length+1:Nat)) (vv rfl rfl) (congrArg Value.iz ((wrap64 O0 O0).trans O0))) rfl ?_;refine Yp ?_;refine aD (Pm rfl) rfl ?_;refine Cr ?_;by_cases hcap:c<L.length+1
 ·refine qz (.bool true) O3 ?_;refine Yh ?_;refine EJ ?_;refine aD (vh (h:=i) rfl rfl O0) rfl ?_;refine DV ?_;refine aD (q9 (v':=.iz (L.length+1:Nat)) (vv rfl rfl) (congrArg Value.iz ((wrap64 O0 O0).trans O0))) rfl ?_;refine Y0 ?_;refine aD (q9 (v':=.iz (L.length+1-i:Nat)) (vk rfl rfl) (congrArg Value.iz ((wrap64 O0 O0).trans O0))) rfl ?_
  have Cy:Rd w 7 (sQ g) i (cO (L.take i)):=by
   have:=((h.f 1).BG (i:=i) hi).bU
   rwa [dh] at this
  refine aF rfl (JF underlying3 h rfl rfl Cy O0 O0 O0 rfl fun b2 c2 ys w hys h=>?_);clear Cy;refine Yz ?_;refine EJ ?_
  refine aD (q9 (v':=.slice (some ⟨b2,i*7,none⟩) (L.length+1-i) (c2-i)) (gu (i:=i) rfl rfl O0) (by
   have:=h.bT.2.1;rw[show i+(L.length+1-i)-i=L.length+1-i by omega]
   exact congrArg (fun a=>Value.slice a (L.length+1-i) (c2-i)) (xn O0))) rfl ?_
  refine Yp ?_;refine aF rfl (ns (ys:=p.C) h rfl rfl rfl (hv (h.b 1 rfl)) (fun u hu=>A0 u (Vl hu)) O0 rfl fun w h=>?_);have e1:min 1 (L.length+1-i)=1:=by omega
  rw[e1,Nat.one_mul,Uu (show p.C.length<=7 from Ug 7)] at h;refine Y2 ?_;have lO:=h.bT.2.1;refine qi (jz (some 8) (fun w=>St w0 _ w) O1 O1 h.drew fun w h=>?_);refine Dg ?_;refine Yt ?_;refine cD rfl rfl rfl rfl h rfl (q9 (v':=.iz (i+1:Nat)) (vv rfl rfl) (congrArg Value.iz ((wrap64 O0 O0).trans O0))) ?_;refine cD rfl rfl rfl rfl h rfl (gu (i:=i+1) rfl rfl O0) ?_;refine Dg ?_;refine cD rfl rfl rfl rfl h rfl (gu (i:=i) rfl rfl hi) ?_;refine Ym ?_
  have lT:Rd w 7 (nI (sQ g) (i*7) (Nat.beq c i)) (L.length-i) (cO (L.drop i)):=by
   rw[<- db];exact((h.f 2).bU).tail hi hc
  refine jv 8 rfl rfl rfl ?_;refine ns (g':=b2) (o:=(i+1)*7) (m:=L.length-i) (c1:=c2-(i+1)) (ys:=cO (L.drop i)) h ?_ rfl rfl lT (fun u hu=>xj _ u (Vl hu)) (by rw[Nat.min_self];omega) rfl fun w h=>?_
  ·show Value.slice (nI (sQ b2) ((i+1)*7) (Nat.beq c2 (i+1))) (i+(L.length+1-i)-(i+1)) (c2-(i+1))=_;rw[xn O0,show i+(L.length+1-i)-(i+1)=L.length-i by omega]
  have et:(cO (L.drop i)).take ((L.length-i)*7)=cO (L.drop i):=Uu (by rw[up,Um];exact Ug _)
  rw[Nat.min_self,et,Mp hi hys] at h;refine Yd ?_;refine qz (.slice (sQ b2) (iG L i p).length c2) (congrArg (fun n=>Value.slice (sQ b2) n c2) O0) ?_;refine Yo ?_;refine qv (qk (bQ ⟨some ⟨b2,0,none⟩,c2,rfl,?_⟩));have h:=h.x [1,2];rw[show i+(L.length+1-i)=(iG L i p).length by omega] at h
  exact h
 refine qz (.bool false) O4 ?_;refine Y8 ?_;refine EJ ?_;refine Y0 ?_;refine aD (q9 (v':=.iz (L.length+1:Nat)) (vv rfl rfl) (congrArg Value.iz ((wrap64 O0 O0).trans O0))) rfl ?_;refine aD (vh (h:=L.length+1) rfl rfl O0) rfl ?_;refine Yo ?_;obtain⟨ys,hys,h⟩:=(h.f 1).Hh (m:=L.length+1) (Nat.le_succ _) O0;rw[show(L.length+1-L.length)*7=7 by omega] at hys
 refine yX ?_;refine Yd ?_;refine HO ?_;refine Y0 ?_;refine aD (q9 (v':=.iz (i+1:Nat)) (vv rfl rfl) (congrArg Value.iz ((wrap64 O0 O0).trans O0))) rfl ?_
 refine aD (q9 (v':=.slice (some ⟨g,(i+1)*7,none⟩) (L.length-i) (c-(i+1))) (gu (i:=i+1) rfl rfl O0) (by
  rw[show L.length+1-(i+1)=L.length-i by omega]
  exact congrArg (fun a=>Value.slice a (L.length-i) (c-(i+1))) (xn O0))) rfl ?_
 have uW:(Extern.SlicesOverlaps.overlaps #[102,102] #[4] #[.slice (sQ bv) 1 1,.slice (some ⟨g,(i+1)*7,none⟩) (L.length-i) (c-(i+1))]).run prog w=.ok (.bool false) w:=by
  have hb:=h.b 1 rfl;obtain⟨_,_,⟨e0,_⟩|⟨g2,cur,e0,h5,_,h7⟩⟩:=h.bT
  ·cases e0
  ·cases e0
   have hg:=h7.hd.1;have hne:bv≠g:=(h7.f 1).Sh;refine Go.Lib.run_overlaps_apart w 102 4 113 underlying102 7 (fun w=>(inferInstance:cM prog 113 _ _ _).sizeOf w) ⟨bv,0,none⟩ ⟨g,(i+1)*7,none⟩ 1 1 (L.length-i) (c-(i+1)) hne 113 113 7 cur.length ?_ ?_ O0 ?_ ?_
   ·simp only[World.shape?,hb];rfl
   ·simp only[World.shape?,hg];rfl
   ·simp only[World.frozen?,hb];rfl
   ·simp only[World.frozen?,hb];rfl
 refine aD (Ta (v:=.bool false) func135 O1 O1 O1 (E:=Extern.SlicesOverlaps.overlaps #[102,102] #[4]) O1 rfl uW) rfl ?_;refine oO ?_;refine Yh ?_;clear uW;refine qi (jz (some 8) (fun w=>St w0 _ w) O1 O1 h.drew fun w h=>?_);refine Dg ?_;refine Yt ?_;refine cD rfl rfl rfl rfl h rfl (q9 (v':=.iz (i+1:Nat)) (vv rfl rfl) (congrArg Value.iz ((wrap64 O0 O0).trans O0))) ?_
 refine cD rfl rfl rfl rfl h rfl (q9 (v':=.slice (some ⟨g,(i+1)*7,none⟩) (L.length-i) (c-(i+1))) (gu (i:=i+1) rfl rfl O0) (by
  rw[show L.length+1-(i+1)=L.length-i by omega]
  exact congrArg (fun a=>Value.slice a (L.length-i) (c-(i+1))) (xn O0))) ?_
 refine Dg ?_;refine cD rfl rfl rfl rfl h rfl (gu (i:=i) rfl rfl O0) ?_;refine Ym ?_
 have lT:Rd w 7 (nI (sQ g) (i*7) (Nat.beq c i)) (L.length+1-i) (cO (L.drop i)++ys):=by
  have:=h.bU.tail (i:=i) O0 (c:=c) O0
  rwa [List.drop_append_of_le_length (by rw[up];omega),db] at this
 have Pn:∀u∈(cO (L.drop i)++ys).take (min (L.length+1-i) (L.length-i)*7),u.oneCell'=true:=by
  rw[show min (L.length+1-i) (L.length-i)=L.length-i by omega,<- show(cO (L.drop i)).length=(L.length-i)*7 by rw[up,Um],Kh]
  exact xj _
 refine jv 8 rfl rfl rfl ?_;refine ns (g':=g) (o:=(i+1)*7) (m:=L.length-i) (ys:=cO (L.drop i)++ys) h rfl rfl rfl lT Pn O0 rfl fun w h=>?_;rw[show min (L.length+1-i) (L.length-i)=L.length-i by omega] at h
 refine EJ ?_;refine aD (q9 (v':=.slice (some ⟨g,i*7,none⟩) (L.length+1-i) (c-i)) (gu (i:=i) rfl rfl O0) (congrArg (fun a=>Value.slice a (L.length+1-i) (c-i)) (xn O0))) rfl ?_;refine Yp ?_;refine aF rfl (ns (ys:=p.C) h rfl rfl rfl (hv (h.b 1 rfl)) (fun u hu=>A0 u (Vl hu)) O0 rfl fun w h=>?_);rw[show min 1 (L.length+1-i)=1 by omega,Nat.one_mul,Uu (show p.C.length<=7 from Ug 7),Mq hi hys] at h
 refine Y2 ?_;refine Yd ?_;refine qz (.slice (sQ g) (iG L i p).length c) (congrArg (fun n=>Value.slice (sQ g) n c) O0) ?_;refine Yo ?_;refine qv (qk (bQ ⟨some ⟨g,0,none⟩,c,rfl,?_⟩));have h:=h.x [1];rw[show L.length+1=(iG L i p).length by omega] at h
 exact h
end
end
section
def dB(b:Nat)(q:aT):aC:=ex fun x:Option Addr×Nat=>all [dR b x.1 x.2 q,bC x.1 x.2 q.pages]
abbrev kR(bh b:Nat):aC:=pt bh (.cells [.pointer (some ⟨b,3,none⟩),.pointer (some ⟨b,4,none⟩),.pointer (some ⟨b,5,none⟩)].toArray 197 (0,0))
abbrev kD(b:Nat)(mo ta:Int)(a:Option Addr)(n c:Nat)(x y z:Nat):aC:=pt b (.cells [.iz mo,.iz ta,.slice a n c,.iz (x:Int),.iz (y:Int),.iz (z:Int)].toArray 104 (0,0))
section
variable{w0 w:World}{l:List aC}
theorem St.bE{b:Nat}{q:aT}:St w0 (dB b q::l) w↔∃a c,St w0 (dR b a c q::bC a c q.pages::l) w:=by
 unfold dB;rw[St.ex];exact⟨fun⟨x,h⟩=>⟨x.1,x.2,h.join⟩,fun⟨a,c,h⟩=>⟨(a,c),St.fold [_,_] h⟩⟩
theorem dm{b:Nat}{cs:List Value}(h:St w0 (pt b (.cells cs.toArray 104 (0,0))::l) w):bP prog 115 [.pz b] w fun v w'=>∃bh,v=.slice (sQ bh) 3 3∧St w0 (kR bh b::pt b (.cells cs.toArray 104 (0,0))::l) w':=by
 refine en func115 results115 ntmps115 ?_;refine Bl ?_;refine qi (jz none (fun w=>St w0 (pt b (.cells cs.toArray 104 (0,0))::l) w) O1 O1 h.drew fun w h=>?_);refine Y6 ?_;refine Y6 ?_;refine Y6 ?_;refine Yn ?_;refine qd 9 rfl rfl rfl rfl ?_;refine jq (r:=[.pointer (some ⟨b,3,none⟩),.pointer (some ⟨b,4,none⟩),.pointer (some ⟨b,5,none⟩)]) h rfl rfl rfl fun bh w h=>⟨fun _=>h.drop,?_⟩;have hφ:=h.drop;refine qu rfl rfl rfl rfl (fun _=>hφ) (fun _=>qh rfl (xy rfl)) ?_;exact qm (qk (bQ ⟨bh,rfl,h⟩))
theorem zu{b i:Nat}{q:aT}(hn:q.pages.length<=1000000)(hh:q.bK<=1000000∧q.bM<=1000000∧q.test<=1000000)(hi:i<q.pages.length)(h:St w0 (dB b q::l) w):bP prog 84 [.pz b,.iz i] w fun v w'=>St w0 (dB b (q.goes i)::l) w':=by
 obtain⟨a,c,h⟩:=St.bE.1 h;refine en func84 results84 ntmps84 ?_;refine AW ?_;refine aD (qq (v:=.slice a q.pages.length c) rfl (h.b 0 rfl) rfl) rfl ?_;refine DV ?_;refine aD (q9 (v':=.iz (i+1:Nat)) (vv rfl rfl) (congrArg Value.iz ((wrap64 O0 O0).trans O0))) rfl ?_;refine aF rfl (qg rfl (cy hn hi (h.f 1)) ?_);clear h;rintro _ w ⟨rfl,h⟩;refine Yk ?_;refine aF rfl (qb 1 h rfl (show _=Value.slice a (q.pages.eraseIdx i).length c from rfl) rfl rfl rfl rfl fun w h=>?_);have AX:(q.pages.eraseIdx i).length=q.pages.length-1:=Zd hi;replace h:St w0 (kD b q.most q.target a (q.pages.eraseIdx i).length c q.bK q.bM q.test::bC a c (q.pages.eraseIdx i)::l) w:=h.f 1;refine rL ?_;refine aF rfl (qg rfl (dm h) ?_);clear h;rintro _ w ⟨bh,rfl,h⟩;refine rJ ?_;refine Y0 ?_;refine Y2 ?_;generalize hm:(q.pages.eraseIdx i).length=m at h;have Tn:m=q.pages.length-1:=by omega
 have hg:∀x,x<=1000000->aT.eF i m x<=1000000:=by intro x hx;unfold aT.eF;split <;> split <;> omega
 refine Yg ?_
 refine jy (Γ:=Nat) (fun k=>[(0,.pz b),(1,.iz i),(18,.slice (sQ bh) 3 3),(19,.iz 3),(20,.iz k)])
  (fun k w=>k<=3∧St w0 (kR bh b::kD b q.most q.target a m c (if 1<=k then aT.eF i m q.bK else q.bK) (if 2<=k then aT.eF i m q.bM else q.bM) (if 3<=k then aT.eF i m q.test else q.test)::bC a c (q.pages.eraseIdx i)::l) w) (fun k=>3-k) 0 pS ⟨Uf _,h⟩ ?_
 clear h;rintro k w e ⟨hk,h⟩;refine E5 ?_;by_cases hlt:k<3
 ·refine qz (.bool true) O3 ?_;refine Gj ?_;refine DW ?_;obtain rfl|rfl|rfl:k=0∨k=1∨k=2:=by omega
  ·replace h:St w0 (kR bh b::kD b q.most q.target a m c q.bK q.bM q.test::bC a c (q.pages.eraseIdx i)::l) w:=h;have hx:q.bK<=1000000:=by omega
   obtain⟨x,EL⟩:∃x,x=q.bK:=⟨_,rfl⟩;rw[<- EL] at h hx;refine Y1 ?_;refine aD (jj (j:=0) (o':=0) rfl rfl rfl O2 rfl) rfl ?_;refine aD (qq (v:=.pointer (some ⟨b,3,none⟩)) rfl (h.b 0 rfl) rfl) rfl ?_;refine DU ?_
   refine qf (Γ:=Nat) (fun y=>[(0,.pz b),(1,.iz i),(5,.pointer (some ⟨b,3,none⟩)),(18,.slice (sQ bh) 3 3),(19,.iz 3),(20,.iz (0:Nat))])
    (fun y w=>y=(if x>i then x-1 else x)∧St w0 (kR bh b::kD b q.most q.target a m c y q.bM q.test::bC a c (q.pages.eraseIdx i)::l) w) ?_ ?_
   ·refine Yq ?_;refine rI ?_;refine aD (qq (v:=.iz (x:Int)) rfl (h.b 1 rfl) rfl) rfl ?_;refine Y0 ?_;refine Cr ?_;by_cases hc:x>i
    ·refine qz (.bool true) O3 ?_;refine E8 ?_;refine rI ?_;refine aD (qq (v:=.iz (x:Int)) rfl (h.b 1 rfl) rfl) rfl ?_;refine aD (q9 (v':=.iz (x-1:Nat)) (vk rfl rfl) (congrArg Value.iz ((wrap64 O0 O0).trans O0))) rfl ?_;refine rI ?_;refine aF rfl (qb 1 h rfl (show _=Value.iz ((x-1:Nat):Int) from rfl) rfl rfl rfl rfl fun w h=>?_);exact qv ⟨x-1,kX,by rw[if_pos hc],h⟩
    ·refine qz (.bool false) O4 ?_;exact qv (qt rfl (qa ⟨x,kX,by rw[if_neg hc],h⟩))
   rintro y w e ⟨hy,h⟩;have DB:aT.eF i m x=if y ≥ m then 0 else y:=by unfold aT.eF;rw[<- hy]
   refine qi (jz none (fun w=>St w0 (kR bh b::kD b q.most q.target a m c y q.bM q.test::bC a c (q.pages.eraseIdx i)::l) w) O1 O1 h.drew fun w h=>?_);refine tY ?_;refine GM ?_;refine qj rfl rfl rfl rfl h (fun _ h=>qh rfl (qq (v:=.iz (y:Int)) rfl (h.b 1 rfl) rfl)) ?_;refine Y6 ?_;refine qj rfl rfl rfl rfl h (fun _ h=>qh rfl (qq (v:=.slice a m c) rfl (h.b 1 rfl) rfl)) ?_;refine De ?_;refine cD rfl rfl rfl rfl h rfl (ka rfl rfl) ?_;refine qm ?_;refine qo (decide ((y:Int) ≥ (m:Int))) rfl (fun hc=>?_) (fun hc=>?_)
   ·have lO:y ≥ m:=by simpa using hc
    refine Ci ?_;refine rI ?_;refine aF rfl (qb 1 h rfl (show _=Value.iz ((0:Nat):Int) from rfl) rfl rfl rfl rfl fun w h=>?_);replace h:St w0 (kR bh b::kD b q.most q.target a m c 0 q.bM q.test::bC a c (q.pages.eraseIdx i)::l) w:=h;refine E6 ?_;refine qz (.iz (1:Nat)) rfl ?_;refine Y0 ?_;refine qv ⟨1,pS,⟨rD,?_⟩,rD⟩;rw[if_pos lO] at DB;rw[<- DB,EL] at h;exact h
   ·have lO:¬y ≥ m:=by simpa using hc
    refine HR ?_;refine qz (.iz (1:Nat)) rfl ?_;refine Y0 ?_;refine qv ⟨1,pS,⟨rD,?_⟩,rD⟩;rw[if_neg lO] at DB;rw[<- DB,EL] at h;exact h
  ·replace h:St w0 (kR bh b::kD b q.most q.target a m c (aT.eF i m q.bK) q.bM q.test::bC a c (q.pages.eraseIdx i)::l) w:=h;have hx:q.bM<=1000000:=by omega
   obtain⟨x,EL⟩:∃x,x=q.bM:=⟨_,rfl⟩;rw[<- EL] at h hx;refine Y1 ?_;refine aD (jj (j:=1) (o':=1) rfl rfl rfl O2 rfl) rfl ?_;refine aD (qq (v:=.pointer (some ⟨b,4,none⟩)) rfl (h.b 0 rfl) rfl) rfl ?_;refine DU ?_
   refine qf (Γ:=Nat) (fun y=>[(0,.pz b),(1,.iz i),(5,.pointer (some ⟨b,4,none⟩)),(18,.slice (sQ bh) 3 3),(19,.iz 3),(20,.iz (1:Nat))])
    (fun y w=>y=(if x>i then x-1 else x)∧St w0 (kR bh b::kD b q.most q.target a m c (aT.eF i m q.bK) y q.test::bC a c (q.pages.eraseIdx i)::l) w) ?_ ?_
   ·refine Yq ?_;refine rI ?_;refine aD (qq (v:=.iz (x:Int)) rfl (h.b 1 rfl) rfl) rfl ?_;refine Y0 ?_;refine Cr ?_;by_cases hc:x>i
    ·refine qz (.bool true) O3 ?_;refine E8 ?_;refine rI ?_;refine aD (qq (v:=.iz (x:Int)) rfl (h.b 1 rfl) rfl) rfl ?_;refine aD (q9 (v':=.iz (x-1:Nat)) (vk rfl rfl) (congrArg Value.iz ((wrap64 O0 O0).trans O0))) rfl ?_;refine rI ?_;refine aF rfl (qb 1 h rfl (show _=Value.iz ((x-1:Nat):Int) from rfl) rfl rfl rfl rfl fun w h=>?_);exact qv ⟨x-1,kX,by rw[if_pos hc],h⟩
    ·refine qz (.bool false) O4 ?_;exact qv (qt rfl (qa ⟨x,kX,by rw[if_neg hc],h⟩))
   rintro y w e ⟨hy,h⟩;have DB:aT.eF i m x=if y ≥ m then 0 else y:=by unfold aT.eF;rw[<- hy]
   refine qi (jz none (fun w=>St w0 (kR bh b::kD b q.most q.target a m c (aT.eF i m q.bK) y q.test::bC a c (q.pages.eraseIdx i)::l) w) O1 O1 h.drew fun w h=>?_);refine tY ?_;refine GM ?_;refine qj rfl rfl rfl rfl h (fun _ h=>qh rfl (qq (v:=.iz (y:Int)) rfl (h.b 1 rfl) rfl)) ?_;refine Y6 ?_;refine qj rfl rfl rfl rfl h (fun _ h=>qh rfl (qq (v:=.slice a m c) rfl (h.b 1 rfl) rfl)) ?_;refine De ?_;refine cD rfl rfl rfl rfl h rfl (ka rfl rfl) ?_;refine qm ?_;refine qo (decide ((y:Int) ≥ (m:Int))) rfl (fun hc=>?_) (fun hc=>?_)
   ·have lO:y ≥ m:=by simpa using hc
    refine Ci ?_;refine rI ?_;refine aF rfl (qb 1 h rfl (show _=Value.iz ((0:Nat):Int) from rfl) rfl rfl rfl rfl fun w h=>?_);replace h:St w0 (kR bh b::kD b q.most q.target a m c (aT.eF i m q.bK) 0 q.test::bC a c (q.pages.eraseIdx i)::l) w:=h;refine E6 ?_;refine qz (.iz (2:Nat)) rfl ?_;refine Y0 ?_;refine qv ⟨2,pS,⟨rD,?_⟩,rD⟩;rw[if_pos lO] at DB;rw[<- DB,EL] at h;exact h
   ·have lO:¬y ≥ m:=by simpa using hc
    refine HR ?_;refine qz (.iz (2:Nat)) rfl ?_;refine Y0 ?_;refine qv ⟨2,pS,⟨rD,?_⟩,rD⟩;rw[if_neg lO] at DB;rw[<- DB,EL] at h;exact h
  ·replace h:St w0 (kR bh b::kD b q.most q.target a m c (aT.eF i m q.bK) (aT.eF i m q.bM) q.test::bC a c (q.pages.eraseIdx i)::l) w:=h;have hx:q.test<=1000000:=by omega
   obtain⟨x,EL⟩:∃x,x=q.test:=⟨_,rfl⟩;rw[<- EL] at h hx;refine Y1 ?_;refine aD (jj (j:=2) (o':=2) rfl rfl rfl O2 rfl) rfl ?_;refine aD (qq (v:=.pointer (some ⟨b,5,none⟩)) rfl (h.b 0 rfl) rfl) rfl ?_;refine DU ?_
   refine qf (Γ:=Nat) (fun y=>[(0,.pz b),(1,.iz i),(5,.pointer (some ⟨b,5,none⟩)),(18,.slice (sQ bh) 3 3),(19,.iz 3),(20,.iz (2:Nat))])
    (fun y w=>y=(if x>i then x-1 else x)∧St w0 (kR bh b::kD b q.most q.target a m c (aT.eF i m q.bK) (aT.eF i m q.bM) y::bC a c (q.pages.eraseIdx i)::l) w) ?_ ?_
   ·refine Yq ?_;refine rI ?_;refine aD (qq (v:=.iz (x:Int)) rfl (h.b 1 rfl) rfl) rfl ?_;refine Y0 ?_;refine Cr ?_;by_cases hc:x>i
    ·refine qz (.bool true) O3 ?_;refine E8 ?_;refine rI ?_;refine aD (qq (v:=.iz (x:Int)) rfl (h.b 1 rfl) rfl) rfl ?_;refine aD (q9 (v':=.iz (x-1:Nat)) (vk rfl rfl) (congrArg Value.iz ((wrap64 O0 O0).trans O0))) rfl ?_;refine rI ?_;refine aF rfl (qb 1 h rfl (show _=Value.iz ((x-1:Nat):Int) from rfl) rfl rfl rfl rfl fun w h=>?_);exact qv ⟨x-1,kX,by rw[if_pos hc],h⟩
    ·refine qz (.bool false) O4 ?_;exact qv (qt rfl (qa ⟨x,kX,by rw[if_neg hc],h⟩))
   rintro y w e ⟨hy,h⟩;have DB:aT.eF i m x=if y ≥ m then 0 else y:=by unfold aT.eF;rw[<- hy]
   refine qi (jz none (fun w=>St w0 (kR bh b::kD b q.most q.target a m c (aT.eF i m q.bK) (aT.eF i m q.bM) y::bC a c (q.pages.eraseIdx i)::l) w) O1 O1 h.drew fun w h=>?_);refine tY ?_;refine GM ?_;refine qj rfl rfl rfl rfl h (fun _ h=>qh rfl (qq (v:=.iz (y:Int)) rfl (h.b 1 rfl) rfl)) ?_;refine Y6 ?_;refine qj rfl rfl rfl rfl h (fun _ h=>qh rfl (qq (v:=.slice a m c) rfl (h.b 1 rfl) rfl)) ?_;refine De ?_;refine cD rfl rfl rfl rfl h rfl (ka rfl rfl) ?_;refine qm ?_;refine qo (decide ((y:Int) ≥ (m:Int))) rfl (fun hc=>?_) (fun hc=>?_)
   ·have lO:y ≥ m:=by simpa using hc
    refine Ci ?_;refine rI ?_;refine aF rfl (qb 1 h rfl (show _=Value.iz ((0:Nat):Int) from rfl) rfl rfl rfl rfl fun w h=>?_);replace h:St w0 (kR bh b::kD b q.most q.target a m c (aT.eF i m q.bK) (aT.eF i m q.bM) 0::bC a c (q.pages.eraseIdx i)::l) w:=h;refine E6 ?_;refine qz (.iz (3:Nat)) rfl ?_;refine Y0 ?_;refine qv ⟨3,pS,⟨rD,?_⟩,rD⟩;rw[if_pos lO] at DB;rw[<- DB,EL] at h;exact h
   ·have lO:¬y ≥ m:=by simpa using hc
    refine HR ?_;refine qz (.iz (3:Nat)) rfl ?_;refine Y0 ?_;refine qv ⟨3,pS,⟨rD,?_⟩,rD⟩;rw[if_neg lO] at DB;rw[<- DB,EL] at h;exact h
 ·refine qz (.bool false) O4 ?_;refine qv (qi (qt rfl (ju ?_)));obtain rfl:k=3:=by omega
  refine Eq.mpr (if_pos rfl) (uN ?_);rw[Tn,<- AX] at h;refine St.bE.2 ⟨a,c,?_⟩;have h:=h.drop;have e3:q.goes i=⟨q.most,q.target,q.pages.eraseIdx i,aT.eF i (q.pages.eraseIdx i).length q.bK,aT.eF i (q.pages.eraseIdx i).length q.bM,aT.eF i (q.pages.eraseIdx i).length q.test⟩:=by unfold aT.goes;rw[AX]
  rw[e3];exact h
theorem nc{b j:Nat}{q q':aT}{x:Nat}(hj:j<6)(hn:q.pages.length<=1000000)(hx:x<=1000000)(hne:0<q.pages.length)(fM:∀a c,(q.C a c)[j]?=some (.iz (x:Int)))(IY:∀a c,(q.C a c).set j (.iz (((x+1)%q.pages.length:Nat):Int))=q'.C a c)(hp:q'.pages=q.pages)(h:St w0 (dB b q::l) w):
  bP prog 118 [.pz b,.pointer (some ⟨b,j,none⟩)] w fun v w'=>St w0 (dB b q'::l) w':=by
 obtain⟨a,c,h⟩:=St.bE.1 h;refine en func118 results118 ntmps118 ?_;refine jz (some 12) (fun w=>St w0 _ w) O1 O1 h.drew fun w h=>?_;refine tY ?_;refine tY ?_;refine GM ?_;refine qj rfl rfl rfl rfl h (fun _ h=>qh rfl (qq (v:=.iz (x:Int)) rfl (h.b 0 rfl) (fM a c))) ?_;refine cD rfl rfl rfl rfl h rfl (q9 (v':=.iz (x+1:Nat)) (vv rfl rfl) (congrArg Value.iz ((wrap64 O0 O0).trans O0))) ?_;refine Y6 ?_;refine qj rfl rfl rfl rfl h (fun _ h=>qh rfl (qq (v:=.slice a q.pages.length c) rfl (h.b 0 rfl) rfl)) ?_;refine De ?_;refine cD rfl rfl rfl rfl h rfl (q9 (v':=.iz ((x+1)%q.pages.length:Nat)) (pj rfl rfl O0) (congrArg Value.iz (zr _ _))) ?_;refine GM ?_;refine Ym ?_;refine jv 12 rfl rfl rfl ?_;refine qb 0 h rfl (show _=Value.iz (((x+1)%q.pages.length:Nat):Int) from rfl) rfl (by show Kl j 6=true;rw[Xu];exact hj) (by rw[Nat.ble_eq];exact Uf j) rfl fun w h=>?_
 refine uN ?_;refine St.bE.2 ⟨a,c,?_⟩;rw[hp];have h2:St w0 (pt b (.cells ((q.C a c).set j (.iz (((x+1)%q.pages.length:Nat):Int))).toArray 104 (0,0))::bC a c q.pages::l) w:=h;rw[IY] at h2;exact h2
theorem xg{b:Nat}{q:aT}{n:Int}(hn:-1<=n∧n<=1)(hq:q.Wf)(h:St w0 (dB b q::l) w):
  bP prog 85 [.pz b,.iz n] w fun v w'=>St w0 (dB b (q.qS n)::l) w':=by
 obtain⟨a,c,h⟩:=St.bE.1 h;have hm:=hq.most;have ht:=hq.target;refine en func85 results85 ntmps85 ?_;refine jz (some 15) (fun w=>St w0 _ w) O1 O1 h.drew fun w h=>?_;refine tY ?_;refine Y6 ?_;refine qj rfl rfl rfl rfl h (fun _ h=>qh rfl (qq (v:=.iz q.target) rfl (h.b 0 rfl) rfl)) ?_;refine Yt ?_;refine cD rfl rfl rfl rfl h rfl (q9 (v':=.iz (q.target+n)) (vv rfl rfl) (congrArg Value.iz (wrap64 O0 O0))) ?_;refine cD rfl rfl rfl rfl h rfl (wi rfl rfl) ?_;refine Y6 ?_;refine qj rfl rfl rfl rfl h (fun _ h=>qh rfl (qq (v:=.iz q.most) rfl (h.b 0 rfl) rfl)) ?_;refine cD rfl rfl rfl rfl h rfl (Ol rfl rfl) ?_;refine Cg ?_;refine Ym ?_;refine jv 15 rfl rfl rfl ?_;refine qb 0 h rfl (show _=Value.iz (min (max (q.target+n) 1) q.most) from rfl) rfl rfl rfl rfl fun w h=>?_;refine uN ?_;exact St.bE.2 ⟨a,c,h⟩
end
end
section
section
variable{w0 w:World}{l:List aC}
theorem aT.iQ{q:aT}(hq:q.Wf)(hn:q.pages.length<=1000000):q.bK<=1000000∧q.bM<=1000000∧q.test<=1000000:=by
 have h1:=hq.bK;have h2:=hq.bM;have h3:=hq.test;omega
def qT(i h:Nat):Nat:=if h ≥ i then h+1 else h
theorem ol{b:Nat}{q:aT}{p:Pg}(hq:q.Wf)(hn:q.pages.length<=1000000)(h:St w0 (dB b q::l) w):bP prog 87 [.pz b,.agg p.C.toArray] w fun v w'=>St w0 (dB b (q.comes p)::l) w':=by
 obtain⟨a,c,h⟩:=St.bE.1 h;have hh:=aT.iQ hq hn;have Hj:=hq.bK;refine en func87 results87 ntmps87 ?_;refine Y1 ?_;refine aF rfl (jk h (show _=Value.agg p.C.toArray from rfl) fun bp w h=>?_);replace h:St w0 (pT bp p::dR b a c q::bC a c q.pages::l) w:=h;refine yX ?_;refine Y7 ?_;refine aD (qq (v:=.slice a q.pages.length c) rfl (h.b 1 rfl) rfl) rfl ?_;refine rJ ?_;refine Yi ?_;by_cases h0:q.pages=[]
 ·refine qz (.bool true) (by rw[h0];rfl) ?_
  refine Yh ?_;refine Yq ?_;refine aD (qx (l:=p.C) rfl rfl (qw (h.b 0 rfl) rfl)) rfl ?_;refine aF rfl (jq (r:=p.C) h rfl rfl rfl fun bs w h=>?_);refine Yk ?_;refine aF rfl (qb 2 h rfl (show _=Value.slice (sQ bs) 1 1 from rfl) rfl rfl rfl rfl fun w h=>?_);refine Y2 ?_;refine oE ?_;refine vE ?_;refine aF rfl (qb 2 h rfl (show _=Value.iz 0 from rfl) rfl rfl rfl rfl fun w h=>?_);refine Yk ?_;refine aF rfl (qb 2 h rfl (show _=Value.iz 0 from rfl) rfl rfl rfl rfl fun w h=>?_);refine Yk ?_;refine aF rfl (qb 2 h rfl (show _=Value.iz 0 from rfl) rfl rfl rfl rfl fun w h=>?_);refine qv (qk (Lx ?_));have e:q.comes p=⟨q.most,q.target,[p],0,0,0⟩:=by unfold aT.comes;rw[if_pos h0]
  rw[e];refine St.bE.2 ⟨some ⟨bs,0,none⟩,1,?_⟩;have h1:St w0 (bC (sQ bs) 1 [p]::pT bp p::dR b (sQ bs) 1 ⟨q.most,q.target,[p],0,0,0⟩::bC a c q.pages::l) w:=St.iH h rfl rfl (Ug _);exact(h1.x [1,3]).f 1
 have hpos:0<q.pages.length:=Vy.2 h0;refine qz (.bool false) O6 ?_;refine Y8 ?_;refine Y7 ?_;refine aD (qq (v:=.iz (q.bK:Int)) rfl (h.b 1 rfl) rfl) rfl ?_;refine Y5 ?_;have hi:q.bK<=q.pages.length:=by omega
 refine qf (Γ:=Unit) (fun _=>[(0,.pz b),(4,.iz (q.bK:Int))]) (fun _ w=>∃a' c',St w0 (kD b q.most q.target a' (iG q.pages q.bK p).length c' q.bK q.bM q.test::bC a' c' (iG q.pages q.bK p)::l) w) ?_ ?_
 ·refine jz (some 8) (fun w=>St w0 _ w) O1 O1 h.drew fun w h=>?_;refine tY ?_;refine Y6 ?_;refine qj rfl rfl rfl rfl h (fun _ h=>qh rfl (qq (v:=.slice a q.pages.length c) rfl (h.b 1 rfl) rfl)) ?_;refine Yt ?_;refine xO ?_;refine qd 6 rfl rfl rfl rfl ?_;refine QF (qx (l:=p.C) rfl rfl (qw (h.b 0 rfl) rfl)) ⟨fun _=>h,?_⟩;refine Cu ?_;refine qd 7 rfl rfl rfl rfl ?_;refine jq (r:=p.C) h rfl rfl rfl fun bs w h=>⟨fun _=>h.drop,?_⟩;have h1:=h;replace h:=h1.drop;refine nJ ?_;refine jx 8 (some 11) rfl rfl rfl rfl ?_;refine qg rfl (cz (i:=q.bK) (l:=pT bp p::dR b a c q::l) hn hi hpos (h1.o [0,3,1,2])) ?_;clear h h1;rintro _ w ⟨a',c',rfl,h⟩;refine jh h ?_;refine Cg ?_;refine Ym ?_;refine jv 11 rfl rfl rfl ?_;refine qb 2 h rfl (show _=Value.slice a' (iG q.pages q.bK p).length c' from rfl) rfl rfl rfl rfl fun w h=>?_;refine⟨(),gS,a',c',?_⟩;exact(h.x [1]).f 1
 rintro-w e ⟨a,c,h⟩;refine Yq ?_;refine aF rfl (qg rfl (dm h) ?_);clear h;rintro _ w ⟨bh,rfl,h⟩;refine rJ ?_;refine Y0 ?_;refine Y2 ?_;have hm:=BN (p:=p) hi;generalize hme:(iG q.pages q.bK p).length=m at h;refine Yg ?_
 refine jy (Γ:=Nat) (fun k=>[(4,.iz (q.bK:Int)),(43,.slice (sQ bh) 3 3),(44,.iz 3),(45,.iz k)])
  (fun k w=>k<=3∧St w0 (kR bh b::kD b q.most q.target a m c (if 1<=k then qT q.bK q.bK else q.bK) (if 2<=k then qT q.bK q.bM else q.bM) (if 3<=k then qT q.bK q.test else q.test)::bC a c (iG q.pages q.bK p)::l) w) (fun k=>3-k) 0 iA ⟨Uf _,h⟩ ?_
 clear h;rintro k w e ⟨hk,h⟩;refine E5 ?_;by_cases hlt:k<3
 ·refine qz (.bool true) O3 ?_;refine Gj ?_;refine DW ?_;obtain rfl|rfl|rfl:k=0∨k=1∨k=2:=by omega
  ·replace h:St w0 (kR bh b::kD b q.most q.target a m c q.bK q.bM q.test::bC a c (iG q.pages q.bK p)::l) w:=h;have hx:q.bK<=1000000:=by omega
   refine Y1 ?_;refine aD (jj (j:=0) (o':=0) rfl rfl rfl O2 rfl) rfl ?_;refine aD (qq (v:=.pointer (some ⟨b,3,none⟩)) rfl (h.b 0 rfl) rfl) rfl ?_;refine tW ?_;refine rL ?_;refine rI ?_;refine aD (qq (v:=.iz (q.bK:Int)) rfl (h.b 1 rfl) rfl) rfl ?_;refine Y0 ?_;refine tX ?_;by_cases hc:q.bK ≥ q.bK
   ·refine qz (.bool true) O3 ?_;refine E8 ?_;refine rI ?_;refine aD (qq (v:=.iz (q.bK:Int)) rfl (h.b 1 rfl) rfl) rfl ?_;refine aD (q9 (v':=.iz (q.bK+1:Nat)) (vv rfl rfl) (congrArg Value.iz ((wrap64 O0 O0).trans O0))) rfl ?_;refine rI ?_;refine aF rfl (qb 1 h rfl (show _=Value.iz ((q.bK+1:Nat):Int) from rfl) rfl rfl rfl rfl fun w h=>?_);replace h:St w0 (kR bh b::kD b q.most q.target a m c (q.bK+1) q.bM q.test::bC a c (iG q.pages q.bK p)::l) w:=h;refine E6 ?_;refine qz (.iz (1:Nat)) rfl ?_;refine Y0 ?_;refine qv ⟨1,iA,⟨rD,?_⟩,rD⟩;rw[<- show qT q.bK q.bK=q.bK+1 by unfold qT;rw[if_pos hc]] at h
    exact h
   ·refine qz (.bool false) O4 ?_;refine Y8 ?_;refine Yw ?_;refine qz (.iz (1:Nat)) rfl ?_;refine Y0 ?_;refine qv ⟨1,iA,⟨rD,?_⟩,rD⟩;have e9:qT q.bK q.bK=q.bK:=by unfold qT;rw[if_neg hc]
    show St w0 (kR bh b::kD b q.most q.target a m c (qT q.bK q.bK) q.bM q.test::bC a c (iG q.pages q.bK p)::l) w;rw[e9];exact h
  ·replace h:St w0 (kR bh b::kD b q.most q.target a m c (qT q.bK q.bK) q.bM q.test::bC a c (iG q.pages q.bK p)::l) w:=h;have hx:q.bM<=1000000:=by omega
   refine Y1 ?_;refine aD (jj (j:=1) (o':=1) rfl rfl rfl O2 rfl) rfl ?_;refine aD (qq (v:=.pointer (some ⟨b,4,none⟩)) rfl (h.b 0 rfl) rfl) rfl ?_;refine tW ?_;refine rL ?_;refine rI ?_;refine aD (qq (v:=.iz (q.bM:Int)) rfl (h.b 1 rfl) rfl) rfl ?_;refine Y0 ?_;refine tX ?_;by_cases hc:q.bM ≥ q.bK
   ·refine qz (.bool true) O3 ?_;refine E8 ?_;refine rI ?_;refine aD (qq (v:=.iz (q.bM:Int)) rfl (h.b 1 rfl) rfl) rfl ?_;refine aD (q9 (v':=.iz (q.bM+1:Nat)) (vv rfl rfl) (congrArg Value.iz ((wrap64 O0 O0).trans O0))) rfl ?_;refine rI ?_;refine aF rfl (qb 1 h rfl (show _=Value.iz ((q.bM+1:Nat):Int) from rfl) rfl rfl rfl rfl fun w h=>?_);replace h:St w0 (kR bh b::kD b q.most q.target a m c (qT q.bK q.bK) (q.bM+1) q.test::bC a c (iG q.pages q.bK p)::l) w:=h;refine E6 ?_;refine qz (.iz (2:Nat)) rfl ?_;refine Y0 ?_;refine qv ⟨2,iA,⟨rD,?_⟩,rD⟩;rw[<- show qT q.bK q.bM=q.bM+1 by unfold qT;rw[if_pos hc]] at h
    exact h
   ·refine qz (.bool false) O4 ?_;refine Y8 ?_;refine Yw ?_;refine qz (.iz (2:Nat)) rfl ?_;refine Y0 ?_;refine qv ⟨2,iA,⟨rD,?_⟩,rD⟩;have e9:qT q.bK q.bM=q.bM:=by unfold qT;rw[if_neg hc]
    show St w0 (kR bh b::kD b q.most q.target a m c (qT q.bK q.bK) (qT q.bK q.bM) q.test::bC a c (iG q.pages q.bK p)::l) w;rw[e9];exact h
  ·replace h:St w0 (kR bh b::kD b q.most q.target a m c (qT q.bK q.bK) (qT q.bK q.bM) q.test::bC a c (iG q.pages q.bK p)::l) w:=h;have hx:q.test<=1000000:=by omega
   refine Y1 ?_;refine aD (jj (j:=2) (o':=2) rfl rfl rfl O2 rfl) rfl ?_;refine aD (qq (v:=.pointer (some ⟨b,5,none⟩)) rfl (h.b 0 rfl) rfl) rfl ?_;refine tW ?_;refine rL ?_;refine rI ?_;refine aD (qq (v:=.iz (q.test:Int)) rfl (h.b 1 rfl) rfl) rfl ?_;refine Y0 ?_;refine tX ?_;by_cases hc:q.test ≥ q.bK
   ·refine qz (.bool true) O3 ?_;refine E8 ?_;refine rI ?_;refine aD (qq (v:=.iz (q.test:Int)) rfl (h.b 1 rfl) rfl) rfl ?_;refine aD (q9 (v':=.iz (q.test+1:Nat)) (vv rfl rfl) (congrArg Value.iz ((wrap64 O0 O0).trans O0))) rfl ?_;refine rI ?_;refine aF rfl (qb 1 h rfl (show _=Value.iz ((q.test+1:Nat):Int) from rfl) rfl rfl rfl rfl fun w h=>?_);replace h:St w0 (kR bh b::kD b q.most q.target a m c (qT q.bK q.bK) (qT q.bK q.bM) (q.test+1)::bC a c (iG q.pages q.bK p)::l) w:=h;refine E6 ?_;refine qz (.iz (3:Nat)) rfl ?_;refine Y0 ?_;refine qv ⟨3,iA,⟨rD,?_⟩,rD⟩;rw[<- show qT q.bK q.test=q.test+1 by unfold qT;rw[if_pos hc]] at h
    exact h
   ·refine qz (.bool false) O4 ?_;refine Y8 ?_;refine Yw ?_;refine qz (.iz (3:Nat)) rfl ?_;refine Y0 ?_;refine qv ⟨3,iA,⟨rD,?_⟩,rD⟩;have e9:qT q.bK q.test=q.test:=by unfold qT;rw[if_neg hc]
    show St w0 (kR bh b::kD b q.most q.target a m c (qT q.bK q.bK) (qT q.bK q.bM) (qT q.bK q.test)::bC a c (iG q.pages q.bK p)::l) w;rw[e9];exact h
 ·refine qz (.bool false) O4 ?_;refine qv (qi (qt rfl (ju ?_)));obtain rfl:k=3:=by omega
  refine Eq.mpr (if_pos rfl) (uN ?_);refine St.bE.2 ⟨a,c,?_⟩;have h:=h.drop;have e3:q.comes p=⟨q.most,q.target,iG q.pages q.bK p,qT q.bK q.bK,qT q.bK q.bM,qT q.bK q.test⟩:=by unfold aT.comes;rw[if_neg h0];simp[qT]
  rw[e3];rw[<- hme] at h;exact h
theorem vm{q:aT}{a:Option Addr}{c x:Nat}{p:Pg}(hp:q.pages[x]?=some p)(h:St w0 (bC a c q.pages::l) w):∃g,a=some ⟨g,0,none⟩:=h.dF (by have:=(Uc.1 hp).1;omega)
theorem j4{g c x j:Nat}{L:List Pg}{p p':Pg}{u:Value}(hp:L[x]?=some p)(hj:j<7)(hu:p'.C=p.C.set j u)(h:St w0 (eW 113 7 (sQ g) L.length c ((cO L).set (x*7+j) u)::l) w):St w0 (bC (sQ g) c (L.set x p')::l) w:=by
 rw[uv gb L x p p' j u hp hj hu] at h;have e:L.length=(L.set x p').length:=by rw[Vd]
 rw[e] at h;exact h
theorem aT.CF{q:aT}{i:Nat}{p:Pg}{a:Option Addr}{c:Nat}:(q.cT i p).C a c=q.C a c:=by
 show[_,_,Value.slice a (q.pages.set i p).length c,_,_,_]=_;rw[Vd];rfl
theorem St.cT{b:Nat}{q:aT}{a:Option Addr}{c i:Nat}{p:Pg}(h:St w0 (dR b a c q::bC a c (q.pages.set i p)::l) w):St w0 (dB b (q.cT i p)::l) w:=
 St.bE.2 ⟨a,c,by
  show St w0 (pt b (.cells ((q.cT i p).C a c).toArray 104 (0,0))::bC a c (q.pages.set i p)::l) w
  rw[aT.CF];exact h⟩
theorem oe{b:Nat}{q:aT}(hq:q.Wf)(hn:q.pages.length<=1000000)(hne:0<q.pages.length)(h:St w0 (dB b q::l) w):bP prog 118 [.pz b,.pointer (some ⟨b,3,none⟩)] w fun v w'=>St w0 (dB b q.gV::l) w':=
 nc (q:=q) (q':=q.gV) (x:=q.bK) O2 hn (aT.iQ hq hn).1 hne (fun _ _=>rfl) (fun _ _=>rfl) rfl h
theorem uf{b:Nat}{q:aT}(hq:q.Wf)(hn:q.pages.length<=1000000)(hne:0<q.pages.length)(h:St w0 (dB b q::l) w):bP prog 118 [.pz b,.pointer (some ⟨b,4,none⟩)] w fun v w'=>St w0 (dB b q.cZ::l) w':=
 nc (q:=q) (q':=q.cZ) (x:=q.bM) O2 hn (aT.iQ hq hn).2.1 hne (fun _ _=>rfl) (fun _ _=>rfl) rfl h
theorem cx{b:Nat}{q:aT}(hq:q.Wf)(hn:q.pages.length<=1000000)(hne:0<q.pages.length)(h:St w0 (dB b q::l) w):bP prog 118 [.pz b,.pointer (some ⟨b,5,none⟩)] w fun v w'=>St w0 (dB b q.jJ::l) w':=
 nc (q:=q) (q':=q.jJ) (x:=q.test) O2 hn (aT.iQ hq hn).2.2 hne (fun _ _=>rfl) (fun _ _=>rfl) rfl h
end
end
section
section
variable{w0 w:World}{l:List aC}
theorem ji{g c x j:Nat}{L:List Pg}{p:Pg}{v:Value}(hp:L[x]?=some p)(hv:p.C[j]?=some v)(h:St w0 (bC (sQ g) c L::l) w):w.cell? ⟨g,0+x*7+j,none⟩=some v:=by
 have:=h.bU.cell (yu gb L x p hp j v hv)
 rwa [Uz] at this ⊢
theorem gy{L:List Pg}{x j:Nat}{p:Pg}(hp:L[x]?=some p)(hj:j<7):0+x*7+j<L.length*7:=by
 have:=(Uc.1 hp).1;omega
theorem vn{b a c}{q:aT}:Reads w0 (dR b a c q::bC a c q.pages::l) 7 a q.pages.length (cO q.pages):=Reads.own.cons
theorem zm{b:Nat}{q:aT}(hq:q.Wf)(hn:q.pages.length<=1000000)(h:St w0 (dB b q::l) w):bP prog 117 [.pz b] w fun v w'=>St w0 (dB b q.eM::l) w':=by
 obtain⟨a,c,h⟩:=St.bE.1 h;refine en func117 results117 ntmps117 ?_;refine GY ?_;refine rI ?_;refine aD (qx (l:=q.C a c) rfl rfl (qw (h.b 0 rfl) rfl)) rfl ?_;refine aF rfl (qg rfl (gm cu hn vn h) ?_);clear h;rintro _ w ⟨rfl,h⟩;refine Yi ?_;by_cases h0:q.count Pg.bK=0
 ·refine qz (.bool true) HH ?_;refine qv (j6 rfl (qk (Lx ?_)));unfold aT.eM;rw[if_pos h0];exact St.bE.2 ⟨a,c,h⟩
 refine qz (.bool false) O6 ?_;refine Y8 ?_;unfold aT.eM;rw[if_neg h0];generalize Mr:(q.pages.length+1)*(q.pages.length+1)=fu;have fQ:aT.jZ fu q:=by rw[<- Mr];exact aT.Dz hq O0
 clear h0 Mr;obtain⟨R,hR⟩:∃R,aT.nR fu q=R:=⟨_,rfl⟩;rw[hR];refine Yg ?_
 refine jy (Γ:=Nat×aT) (fun _=>[(0,.pz b)])
  (fun x w=>x.2.Wf∧x.2.pages.length<=1000000∧aT.jZ x.1 x.2∧aT.nR x.1 x.2=R∧St w0 (dB b x.2::l) w) (fun x=>x.1) (fu,q) ⟨rfl,trivial⟩ ⟨hq,hn,fQ,hR,St.bE.2 ⟨a,c,h⟩⟩ ?_
 clear h hq hn fQ hR;rintro⟨k,u⟩ w e ⟨hq,hn,fQ,hres,h⟩;dsimp only at hq hn fQ hres h ⊢;obtain⟨a,c,h⟩:=St.bE.1 h
 obtain⟨k,rfl⟩:∃k',k=k'+1:=by
  cases k with
  |zero=>exact fQ.elim
  |succ k=>exact⟨k,rfl⟩
 obtain⟨p,hp,fQ⟩:=fQ;unfold aT.nR at hres;rw[hp] at hres;dsimp only at hres;obtain⟨o1,o2,_⟩:=aT.sB hq hp;have hlen:=o2.len;obtain⟨g,rfl⟩:=vm hp (h.f 1);have hlt:=(Uc.1 hp).1;have hh:=aT.iQ hq hn;refine Yg ?_;refine qi (jz none (fun w=>St w0 (dR b (sQ g) c u::bC (sQ g) c u.pages::l) w) O1 O1 h.drew fun w h=>?_);refine Y6 ?_;refine qj rfl rfl rfl rfl h (fun _ h=>qh rfl (qq (v:=.slice (sQ g) u.pages.length c) rfl (h.b 0 rfl) rfl)) ?_;refine Y6 ?_;refine qj rfl rfl rfl rfl h (fun _ h=>qh rfl (qq (v:=.iz (u.bK:Int)) rfl (h.b 0 rfl) rfl)) ?_;refine cD rfl rfl rfl rfl h rfl (jj (j:=u.bK) (o':=0+u.bK*7) rfl rfl rfl hlt rfl) ?_;refine cD rfl rfl rfl rfl h rfl (ul rfl) ?_;refine qm ?_;refine pL ?_
 refine qf (Γ:=Bool) (fun ov=>[(0,.pz b),(3,.bool ov)])
  (fun ov w=>p.kind≠3∧(u.eB p).2=ov∧∃p':Pg,(u.eB p).1=(u.cT u.bK p').gV∧p'.Ok∧St w0 (dB b (u.cT u.bK p')::l) w) ?_ ?_
 ·refine Yg ?_;refine Y7 ?_;refine aD (qr (v:=.iz p.kind) rfl (ji (j:=3) hp rfl (h.f 1))) rfl ?_;refine Yi ?_;refine Y3 ?_;by_cases h3:p.kind=3
  ·refine qv (j6 (by rw[h3];rfl) ?_)
   have e1:u.eB p=((u.goes u.bK).qS (-1),false):=by unfold aT.eB;rw[if_pos h3]
   refine AW ?_;refine aD (qq (v:=.iz (u.bK:Int)) rfl (h.b 0 rfl) rfl) rfl ?_;refine aF rfl (qg rfl (zu hn hh hlt (St.bE.2 ⟨_,_,h⟩)) ?_);clear h;intro _ w h;refine rL ?_;refine aF rfl (qg rfl (xg O0 (hq.goes hlt) h) ?_);clear h;intro _ w h;refine qv (ju ?_);refine Eq.mpr (if_neg O2) (Eq.mpr (if_pos rfl) ?_);rw[e1] at hres fQ o1 hlen;rw[if_neg O7] at hres;exact⟨(k,(u.goes u.bK).qS (-1)),⟨rfl,trivial⟩,⟨o1,Uw hlen hn,fQ.resolve_left O7,hres,h⟩,Wz k⟩
  ·refine qv (qt (by show Value.bool (p.kind==3)=_;congr 1;rw[beq_eq_false_iff_ne];exact h3) ?_)
   have hok:=hq.kinds p (Ue hp);refine Y7 ?_;refine aD (qr (v:=.iz p.kind) rfl (ji (j:=3) hp rfl (h.f 1))) rfl ?_;refine Yi ?_;by_cases h1:p.kind=1
   ·refine qz (.bool true) KR ?_;refine Cm ?_;refine aD (qr (v:=.bool p.ref) rfl (ji (j:=4) hp rfl (h.f 1))) rfl ?_;refine Dh ?_;cases hr:p.ref
    ·refine Df ?_;refine Y7 ?_;refine aD (qr (v:=.iz p.kind) rfl (ji (j:=3) hp rfl (h.f 1))) rfl ?_;refine Yi ?_;refine Y3 ?_;refine qv (j6 (by rw[h1];rfl) ?_)
     refine oE ?_;refine vE ?_;refine aF rfl (jo (v:=.iz 2) (h.f 1) rfl rfl (gy (j:=3) hp O2) rfl fun w h=>?_);rw[Uz] at h;replace h:=j4 (p':={ p with kind:=2 }) hp O2 rfl h
     have A1:(u.pages.set u.bK { p with kind:=2 })[u.bK]?=some { p with kind:=2 }:=by rw[Wp hlt]
     refine Yk ?_;refine aF rfl (jo (v:=.bool false) h rfl rfl (gy (j:=4) A1 O2) rfl fun w h=>?_);rw[Uz] at h;replace h:=j4 (p':={ p with kind:=2,ref:=false }) A1 O2 rfl h
     rw[Kn] at h;have Ic:(u.pages.set u.bK { p with kind:=2,ref:=false })[u.bK]?=some { p with kind:=2,ref:=false }:=by rw[Wp hlt]
     refine Yk ?_;refine aF rfl (jo (v:=.bool false) h rfl rfl (gy (j:=5) Ic O2) rfl fun w h=>?_);rw[Uz] at h;replace h:=j4 (p':={ p with kind:=2,ref:=false,bW:=false }) Ic O2 rfl h
     rw[Kn] at h;refine Y2 ?_;refine je ?_;refine Y3 ?_;refine qv ⟨true,gS,h3,?_,{ p with kind:=2,ref:=false,bW:=false },?_,⟨.inr (.inl rfl),hok.2.1,fun h=>by cases h⟩,St.cT (h.f 1)⟩
     ·unfold aT.eB;rw[if_neg h3,if_pos h1,if_neg (by rw[hr];simp)]
     ·unfold aT.eB;rw[if_neg h3,if_pos h1,if_neg (by rw[hr];simp)]
    ·refine Yh ?_;refine AV ?_;refine aF rfl (jo (v:=.bool false) (h.f 1) rfl rfl (gy (j:=4) hp O2) rfl fun w h=>?_);rw[Uz] at h;replace h:=j4 (p':={ p with ref:=false }) hp O2 rfl h
     refine qv ⟨false,gS,h3,?_,{ p with ref:=false },?_,hok,St.cT (h.f 1)⟩
     ·unfold aT.eB;rw[if_neg h3,if_pos h1,if_pos hr]
     ·unfold aT.eB;rw[if_neg h3,if_pos h1,if_pos hr]
   ·refine qz (.bool false) KO ?_;refine zX ?_;refine Y9 ?_;refine Bj ?_;refine Y7 ?_;refine aD (qr (v:=.iz p.kind) rfl (ji (j:=3) hp rfl (h.f 1))) rfl ?_;refine Yi ?_;refine Y3 ?_;refine qv (qt (by show Value.bool (p.kind==1)=_;congr 1;rw[beq_eq_false_iff_ne];exact h1) ?_)
    refine AV ?_;refine aF rfl (jo (v:=.bool false) (h.f 1) rfl rfl (gy (j:=5) hp O2) rfl fun w h=>?_);rw[Uz] at h;replace h:=j4 (p':={ p with bW:=false }) hp O2 rfl h
    refine qv ⟨false,gS,h3,?_,{ p with bW:=false },?_,hok,St.cT (h.f 1)⟩
    ·unfold aT.eB;rw[if_neg h3,if_neg h1]
    ·unfold aT.eB;rw[if_neg h3,if_neg h1]
 rintro ov w e ⟨h3,uW,p',gO,Po,h⟩;refine AW ?_;have hw':=hq.cT (i:=u.bK) Po;have hl':(u.cT u.bK p').pages.length=u.pages.length:=Vd ..;refine aF rfl (qg rfl (oe hw' O0 O0 h) ?_);clear h;intro _ w h;rw[<- gO] at h;refine Yl ?_;refine AP ?_;refine qv (qo ov rfl (fun hc=>?_) (fun hc=>?_))
 ·subst hc;refine qk ?_;rw[if_pos uW] at hres;rw[hres] at h;exact Lx h
 ·subst hc;rw[if_neg (by rw[uW];simp)] at hres
  refine qa ⟨(k,(u.eB p).1),⟨rfl,trivial⟩,⟨o1,Uw hlen hn,fQ.resolve_left (by rw[uW];simp),hres,h⟩,Wz k⟩
theorem df{b:Nat}{q:aT}(hq:q.Wf)(hn:q.pages.length<=1000000)(h:St w0 (dB b q::l) w):bP prog 134 [.pz b] w fun v w'=>St w0 (dB b q.fP::l) w':=by
 obtain⟨a,c,h⟩:=St.bE.1 h;refine en func134 results134 ntmps134 ?_;refine GY ?_;refine rI ?_;refine aD (qx (l:=q.C a c) rfl rfl (qw (h.b 0 rfl) rfl)) rfl ?_;refine aF rfl (qg rfl (gm mj hn vn h) ?_);clear h;rintro _ w ⟨rfl,h⟩;refine Yi ?_;by_cases h0:q.count Pg.test=0
 ·refine qz (.bool true) HH ?_;refine qv (j6 rfl (qk (Lx ?_)));unfold aT.fP;rw[if_pos h0];exact St.bE.2 ⟨a,c,h⟩
 refine qz (.bool false) O6 ?_;refine Y8 ?_;unfold aT.fP;rw[if_neg h0];generalize Mr:q.pages.length+1=fu;have fQ:aT.pP fu q:=by rw[<- Mr];exact aT.BI hq O0
 clear h0 Mr;obtain⟨R,hR⟩:∃R,aT.kP fu q=R:=⟨_,rfl⟩;rw[hR];refine Yg ?_
 refine jy (Γ:=Nat×aT) (fun _=>[(0,.pz b)])
  (fun x w=>x.2.Wf∧x.2.pages.length<=1000000∧aT.pP x.1 x.2∧aT.kP x.1 x.2=R∧St w0 (dB b x.2::l) w) (fun x=>x.1) (fu,q) ⟨rfl,trivial⟩ ⟨hq,hn,fQ,hR,St.bE.2 ⟨a,c,h⟩⟩ ?_
 clear h hq hn fQ hR;rintro⟨k,u⟩ w e ⟨hq,hn,fQ,hres,h⟩;dsimp only at hq hn fQ hres h ⊢;obtain⟨a,c,h⟩:=St.bE.1 h
 obtain⟨k,rfl⟩:∃k',k=k'+1:=by
  cases k with
  |zero=>exact fQ.elim
  |succ k=>exact⟨k,rfl⟩
 obtain⟨p,hp,fQ⟩:=fQ;unfold aT.kP at hres;rw[hp] at hres;dsimp only at hres;obtain⟨o1,o2,_⟩:=aT.tM hq hp;have hlen:=o2.len;obtain⟨g,rfl⟩:=vm hp (h.f 1);have hlt:=(Uc.1 hp).1;have hh:=aT.iQ hq hn;have hok:=hq.kinds p (Ue hp);refine Yg ?_;refine qi (jz none (fun w=>St w0 (dR b (sQ g) c u::bC (sQ g) c u.pages::l) w) O1 O1 h.drew fun w h=>?_);refine Y6 ?_;refine qj rfl rfl rfl rfl h (fun _ h=>qh rfl (qq (v:=.slice (sQ g) u.pages.length c) rfl (h.b 0 rfl) rfl)) ?_;refine Y6 ?_;refine qj rfl rfl rfl rfl h (fun _ h=>qh rfl (qq (v:=.iz (u.test:Int)) rfl (h.b 0 rfl) rfl)) ?_;refine cD rfl rfl rfl rfl h rfl (jj (j:=u.test) (o':=0+u.test*7) rfl rfl rfl hlt rfl) ?_;refine cD rfl rfl rfl rfl h rfl (ul rfl) ?_;refine qm ?_;refine Bm ?_;refine aD (qr (v:=.iz p.kind) rfl (ji (j:=3) hp rfl (h.f 1))) rfl ?_;refine Yi ?_;by_cases h3:p.kind=3
 ·refine qz (.bool true) Nt ?_;have e1:u.dQ p=((u.goes u.test).qS (-1),true):=by unfold aT.dQ;rw[if_pos h3]
  refine Yh ?_;refine AW ?_;refine aD (qq (v:=.iz (u.test:Int)) rfl (h.b 0 rfl) rfl) rfl ?_;refine aF rfl (qg rfl (zu hn hh hlt (St.bE.2 ⟨_,_,h⟩)) ?_);clear h;intro _ w h;refine rL ?_;refine aF rfl (qg rfl (xg O0 (hq.goes hlt) h) ?_);clear h;intro _ w h;refine qv (qk (Lx ?_));rw[e1,if_pos rfl] at hres;rw[<- hres];exact h
 refine qz (.bool false) Nq ?_;refine Y8 ?_
 refine qf (Γ:=Unit) (fun _=>[(0,.pz b)])
  (fun _ w=>(u.dQ p).2=false∧∃u':aT,(u.dQ p).1=u'.jJ∧u'.Wf∧u'.pages.length=u.pages.length∧St w0 (dB b u'::l) w) ?_ ?_
 ·refine Y7 ?_;refine aD (qr (v:=.iz p.kind) rfl (ji (j:=3) hp rfl (h.f 1))) rfl ?_;refine Yi ?_;by_cases h2:p.kind=2
  ·refine qz (.bool true) KQ ?_;refine Cm ?_;refine aD (qr (v:=.bool p.bW) rfl (ji (j:=5) hp rfl (h.f 1))) rfl ?_;refine Ye ?_;cases hr:p.bW
   ·refine Df ?_;refine qa ⟨(),⟨rfl,trivial⟩,?_,u,?_,hq,rfl,St.bE.2 ⟨_,_,h⟩⟩
    ·unfold aT.dQ;rw[if_neg h3,if_neg (by rw[hr];simp)]
    ·unfold aT.dQ;rw[if_neg h3,if_neg (by rw[hr];simp)]
   ·refine Yh ?_;refine Y7 ?_;refine aF rfl (jo (v:=.bool false) (h.f 1) rfl rfl (gy (j:=5) hp O2) rfl fun w h=>?_);rw[Uz] at h;replace h:=j4 (p':={ p with bW:=false }) hp O2 rfl h
    have hw':=hq.cT (i:=u.test) (p':={ p with bW:=false }) hok
    refine GO ?_;refine aF rfl (qg rfl (xg O0 hw' (St.cT (h.f 1))) ?_);clear h;intro _ w h;refine qv ⟨(),⟨rfl,trivial⟩,?_,(u.cT u.test { p with bW:=false }).qS (-1),?_,hw'.qS _,Vd ..,h⟩
    ·unfold aT.dQ;rw[if_neg h3,if_pos ⟨h2,hr⟩]
    ·unfold aT.dQ;rw[if_neg h3,if_pos ⟨h2,hr⟩]
  ·refine qz (.bool false) KN ?_;refine zX ?_;refine Y9 ?_;refine Df ?_;refine qa ⟨(),⟨rfl,trivial⟩,?_,u,?_,hq,rfl,St.bE.2 ⟨_,_,h⟩⟩
   ·unfold aT.dQ;rw[if_neg h3,if_neg (by simp[h2])]
   ·unfold aT.dQ;rw[if_neg h3,if_neg (by simp[h2])]
 rintro-w e ⟨uW,u',gO,hw',hl',h⟩;refine Ci ?_;refine vE ?_;refine aF rfl (qg rfl (cx hw' O0 O0 h) ?_);clear h;intro _ w h;rw[<- gO] at h;rw[if_neg (by rw[uW];simp)] at hres
 exact qv ⟨(k,(u.dQ p).1),⟨rfl,trivial⟩,⟨o1,Uw hlen hn,fQ.resolve_left (by rw[uW];simp),hres,h⟩,Wz k⟩
theorem mg{b:Nat}{q:aT}(hq:q.Wf)(hn:q.pages.length<=1000000)(h:St w0 (dB b q::l) w):bP prog 88 [.pz b] w fun v w'=>St w0 (dB b q.kQ::l) w':=by
 refine en func88 results88 ntmps88 ?_;unfold aT.kQ;have hc0:q.count Pg.bK<q.pages.length+1:=by have:=aT.jK q Pg.bK;omega
 generalize q.pages.length+1=fu at hc0;obtain⟨R,hR⟩:∃R,aT.iO fu q=R:=⟨_,rfl⟩;rw[hR];refine Yg ?_
 refine jy (Γ:=Nat×aT) (fun _=>[(0,.pz b)])
  (fun x w=>x.2.Wf∧x.2.pages.length<=1000000∧x.2.count Pg.bK<x.1∧aT.iO x.1 x.2=R∧St w0 (dB b x.2::l) w) (fun x=>x.1) (fu,q) ⟨rfl,trivial⟩ ⟨hq,hn,hc0,hR,h⟩ ?_
 clear h hq hn hc0 hR;rintro⟨k,u⟩ w e ⟨hq,hn,hk,hres,h⟩;dsimp only at hq hn hk hres h ⊢;obtain⟨a,c,h⟩:=St.bE.1 h;obtain⟨k,rfl⟩:∃k',k=k'+1:=⟨k-1,cI⟩;unfold aT.iO at hres;have hm:=hq.most;have ht:=hq.target;refine qi (qi (jz none (fun w=>St w0 (dR b a c u::bC a c u.pages::l) w) O1 O1 h.drew fun w h=>?_));refine tY ?_;refine GM ?_;refine qj rfl rfl rfl rfl h (fun _ h=>qh rfl (qx (l:=u.C a c) rfl rfl (qw (h.b 0 rfl) rfl))) ?_;refine Ym ?_;refine Y6 ?_;refine qj rfl rfl rfl rfl h (fun _ h=>qh rfl (qq (v:=.iz u.most) rfl (h.b 0 rfl) rfl)) ?_;refine Y6 ?_;refine qj rfl rfl rfl rfl h (fun _ h=>qh rfl (qq (v:=.iz u.target) rfl (h.b 0 rfl) rfl)) ?_;refine cD rfl rfl rfl rfl h rfl (q9 (v':=.iz (u.most-u.target)) (vk rfl rfl) (congrArg Value.iz (wrap64 O0 O0))) ?_;refine Ym ?_;refine qd 3 rfl rfl rfl rfl (qg rfl (gm cu hn vn h) ?_);clear h;rintro _ w ⟨rfl,h⟩;refine⟨fun _=>h,?_⟩;refine cD rfl rfl rfl rfl h rfl (ue rfl rfl) ?_;refine qm ?_;refine qo (decide ((u.count Pg.bK:Int)>u.most-u.target)) rfl (fun hc=>?_) (fun hc=>?_)
 ·have lO:(u.count Pg.bK:Int)>u.most-u.target:=by simpa using hc
  rw[if_pos lO] at hres;refine Yu ?_;refine Yg ?_;refine Ci ?_;obtain⟨o1,o2,o3⟩:=aT.mB hq;have hlen:=o2.len;refine aF rfl (qg rfl (zm hq hn (St.bE.2 ⟨_,_,h⟩)) ?_);clear h;intro _ w h;exact qv ⟨(k,u.eM),⟨rfl,trivial⟩,⟨o1,Uw hlen hn,(show u.eM.count Pg.bK<k by omega),hres,h⟩,Wz k⟩
 ·have lO:¬(u.count Pg.bK:Int)>u.most-u.target:=by simpa using hc
  rw[if_neg lO] at hres;refine ju ?_;refine Eq.mpr (if_pos rfl) (uN ?_);rw[<- hres];exact St.bE.2 ⟨_,_,h⟩
end
end
section
section
variable{w0 w:World}{l:List aC}
theorem Tp{g c x:Nat}{L:List Pg}{p:Pg}(hp:L[x]?=some p)(h:St w0 (bC (sQ g) c L::l) w):At w g (0+x*7+0) p.key.C:=by
 have h2:=h.bU.elem gb hp;intro j v hj;have XZ:j<3:=(Uc.1 hj).1;refine h2 j v ?_;rcases(show j=0∨j=1∨j=2 by omega) with rfl|rfl|rfl <;> exact hj
theorem cw{b:Nat}{q:aT}{p:Pg}(hq:q.Wf)(hn:q.pages.length<=1000000)(hp:q.pages[q.bM]?=some p)(hc0:p.cA=true)(h:St w0 (dB b q::l) w):
  bP prog 119 [.pz b] w fun v w'=>v=.agg p.key.C.toArray∧St w0 (dB b (q.nS p)::l) w':=by
 obtain⟨a,c,h⟩:=St.bE.1 h;have hh:=aT.iQ hq hn;have hlt:=(Uc.1 hp).1;have lO:p.kind=2∧p.pins=0:=by unfold Pg.cA at hc0;simpa using hc0
 have hok:=hq.kinds p (Ue hp);obtain⟨g,rfl⟩:=vm hp (h.f 1);refine en func119 results119 ntmps119 ?_;refine Y1 ?_;refine aF rfl (qn h fun b2 w h=>?_);replace h:St w0 (bS b2 ⟨0,0,0⟩::dR b (sQ g) c q::bC (sQ g) c q.pages::l) w:=h;refine Y2 ?_;refine qi (jz none (fun w=>St w0 (bS b2 ⟨0,0,0⟩::dR b (sQ g) c q::bC (sQ g) c q.pages::l) w) O1 O1 h.drew fun w h=>?_);refine Y6 ?_;refine qj rfl rfl rfl rfl h (fun _ h=>qh rfl (qq (v:=.slice (sQ g) q.pages.length c) rfl (h.b 1 rfl) rfl)) ?_;refine Y6 ?_;refine qj rfl rfl rfl rfl h (fun _ h=>qh rfl (qq (v:=.iz (q.bM:Int)) rfl (h.b 1 rfl) rfl)) ?_;refine cD rfl rfl rfl rfl h rfl (jj (j:=q.bM) (o':=0+q.bM*7) rfl rfl rfl hlt rfl) ?_;refine cD rfl rfl rfl rfl h rfl (ul rfl) ?_;refine qm ?_;refine Y7 ?_;refine aD (qx (l:=p.key.C) rfl rfl (Tp hp (h.f 2))) rfl ?_;refine aF rfl (qn h fun b4 w h=>?_);refine aF rfl (qy (vs:=p.key.C) 0 h rfl rfl rfl rfl rfl rfl rfl fun w h=>?_);replace h:St w0 (bS b4 p.key::bS b2 ⟨0,0,0⟩::dR b (sQ g) c q::bC (sQ g) c q.pages::l) w:=h;refine Y2 ?_
 refine qf (Γ:=Unit) (fun _=>[(0,.pz b),(2,.pz b2),(4,.pz b4)])
  (fun _ w=>∃u:aT,q.nS p=u.BH∧u.Wf∧u.pages.length<=1000000∧St w0 (dB b u::bS b4 p.key::bS b2 ⟨0,0,0⟩::l) w) ?_ ?_
 ·refine Y7 ?_;refine aD (qr (v:=.bool p.bW) rfl (ji (j:=5) hp rfl (h.f 3))) rfl ?_;cases ht:p.bW
  ·refine Df ?_;refine Ci ?_;refine vE ?_;refine aD (qq (v:=.iz (q.bM:Int)) rfl (h.b 2 rfl) rfl) rfl ?_;refine aF rfl (qg rfl (zu hn hh hlt (l:=bS b4 p.key::bS b2 ⟨0,0,0⟩::l) (St.bE.2 ⟨_,_,h.o [2,3,0,1]⟩)) ?_);clear h;intro _ w h;refine qv ⟨(),kK,q.goes q.bM,?_,hq.goes hlt,?_,h⟩
   ·unfold aT.nS;rw[if_neg (by rw[ht];simp)]
   ·show(q.pages.eraseIdx q.bM).length<=_;rw[Zd hlt];omega
  ·refine Yh ?_;refine Y7 ?_;refine aF rfl (jo (v:=.iz 3) (h.f 3) rfl rfl (gy (j:=3) hp O2) rfl fun w h=>?_);rw[Uz] at h;replace h:=j4 (p':={ p with kind:=3 }) hp O2 rfl h
   have hw':=hq.cT (i:=q.bM) (p':={ p with kind:=3 }) ⟨.inr (.inr rfl),hok.2.1,fun _=>lO.2⟩
   have hl':(q.cT q.bM { p with kind:=3 }).pages.length=q.pages.length:=Vd ..
   refine GO ?_;refine vE ?_;refine aF rfl (qg rfl (uf hw' O0 O0 (l:=bS b4 p.key::bS b2 ⟨0,0,0⟩::l) (St.cT (h.o [3,0,1,2]))) ?_);clear h;intro _ w h;refine qv ⟨(),kK,_,?_,hw'.cZ (aT.mQ hp),?_,h⟩
   ·unfold aT.nS;rw[if_pos ht]
   ·show(q.pages.set q.bM _).length<=_;rw[Vd];exact hn
 rintro-w e ⟨u,he,Rb,hn',h⟩;rw[he];clear he;refine qf (Γ:=Unit) (fun _=>[(2,.pz b2),(4,.pz b4)]) (fun _ w=>St w0 (dB b u.BH::bS b4 p.key::bS b2 ⟨0,0,0⟩::l) w) ?_ ?_
 ·unfold aT.BH;have hc0:u.count Pg.test<u.pages.length+1:=by have:=aT.jK u Pg.test;omega
  generalize u.pages.length+1=fu at hc0;obtain⟨R,hR⟩:∃R,aT.jO fu u=R:=⟨_,rfl⟩;rw[hR];refine Yg ?_
  refine jy (Γ:=Nat×aT) (fun _=>[(0,.pz b),(2,.pz b2),(4,.pz b4)])
   (fun x w=>x.2.Wf∧x.2.pages.length<=1000000∧x.2.count Pg.test<x.1∧aT.jO x.1 x.2=R∧St w0 (dB b x.2::bS b4 p.key::bS b2 ⟨0,0,0⟩::l) w) (fun x=>x.1) (fu,u) kK ⟨Rb,hn',hc0,hR,h⟩ ?_
  clear h Rb hn' hc0 hR;rintro⟨k,u⟩ w e ⟨hq,hn,hk,hres,h⟩;dsimp only at hq hn hk hres h ⊢;obtain⟨a,c,h⟩:=St.bE.1 h;obtain⟨k,rfl⟩:∃k',k=k'+1:=⟨k-1,cI⟩;unfold aT.jO at hres;have hm:=hq.most;refine qi (qi (jz none (fun w=>St w0 (dR b a c u::bC a c u.pages::bS b4 p.key::bS b2 ⟨0,0,0⟩::l) w) O1 O1 h.drew fun w h=>?_));refine tY ?_;refine GM ?_;refine qj rfl rfl rfl rfl h (fun _ h=>qh rfl (qx (l:=u.C a c) rfl rfl (qw (h.b 0 rfl) rfl))) ?_;refine Ym ?_;refine Y6 ?_;refine qj rfl rfl rfl rfl h (fun _ h=>qh rfl (qq (v:=.iz u.most) rfl (h.b 0 rfl) rfl)) ?_;refine Ym ?_;refine qd 3 rfl rfl rfl rfl (qg rfl (gm mj hn vn h) ?_);clear h;rintro _ w ⟨rfl,h⟩;refine⟨fun _=>h,?_⟩;refine cD rfl rfl rfl rfl h rfl (ue rfl rfl) ?_;refine qm ?_;refine qo (decide ((u.count Pg.test:Int)>u.most)) rfl (fun hc=>?_) (fun hc=>?_)
  ·have lO:(u.count Pg.test:Int)>u.most:=by simpa using hc
   rw[if_pos lO] at hres;refine Yu ?_;refine Yg ?_;refine Ci ?_;obtain⟨o1,o2,o3⟩:=aT.sC hq;have hlen:=o2.len;refine aF rfl (qg rfl (df hq hn (St.bE.2 ⟨_,_,h⟩)) ?_);clear h;intro _ w h;exact qv ⟨(k,u.fP),kK,⟨o1,Uw hlen hn,(show u.fP.count Pg.test<k by omega),hres,h⟩,Wz k⟩
  ·have lO:¬(u.count Pg.test:Int)>u.most:=by simpa using hc
   rw[if_neg lO] at hres;refine ju ?_;refine Eq.mpr (if_pos rfl) ⟨(),gS,?_⟩;rw[<- hres];exact St.bE.2 ⟨_,_,h⟩
 rintro-w e h;refine Y1 ?_;refine aD (qx (l:=p.key.C) rfl rfl (qw (h.b 1 rfl) rfl)) rfl ?_;refine aF rfl (qy (vs:=p.key.C) 2 h rfl rfl rfl rfl rfl rfl rfl fun w h=>?_);refine qv (qk ?_);refine Ly (v:=.agg p.key.C.toArray) (js (by rfl) (qw (h.b 2 rfl) rfl)) ⟨rfl,?_⟩
 exact h.x [1,2]
theorem dt{b:Nat}{q:aT}(hq:q.Wf)(hn:q.pages.length<=1000000)(hf:1<=q.count Pg.free)(h:St w0 (dB b q::l) w):
  bP prog 86 [.pz b] w fun v w'=>∃key:bL,q.dS.2=some key∧v=.agg key.C.toArray∧St w0 (dB b q.dS.1::l) w':=by
 refine en func86 results86 ntmps86 ?_;refine Y1 ?_;refine aF rfl (qn h fun b2 w h=>?_);replace h:St w0 (dB b q::bS b2 ⟨0,0,0⟩::l) w:=h.f 1;refine Y2 ?_;unfold aT.dS;have fQ:=aT.BK hq hf;generalize q.rZ=fu at fQ;obtain⟨R,hR⟩:∃R,aT.jP fu q=R:=⟨_,rfl⟩;rw[hR];refine Yg ?_
 refine jy (Γ:=Nat×aT) (fun _=>[(0,.pz b),(2,.pz b2)])
  (fun x w=>x.2.Wf∧x.2.pages.length<=1000000∧1<=x.2.count Pg.free∧aT.hU x.1 x.2∧aT.jP x.1 x.2=R∧St w0 (dB b x.2::bS b2 ⟨0,0,0⟩::l) w) (fun x=>x.1) (fu,q) gS ⟨hq,hn,hf,fQ,hR,h⟩ ?_
 clear h hq hn hf fQ hR;rintro⟨k,q⟩ w e ⟨hq,hn,hf,fQ,hres,h⟩;dsimp only at hq hn hf fQ hres h ⊢
 obtain⟨k,rfl⟩:∃k',k=k'+1:=by
  cases k with
  |zero=>exact fQ.elim
  |succ k=>exact⟨k,rfl⟩
 obtain⟨p,hp,fQ⟩:=fQ;obtain⟨w1,w2,w3⟩:=aT.sD hq hf;have Hl:=w2.len;unfold aT.jP at hres;rw[hp] at hres;dsimp only at hres;obtain⟨o1,o2⟩:=aT.tN w1 hp;have hwf:1<=q.fI.count Pg.free:=by rw[w2.free];exact hf
 refine Yg ?_;refine qf (Γ:=Unit) (fun _=>[(0,.pz b),(2,.pz b2)]) (fun _ w=>St w0 (dB b q.fI::bS b2 ⟨0,0,0⟩::l) w) ?_ ?_
 ·unfold aT.fI;have hc0:q.count Pg.bK<q.pages.length+1:=by have:=aT.jK q Pg.bK;omega
  generalize q.pages.length+1=fu at hc0;clear hres fQ hp w1 w2 w3 Hl o1 o2 hwf;obtain⟨W,hW⟩:∃W,aT.jN fu q=W:=⟨_,rfl⟩;rw[hW];refine Yg ?_
  refine jy (Γ:=Nat×aT) (fun _=>[(0,.pz b),(2,.pz b2)])
   (fun x w=>x.2.Wf∧x.2.pages.length<=1000000∧1<=x.2.count Pg.free∧x.2.count Pg.bK<x.1∧aT.jN x.1 x.2=W∧St w0 (dB b x.2::bS b2 ⟨0,0,0⟩::l) w) (fun x=>x.1) (fu,q) gS ⟨hq,hn,hf,hc0,hW,h⟩ ?_
  clear h hq hn hf hc0 hW;rintro⟨k,u⟩ w e ⟨hq,hn,hf,hk,hres,h⟩;dsimp only at hq hn hf hk hres h ⊢;obtain⟨a,c,h⟩:=St.bE.1 h;obtain⟨k,rfl⟩:∃k',k=k'+1:=⟨k-1,cI⟩;unfold aT.jN at hres;refine GY ?_;refine rI ?_;refine aD (qx (l:=u.C a c) rfl rfl (qw (h.b 0 rfl) rfl)) rfl ?_;refine aF rfl (qg rfl (gm zb hn vn h) ?_);clear h;rintro _ w ⟨rfl,h⟩;refine Yi ?_;by_cases hc:u.count Pg.cA=0
  ·refine qz (.bool true) HH ?_;rw[if_pos hc] at hres;refine E7 ?_;refine Yg ?_;refine Ci ?_;obtain⟨o1,o2,o3⟩:=aT.mB hq;have hlen:=o2.len;have hfs:=aT.zL u hc hf;refine aF rfl (qg rfl (zm hq hn (St.bE.2 ⟨_,_,h⟩)) ?_);clear h;intro _ w h;exact qv ⟨(k,u.eM),gS,⟨o1,Uw hlen hn,(show 1<=u.eM.count Pg.free by rw[o2.free];exact hf),(show u.eM.count Pg.bK<k by omega),hres,h⟩,Wz k⟩
  ·refine qz (.bool false) O6 ?_;rw[if_neg hc] at hres;refine qv (qt rfl (ju ?_));refine Eq.mpr (if_pos rfl) ⟨(),gS,?_⟩;rw[<- hres];exact St.bE.2 ⟨_,_,h⟩
 rintro-w e h;generalize q.fI=u at hp hres fQ o1 o2 hwf w1 w2 w3 Hl h;have hn:u.pages.length<=1000000:=by omega
 clear w2 Hl hf hq;obtain⟨a,c,h⟩:=St.bE.1 h;obtain⟨g,rfl⟩:=vm hp (h.f 1);have hlt:=(Uc.1 hp).1;have hh:=aT.iQ w1 hn;have hok:=w1.kinds p (Ue hp)
 have go:∀u',u.dZ p=(u',none)->u'.Wf∧u'.pages.length<=1000000∧1<=u'.count Pg.free∧aT.hU k u'∧aT.jP k u'=R:=by
  intro u' he;rw[he] at o1 o2 fQ hres;rcases o2 with⟨_,o2⟩|⟨key,hk,_⟩
  ·have:=o2.len;exact⟨o1,Uw this hn,by rw[o2.free];exact hwf,fQ.resolve_left (by rintro⟨key,hk⟩;cases hk),hres⟩
  ·cases hk
 refine qi (jz none (fun w=>St w0 (dR b (sQ g) c u::bC (sQ g) c u.pages::bS b2 ⟨0,0,0⟩::l) w) O1 O1 h.drew fun w h=>?_);refine Y6 ?_;refine qj rfl rfl rfl rfl h (fun _ h=>qh rfl (qq (v:=.slice (sQ g) u.pages.length c) rfl (h.b 0 rfl) rfl)) ?_;refine Y6 ?_;refine qj rfl rfl rfl rfl h (fun _ h=>qh rfl (qq (v:=.iz (u.bM:Int)) rfl (h.b 0 rfl) rfl)) ?_;refine cD rfl rfl rfl rfl h rfl (jj (j:=u.bM) (o':=0+u.bM*7) rfl rfl rfl hlt rfl) ?_;refine cD rfl rfl rfl rfl h rfl (ul rfl) ?_;refine qm ?_;refine GY ?_;refine rI ?_;refine aD (qx (l:=p.C) rfl rfl (((h.f 1).bU).elem gb hp)) rfl ?_;refine aF rfl (qg rfl (zb p h) ?_);clear h;rintro _ w ⟨rfl,h⟩;refine oO ?_;cases Gs:p.cA
 ·refine Yh ?_;have he:u.dZ p=(u.cZ,none):=by unfold aT.dZ;rw[if_pos Gs]
  refine AW ?_;refine aF rfl (qg rfl (uf w1 hn O0 (St.bE.2 ⟨_,_,h⟩)) ?_);clear h;intro _ w h;refine qv (ju ?_);obtain⟨g1,g2,g3,g4,g5⟩:=go _ he;exact Eq.mpr (if_pos rfl) ⟨(k,u.cZ),gS,⟨g1,g2,g3,g4,g5,h⟩,Wz k⟩
 refine Y8 ?_;have La:¬p.cA=false:=by rw[Gs];simp
 refine Yg ?_;refine Y7 ?_;refine aD (qr (v:=.bool p.ref) rfl (ji (j:=4) hp rfl (h.f 1))) rfl ?_;cases hr:p.ref
 ·refine zX ?_;refine Y9 ?_;refine Bj ?_;refine Y7 ?_;refine aD (qr (v:=.bool p.ref) rfl (ji (j:=4) hp rfl (h.f 1))) rfl ?_;rw[hr];refine Bj ?_;have he:u.dZ p=(u.nS p,some p.key):=by unfold aT.dZ;rw[if_neg La,if_neg (by rw[hr];simp)]
  rw[he] at hres;dsimp only at hres;refine Yq ?_;refine aF rfl (qg rfl (cw w1 hn hp Gs (St.bE.2 ⟨_,_,h⟩)) ?_);clear h;rintro _ w ⟨rfl,h⟩;refine aF rfl (qy (vs:=p.key.C) 1 h rfl rfl rfl rfl rfl rfl rfl fun w h=>?_);refine qv (qk ?_);refine Ly (v:=.agg p.key.C.toArray) (js (by rfl) (qw (h.b 1 rfl) rfl)) ⟨p.key,by rw[<- hres],rfl,?_⟩
  rw[<- hres];exact h.x [1]
 ·refine Cm ?_;refine aD (qr (v:=.bool p.bW) rfl (ji (j:=5) hp rfl (h.f 1))) rfl ?_;cases ht:p.bW
  ·refine Ye ?_;refine Bj ?_;refine Y7 ?_;refine aD (qr (v:=.bool p.ref) rfl (ji (j:=4) hp rfl (h.f 1))) rfl ?_;rw[hr];refine vD ?_;have he:u.dZ p=((u.cT u.bM { p with ref:=false,bW:=true }).cZ,none):=by unfold aT.dZ;rw[if_neg La,if_pos hr,if_neg (by rw[ht];simp)]
   refine AW ?_;refine aF rfl (jo (v:=.bool false) (h.f 1) rfl rfl (gy (j:=4) hp O2) rfl fun w h=>?_);rw[Uz] at h;replace h:=j4 (p':={ p with ref:=false }) hp O2 rfl h
   have A1:(u.pages.set u.bM { p with ref:=false })[u.bM]?=some { p with ref:=false }:=by rw[Wp hlt]
   refine Yk ?_;refine aF rfl (jo (v:=.bool true) h rfl rfl (gy (j:=5) A1 O2) rfl fun w h=>?_);rw[Uz] at h;replace h:=j4 (p':={ p with ref:=false,bW:=true }) A1 O2 rfl h
   rw[Kn] at h;have hw':=w1.cT (i:=u.bM) (p':={ p with ref:=false,bW:=true }) hok
   have hl':(u.cT u.bM { p with ref:=false,bW:=true }).pages.length=u.pages.length:=Vd ..
   refine GO ?_;refine vE ?_;refine aF rfl (qg rfl (uf hw' O0 O0 (St.cT (h.f 1))) ?_);clear h;intro _ w h;obtain⟨g1,g2,g3,g4,g5⟩:=go _ he;exact qv ⟨(k,(u.cT u.bM { p with ref:=false,bW:=true }).cZ),gS,⟨g1,g2,g3,g4,g5,h⟩,Wz k⟩
  ·refine Ye ?_;refine vD ?_;have he:u.dZ p=(((u.cT u.bM { p with kind:=1,ref:=false,bW:=false }).cZ).kQ,none):=by unfold aT.dZ;rw[if_neg La,if_pos hr,if_pos ht]
   refine oE ?_;refine vE ?_;refine aF rfl (jo (v:=.iz 1) (h.f 1) rfl rfl (gy (j:=3) hp O2) rfl fun w h=>?_);rw[Uz] at h;replace h:=j4 (p':={ p with kind:=1 }) hp O2 rfl h
   have A1:(u.pages.set u.bM { p with kind:=1 })[u.bM]?=some { p with kind:=1 }:=by rw[Wp hlt]
   refine Yk ?_;refine aF rfl (jo (v:=.bool false) h rfl rfl (gy (j:=4) A1 O2) rfl fun w h=>?_);rw[Uz] at h;replace h:=j4 (p':={ p with kind:=1,ref:=false }) A1 O2 rfl h
   rw[Kn] at h;have Ic:(u.pages.set u.bM { p with kind:=1,ref:=false })[u.bM]?=some { p with kind:=1,ref:=false }:=by rw[Wp hlt]
   refine Yk ?_;refine aF rfl (jo (v:=.bool false) h rfl rfl (gy (j:=5) Ic O2) rfl fun w h=>?_);rw[Uz] at h;replace h:=j4 (p':={ p with kind:=1,ref:=false,bW:=false }) Ic O2 rfl h
   rw[Kn] at h;have hw':=w1.cT (i:=u.bM) (p':={ p with kind:=1,ref:=false,bW:=false }) ⟨.inl rfl,hok.2.1,fun h=>by cases h⟩
   have hl':(u.cT u.bM { p with kind:=1,ref:=false,bW:=false }).pages.length=u.pages.length:=Vd ..
   refine Y2 ?_;refine AW ?_;refine aF rfl (qg rfl (uf hw' O0 O0 (St.cT (h.f 1))) ?_);clear h;intro _ w h;refine GO ?_;refine aF rfl (qg rfl (mg (hw'.cZ (aT.mQ hp)) (show(u.cT u.bM { p with kind:=1,ref:=false,bW:=false }).pages.length<=_ by omega) h) ?_)
   clear h;intro _ w h;obtain⟨g1,g2,g3,g4,g5⟩:=go _ he;exact qv ⟨(k,((u.cT u.bM { p with kind:=1,ref:=false,bW:=false }).cZ).kQ),gS,⟨g1,g2,g3,g4,g5,h⟩,Wz k⟩
end
end
end Go.Proofs.YtngdfdangkdgcaaGreatDoor
namespace Go.Hw
section
theorem aT.pQ{q:aT}{k:bL}{i:Nat}(h:q.find k=some i):∃p,q.pages[i]?=some p∧p.key=k:=by
 unfold aT.find at h;rw[Zj] at h;obtain⟨h1,h2,_⟩:=h;exact⟨_,Ub h1,by simpa using h2⟩
theorem BO{P:Program}{φ:Value->World->Prop}{e:Env}{w:World}{a b:Tmp}{t:TypeId}{v:Value}(hv:(do loadVar t (<- asAddr (e a)):Sem Value).run P w=.ok v w)(h:φ (.tuple [v,e b].toArray) w):bq P [.cell a t,.tmp b] φ .ret e w:=⟨v,hv,h⟩
theorem Fx{P:Program}{φ:Value->World->Prop}{e:Env}{w:World}{a b c:Tmp}{t:TypeId}{v:Value}(hv:(do loadVar t (<- asAddr (e a)):Sem Value).run P w=.ok v w)(h:φ (.tuple [v,e b,e c].toArray) w):bq P [.cell a t,.tmp b,.tmp c] φ .ret e w:=⟨v,hv,h⟩
end
end Go.Hw
namespace Go.Proofs.YtngdfdangkdgcaaGreatDoor
open Go.Hw _root_.Go.Proofs.Tryz
section
def Pp:List Value:=[.iz 0,.iz 0,.slice none 0 0,.iz 0,.iz 0,.iz 0]
abbrev oI(b:Nat):aC:=pt b (.cells Pp.toArray 104 (0,0))
section
variable{w0 w:World}{l:List aC}
theorem Tq(n:Int)(h:St w0 l w):bP prog 54 [.iz n] w fun v w'=>v=.agg ((aT.new n).C none 0).toArray∧St w0 l w':=by
 refine en func54 results54 ntmps54 ?_;refine Y1 ?_;refine aF rfl (qn h fun b w h=>?_);refine Y2 ?_;refine LH ?_;refine aD (qc (r:=(aT.new n).C none 0) rfl) rfl ?_;refine aF rfl (qy (vs:=(aT.new n).C none 0) 0 h rfl rfl rfl rfl rfl rfl rfl fun w h=>?_);refine qv (qk ?_);exact Ly (v:=.agg ((aT.new n).C none 0).toArray) (js (by rfl) (qw (h.b 0 rfl) rfl)) ⟨rfl,h.drop⟩
theorem zc{a:Option Addr}{c:Nat}{q:aT}{k:bL}(hn:q.pages.length<=1000000)(hr:Reads w0 l 7 a q.pages.length (cO q.pages))(h:St w0 l w):
  bP prog 78 [.agg (q.C a c).toArray,.agg k.C.toArray] w fun v w'=>∃a' c',v=.tuple [.agg ((q.cH k).1.C a' c').toArray,.bool (q.cH k).2].toArray∧St w0 (bC a' c' (q.cH k).1.pages::l) w':=by
 refine en func78 results78 ntmps78 ?_;refine Y1 ?_;refine aF rfl (jk h (show _=Value.agg (q.C a c).toArray from rfl) fun b2 w h=>?_);refine aF rfl (jk h (show _=Value.agg k.C.toArray from rfl) fun b3 w h=>?_);refine aF rfl (qn h fun b4 w h=>?_);replace h:St w0 (oI b4::bS b3 k::dR b2 a c q::l) w:=h;refine Ya ?_;refine Y1 ?_;refine aD (qx (l:=q.C a c) rfl rfl (qw (h.b 2 rfl) rfl)) rfl ?_;refine aD (qx (l:=k.C) rfl rfl (qw (h.b 1 rfl) rfl)) rfl ?_;refine aF rfl (qg rfl (zv hn (hr.more [_,_,_]) h) ?_);clear h;rintro _ w ⟨rfl,h⟩;refine Y5 ?_;refine qf (Γ:=Nat) (fun i=>[(2,.pz b2),(4,.pz b4),(6,.iz i)]) (fun i w=>(∃p,q.pages[i]?=some p∧q.cH k=(q.cT i { p with ref:=true },true))∧St w0 (oI b4::bS b3 k::dR b2 a c q::l) w) ?_ ?_
 ·refine Cl ?_;cases hf:q.find k with
  |none=>
   have ht:q.cH k=(q,false):=by unfold aT.cH;rw[hf]
   refine K8 ?_;refine Yy ?_;refine aD (qx (l:=q.C a c) rfl rfl (qw (h.b 2 rfl) rfl)) rfl ?_;refine aF rfl (qg rfl (gn hn (hr.more [_,_,_]) h) ?_);clear h;rintro _ w ⟨a',c',rfl,h⟩;refine aF rfl (qy (vs:=q.C a' c') 1 h rfl rfl rfl rfl rfl rfl rfl fun w h=>?_);refine Y3 ?_;refine qv (qk ?_);refine BO (v:=.agg (q.C a' c').toArray) (js (by rfl) (qw (h.b 1 rfl) rfl)) ⟨a',c',by rw[ht];rfl,?_⟩
   rw[ht];exact h.x [1,2,3]
  |some i=>
   obtain⟨p,hp,hk⟩:=aT.pQ hf;have hlt:=(Uc.1 hp).1;have lC:=h;obtain⟨g,o,rfl⟩:=((hr.more [_,_,_]).at_ h).some O0
   have h:=lC;refine qz (.bool false) (by congr 1) ?_
   refine pV ?_;refine aD (qq (v:=.slice (some ⟨g,o,none⟩) q.pages.length c) rfl (h.b 2 rfl) rfl) rfl ?_;refine xW ?_;refine aD (jj (j:=i) (o':=o+i*7) rfl rfl rfl hlt rfl) rfl ?_;refine Yf ?_;refine aD (qx (l:=p.C) rfl rfl (((hr.more [_,_,_]).at_ h).elem gb hp)) rfl ?_
   refine Yf ?_;refine aF rfl (qg rfl (gl p h) ?_);clear h lC;rintro _ w ⟨rfl,h⟩;refine NC ?_;cases hres:p.aJ
   ·have ht:q.cH k=(q,false):=by unfold aT.cH;rw[hf];dsimp only;rw[hp];dsimp only;rw[hres];rfl
    refine Y9 ?_;refine Yy ?_;refine aD (qx (l:=q.C (some ⟨g,o,none⟩) c) rfl rfl (qw (h.b 2 rfl) rfl)) rfl ?_;refine aF rfl (qg rfl (gn hn (hr.more [_,_,_]) h) ?_);clear h;rintro _ w ⟨a',c',rfl,h⟩;refine aF rfl (qy (vs:=q.C a' c') 1 h rfl rfl rfl rfl rfl rfl rfl fun w h=>?_);refine Y3 ?_;refine qv (qk ?_);refine BO (v:=.agg (q.C a' c').toArray) (js (by rfl) (qw (h.b 1 rfl) rfl)) ⟨a',c',by rw[ht];rfl,?_⟩
    rw[ht];exact h.x [1,2,3]
   ·have ht:q.cH k=(q.cT i { p with ref:=true },true):=by unfold aT.cH;rw[hf];dsimp only;rw[hp];dsimp only;rw[hres];rfl
    refine Y9 ?_;exact qv (qt rfl (qa ⟨i,kK,⟨p,hp,ht⟩,h⟩))
 rintro i w e ⟨⟨p,hp,ht⟩,h⟩;have hlt:=(Uc.1 hp).1;rw[ht];refine Y1 ?_;refine aD (qx (l:=q.C a c) rfl rfl (qw (h.b 2 rfl) rfl)) rfl ?_;refine aF rfl (qg rfl (gn hn (hr.more [_,_,_]) h) ?_);clear h;rintro _ w ⟨a',c',rfl,h⟩;refine aF rfl (qy (vs:=q.C a' c') 3 h rfl rfl rfl rfl rfl rfl rfl fun w h=>?_);replace h:St w0 (bC a' c' q.pages::oI b4::bS b3 k::dR b2 a' c' q::l) w:=h;obtain⟨g,rfl⟩:=vm hp h;refine Cv ?_;refine aD (qq (v:=.slice (sQ g) q.pages.length c') rfl (h.b 3 rfl) rfl) rfl ?_;refine Y0 ?_;refine aD (jj (j:=i) (o':=0+i*7) rfl rfl rfl hlt rfl) rfl ?_;refine Yc ?_;refine aF rfl (jo (v:=.bool true) h rfl rfl (gy (j:=4) hp O2) rfl fun w h=>?_);rw[Uz] at h;replace h:=j4 (p':={ p with ref:=true }) hp O2 rfl h
 refine Yl ?_;refine aD (qx (l:=q.C (sQ g) c') rfl rfl (qw (h.b 3 rfl) rfl)) rfl ?_;refine aF rfl (qy (vs:=q.C (sQ g) c') 1 h rfl rfl rfl rfl rfl rfl rfl fun w h=>?_);refine Y3 ?_;refine qv (qk ?_);refine BO (v:=.agg (q.C (sQ g) c').toArray) (js (by rfl) (qw (h.b 1 rfl) rfl)) ⟨some ⟨g,0,none⟩,c',by rw[aT.CF];rfl,?_⟩
 exact h.x [1,2,3]
theorem cd{a:Option Addr}{c:Nat}{q:aT}{k:bL}{n:Int}(hb:∀p∈q.pages,0<=p.pins∧p.pins<=1099511627776)(h1:-1<=n∧n<=1)(hn:q.pages.length<=1000000)(hr:Reads w0 l 7 a q.pages.length (cO q.pages))(h:St w0 l w):
  bP prog 89 [.agg (q.C a c).toArray,.agg k.C.toArray,.iz n] w fun v w'=>∃a' c',v=.tuple [.agg ((q.fS k n).1.C a' c').toArray,.bool (q.fS k n).2].toArray∧St w0 (bC a' c' (q.fS k n).1.pages::l) w':=by
 refine en func89 results89 ntmps89 ?_;refine Y1 ?_;refine aF rfl (jk h (show _=Value.agg (q.C a c).toArray from rfl) fun b2 w h=>?_);refine aF rfl (jk h (show _=Value.agg k.C.toArray from rfl) fun b3 w h=>?_);refine aF rfl (qn h fun b4 w h=>?_);replace h:St w0 (oI b4::bS b3 k::dR b2 a c q::l) w:=h;refine Ya ?_;refine Y1 ?_;refine aD (qx (l:=q.C a c) rfl rfl (qw (h.b 2 rfl) rfl)) rfl ?_;refine aD (qx (l:=k.C) rfl rfl (qw (h.b 1 rfl) rfl)) rfl ?_;refine aF rfl (qg rfl (zv hn (hr.more [_,_,_]) h) ?_);clear h;rintro _ w ⟨rfl,h⟩;refine Y5 ?_;refine qf (Γ:=Nat) (fun i=>[(2,.iz n),(3,.pz b2),(6,.pz b4),(8,.iz i)]) (fun i w=>(∃p,q.pages[i]?=some p∧q.fS k n=(q.cT i { p with pins:=max (p.pins+n) 0 },true))∧St w0 (oI b4::bS b3 k::dR b2 a c q::l) w) ?_ ?_
 ·refine Cl ?_;cases hf:q.find k with
  |none=>
   have ht:q.fS k n=(q,false):=by unfold aT.fS;rw[hf]
   refine K8 ?_;refine Yy ?_;refine aD (qx (l:=q.C a c) rfl rfl (qw (h.b 2 rfl) rfl)) rfl ?_;refine aF rfl (qg rfl (gn hn (hr.more [_,_,_]) h) ?_);clear h;rintro _ w ⟨a',c',rfl,h⟩;refine aF rfl (qy (vs:=q.C a' c') 1 h rfl rfl rfl rfl rfl rfl rfl fun w h=>?_);refine Y3 ?_;refine qv (qk ?_);refine BO (v:=.agg (q.C a' c').toArray) (js (by rfl) (qw (h.b 1 rfl) rfl)) ⟨a',c',by rw[ht];rfl,?_⟩
   rw[ht];exact h.x [1,2,3]
  |some i=>
   obtain⟨p,hp,hk⟩:=aT.pQ hf;have hlt:=(Uc.1 hp).1;have lC:=h;obtain⟨g,o,rfl⟩:=((hr.more [_,_,_]).at_ h).some O0
   have h:=lC;refine qz (.bool false) (by congr 1) ?_
   refine pV ?_;refine aD (qq (v:=.slice (some ⟨g,o,none⟩) q.pages.length c) rfl (h.b 2 rfl) rfl) rfl ?_;refine xW ?_;refine aD (jj (j:=i) (o':=o+i*7) rfl rfl rfl hlt rfl) rfl ?_;refine Yf ?_;refine aD (qx (l:=p.C) rfl rfl (((hr.more [_,_,_]).at_ h).elem gb hp)) rfl ?_
   refine Yf ?_;refine aF rfl (qg rfl (gl p h) ?_);clear h lC;rintro _ w ⟨rfl,h⟩;refine NC ?_;cases hres:p.aJ
   ·have ht:q.fS k n=(q,false):=by unfold aT.fS;rw[hf];dsimp only;rw[hp];dsimp only;rw[hres];rfl
    refine Y9 ?_;refine Yy ?_;refine aD (qx (l:=q.C (some ⟨g,o,none⟩) c) rfl rfl (qw (h.b 2 rfl) rfl)) rfl ?_;refine aF rfl (qg rfl (gn hn (hr.more [_,_,_]) h) ?_);clear h;rintro _ w ⟨a',c',rfl,h⟩;refine aF rfl (qy (vs:=q.C a' c') 1 h rfl rfl rfl rfl rfl rfl rfl fun w h=>?_);refine Y3 ?_;refine qv (qk ?_);refine BO (v:=.agg (q.C a' c').toArray) (js (by rfl) (qw (h.b 1 rfl) rfl)) ⟨a',c',by rw[ht];rfl,?_⟩
    rw[ht];exact h.x [1,2,3]
   ·have ht:q.fS k n=(q.cT i { p with pins:=max (p.pins+n) 0 },true):=by unfold aT.fS;rw[hf];dsimp only;rw[hp];dsimp only;rw[hres];rfl
    refine Y9 ?_;exact qv (qt rfl (qa ⟨i,iA,⟨p,hp,ht⟩,h⟩))
 rintro i w e ⟨⟨p,hp,ht⟩,h⟩;have hlt:=(Uc.1 hp).1;rw[ht];refine Y1 ?_;refine aD (qx (l:=q.C a c) rfl rfl (qw (h.b 2 rfl) rfl)) rfl ?_;refine aF rfl (qg rfl (gn hn (hr.more [_,_,_]) h) ?_);clear h;rintro _ w ⟨a',c',rfl,h⟩;refine aF rfl (qy (vs:=q.C a' c') 3 h rfl rfl rfl rfl rfl rfl rfl fun w h=>?_);replace h:St w0 (bC a' c' q.pages::oI b4::bS b3 k::dR b2 a' c' q::l) w:=h;obtain⟨g,rfl⟩:=vm hp h;have X0:=hb p (Ue hp);refine Y2 ?_;refine qi (jz (some 14) (fun w=>St w0 (bC (sQ g) c' q.pages::oI b4::bS b3 k::dR b2 (sQ g) c' q::l) w) O1 O1 h.drew fun w h=>?_);refine Yj ?_;refine qj rfl rfl rfl rfl h (fun _ h=>qh rfl (qq (v:=.slice (sQ g) q.pages.length c') rfl (h.b 3 rfl) rfl)) ?_;refine Yt ?_;refine Yj ?_;refine qj rfl rfl rfl rfl h (fun _ h=>qh rfl (qq (v:=.slice (sQ g) q.pages.length c') rfl (h.b 3 rfl) rfl)) ?_;refine Yt ?_;refine cD rfl rfl rfl rfl h rfl (jj (j:=i) (o':=0+i*7) rfl rfl rfl hlt rfl) ?_;refine Yj ?_;refine qj rfl rfl rfl rfl h (fun _ h=>qh rfl (qr (v:=.iz p.pins) rfl (ji (j:=6) hp rfl h))) ?_;refine Yt ?_;refine cD rfl rfl rfl rfl h rfl (q9 (v':=.iz (p.pins+n)) (vv rfl rfl) (congrArg Value.iz (wrap64 O0 O0))) ?_;refine cD rfl rfl rfl rfl h rfl (wi rfl rfl) ?_;refine cD rfl rfl rfl rfl h rfl (jj (j:=i) (o':=0+i*7) rfl rfl rfl hlt rfl) ?_;refine Di ?_;refine jv 14 rfl rfl rfl ?_;refine jo (v:=.iz (max (p.pins+n) 0)) h rfl rfl (gy (j:=6) hp O2) rfl fun w h=>?_;rw[Uz] at h;replace h:=j4 (p':={ p with pins:=max (p.pins+n) 0 }) hp O2 rfl h
 refine Y1 ?_;refine aD (qx (l:=q.C (sQ g) c') rfl rfl (qw (h.b 3 rfl) rfl)) rfl ?_;refine aF rfl (qy (vs:=q.C (sQ g) c') 1 h rfl rfl rfl rfl rfl rfl rfl fun w h=>?_);refine Y3 ?_;refine qv (qk ?_);refine BO (v:=.agg (q.C (sQ g) c').toArray) (js (by rfl) (qw (h.b 1 rfl) rfl)) ⟨some ⟨g,0,none⟩,c',by rw[aT.CF];rfl,?_⟩
 exact h.x [1,2,3]
end
end
section
abbrev NL(l:List bL):List Value:=l.flatMap bL.C
abbrev kG(a:Option Addr)(c:Nat)(l:List bL):aC:=eW 51 3 a l.length c (NL l)
section
variable{w0 w:World}{l:List aC}
theorem Tr(k:bL):∀u∈k.C,u.oneCell'=true:=by
 intro u hu;simp only[bL.C,Up,Zb,or_false] at hu;rcases hu with rfl|rfl|rfl <;> rfl
theorem di{a:Option Addr}{c:Nat}{q:aT}{k:bL}(hq:q.Wf)(hn:q.pages.length<=100000)(hres:(q.count Pg.aJ:Int)<=q.most)(hr:Reads w0 l 7 a q.pages.length (cO q.pages))(h:St w0 l w):
  bP prog 45 [.agg (q.C a c).toArray,.agg k.C.toArray] w fun v w'=>∃a' c' ao co,v=.tuple [.agg ((q.lets k).1.C a' c').toArray,.slice ao (q.lets k).2.1.length co,.bool (q.lets k).2.2].toArray∧St w0 (bC a' c' (q.lets k).1.pages::kG ao co (q.lets k).2.1::l) w':=by
 have hmo:=hq.most;refine en func45 results45 ntmps45 ?_;refine Y1 ?_;refine aF rfl (jk h (show _=Value.agg (q.C a c).toArray from rfl) fun b2 w h=>?_);refine aF rfl (jk h (show _=Value.agg k.C.toArray from rfl) fun b3 w h=>?_);refine aF rfl (qn h fun b4 w h=>?_);replace h:St w0 (oI b4::bS b3 k::dR b2 a c q::l) w:=h;refine Yv ?_;refine E4 ?_;refine aD (qx (l:=q.C a c) rfl rfl (qw (h.b 2 rfl) rfl)) rfl ?_;refine aD (qx (l:=k.C) rfl rfl (qw (h.b 1 rfl) rfl)) rfl ?_;refine aF rfl (qg rfl (zc O0 (hr.more [_,_,_]) h) ?_);clear h;rintro _ w ⟨a1,c1,rfl,h⟩;refine Ct ?_;refine aF rfl (qn h fun b7 w h=>?_);refine aF rfl (qy (vs:=(q.cH k).1.C a1 c1) 0 h rfl rfl rfl rfl rfl rfl rfl fun w h=>?_);refine Ya ?_;refine EI ?_;cases ht:(q.cH k).2
 rotate_left
 ·have he:q.lets k=((q.cH k).1,[],true):=by unfold aT.lets;rw[if_pos ht]
  refine Yy ?_;refine aD (qx (l:=(q.cH k).1.C a1 c1) rfl rfl (qw (h.b 0 rfl) rfl)) rfl ?_;refine aF rfl (qy (vs:=(q.cH k).1.C a1 c1) 2 h rfl rfl rfl rfl rfl rfl rfl fun w h=>?_);refine Yo ?_;refine Y3 ?_;refine qv (qk ?_);refine Fx (v:=.agg ((q.cH k).1.C a1 c1).toArray) (js (by rfl) (qw (h.b 2 rfl) rfl)) ⟨a1,c1,none,0,by rw[he];rfl,?_⟩
  rw[he];exact(St.aZ 51 3 (h.x [0,2,3,4])).f 1
 refine Y8 ?_;replace h:St w0 (oI b4::bS b3 k::dR b2 a c q::l) w:=h.x [0,1];have hne:¬(q.cH k).2=true:=by rw[ht];simp
 refine qf (Γ:=Unit) (fun _=>[(2,.pz b2),(3,.pz b3),(4,.pz b4)])
  (fun _ w=>¬((q.count Pg.aJ:Int) ≥ q.most∧q.count Pg.free=0)∧St w0 (oI b4::bS b3 k::dR b2 a c q::l) w) ?_ ?_
 ·refine qi (jz none (fun w=>St w0 (oI b4::bS b3 k::dR b2 a c q::l) w) O1 O1 h.drew fun w h=>?_);refine qj rfl rfl rfl rfl h (fun _ h=>qh rfl (qx (l:=q.C a c) rfl rfl (qw (h.b 2 rfl) rfl))) ?_;refine EG ?_;refine qj rfl rfl rfl rfl h (fun _ h=>qh rfl (qq (v:=.iz q.most) rfl (h.b 2 rfl) rfl)) ?_;refine xO ?_;refine qd 1 rfl rfl rfl rfl (qg rfl (gm gl O0 (hr.more [_,_,_]) h) ?_);clear h;rintro _ w ⟨rfl,h⟩;refine⟨fun _=>h,?_⟩;by_cases hfull:(q.count Pg.aJ:Int) ≥ q.most
  ·refine cD rfl rfl rfl rfl h rfl (q9 (v':=.bool true) (ka rfl rfl) (congrArg Value.bool (decide_eq_true hfull))) ?_;refine Yx ?_;refine qj rfl rfl rfl rfl h (fun _ h=>qe rfl rfl (qx (l:=q.C a c) rfl rfl (qw (h.b 2 rfl) rfl))) ?_;refine Ys ?_;refine qd 7 rfl rfl rfl (vt rfl rfl rfl) (qg rfl (gm l9 O0 (hr.more [_,_,_]) h) ?_);clear h;rintro _ w ⟨rfl,h⟩;refine⟨fun _=>h,?_⟩;by_cases hfr:q.count Pg.free=0
   ·refine qu rfl rfl rfl rfl (fun _=>h) (fun _=>qe rfl rfl (q9 (v':=.bool true) (gk rfl rfl) (congrArg Value.bool (by rw[beq_iff_eq];omega)))) ?_
    refine cD rfl rfl rfl rfl h rfl (jp rfl rfl rfl) ?_;refine qm (j6 rfl ?_);have he:q.lets k=(q,[],false):=by unfold aT.lets;rw[if_neg hne,if_pos ⟨hfull,hfr⟩]
    refine Y1 ?_;refine aD (qx (l:=q.C a c) rfl rfl (qw (h.b 2 rfl) rfl)) rfl ?_;refine aF rfl (qg rfl (gn O0 (hr.more [_,_,_]) h) ?_);clear h;rintro _ w ⟨a',c',rfl,h⟩;refine aF rfl (qy (vs:=q.C a' c') 1 h rfl rfl rfl rfl rfl rfl rfl fun w h=>?_);refine Yo ?_;refine Y3 ?_;refine qv (qk ?_);refine Fx (v:=.agg (q.C a' c').toArray) (js (by rfl) (qw (h.b 1 rfl) rfl)) ⟨a',c',none,0,by rw[he];rfl,?_⟩
    rw[he];exact(St.aZ 51 3 (h.x [1,2,3])).f 1
   ·refine qu rfl rfl rfl rfl (fun _=>h) (fun _=>qe rfl rfl (q9 (v':=.bool false) (gk rfl rfl) (congrArg Value.bool (by rw[beq_eq_false_iff_ne];omega)))) ?_
    refine cD rfl rfl rfl rfl h rfl (jp rfl rfl rfl) ?_;exact qm (qt rfl (qa ⟨(),kK,fun h=>hfr h.2,h⟩))
  ·refine cD rfl rfl rfl rfl h rfl (q9 (v':=.bool false) (ka rfl rfl) (congrArg Value.bool (decide_eq_false hfull))) ?_;refine Yx ?_;refine qu rfl rfl rfl rfl (fun _=>h) (fun _=>qp rfl rfl) (qu rfl rfl rfl rfl (fun _=>h) (fun _=>qp rfl rfl) (qu rfl rfl rfl rfl (fun _=>h) (fun _=>qp rfl rfl) (cD rfl rfl rfl rfl h rfl (jc rfl rfl rfl) ?_)));exact qm (qt rfl (qa ⟨(),kK,fun h=>hfull h.1,h⟩))
 rintro-w e ⟨hroom,h⟩;refine Y1 ?_;refine aD (qx (l:=q.C a c) rfl rfl (qw (h.b 2 rfl) rfl)) rfl ?_;refine aF rfl (qg rfl (gn O0 (hr.more [_,_,_]) h) ?_);clear h;rintro _ w ⟨a',c',rfl,h⟩;refine aF rfl (qy (vs:=q.C a' c') 3 h rfl rfl rfl rfl rfl rfl rfl fun w h=>?_);replace h:St w0 (dR b2 a' c' q::bC a' c' q.pages::oI b4::bS b3 k::l) w:=h.o [3,0,1,2];refine Yl ?_;refine aD (qx (l:=q.C a' c') rfl rfl (qw (h.b 0 rfl) rfl)) rfl ?_;refine aD (qx (l:=k.C) rfl rfl (qw (h.b 3 rfl) rfl)) rfl ?_;refine aF rfl (qg rfl (zv O0 vn h) ?_);clear h;rintro _ w ⟨rfl,h⟩;refine Y5 ?_
 have he:q.lets k=((((match q.find k with|none=>q|some i=>(q.goes i).qS 1).room.1.comes (if(q.find k).isSome then⟨k,1,false,false,0⟩ else⟨k,2,false,true,0⟩)).kQ,(match q.find k with|none=>q|some i=>(q.goes i).qS 1).room.2,true)):=by
  unfold aT.lets;rw[if_neg hne,if_neg hroom];try rfl
 rw[he];clear he;obtain⟨q1,Gt⟩:∃q1,(match q.find k with|none=>q|some i=>(q.goes i).qS 1)=q1:=⟨_,rfl⟩
 obtain⟨p1,A0⟩:∃p1:Pg,(if(q.find k).isSome then(⟨k,1,false,false,0⟩:Pg) else⟨k,2,false,true,0⟩)=p1:=⟨_,rfl⟩
 rw[Gt,A0]
 refine qf (Γ:=Unit) (fun _=>[(2,.pz b2),(3,.pz b3),(4,.pz b4),(9,.iz (DA (q.find k)))])
  (fun _ w=>q1.Wf∧q1.pages.length<=100000∧q1.count Pg.aJ=q.count Pg.aJ∧q1.count Pg.free=q.count Pg.free∧q1.most=q.most∧St w0 (dB b2 q1::oI b4::bS b3 k::l) w) ?_ ?_
 ·refine Yb ?_;refine tX ?_;cases hf:q.find k with
  |none=>
   rw[hf] at Gt;dsimp only at Gt;subst Gt;exact qv (qt rfl (qa ⟨(),iA,hq,hn,rfl,rfl,rfl,St.bE.2 ⟨_,_,h⟩⟩))
  |some i=>
   obtain⟨p,hp,hk⟩:=aT.pQ hf;have hlt:=(Uc.1 hp).1;rw[hf] at Gt;dsimp only at Gt
   have Ie:p.aJ=false:=by
    cases yF:p.aJ with
    |false=>rfl
    |true=>
     exfalso;apply hne;unfold aT.cH;rw[hf];dsimp only;rw[hp];dsimp only;rw[yF];rfl
   have Ic:p.kind=3:=by
    have D7:=hq.kinds p (Ue hp);unfold Pg.aJ at Ie;simp at Ie;exact(D7.1.resolve_left Ie.1).resolve_left Ie.2
   have hle:=(aT.Le.goes q hp Ic).trans (aT.Le.qS (q.goes i) 1);refine qz (.bool true) (by congr 1) ?_
   refine Yh ?_;refine Yb ?_;refine aF rfl (qg rfl (zu O0 (aT.iQ hq O0) hlt (St.bE.2 ⟨_,_,h⟩)) ?_);clear h;intro _ w h;refine qv (je ?_);refine aF rfl (qg rfl (xg O0 (hq.goes hlt) h) ?_);clear h;intro _ w h;have JB:=hle.len;rw[Gt] at h hle JB;refine qv ⟨(),iA,?_,Uw JB hn,hle.aJ,hle.free,hle.most,h⟩;rw[<- Gt];exact(hq.goes hlt).qS 1
 rintro-w e ⟨w1,rV,iX,SO,hm1,h⟩;refine Bl ?_
 refine qf (Γ:=Option Addr×Nat) (fun x=>[(2,.pz b2),(3,.pz b3),(4,.pz b4),(9,.iz (DA (q.find k))),(10,.slice x.1 q1.room.2.length x.2)])
  (fun x w=>q1.room.1.Wf∧q1.room.1.pages.length<=100000∧St w0 (kG x.1 x.2 q1.room.2::dB b2 q1.room.1::oI b4::bS b3 k::l) w) ?_ ?_
 ·refine Yg ?_
  refine jy (Γ:=Nat×aT×List bL×Option Addr×Nat) (fun x=>[(2,.pz b2),(3,.pz b3),(4,.pz b4),(9,.iz (DA (q.find k))),(10,.slice x.2.2.2.1 x.2.2.1.length x.2.2.2.2)])
   (fun x w=>(x.1=1∧x.2.1=q1∧x.2.2.1=[]∨x.1=0∧(x.2.1,x.2.2.1)=q1.room∧(x.2.1.count Pg.aJ:Int)<x.2.1.most)∧x.2.1.Wf∧x.2.1.pages.length<=100000∧St w0 (kG x.2.2.2.1 x.2.2.2.2 x.2.2.1::dB b2 x.2.1::oI b4::bS b3 k::l) w) (fun x=>x.1)
   (1,q1,[],none,0) pS ⟨.inl ⟨rfl,rfl,rfl⟩,w1,rV,St.aZ 51 3 h⟩ ?_
  clear h;rintro⟨j,u,ks,ak,ck⟩ w e ⟨hst,hw,hl,h⟩;dsimp only at hst hw hl h ⊢;obtain⟨a5,c5,h⟩:=St.bE.1 (h.f 1);refine qi (qi (jz none (fun w=>St w0 (dR b2 a5 c5 u::bC a5 c5 u.pages::kG ak ck ks::oI b4::bS b3 k::l) w) O1 O1 h.drew fun w h=>?_));refine qj rfl rfl rfl rfl h (fun _ h=>qh rfl (qx (l:=u.C a5 c5) rfl rfl (qw (h.b 0 rfl) rfl))) ?_;refine EG ?_;refine qj rfl rfl rfl rfl h (fun _ h=>qh rfl (qq (v:=.iz u.most) rfl (h.b 0 rfl) rfl)) ?_;refine Ym ?_;refine qd 1 rfl rfl rfl rfl (qg rfl (gm gl O0 vn h) ?_);clear h;rintro _ w ⟨rfl,h⟩;refine⟨fun _=>h,?_⟩;refine cD rfl rfl rfl rfl h rfl (ka rfl rfl) ?_;refine qm ?_;refine qo (decide ((u.count Pg.aJ:Int) ≥ u.most)) rfl (fun hc=>?_) (fun hc=>?_)
  ·have lO:(u.count Pg.aJ:Int) ≥ u.most:=by simpa using hc
   rcases hst with⟨rfl,rfl,rfl⟩|⟨_,_,hlt⟩
   ·have hfree:1<=u.count Pg.free:=by
     rcases Wb (u.count Pg.free) with h0|h0
     ·exact absurd ⟨cI,cI⟩ hroom
     ·exact h0
    obtain⟨key,k1,k2,k3⟩:=aT.sE hw hfree;refine Yu ?_;refine Yg ?_;refine IZ ?_;refine aF rfl (qg rfl (dt hw O0 hfree (St.bE.2 ⟨_,_,h⟩)) ?_);clear h;rintro _ w ⟨key',k4,rfl,h⟩;obtain rfl:key=key':=Uk (k1.symm.trans k4);refine aF rfl (jq (r:=key.C) h rfl rfl rfl fun bs w h=>?_);refine aF rfl (ql (ys:=key.C) (zs:=NL [key]) (m3:=[key].length) (h.f 2) rfl rfl ⟨rfl,.inr ⟨bs,0,rfl,qw ((h.f 2).b 1 rfl) rfl⟩⟩ (Tr key) rfl (by simp[NL]) (by simp only[Zg];decide) (by simp only[Zg];decide) rfl fun a6 c6 w _ h=>?_)
    refine Yo ?_;have hres2:=aT.hH u.dS.1;have zM:=k3.res.length_eq;rw[aT.hH] at zM;simp only[Uj] at zM;have Ts:u.room=(u.dS.1,[key]):=by unfold aT.room;rw[if_pos lO,k1];rfl
    have hlen:u.dS.1.pages.length<=u.pages.length:=by have:=k3.keys.length_le;simpa[aT.keys] using this
    refine qv ⟨(0,u.dS.1,[key],a6,c6),pS,⟨.inr ⟨rfl,Ts.symm,?_⟩,k2,Uw hlen hl,h.x [1]⟩,Nat.zero_lt_one⟩;have D1:=k3.most;show((u.dS.1.count Pg.aJ:Nat):Int)<u.dS.1.most;omega
   ·exact absurd lO O0
  ·have lO:¬(u.count Pg.aJ:Int) ≥ u.most:=by simpa using hc
   have fQ:(u,ks)=q1.room:=by
    rcases hst with⟨_,rfl,rfl⟩|⟨_,h1,_⟩
    ·unfold aT.room;rw[if_neg lO]
    ·exact h1
   refine ju ?_;refine Eq.mpr (if_pos rfl) ⟨(ak,ck),⟨rfl,rfl,rfl,rfl,?_,trivial⟩,?_,?_,?_⟩
   ·rw[<- fQ];rfl
   ·rw[<- fQ];exact hw
   ·rw[<- fQ];exact hl
   ·rw[<- fQ];exact(St.bE.2 ⟨_,_,h⟩).f 1
 rintro⟨ak,ck⟩ w e ⟨hw,hl,h⟩;dsimp only at hw hl h;refine Y1 ?_;refine aD (qx (l:=k.C) rfl rfl (qw (h.b 3 rfl) rfl)) rfl ?_;refine aD (qc (r:=(⟨k,2,false,true,0⟩:Pg).C) rfl) rfl ?_;refine aF rfl (qn h fun oJ w h=>?_);refine aF rfl (qy (vs:=(⟨k,2,false,true,0⟩:Pg).C) 0 h rfl rfl rfl rfl rfl rfl rfl fun w h=>?_);replace h:St w0 (pT oJ ⟨k,2,false,true,0⟩::kG ak ck q1.room.2::dB b2 q1.room.1::oI b4::bS b3 k::l) w:=h;refine Y2 ?_
 refine qf (Γ:=Unit) (fun _=>[(2,.pz b2),(4,.pz b4),(10,.slice ak q1.room.2.length ck),(11,.pz oJ)])
  (fun _ w=>St w0 (pT oJ p1::kG ak ck q1.room.2::dB b2 q1.room.1::oI b4::bS b3 k::l) w) ?_ ?_
 ·refine Yb ?_;refine tX ?_;cases hf:q.find k with
  |none=>
   rw[hf] at A0;subst A0;exact qv (qt rfl (qa ⟨(),iA,h⟩))
  |some i=>
   rw[hf] at A0;subst A0;refine qz (.bool true) (by congr 1) ?_
   refine Yh ?_;refine Dj ?_;refine aF rfl (qb 0 h rfl (show _=Value.iz 1 from rfl) rfl rfl rfl rfl fun w h=>?_);refine Yc ?_;refine aF rfl (qb 0 h rfl (show _=Value.bool false from rfl) rfl rfl rfl rfl fun w h=>?_);exact qv ⟨(),iA,h⟩
 rintro-w e h;have Pq:p1.Ok:=by rw[<- A0];split <;> exact⟨by simp,Ut 0,fun h=>by cases h⟩
 refine Y1 ?_;refine aD (qx (l:=p1.C) rfl rfl (qw (h.b 0 rfl) rfl)) rfl ?_;refine aF rfl (qg rfl (ol hw O0 (h.f 2)) ?_);clear h;intro _ w h;obtain⟨wc,lc⟩:=aT.BL hw Pq;refine Yl ?_;refine aF rfl (qg rfl (mg wc O0 h) ?_);clear h;intro _ w h;obtain⟨a8,c8,h⟩:=St.bE.1 h;refine Yl ?_;refine aD (qx (l:=(q1.room.1.comes p1).kQ.C a8 c8) rfl rfl (qw (h.b 0 rfl) rfl)) rfl ?_;refine Yp ?_;refine aF rfl (qy (vs:=(q1.room.1.comes p1).kQ.C a8 c8) 4 h rfl rfl rfl rfl rfl rfl rfl fun w h=>?_);refine Yo ?_;refine Y3 ?_;refine qv (qk ?_);refine Fx (v:=.agg ((q1.room.1.comes p1).kQ.C a8 c8).toArray) (js (by rfl) (qw (h.b 4 rfl) rfl)) ⟨a8,c8,ak,ck,rfl,?_⟩
 exact h.x [0,2,4,5]
end
end
end Go.Proofs.YtngdfdangkdgcaaGreatDoor
namespace Go.Hw
section
set_option linter.unusedSectionVars false
theorem ej{P:Program}{w:World}{kt:TypeId}{ks:List IntKind}(he:EM P kt ks){κ:Type}[DecidableEq κ](c:κ->List Int)(hc:∀k,(c k).length=ks.length)(hinj:∀a b,c a=c b->a=b)(k:κ):
  ∀(es:List MapEntry) (m:List (κ×Value)),iI (fun k=>Value.agg (ints ks (c k)).toArray) es m->(Instr.findKey kt (.agg (ints ks (c k)).toArray) es).run P w=.ok (fX k m 0) w:=by
 obtain⟨fl,hu,_⟩:=he.u
 have Pr:∀(es:List MapEntry) (m:List (κ×Value)) (i:Nat),iI (fun k=>Value.agg (ints ks (c k)).toArray) es m->(Instr.findAsking kt (.agg (ints ks (c k)).toArray) es i).run P w=.ok (fX k m i) w:=by
  intro es;induction es with
  |nil=>intro m i h;cases m with|nil=>rfl|cons a m=>simp[iI] at h
  |cons e es ih=>
   intro m i h;cases m with
   |nil=>simp[iI] at h
   |cons a m=>
    obtain⟨j,u⟩:=a;have h':(e.key,e.val)=(Value.agg (ints ks (c j)).toArray,u)∧iI (fun k=>Value.agg (ints ks (c k)).toArray) es m:=by simpa[iI] using h
    have hk:e.key=.agg (ints ks (c j)).toArray:=congrArg Prod.fst h'.1;have hv:e.val=u:=congrArg Prod.snd h'.1
    have hq:(Op.equal kt (.agg (ints ks (c k)).toArray) e.key).run P w=.ok (c k==c j) w:=by
     rw[hk];exact nb he (hc k) (hc j) 9998
    unfold Instr.findAsking;rw[Sem.run_bind,hq];by_cases hj:k=j
    ·subst hj;simp[fX,hv]
    ·have h1:(c k==c j)=false:=by
      rw[beq_eq_false_iff_ne];exact fun e=>hj (hinj _ _ e)
     rw[h1];have h2:(k==j)=false:=by simpa using hj
     have h3:¬j=k:=fun e=>hj e.symm;simp[fX,h2,h3,ih m (i+1) h'.2]
 intro es m h;unfold Instr.findKey;rw[Sem.run_bind,run_underlying hu];cases es with
 |nil=>
  cases m with
  |nil=>rfl
  |cons a m=>simp[iI] at h
 |cons e es=>
  have:Instr.findNow (.struct fl.toArray) (.agg (ints ks (c k)).toArray) (e::es) 0=none:=by
   unfold Instr.findNow;have:Instr.sameNow (.struct fl.toArray) (.agg (ints ks (c k)).toArray) e.key=none:=rfl;rw[this]
  simp only[Result.andThen_ok,this];exact Pr (e::es) m 0 h
theorem MK.ints{P:Program}{kt:TypeId}{ks:List IntKind}(he:EM P kt ks){κ:Type}[DecidableEq κ](c:κ->List Int)(hc:∀k,(c k).length=ks.length)(hinj:∀a b,c a=c b->a=b)
  (JH:∀e w k,(Instr.checkKey e 10000 kt (.agg (Hw.ints ks (c k)).toArray)).run P w=.ok () w):MK P kt κ (fun k=>.agg (Hw.ints ks (c k)).toArray) where
 check:=JH
 find:=fun w k es m h=>ej he c hc hinj k es m h
 same:=fun k=>by
  show Instr.sameBits (9999+1) _ _=true;unfold Instr.sameBits;simp only[beq_self_eq_true,Bool.true_and,Wx];intro x hx
  have h2:∀(ks:List IntKind) (l:List Int) (x:Value×Value),x∈(Hw.ints ks l).zip (Hw.ints ks l)->∃k a,x=(.int k a,.int k a):=by
   intro ks;induction ks with
   |nil=>intro l x hx;simp[Hw.ints] at hx
   |cons k ks ih=>
    intro l x hx;cases l with
    |nil=>simp[Hw.ints] at hx
    |cons a l=>
     have:x=(.int k a,.int k a)∨x∈(Hw.ints ks l).zip (Hw.ints ks l):=by simpa[Hw.ints] using hx
     rcases this with rfl|h
     ·exact⟨k,a,rfl⟩
     ·exact ih l x h
  obtain⟨k',a,rfl⟩:=h2 ks (c k) x hx;unfold Instr.sameBits;simp
 inj:=fun a b h=>by
  refine hinj a b ?_;have h1:Hw.ints ks (c a)=Hw.ints ks (c b):=by simpa using h
  have h3:∀(ks:List IntKind) (l m:List Int),l.length=ks.length->m.length=ks.length->Hw.ints ks l=Hw.ints ks m->l=m:=by
   intro ks;induction ks with
   |nil=>intro l m h1 h2 _;rw[Uq h1,Uq h2]
   |cons k ks ih=>
    intro l m h1 h2 h3
    match l,m,h1,h2 with
    |x::l,y::m,h1,h2=>
     have:x=y∧Hw.ints ks l=Hw.ints ks m:=by simpa[Hw.ints] using h3
     rw[this.1,ih l m (by simpa using h1) (by simpa using h2) this.2]
  exact h3 ks _ _ (hc a) (hc b) h1
/-! Maps whose elements are rows of their own. -/
section
variable{P:Program}{κ:Type}[DecidableEq κ]{kv:κ->Value}{e:Env}{w w0:World}{K:Env->World->Prop}{l:List aC}
variable{d:Option Nat}{ty:TypeId}{pos:String}{af:Array Edge}{g:Option (Nat×Bool)}
variable{α β γ:Type}{vf:γ×α->Value}{R:γ->α->aC}
def uX(kv:κ->Value)(b:Nat)(vf:γ×α->Value)(R:γ->α->aC)(m:List (κ×α)):aC:=ex fun mm:List (κ×(γ×α))=>
 all [lift (mm.map (fun p=>(p.1,p.2.2))=m),fY kv b (mm.map fun p=>(p.1,vf p.2)),big (fun p=>R p.2.1 p.2.2) mm]
theorem St.Ar{b:Nat}{m:List (κ×α)}:St w0 (uX kv b vf R m::l) w↔∃mm:List (κ×(γ×α)),mm.map (fun p=>(p.1,p.2.2))=m∧St w0 (fY kv b (mm.map fun p=>(p.1,vf p.2))::big (fun p=>R p.2.1 p.2.2) mm::l) w:=by
 unfold uX;rw[St.ex];constructor
 ·rintro⟨mm,h⟩;have:=h.join;exact⟨mm,St.lift.1 this⟩
 ·rintro⟨mm,h1,h2⟩;exact⟨mm,St.fold _ (St.lift.2 ⟨h1,h2⟩)⟩
theorem St.Ms{b:Nat}{m:List (κ×α)}{k:κ}{x:α}(h:St w0 (uX kv b vf R m::l) w)(hk:aH k m=some x):∃(y:γ) (mm:List (κ×(γ×α))),mm.map (fun p=>(p.1,p.2.2))=m∧aH k mm=some (y,x)∧
  St w0 (R y x::fY kv b (mm.map fun p=>(p.1,vf p.2))::big (fun p=>R p.2.1 p.2.2) (bY k mm)::l) w:=by
 obtain⟨mm,D1,h0⟩:=St.Ar.1 h;subst D1;have hk':=(gw (fun p:γ×α=>p.2) k mm).symm.trans hk;obtain⟨⟨y,x'⟩,h1,h2⟩:=Ve.1 hk';simp only at h2;subst h2;refine⟨y,mm,rfl,h1,?_⟩;refine h0.eH ?_;simp only[jn];rw[y9 _ k (y,x') mm h1,jl,uq]
theorem St.Mt{b:Nat}{mm:List (κ×(γ×α))}{k:κ}{x:α}{y:γ}(hk:aH k mm=some (y,x))(h:St w0 (R y x::fY kv b (mm.map fun p=>(p.1,vf p.2))::big (fun p=>R p.2.1 p.2.2) (bY k mm)::l) w):St w0 (uX kv b vf R (mm.map fun p=>(p.1,p.2.2))::l) w:=by
 refine St.Ar.2 ⟨mm,rfl,h.eH ?_⟩;simp only[jn];rw[y9 _ k (y,x) mm hk,jl,uq]
theorem Tt{mm:List (κ×(γ×α))}{k:κ}{x:α}{y:γ}(hk:aH k mm=some (y,x)):aH k (mm.map fun p=>(p.1,vf p.2))=some (vf (y,x)):=by
 rw[gw,hk];rfl
theorem i0(f:κ×β->aC)(k:κ)(m:List (κ×β)):∃P,big f m=star P (big f (bY k m)):=by
 cases hk:aH k m with
 |none=>exact⟨emp,by rw[xz k m hk,kr]⟩
 |some y=>exact⟨f (k,y),y9 f k y m hk⟩
theorem JI{t kt et:TypeId}[ht:eV P t (.map kt et)][hm:MK P kt κ kv]{x y z:Operand}{b:Nat}{m:List (κ×α)}{k:κ}{u:γ}{v:α}(h:St w0 (R u v::uX kv b vf R m::l) w)(hx:ev e x=.map (some b))(hy:ev e y=kv k)(hz:ev e z=vf (u,v))
  (kk:∀w',St w0 (uX kv b vf R (aX k v m)::l) w'->K e w'):Ex P ⟨none,.mapUpdate t x y z,ty,pos,af,g⟩ e w K:=by
 obtain⟨mm,rfl,h1⟩:=St.Ar.1 (h.f 1);refine pw (h:=h1) hx hy hz fun w' h2=>kk w' ?_;obtain⟨Q,hQ⟩:=i0 (fun p:κ×(γ×α)=>R p.2.1 p.2.2) k mm;refine St.Ar.2 ⟨aX k (u,v) mm,by rw[<- vy (fun p:γ×α=>p.2)],?_⟩
 have h3:St w0 (Q::fY kv b (aX k (vf (u,v)) (mm.map fun p=>(p.1,vf p.2)))::R u v::big (fun p=>R p.2.1 p.2.2) (bY k mm)::l) w':=by
  refine h2.eH ?_;simp only[jn];rw[hQ]
  ac_rfl
 have h4:=h3.drop;rw[vy (fun p:γ×α=>vf p)] at h4;refine h4.eH ?_;simp only[jn];rw[nh]
 ac_rfl
theorem JJ{t kt et:TypeId}{tys:List TypeId}[ht:eV P t (.map kt et)][hm:MK P kt κ kv]{x y:Operand}{b:Nat}{m:List (κ×α)}{k:κ}(h:St w0 (uX kv b vf R m::l) w)(hx:ev e x=.map (some b))(hy:ev e y=kv k)
  (kk:∀w',St w0 (uX kv b vf R (bY k m)::l) w'->K (kY e d (.tuple #[])) w'):Ex P ⟨d,.call ⟨.builtin .delete,[x,y].toArray,(t::tys).toArray⟩,ty,pos,af,g⟩ e w K:=by
 obtain⟨mm,rfl,h1⟩:=St.Ar.1 h;refine pd (h:=h1) hx hy fun w' h2=>kk w' ?_;obtain⟨Q,hQ⟩:=i0 (fun p:κ×(γ×α)=>R p.2.1 p.2.2) k mm;refine St.Ar.2 ⟨bY k mm,by rw[<- ug (fun p:γ×α=>p.2)],?_⟩
 have h3:St w0 (Q::fY kv b (bY k (mm.map fun p=>(p.1,vf p.2)))::big (fun p=>R p.2.1 p.2.2) (bY k mm)::l) w':=by
  refine h2.eH ?_;simp only[jn];rw[hQ]
  ac_rfl
 have h4:=h3.drop;rw[ug (fun p:γ×α=>vf p)] at h4;exact h4
theorem St.Ho{b:Nat}{m:List (κ×α)}(h:St w0 (uX kv b vf R m::l) w):∃ps,oP kv w b ps∧keys ps=keys m∧ps.length=m.length:=by
 obtain⟨mm,D1,h0⟩:=St.Ar.1 h;subst D1;exact⟨_,h0.Bn,by rw[za (fun p:γ×α=>vf p),za (fun p:γ×α=>p.2)],by simp⟩
theorem Tu{c:Nat}{t:TypeId}(kv:κ->Value)(vf:γ×α->Value)(R:γ->α->aC)(h:St w0 l w)(k:∀b w',St w0 (uX kv b vf R ([]:List (κ×α))::l) w'->K (upd e c (.map (some b))) w'):Ex P ⟨some c,.makeMap t none,ty,pos,af,g⟩ e w K:=
 iz kv h fun b w' h=>k b w' (St.Ar.2 ⟨[],rfl,by
  refine h.eH ?_;simp only[jn,big,List.map_nil]
  rw[kr]⟩)
end
end
section
theorem wS{tag:Int}(v:List Nat)(h:tag<1∨6<tag):cQ tag v=none:=by
 unfold cQ;rw[if_neg O0,if_neg O0,if_neg O0,if_neg O0,if_neg O0,if_neg O0]
theorem As{tag:Int}(l:List bZ)(h:tag<1∨6<tag):cU tag l=none:=by
 unfold cU;rw[wS _ h];split <;> rfl
end
end Go.Hw
namespace Go.Proofs.YtngdfdangkdgcaaGreatDoor
open Go.Hw _root_.Go.Proofs.Tryz
section
theorem uF{tag:Int}{L:List bZ}(hw:∀s∈L,s.Wf):((cU tag L).getD []).length<=3000000:=by
 unfold cU;split
 ·rename_i jU
  have hn:L.length<=65535:=by
   unfold rising at jU;simp only[Ur,decide_eq_true_eq] at jU;exact jU.2
  have h1:=yE (tag:=tag) (u:=cK L) (by simpa[cK] using hn) (tK hw)
  cases hv:cQ tag (cK L) with
  |none=>exact Uf _
  |some b=>
   rw[hv] at h1;show(dY L b).length<=_;have h2:=jM (bG L);have h3:=j9 (bX (bG L));have h4:=jd (pack (bX (bG L))).length;have h5:(bG L).length=L.length:=by simp[bG]
   have h6:b.length<=2000000:=h1;unfold dY;rw[Ua,Ua];omega
 ·exact Uf _
end
end Go.Proofs.YtngdfdangkdgcaaGreatDoor
namespace Go.Hw
section
def wT(c:Nat):Nat:=if c%2=1 then(c / 2) ^^^ 2197175160 else c / 2
def BP:Nat->Nat->Nat
 |0,c=>c
 |k+1,c=>wT (BP k c)
def gM(i:Nat):Nat:=BP 8 i
def Au(s x:Nat):Nat:=gM ((s%256) ^^^ x) ^^^ (s / 256)
def Ec(s:Nat):List UInt8->Nat
 |[]=>s
 |c::r=>Ec (Au s c.toNat) r
def crc(b:List UInt8):Nat:=Ec 4294967295 b ^^^ 4294967295
theorem Ig{a b:Nat}(ha:a<4294967296)(hb:b<4294967296):a ^^^ b<4294967296:=Wu (n:=32) ha hb
theorem Ed{c:Nat}(h:c<4294967296):wT c<4294967296:=by
 unfold wT;split
 ·exact Ig O0 O2
 ·omega
theorem Av{c:Nat}(h:c<4294967296):∀k,BP k c<4294967296
 |0=>h
 |k+1=>Ed (Av h k)
theorem wU{i:Nat}(h:i<256):gM i<4294967296:=Av O0 8
theorem Mu{a b:Nat}(ha:a<256)(hb:b<256):a ^^^ b<256:=Wu (n:=8) ha hb
theorem CG{s x:Nat}(hs:s<4294967296)(hx:x<256):Au s x<4294967296:=
 Ig (wU (Mu (Vw _ O2) hx)) O0
def Cn(c:Nat):List UInt8:=[UInt8.ofNat (c / 2^24),UInt8.ofNat (c / 2^16),UInt8.ofNat (c / 2^8),UInt8.ofNat c]
def oW(t:Int):Nat:=uT (us t)
theorem vJ(t:Int):oW t<18446744073709551616:=G7 (yg t)
theorem xv{t:Int}(h:rM t):sg (eX (oW t))=t:=by unfold oW;rw[ii (yg t),OC h]
def fV(L:List bZ):Int:=(L.head?.map bZ.T).getD 0
def eG(L:List bZ):Int:=(L.getLast?.map bZ.T).getD 0
def fR(L:List bZ):List Nat:=[L.length,oW (fV L),oW (eG L)]
def eI(tag:Int)(L:List bZ)(x:List UInt8):List UInt8:=UInt8.ofNat tag.toNat::((fR L).flatMap cS++x)
def dG(tag:Int)(L:List bZ):Option (List UInt8):=match cU tag L with
 |none=>none
 |some x=>if L=[] then none else some (eI tag L x++Cn (crc (eI tag L x)))
structure Hd where
 tag:Nat
 count:Nat
 f:Int
 t:Int
def JK(c:UInt8)(l:List Nat):Hd:=⟨c.toNat,l.getD 0 0,sg (eX (l.getD 1 0)),sg (eX (l.getD 2 0))⟩
def fO:List UInt8->Option (Hd×List UInt8)
 |[]=>none
 |c::r=>if c.toNat<1∨6<c.toNat then none else match qC 3 r with
  |none=>none
  |some (l,rest)=>if l.getD 0 0<1∨65535<l.getD 0 0∨sg (eX (l.getD 2 0))<sg (eX (l.getD 1 0)) then none else some (JK c l,rest)
def eJ(b:List UInt8):Option (List bZ×Nat):=match fO b with
 |none=>none
 |some (h,rest)=>if rest.length<4 then none else match cY h.tag (rest.take (rest.length-4)) h.count with
  |none=>none
  |some L=>if dG h.tag L=some b then some (L,h.tag) else none
theorem mC{tag:Int}{L:List bZ}{b:List UInt8}(h:dG tag L=some b):∃x,cU tag L=some x∧L≠[]∧b=eI tag L x++Cn (crc (eI tag L x)):=by
 unfold dG at h;split at h
 ·cases h
 ·rename_i x hx
  split at h
  ·cases h
  ·rename_i hL
   exact⟨x,hx,hL,(Uk h).symm⟩
theorem oX{tag:Int}{L:List bZ}{x:List UInt8}(h:cU tag L=some x):1<=tag∧tag<=6:=by
 by_cases hk:tag<1∨6<tag
 ·rw[As L hk] at h;cases h
 ·omega
theorem qE{tag:Int}{L:List bZ}{x:List UInt8}(h:cU tag L=some x):lF L=true∧L.length<=65535:=by
 unfold cU at h;split at h
 ·rename_i hr
  unfold rising at hr;simpa only[Ur,decide_eq_true_eq] using hr
 ·cases h
theorem o7{L:List bZ}(h:lF L=true)(hL:L≠[]):fV L<=eG L:=by
 cases L with
 |nil=>exact absurd rfl hL
 |cons s r=>
  have h0:=(s8 (s::r)).1 h;unfold fV eG;rw[List.getLast?_eq_getElem?];have hg:=Ub (show(s::r).length-1<(s::r).length by simp)
  generalize (s::r)[(s::r).length-1]'O7=z at hg;rw[hg];show s.T<=z.T;by_cases hr:r=[]
  ·subst hr;simp at hg;subst hg;exact Ut _
  ·have hp:0<r.length:=Vy.2 hr;exact Int.le_of_lt (h0 0 _ s z rfl hg O5)
theorem i4{L:List bZ}(hw:∀s∈L,s.Wf)(hL:L≠[]):rM (fV L)∧rM (eG L):=by
 cases L with
 |nil=>exact absurd rfl hL
 |cons s r=>
  refine⟨(hw s (Ud ..)).1,?_⟩;unfold eG;rw[List.getLast?_eq_getElem?];have hg:=Ub (show(s::r).length-1<(s::r).length by simp)
  have hm:=Zq (show(s::r).length-1<(s::r).length by simp)
  generalize (s::r)[(s::r).length-1]'O7=z at hg hm;rw[hg];exact(hw z hm).1
theorem nU{tag:Int}{L:List bZ}{x:List UInt8}(hw:∀s∈L,s.Wf)(hL:L≠[])(h:cU tag L=some x)(r:List UInt8):fO (UInt8.ofNat tag.toNat::((fR L).flatMap cS++r))=some (⟨tag.toNat,L.length,fV L,eG L⟩,r):=by
 obtain⟨h1,h6⟩:=oX h;obtain⟨hr,hlen⟩:=qE h;obtain⟨w1,w2⟩:=i4 hw hL;have hpos:0<L.length:=Vy.2 hL;have Rc:(UInt8.ofNat tag.toNat).toNat=tag.toNat:=by rw[UInt8.toNat_ofNat'];omega
 have hg:=qP r (fR L) (fun z hz=>by
  simp only[fR,Up,Zb,or_false] at hz;rcases hz with rfl|rfl|rfl
  ·omega
  ·exact vJ _
  ·exact vJ _)
 unfold fO;dsimp only;rw[Rc,if_neg O0,show qC 3 _=_ from hg];dsimp only;have e0:(fR L).getD 0 0=L.length:=rfl;have e1:(fR L).getD 1 0=oW (fV L):=rfl;have e2:(fR L).getD 2 0=oW (eG L):=rfl;have hle:=o7 hr hL;rw[if_neg (by rw[e0,e1,e2,xv w1,xv w2];omega)]
 unfold JK;rw[Rc,e0,e1,e2,xv w1,xv w2]
theorem nV(tag:Int)(L:List bZ)(x:List UInt8):4+x.length<=(eI tag L x).length∧(eI tag L x).length<=31+x.length:=by
 have h1:=jd L.length;have h2:=jd (oW (fV L));have h3:=jd (oW (eG L));simp only[eI,fR,Ui,List.flatMap_nil,Uj,Ua,Xr];omega
theorem mD(c:Nat):(Cn c).length=4:=rfl
theorem BQ{tag:Int}{L:List bZ}{b:List UInt8}(hw:∀s∈L,s.Wf)(hb:b.length<18446744073709551616)(h:dG tag L=some b):eJ b=some (L,tag.toNat):=by
 obtain⟨x,hx,hL,he⟩:=mC h;obtain⟨h1,h6⟩:=oX hx;have hh:=nU hw hL hx (x++Cn (crc (eI tag L x)))
 have hb':b=UInt8.ofNat tag.toNat::((fR L).flatMap cS++(x++Cn (crc (eI tag L x)))):=by
  rw[he];unfold eI;simp
 rw[<- hb'] at hh;have hl:=nV tag L x;have Gu:b.length=(eI tag L x).length+4:=by rw[he,Ua,mD]
 unfold eJ;rw[hh];dsimp only;rw[if_neg (by rw[Ua,mD];omega),Ua,mD,Nat.add_sub_cancel,Kh,show((tag.toNat:Nat):Int)=tag by omega,Al hw O0 hx]
 dsimp only;rw[if_pos h]
end
end Go.Hw
namespace Go.Proofs.YtngdfdangkdgcaaGreatDoor
open Go.Hw _root_.Go.Proofs.Tryz
section
section
variable{w0 w:World}{l:List aC}{p:Nat}
theorem Ee:eY 1=1:=rfl
theorem o8{s:RS}(h:St w0 (eL p s::l) w):bP prog 183 [.pz p] w fun v w'=>v=.iz ((cB 4 s).1:Nat)∧St w0 (eL p (cB 4 s).2::l) w':=by
 refine en func183 results183 ntmps183 ?_;refine Yr ?_;refine Yr ?_;refine qf (Γ:=Unit) (fun _=>[(0,.pz p),(3,.iz ((cB 4 s).1:Nat))]) (fun _ w=>St w0 (eL p (cB 4 s).2::l) w) ?_ ?_
 ·refine Yg ?_
  refine jy (Γ:=Nat×Nat×RS) (fun k=>[(0,.pz p),(3,.iz k.1)])
   (fun k w=>k.1+k.2.1=4∧(cB k.2.1 k.2.2).1+k.1=(cB 4 s).1∧(cB k.2.1 k.2.2).2=(cB 4 s).2∧St w0 (eL p k.2.2::l) w) (fun k=>k.2.1) (0,4,s) gS ⟨rfl,rfl,rfl,h⟩ ?_
  clear h;rintro⟨n,k,s'⟩ w e ⟨hk,h1,h2,h⟩;dsimp only at hk h1 h2 h ⊢;refine vT ?_;refine yW ?_;cases k with
  |zero=>
   refine qz (.bool false) O5 ?_;refine DZ ?_;refine Y9 ?_;refine Df ?_;refine ju ⟨(),⟨rfl,?_,trivial⟩,?_⟩
   ·rw[<- h1];show Value.iz _=Value.iz _;rw[cB,Uz]
   ·rw[<- h2];exact h
  |succ k=>
   refine qz (.bool true) O5 ?_;refine DY ?_;refine aF rfl (qg rfl (gi 1 h) ?_);rintro _ w ⟨rfl,h⟩;rw[Ee] at h ⊢;refine EH ?_;rw[cB] at h1 h2;by_cases hb:(s'.get 1).1=1
   ·rw[if_pos hb] at h1 h2;refine qz (.bool true) (by rw[hb];rfl) ?_
    refine Ye ?_;refine E7 ?_;refine Yg ?_;refine Bk ?_;refine qz (.iz ((n+1:Nat):Int)) O8 ?_;refine Y4 ?_;exact qv ⟨(n+1,k,(s'.get 1).2),gS,⟨gH,by dsimp only at h1 ⊢;omega,h2,h⟩,gH⟩
   ·rw[if_neg hb] at h1 h2;refine qz (.bool false) O6 ?_;refine Ye ?_;refine Df ?_;refine ju ⟨(),⟨rfl,?_,trivial⟩,?_⟩
    ·rw[<- h1];show Value.iz _=Value.iz _;rw[Uz]
    ·rw[<- h2];exact h
 clear h;rintro⟨⟩ w e h;refine GQ ?_;exact qk (bQ ⟨rfl,h⟩)
theorem Tv(k:Nat):fF k<=64:=by
 unfold fF
 match k with
 |0|1|2|3|4=>decide
 |k+5=>exact(by decide:(0:Nat)<=64)
theorem eg{k:Nat}(h:k<=4):(gU [0,7,9,12,64])[k]?=some (.iz (fF k:Nat)):=by
 rcases(by omega:k=0∨k=1∨k=2∨k=3∨k=4) with rfl|rfl|rfl|rfl|rfl <;> rfl
theorem o9{g n:Nat}(hg:g<2^n)(hn:n<=64)(h0:n≠0):(sg (g*2^(64-n))).fdiv (2^(64-n))=uS g n∧g*2^(64-n)<18446744073709551616:=by
 have hP:0<2^(64-n):=Wq _;have Re:2^n*2^(64-n)=18446744073709551616:=by rw[<- Za,show n+(64-n)=64 by omega]
 have h63:2^(n-1)*2^(64-n)=9223372036854775808:=by rw[<- Za,show n-1+(64-n)=63 by omega]
 have hlt:g*2^(64-n)<18446744073709551616:=by rw[<- Re];exact Nat.mul_lt_mul_of_pos_right hg hP
 refine⟨?_,hlt⟩;have Tw:((2:Int)^(64-n))=((2^(64-n):Nat):Int):=by simp
 have hni:((2:Int)^n)=((2^n:Nat):Int):=by simp
 unfold uS;rw[if_neg h0,Tw,hni,Zc _ O0];unfold sg;by_cases hl:g<2^(n-1)
 ·rw[if_pos hl,if_pos (by rw[<- h63];exact Nat.mul_lt_mul_of_pos_right hl hP),<- Int.natCast_ediv,Nat.mul_div_cancel _ hP]
 ·rw[if_neg hl,if_neg (by rw[<- h63];exact Nat.not_lt.2 (Uv _ (Nat.not_lt.1 hl)))]
  have e:((g*2^(64-n):Nat):Int)-18446744073709551616=((g:Int)-((2^n:Nat):Int))*((2^(64-n):Nat):Int):=by
   rw[Int.sub_mul,<- Int.natCast_mul,<- Int.natCast_mul,Re];rfl
  rw[e,Int.mul_ediv_cancel _ O0]
theorem eu{s:RS}(h:St w0 (eL p s::l) w):bP prog 166 [.pz p] w fun v w'=>v=.tuple [.iz (gT s).1,.bool (mJ s)].toArray∧St w0 (eL p (gT s).2::l) w':=by
 refine en func166 results166 ntmps166 ?_;refine Y1 ?_;refine tZ ?_;refine Yq ?_;refine aF rfl (qg rfl (o8 h) ?_);rintro _ w ⟨rfl,h⟩;refine Y5 ?_;have hle:=zD 4 s;have Pt:gT s=(uS ((cB 4 s).2.get (fF (cB 4 s).1)).1 (fF (cB 4 s).1),((cB 4 s).2.get (fF (cB 4 s).1)).2):=rfl;have Tx:mJ s=decide ((which (gT s).1).bits=fF (cB 4 s).1):=rfl;generalize hk:(cB 4 s).1=k at *;generalize (cB 4 s).2=s1 at *;have JB:=Tv k;refine Y1 ?_;refine aF rfl (jq (r:=gU [0,7,9,12,64]) h rfl rfl rfl fun b w h=>?_);refine Y0 ?_;refine aD (jj (o':=k) rfl rfl rfl O0 O7) rfl ?_;refine aD (qq (v:=.iz (fF k:Nat)) rfl (h.b 0 rfl) (eg hle)) rfl ?_;replace h:=h.drop;refine Y5 ?_;have Ih:=RS.tF s1 (fF k);refine GV ?_;refine aF rfl (qg rfl (gi (fF k) h) ?_);rintro _ w ⟨rfl,h⟩;rw[jI JB] at h ⊢;generalize hg:s1.get (fF k)=gs at *;obtain⟨g,s2⟩:=gs;dsimp only at h Ih Pt ⊢;refine Y0 ?_;refine AQ ?_;refine qz (.iz ((64-fF k:Nat):Int)) O9 ?_;refine aD (q9 (v':=.int .u64 ((g*2^(64-fF k)%18446744073709551616:Nat):Int)) (x8 rfl rfl O0) (congrArg (Value.int .u64) (km g (64-fF k) O0))) rfl ?_;refine qJ ?_;refine qz (.iz (sg (g*2^(64-fF k)%18446744073709551616))) (by rw[zq (Vw _ O2)]) ?_
 refine Y0 ?_;refine aD (wi rfl rfl) rfl ?_;refine AQ ?_;refine qz (.iz ((64-max (fF k) 1:Nat):Int)) O9 ?_;refine aD (j2 rfl rfl O0) rfl ?_;refine LM fun d hd=>?_;refine Y5 ?_;refine qf (Γ:=Unit) (fun _=>[(5,.iz (fF k:Nat)),(6,.iz (uS g (fF k)))]) (fun _ w=>St w0 (eL p s2::l) w) ?_ ?_
 ·refine Yb ?_;refine Yi ?_;by_cases h0:fF k=0
  ·refine qz (.bool true) (by rw[h0];rfl) ?_
   refine Yh ?_;refine je ?_;refine Y4 ?_;refine qv ⟨(),⟨rfl,?_,trivial⟩,h⟩;show Value.iz 0=_;unfold uS;rw[if_pos h0]
  ·refine qz (.bool false) O6 ?_;refine qv (qt rfl (qa ⟨(),⟨rfl,?_,trivial⟩,h⟩));show Value.iz d=_;obtain⟨h1,h2⟩:=o9 Ih JB h0;rw[hd,Un h2,show max (fF k) 1=fF k by omega,Zz,Vn (show 64-fF k<=IntKind.i64.bits by show 64-fF k<=64;omega),h1]
 clear h hd d;rintro⟨⟩ w e h;refine Gk ?_;refine aF rfl (qg rfl (du (uS g (fF k)) h) ?_);rintro _ w ⟨rfl,h⟩;refine aD (SF (ft:=3) (o:=2) underlying276 O1 rfl rfl) rfl ?_;refine Y0 ?_;refine Yi ?_
 refine qz (.bool (mJ s)) (by
  rw[Tx,Pt];dsimp only;congr 1;rw[Zx,beq_iff_eq,decide_eq_true_eq]
  exact⟨fun h=>by omega,fun h=>by rw[h]⟩) ?_
 refine tZ ?_;rw[Pt];exact qk (jQ ⟨rfl,h⟩)
def Ax(n:Int):Nat:=(min (max n 0) 65535).toNat
theorem Hq(n:Int):Ax n<=65535:=by unfold Ax;omega
theorem cm{s:RS}(n:Int)(h:St w0 (eL p s::l) w):bP prog 157 [.pz p,.iz n] w fun v w'=>
  (dU (Ax n) s=none∧v=.tuple [.slice none 0 0,.bool false].toArray∧∃s',St w0 (eL p s'::l) w')∨
  (∃x a c,dU (Ax n) s=some x∧v=.tuple [.slice a x.1.length c,.bool true].toArray∧St w0 (eW 2 1 a x.1.length c (gU x.1)::eL p x.2::l) w'):=by
 have hm:=Hq n;refine en func157 results157 ntmps157 ?_;refine yZ ?_;refine LH ?_;refine qz (.iz (Ax n)) (by unfold Ax;congr 1;omega) ?_
 generalize Ax n=m at hm ⊢;refine Y5 ?_;refine xV ?_;refine Yl ?_;refine HP ?_;refine vT ?_;refine DX ?_
 refine jy (Γ:=Nat×List Int×Nat×Nat×RS×Option Addr×Nat) (fun k=>[(0,.pz p),(6,.slice k.2.2.2.2.2.1 k.2.1.length k.2.2.2.2.2.2),(7,.int .u64 k.2.2.1),(8,.int .u64 k.2.2.2.1),(15,.iz m),(16,.iz k.1)])
  (fun k w=>k.1<=m∧k.2.1.length=k.1∧k.2.2.1<18446744073709551616∧k.2.2.2.1<18446744073709551616∧((k.1=0∧k.2.2.2.1=0∧k.2.2.2.2.1=s)∨(0<k.1∧k.2.2.2.2.1.bad=false∧dU m s=(fE (m-k.1) k.2.2.1 k.2.2.2.1 k.2.2.2.2.1).map fun r=>(k.2.1++r.1,r.2)))
   ∧ St w0 (eW 2 1 k.2.2.2.2.2.1 k.2.1.length k.2.2.2.2.2.2 (gU k.2.1)::eL p k.2.2.2.2.1::l) w)
  (fun k=>m-k.1) (0,[],0,0,s,none,0) kX ⟨Uf _,rfl,(by decide:(0:Nat)<18446744073709551616),(by decide:(0:Nat)<18446744073709551616),.inl ⟨rfl,rfl,rfl⟩,St.aZ _ _ h⟩ ?_
 clear h;rintro⟨i,out,was,step,s',a,c⟩ w e ⟨HJ,Ft,oT,hstep,inv,h⟩;dsimp only at HJ Ft oT hstep inv h ⊢;refine Cj ?_;refine qi (qo (decide ((i:Int)<(m:Int))) rfl (fun hc=>?_) (fun hc=>?_))
 ·
  have hlt:i<m:=by simp at hc;omega
  refine DW ?_;refine GQ ?_
  refine qf (Γ:=Nat×Nat×RS) (fun k=>[(0,.pz p),(6,.slice a out.length c),(7,.int .u64 k.1),(8,.int .u64 k.2.1),(15,.iz m),(16,.iz i)])
   (fun k w=>k.1<18446744073709551616∧k.2.1<18446744073709551616∧(dU m s=if k.2.2.bad=true then none else(fE (m-(i+1)) k.1 k.2.1 k.2.2).map fun r=>(out++sg k.1::r.1,r.2))∧St w0 (eW 2 1 a out.length c (gU out)::eL p k.2.2::l) w) ?_ ?_
  ·refine Yb ?_;refine Yi ?_;rcases inv with⟨uU,hs0,rfl⟩|⟨uU,fH,inv⟩
   ·refine qz (.bool true) (by subst uU;rfl) ?_
    refine E8 ?_;refine aF rfl (qg rfl (gi 64 (h.f 1)) ?_);rintro _ w ⟨rfl,h⟩;rw[show eY 64=64 from rfl] at h ⊢;refine Y4 ?_;refine qv ⟨((s'.get 64).1,step,(s'.get 64).2),kX,RS.tF s' 64,hstep,?_,h.f 1⟩;dsimp only;have:out=[]:=Uq O0;subst this;rw[hs0,uU];cases m with
    |zero=>omega
    |succ m=>rfl
   ·refine qz (.bool false) O5 ?_;refine Df ?_;refine Yq ?_;refine aF rfl (qg rfl (eu (h.f 1)) ?_);rintro _ w ⟨rfl,h⟩;refine K6 ?_;refine vU ?_;rw[show m-i=(m-(i+1))+1 by omega,fE] at inv
    refine Y2 ?_;refine qo (!mJ s') rfl (fun hc=>?_) (fun hc=>?_)
    ·
     have hno:mJ s'=false:=by simpa using hc
     refine yZ ?_;rw[if_neg (by rw[hno];simp)] at inv
     exact qk (jQ (.inl ⟨inv,rfl,_,(h.f 1).drop⟩))
    have hok:mJ s'=true:=by simpa using hc
    refine Yu ?_;refine Gk ?_;refine qJ ?_;refine qz (.int .u64 (us (gT s').1:Nat)) (by rw[kn]) ?_
    refine tC ?_;refine qz (.int .u64 (jR step (us (gT s').1):Nat)) (by rw[si]) ?_
    refine Y5 ?_;refine AT ?_;refine Y0 ?_;refine tC ?_;refine qz (.int .u64 (jR was (jR step (us (gT s').1)):Nat)) (by rw[si]) ?_
    refine Y4 ?_;refine qv ⟨(jR was (jR step (us (gT s').1)),jR step (us (gT s').1),(gT s').2),kX,Vw _ O2,Vw _ O2,?_,h.f 1⟩;rw[inv];dsimp only;cases hb:(gT s').2.bad with
    |true=>rw[if_neg O7,if_pos rfl];rfl
    |false=>rw[if_pos ⟨hok,rfl⟩,if_neg O7,Option.map_map];rfl
  clear h inv;rintro⟨CH,step',s2⟩ w e ⟨hw',hs',inv,h⟩;dsimp only at hw' hs' inv h ⊢;refine GY ?_;refine aF rfl (qg rfl (wx (h.f 1)) ?_);rintro _ w ⟨rfl,h⟩;refine oO ?_;refine Y2 ?_;refine qo (!!s2.bad) rfl (fun hc=>?_) (fun hc=>?_)
  ·
   have hb:s2.bad=true:=by simpa using hc
   refine yZ ?_;rw[if_pos hb] at inv;exact qk (jQ (.inl ⟨inv,rfl,_,(h.f 1).drop⟩))
  have hb:s2.bad=false:=by simpa using hc
  rw[if_neg (by rw[hb];simp)] at inv
  refine Yu ?_;refine Ow ?_;refine qJ ?_;refine qz (.iz (sg CH)) (by rw[zq hw']) ?_
  refine aF rfl (jq (r:=gU [sg CH]) (h.f 1) rfl rfl rfl fun b w h=>?_);refine aF rfl (ql (ys:=gU [sg CH]) (zs:=gU (out++[sg CH])) (m3:=(out++[sg CH]).length) (h.f 1) rfl rfl ⟨rfl,.inr ⟨b,0,rfl,qw (h.b 0 rfl) rfl⟩⟩ (rO _) O7 (by simp[gU]) O5 O5 rfl fun a' c' w _ h=>?_)
  refine Yz ?_;refine Yw ?_;refine qz (.iz ((i+1:Nat):Int)) O8 ?_;refine Y0 ?_;refine qv ⟨(i+1,out++[sg CH],CH,step',s2,a',c'),kX,⟨hlt,by dsimp only;simp;omega,hw',hs',.inr ⟨Nat.succ_pos _,hb,?_⟩,(h.f 1).drop⟩,gH⟩
  rw[inv];dsimp only;congr 1;funext r;simp
 have hin:i=m:=by simp at hc;omega
 refine ju ?_;refine GY ?_;refine aF rfl (qg rfl (wx (h.f 1)) ?_);rintro _ w ⟨rfl,h⟩;refine oO ?_;refine Y2 ?_
 have key:dU m s=if s'.bad=true then none else some (out,s'):=by
  rcases inv with⟨uU,hs0,rfl⟩|⟨uU,fH,inv⟩
  ·have:out=[]:=Uq O0;subst this;rw[<- hin,uU];rfl
  ·rw[inv,hin,Xv,fH];simp[fE]
 refine qo (!!s'.bad) rfl (fun hc=>?_) (fun hc=>?_)
 ·
  refine yZ ?_;rw[if_pos (by simpa using hc)] at key
  exact qk (jQ (.inl ⟨key,rfl,_,(h.f 1).drop⟩))
 rw[if_neg (by simpa using hc)] at key
 refine Yu ?_;refine Oy ?_;exact qk (jQ (.inr ⟨(out,s'),a,c,key,rfl,h.f 1⟩))
end
end
end Go.Proofs.YtngdfdangkdgcaaGreatDoor
namespace Go.Hw
section
theorem qF:∀(k was step:Nat) (s:RS) (x:List Int×RS),fE k was step s=some x->∀t∈x.1,rM t
 |0,_,_,_,x,h=>by cases h;exact fun _ h=>by cases h
 |k+1,was,step,s,x,h=>by
  rw[fE] at h;split at h
  ·obtain⟨y,h1,rfl⟩:=Ve.1 h;intro t ht;rcases Up.1 ht with rfl|ht
   ·exact HV (Vw _ O2)
   ·exact qF k _ _ _ y h1 t ht
  ·cases h
theorem Ay{n:Nat}{s:RS}{x:List Int×RS}(h:dU n s=some x):∀t∈x.1,rM t:=by
 cases n with
 |zero=>unfold dU at h;dsimp only at h;split at h <;> cases h;exact fun _ h=>by cases h
 |succ k=>
  unfold dU at h;dsimp only at h;split at h
  ·cases h
  ·obtain⟨y,h1,rfl⟩:=Ve.1 h;intro t ht;rcases Up.1 ht with rfl|ht
   ·exact HV (RS.tF s 64)
   ·exact qF k _ _ _ y h1 t ht
theorem wV:∀(x:List Int) (v:List Nat),x.length=v.length->(gL x v).length=x.length
 |[],_,_=>by simp[gL]
 |_::_,[],h=>by simp at h
 |t::x,a::v,h=>by simp[gL,wV x v Co]
theorem DC:∀(x:List Int) (v:List Nat),(∀t∈x,rM t)->(∀a∈v,a<18446744073709551616)->∀s∈gL x v,s.Wf
 |[],_,_,_,s,h=>by simp[gL] at h
 |_::_,[],_,_,s,h=>by simp[gL] at h
 |t::x,a::v,hx,hv,s,h=>by
  rw[gL] at h;rcases Up.1 h with rfl|h
  ·exact⟨hx t (Ud ..),gH,by have:=hv a (Ud ..);dsimp only;omega⟩
  ·exact DC x v (fun y hy=>hx y (Uh _ hy)) (fun y hy=>hv y (Uh _ hy)) s h
theorem zN:∀(x:List Int) (v:List Nat) (k:Nat) (t:Int) (a:Nat),x[k]?=some t->v[k]?=some a->gL (x.take (k+1)) (v.take (k+1))=gL (x.take k) (v.take k)++[⟨t,a⟩]
 |[],_,_,_,_,h,_=>by simp at h
 |_::_,[],_,_,_,_,h=>by simp at h
 |s::x,b::v,0,t,a,h,h'=>by simp at h h';subst h;subst h';simp[gL]
 |s::x,b::v,k+1,t,a,h,h'=>by
  have:=zN x v k t a Co (by simpa using h')
  rw[Vu,Vu,gL,this,Vu,Vu,gL];rfl
theorem xf{α:Type}{x:List α}{k:Nat}(h:k<=x.length):(x.take k).length=k:=by rw[Ul,Vn h]
theorem cn{x:Nat}(h:x<=9223372036854775807):IntKind.u64.wrap (x:Int)=(x:Int):=by
 unfold IntKind.wrap;simp[IntKind.signed,IntKind.bits];omega
end
end Go.Hw
namespace Go.Proofs.YtngdfdangkdgcaaGreatDoor
open Go.Hw _root_.Go.Proofs.Tryz
section
section
variable{w0 w:World}{l:List aC}
theorem Fy{n:Nat}(h:n<=65535):Ax (n:Int)=n:=by unfold Ax;omega
theorem wg{s1 s2:Option Addr}{c1 c2:Nat}{b1 b2:List UInt8}(h:St w0 l w)(h1:∀w',St w0 l w'->Rd w' 1 s1 b1.length (aY b1))(h2:∀w',St w0 l w'->Rd w' 1 s2 b2.length (aY b2)):
  bP prog 153 [.slice s1 b1.length c1,.slice s2 b2.length c2] w fun v w'=>v=.bool (decide (b1=b2))∧St w0 l w':=by
 refine en func153 results153 ntmps153 ?_;refine pL ?_;refine Yd ?_;refine aD (QN rfl (h1 _ h)) rfl ?_;refine Yp ?_;refine aD (QN rfl (h2 _ h)) rfl ?_;refine aD (So rfl rfl) rfl ?_;refine Ya ?_;refine qk (bQ ⟨?_,h⟩);show Value.bool (b1.toArray.toList==b2.toArray.toList)=_;congr 1;rw[Zx];simp
def nW(tag:Int):Prop:=∀{w0 w:World} {l:List aC} {sl:Option Addr} {c:Nat} {bs:List UInt8} {n:Nat},Tz w0->Reads w0 l 1 sl bs.length (aY bs)->bs.length<=140737488355328->bs.length<=c->n<=65535->St w0 l w->
 bP prog 159 [.iz tag,.slice sl bs.length c,.iz (n:Int)] w fun v w'=>∃a c' xs b,v=.tuple [.slice a xs.length c',.bool b].toArray∧kT tag bs n=(if b=true then some xs else none)∧(b=true->xs.length=n∧∀x∈xs,x<18446744073709551616)∧St w0 (mO a c' xs::l) w'
theorem nf(hT:Tz w0){tag:Int}(hV:wK tag)(hread:nW tag){sl:Option Addr}{c:Nat}{bs:List UInt8}(n:Int)(hn:bs.length<=140737488355328)(hc:bs.length<=c)(hr:Reads w0 l 1 sl bs.length (aY bs))(h:St w0 l w):
  bP prog 151 [.iz tag,.slice sl bs.length c,.iz n] w fun v w'=>∃a c',v=.tuple [.slice a ((cY tag bs n).getD []).length c',.bool (cY tag bs n).isSome].toArray∧(∀L,cY tag bs n=some L->(L.length:Int)=n∧∀s∈L,s.Wf)∧St w0 (aB a c' ((cY tag bs n).getD [])::l) w':=by
 have hk:=im bs;have hsz:=ip bs;have eK:cY tag bs n=_:=rfl
 conv at eK=>rhs;unfold cY
 refine en func151 results151 ntmps151 ?_;refine yZ ?_;refine Yd ?_;refine aF rfl (qg rfl (pf h hr.rd hn) ?_);rintro _ w ⟨rfl,h⟩;refine QI ?_;generalize (dX bs).1=size at hsz eK ⊢;generalize (dX bs).2=k at hk eK ⊢;refine qf (Γ:=Unit) (fun _=>[(0,.iz tag),(1,.slice sl bs.length c),(2,.iz n),(8,.int .u64 size),(9,.iz k)]) (fun _ w=>(¬(k=0∨n<0∨65535<n∨bs.length-k<size))∧St w0 l w) ?_ ?_
 ·refine Y1 ?_
  have bad:∀{w:World},(k=0∨n<0∨65535<n∨bs.length-k<size)->St w0 l w->∃a c',Value.tuple [.slice none 0 0,.bool false].toArray=.tuple [.slice a ((cY tag bs n).getD []).length c',.bool (cY tag bs n).isSome].toArray∧(∀L,cY tag bs n=some L->(L.length:Int)=n∧∀s∈L,s.Wf)∧St w0 (aB a c' ((cY tag bs n).getD [])::l) w:=fun hb h=>by
   rw[if_pos hb] at eK;rw[eK];exact⟨none,0,rfl,(fun _ h=>by cases h),St.aZ _ _ h⟩
  by_cases g1:k=0
  ·refine Y0 ?_;refine aD (q9 (v':=.bool true) (gk rfl rfl) (by rw[g1];rfl)) rfl ?_
   refine K5 ?_;refine K5 ?_;refine K8 ?_;refine I2 ?_;exact qv (qk (jQ (bad (.inl g1) h)))
  refine Y0 ?_;refine aD (q9 (v':=.bool false) (gk rfl rfl) O6) rfl ?_;by_cases g2:n<0
  ·refine AU ?_;refine aD (q9 (v':=.bool true) (yq rfl rfl) (by congr 1;simpa using g2)) rfl ?_
   refine Y9 ?_;refine K5 ?_;refine K8 ?_;refine I2 ?_;exact qv (qk (jQ (bad (.inr (.inl g2)) h)))
  refine AU ?_;refine aD (q9 (v':=.bool false) (yq rfl rfl) (by congr 1;simpa using g2)) rfl ?_
  by_cases g3:65535<n
  ·refine Y9 ?_;refine AU ?_;refine aD (q9 (v':=.bool true) (ue rfl rfl) (by congr 1;simpa using g3)) rfl ?_
   refine Y9 ?_;refine K8 ?_;refine I2 ?_;exact qv (qk (jQ (bad (.inr (.inr (.inl g3))) h)))
  refine Y9 ?_;refine AU ?_;refine aD (q9 (v':=.bool false) (ue rfl rfl) (by congr 1;simpa using g3)) rfl ?_
  refine Y9 ?_;refine AU ?_;refine K3 ?_;refine rJ ?_;refine xW ?_;refine aD (q9 (v':=.iz ((bs.length-k:Nat):Int)) (vk rfl rfl) O9) rfl ?_;refine Yf ?_;refine aD (q9 (v':=.int .u64 ((bs.length-k:Nat):Int)) (zn rfl) (congrArg (Value.int .u64) (cn O0))) rfl ?_;refine Yf ?_;refine Cr ?_;refine Y9 ?_;refine qv (qo (decide ((size:Int)>((bs.length-k:Nat):Int))) rfl (fun kZ=>?_) (fun kZ=>?_))
  ·
   refine xV ?_;refine Y3 ?_;exact qv (qk (jQ (bad (.inr (.inr (.inr (by simp at kZ;omega)))) h)))
  ·exact qa ⟨(),pS,by simp at kZ;omega,h⟩
 clear h;rintro _ w e ⟨BR,h⟩;rw[if_neg BR] at eK;obtain⟨n,rfl⟩:=Int.eq_ofNat_of_zero_le (show 0<=n by omega)
 have Fu:n<=65535:=by omega
 have Rf:k+size<=bs.length:=by omega
 rw[show((n:Nat):Int).toNat=n from rfl] at eK;refine Gk ?_;refine qJ ?_;refine qz (.iz (size:Int)) Ce ?_;refine tC ?_;refine qz (.iz ((k+size:Nat):Int)) O8 ?_;refine Y5 ?_;refine EJ ?_;refine Y0 ?_;refine aD (HW rfl rfl rfl O0 O0) rfl ?_;have hrc:=Reads.cut hr (i:=k) (j:=k+size) O0 O0 hc;have H8:((bs.drop k).take size).length=k+size-k:=by rw[Ul,Um];omega
 have Pu:Reads w0 l 1 (nI sl (k*1) (Nat.beq c k)) ((bs.drop k).take size).length (aY ((bs.drop k).take size)):=by
  rw[H8]
  have:aY ((bs.drop k).take size)=((aY bs).drop (k*1)).take ((k+size-k)*1):=by
   unfold aY;rw[List.map_take,List.map_drop];congr 1
   ·omega
   ·congr 1;omega
  rw[this];exact hrc
 show Rn _ _ _ _ _ (upd _ _ (.slice (nI sl (k*1) (Nat.beq c k)) (k+size-k) (c-k))) _;rw[<- H8];refine aF rfl (qg rfl (yy h Pu.rd (by rw[H8];omega)) ?_)
 rintro _ w ⟨p,rfl,h⟩;refine Y0 ?_;refine aF rfl (qg rfl (cm n h) ?_);rw[Fy Fu];intro v w hv
 have hv:∃a c' ts ok,v=.tuple [.slice a ts.length c',.bool ok].toArray∧(ok=true->∃s',dU n ⟨lB ((bs.drop k).take size),false⟩=some (ts,s'))∧(ok=false->dU n ⟨lB ((bs.drop k).take size),false⟩=none)∧∃s',St w0 (lG a c' ts::eL p s'::l) w:=by
  rcases hv with⟨h1,rfl,s',h⟩|⟨x,a,c',h1,rfl,h⟩
  ·exact⟨none,0,[],false,rfl,(fun h=>by cases h),fun _=>h1,s',St.aZ _ _ h⟩
  ·exact⟨a,c',x.1,true,rfl,fun _=>⟨x.2,h1⟩,(fun h=>by cases h),x.2,h⟩
 clear h;obtain⟨ta,tc,ts,Pv,rfl,Gq,Gv,s',h⟩:=hv;refine Ck ?_;refine Yb ?_;refine HO ?_;refine aD (gu (i:=k+size) rfl rfl Rf) rfl ?_
 have Cy:Reads w0 l 1 (nI sl ((k+size)*1) (Nat.beq c (k+size))) (bs.drop (k+size)).length (aY (bs.drop (k+size))):=by
  have:=Reads.tail hr (i:=k+size) Rf hc;rw[Um]
  have e1:aY (bs.drop (k+size))=(aY bs).drop ((k+size)*1):=by
   unfold aY;rw[List.map_drop];congr 1;omega
  rw[e1];exact this
 show Rn _ _ _ _ _ (upd _ _ (.slice (nI sl ((k+size)*1) (Nat.beq c (k+size))) (bs.length-(k+size)) (c-(k+size)))) _;rw[<- Um];refine Y0 ?_;refine aF rfl (qg rfl (hread hT (Cy.more [_,_]) KU KU Fu h) ?_);rintro _ w ⟨va,vc,vs,Pw,rfl,Ap,Hr,h⟩;refine Ck ?_;refine qf (Γ:=Unit) (fun _=>[(0,.iz tag),(1,.slice sl bs.length c),(2,.iz n),(11,.slice ta ts.length tc),(13,.slice va vs.length vc)]) (fun _ w=>Pv=true∧Pw=true∧St w0 (mO va vc vs::lG ta tc ts::eL p s'::l) w) ?_ ?_
 ·have bad:∀{w:World},(Pv=false∨Pw=false)->St w0 (mO va vc vs::lG ta tc ts::eL p s'::l) w->∃a c',Value.tuple [.slice none 0 0,.bool false].toArray=.tuple [.slice a ((cY tag bs n).getD []).length c',.bool (cY tag bs n).isSome].toArray∧(∀L,cY tag bs n=some L->(L.length:Int)=n∧∀s∈L,s.Wf)∧St w0 (aB a c' ((cY tag bs n).getD [])::l) w:=fun hb h=>by
   have:cY tag bs n=none:=by
    rw[eK];rcases hb with hb|hb
    ·rw[Gv hb]
    ·rw[hb,if_neg O2] at Ap;rw[Ap];cases dU n ⟨lB ((bs.drop k).take size),false⟩ <;> rfl
   rw[this];exact⟨none,0,rfl,(fun _ h=>by cases h),St.aZ _ _ h.drop.drop.drop⟩
  refine Y1 ?_;cases Pv with
  |false=>
   refine vC ?_;refine K5 ?_;refine I2 ?_;exact qv (qk (jQ (bad (.inl rfl) h)))
  |true=>
   refine vC ?_;refine DT ?_;refine DT ?_;refine oO ?_;refine Y9 ?_;cases Pw with
   |false=>
    refine I2 ?_;exact qv (qk (jQ (bad (.inr rfl) h)))
   |true=>
    refine Df ?_;exact qa ⟨(),pS,rfl,rfl,h⟩
 clear h;rintro _ w e ⟨rfl,rfl,h⟩;obtain⟨s2,ht⟩:=Gq rfl;obtain⟨hvl,Px⟩:=Hr rfl;rw[if_pos rfl] at Ap;rw[ht,Ap] at eK;dsimp only at eK;have Am:ts.length=n:=zZ ht;have Cf:∀t∈ts,rM t:=Ay ht;have hzl:(gL ts vs).length=n:=by rw[wV _ _ O0,Am]
 have Rg:=DC ts vs Cf Px;refine GP ?_;refine Yb ?_;refine DX ?_
 refine jy (Γ:=Nat×Option Addr×Nat) (fun k=>[(0,.iz tag),(1,.slice sl bs.length c),(11,.slice ta ts.length tc),(13,.slice va vs.length vc),(15,.slice k.2.1 (gL (ts.take k.1) (vs.take k.1)).length k.2.2),(72,.iz n),(73,.iz k.1)])
  (fun k w=>k.1<=n∧St w0 (aB k.2.1 k.2.2 (gL (ts.take k.1) (vs.take k.1))::mO va vc vs::lG ta tc ts::eL p s'::l) w) (fun k=>n-k.1) (0,none,0) yQ ⟨Uf _,St.aZ _ _ h⟩ ?_
 clear h;rintro⟨i,a,c1⟩ w e ⟨hi,h⟩;dsimp only at hi h ⊢;refine Cj ?_;refine qi (qo (decide ((i:Int)<(n:Int))) rfl (fun kZ=>?_) (fun kZ=>?_))
 ·
  have hlt:i<n:=by simp at kZ;omega
  have hgt:=Ub (show i<ts.length by omega)
  generalize ts[i]'O0=t at hgt;have Py:=Ub (show i<vs.length by omega)
  generalize vs[i]'O0=x at Py;have hstep:=zN ts vs i t x hgt Py;have X1:(gL (ts.take i) (vs.take i)).length=i:=by rw[wV _ _ (by rw[xf O0,xf O0]),xf O0]
  obtain⟨bt,Mv⟩:=(h.f 2).dF O0;obtain⟨bv,Mw⟩:=(h.f 1).dF O0;refine Yu ?_
  refine qf (Γ:=Option Addr×Nat) (fun q=>[(0,.iz tag),(1,.slice sl bs.length c),(11,.slice ta ts.length tc),(13,.slice va vs.length vc),(15,.slice q.1 (gL (ts.take (i+1)) (vs.take (i+1))).length q.2),(72,.iz n),(73,.iz i)])
   (fun q w=>St w0 (aB q.1 q.2 (gL (ts.take (i+1)) (vs.take (i+1)))::mO va vc vs::lG ta tc ts::eL p s'::l) w) ?_ ?_
  ·refine Yg ?_;refine GQ ?_
   have Lb:∀{w'},(∃L,St w0 (L++(mO va vc vs::lG ta tc ts::eL p s'::l)) w')->w'.cell? ⟨bt,i,none⟩=some (.iz t):=fun⟨L,h'⟩=>by
    have:=(Mv▸(h'.wA.f 1).bU).cell (Br hgt);simpa using this
   have Ty:∀{w'},(∃L,St w0 (L++(mO va vc vs::lG ta tc ts::eL p s'::l)) w')->w'.cell? ⟨bv,i,none⟩=some (.int .u64 x):=fun⟨L,h'⟩=>by
    have:=(Mw▸(h'.wA.f 0).bU).cell (vZ Py);simpa using this
   refine jb [0,1,2,3,4,5,6,7,8,9,10,11,12] none (fun w=>∃L,St w0 (L++(mO va vc vs::lG ta tc ts::eL p s'::l)) w) O1 O1 ?_;replace h:=h.drew;generalize w.drew=w at h;have hs:=h;replace h:∃L,St w0 (L++(mO va vc vs::lG ta tc ts::eL p s'::l)) w:=⟨[_],hs⟩;refine AR ?_;refine Dg ?_;refine cD rfl rfl rfl rfl h rfl (jj (b:=bt) (o:=0) (m:=ts.length) (c:=tc) (j:=i) (o':=i) (by rw[<- Mv];rfl) rfl rfl O0 O7) ?_
   refine qj rfl rfl rfl rfl h (fun w h=>qh rfl (qr (v:=.iz t) rfl (Lb h))) ?_;refine Dg ?_;refine cD rfl rfl rfl rfl h rfl (jj (b:=bv) (o:=0) (m:=vs.length) (c:=vc) (j:=i) (o':=i) (by rw[<- Mw];rfl) rfl rfl O0 O7) ?_
   refine qj rfl rfl rfl rfl h (fun w h=>qh rfl (qr (v:=.int .u64 x) rfl (Ty h))) ?_;refine cD rfl rfl rfl rfl h rfl (qc (r:=(bZ.mk t x).cells) rfl) ?_;refine Ys ?_;refine qd 10 rfl rfl rfl rfl ?_;refine(jq (r:=aW [bZ.mk t x]) hs rfl rfl rfl fun b2 w hs=>?_);replace h:∃L,St w0 (L++(mO va vc vs::lG ta tc ts::eL p s'::l)) w:=⟨[_,_],hs⟩;refine⟨fun _=>h,?_⟩;refine Yn ?_;refine qd 11 rfl rfl rfl rfl ?_;refine(ql (ys:=aW [bZ.mk t x]) (zs:=aW (gL (ts.take (i+1)) (vs.take (i+1)))) (m3:=(gL (ts.take (i+1)) (vs.take (i+1))).length) (hs.f 1) rfl rfl ⟨rfl,.inr ⟨b2,0,rfl,qw (hs.b 0 rfl) rfl⟩⟩ (jm _) (by rw[hstep];simp) (by rw[hstep];simp[aW]) (by rw[hstep];simp;omega) (by rw[hstep];simp;omega) rfl fun a2 c2 w _ hs=>?_)
   replace h:∃L,St w0 (L++(mO va vc vs::lG ta tc ts::eL p s'::l)) w:=⟨[_,_],hs⟩;refine⟨fun _=>h,?_⟩;refine zW ?_;exact qm ⟨(a2,c2),yQ,(hs.f 1).drop⟩
  clear h;rintro⟨a,c1⟩ w e h;dsimp only at h ⊢;refine Yw ?_;refine qz (.iz ((i+1:Nat):Int)) O8 ?_;refine Y0 ?_;exact qv ⟨(i+1,a,c1),yQ,⟨hlt,h⟩,gH⟩
 have hin:i=n:=by simp at kZ;omega
 refine ju ?_;have hz:gL (ts.take i) (vs.take i)=gL ts vs:=by rw[hin,Uu O0,Uu O0]
 rw[hz] at h ⊢;refine Yb ?_;refine Yp ?_;refine aF rfl (qg rfl (xq hT hV Rg O0 Reads.own h) ?_);rintro _ w ⟨a2,c2,rfl,h⟩;refine Ck ?_;replace h:St w0 (gI a2 c2 ((cU tag (gL ts vs)).getD [])::aB a c1 (gL ts vs)::l) w:=(((h.f 2).drop.f 2).drop.f 2).drop
 have bad:∀{w:World},cU tag (gL ts vs)≠some bs->St w0 l w->∃a c',Value.tuple [.slice none 0 0,.bool false].toArray=.tuple [.slice a ((cY tag bs n).getD []).length c',.bool (cY tag bs n).isSome].toArray∧(∀L,cY tag bs n=some L->(L.length:Int)=n∧∀s∈L,s.Wf)∧St w0 (aB a c' ((cY tag bs n).getD [])::l) w:=fun hb h=>by
  rw[if_neg hb] at eK;rw[eK];exact⟨none,0,rfl,(fun _ h=>by cases h),St.aZ _ _ h⟩
 refine qf (Γ:=Unit) (fun _=>[(15,.slice a (gL ts vs).length c1)]) (fun _ w=>cU tag (gL ts vs)=some bs∧St w0 (aB a c1 (gL ts vs)::l) w) ?_ ?_
 ·refine Y1 ?_;cases hE:cU tag (gL ts vs) with
  |none=>
   rw[hE] at h;refine vC ?_;refine I4 ?_;refine I2 ?_;exact qv (qk (jQ (bad (by rw[hE];simp) h.drop.drop)))
  |some d=>
   rw[hE] at h;refine vC ?_;refine I0 ?_;refine K3 ?_;refine aF rfl (qg rfl (wg (b1:=d) (b2:=bs) h (fun w' h'=>h'.bU) ((hr.more [_,_]).rd)) ?_);rintro _ w ⟨rfl,h⟩;refine HQ ?_;refine qv (qo (!decide (d=bs)) rfl (fun kZ=>?_) (fun kZ=>?_))
   ·refine xV ?_;refine Y3 ?_;exact qv (qk (jQ (bad (by rw[hE];simpa using kZ) h.drop.drop)))
   ·exact qa ⟨(),⟨rfl,trivial⟩,by simpa using kZ,h.drop⟩
 clear h;rintro _ w e ⟨hE,h⟩;rw[if_pos hE] at eK;rw[eK];refine Oy ?_;refine qk (jQ ⟨a,c1,rfl,fun L hL=>?_,h⟩);cases hL
 exact⟨by rw[hzl],Rg⟩
end
end
end Go.Proofs.YtngdfdangkdgcaaGreatDoor
namespace Go.Hw
section
theorem cp(x:Nat):IntKind.u32.wrap (x:Int)=((x%4294967296:Nat):Int):=by
 unfold IntKind.wrap;simp[IntKind.signed,IntKind.bits]
theorem wd{a b:Nat}(ha:a<4294967296)(hb:b<4294967296):
  eS .and .u32 (a:Int) (b:Int)=((a &&& b:Nat):Int)∧eS .xor .u32 (a:Int) (b:Int)=((a ^^^ b:Nat):Int):=by
 have ha':a%2^32=a:=Un ha;have hb':b%2^32=b:=Un hb;have e:IntKind.u32.bits=32:=rfl;refine⟨?_,?_⟩ <;> unfold eS <;> simp only[e,BitVec.ofInt_natCast,BitVec.toNat_and,BitVec.toNat_xor,BitVec.toNat_ofNat,ha',hb',cp]
 ·rw[Un (Nat.and_lt_two_pow (n:=32) _ hb)]
 ·rw[Un (Wu (n:=32) ha hb)]
def lQ(l:List Nat):List Value:=l.map fun(x:Nat)=>.int .u32 (x:Int)
theorem BS(l:List Nat):(lQ l).length=l.length:=by simp[lQ]
theorem Fz{l:List Nat}{j x:Nat}(h:l[j]?=some x):(lQ l)[j]?=some (.int .u32 (x:Int)):=by simp[lQ,h]
def qU(i:Nat):List Nat:=(List.range i).map gM++List.replicate (256-i) 0
theorem BT{i:Nat}(h:i<=256):(qU i).length=256:=by simp[qU];omega
theorem FB{i:Nat}(h:i<256):(lQ (qU i)).set i (.int .u32 (gM i:Int))=lQ (qU (i+1)):=by
 have e:256-i=(256-(i+1))+1:=by omega
 have hl:(lQ ((List.range i).map gM)).length=i:=by simp[lQ]
 have e1:lQ (qU i)=lQ ((List.range i).map gM)++(.int .u32 (0:Nat))::lQ (List.replicate (256-(i+1)) 0):=by
  unfold qU lQ;rw[e,Zp,Vo,Uy]
 have e2:lQ (qU (i+1))=lQ ((List.range i).map gM)++(.int .u32 (gM i:Int))::lQ (List.replicate (256-(i+1)) 0):=by
  unfold qU lQ;rw[List.range_succ,Vo,Vo,Vo,Uo];rfl
 rw[e1,e2,List.set_append_right _ _ O0,hl,Xv];rfl
def qV:List Value:=lQ (qU 256)
theorem oY:qV.length=256:=by unfold qV;rw[BS,BT (Ug _)]
theorem FC{i:Nat}(h:i<256):qV[i]?=some (.int .u32 (gM i:Int)):=by
 unfold qV;refine Fz ?_;unfold qU;rw[Wh Co,Vb,List.getElem?_range h];rfl
theorem FD:qV.all (·.oneCell')=true:=by decide +kernel
end
end Go.Hw
namespace Go.Proofs.YtngdfdangkdgcaaGreatDoor
open Go.Hw _root_.Go.Proofs.Tryz
section
instance Pz:eV prog 255 (.array 256 253):=⟨underlying255⟩
section
variable{w0 w:World}{l:List aC}
theorem tq(h:St w0 l w):bP prog 164 [] w fun v w'=>v=.agg qV.toArray∧St w0 l w':=by
 refine en func164 results164 ntmps164 ?_;refine Y1 ?_;refine aF rfl (qn h fun b0 w h=>?_);refine Yl ?_;refine aF rfl (qn h fun b1 w h=>?_);refine yX ?_;refine Yb ?_;refine Y2 ?_;have hz:(List.replicate 256 (Value.int .u32 0))=lQ (qU 0):=by show _=(List.replicate 256 0).map _;rw[List.map_replicate];rfl
 refine Yg ?_;refine jy (Γ:=Nat) (fun k=>[(0,.pz b0),(1,.pz b1),(5,.iz k)]) (fun k w=>k<=256∧St w0 (pt b1 (.cells (lQ (qU k)).toArray 255 (0,0))::pt b0 (.cells (List.replicate 256 (Value.int .u32 0)).toArray 255 (0,0))::l) w) (fun k=>256-k) 0 kK ⟨Uf _,by rw[<- hz];exact h⟩ ?_
 clear h;rintro i w e ⟨hi,h⟩;refine Cj ?_;refine qi (qo (decide ((i:Int)<256)) rfl (fun hc=>?_) (fun hc=>?_))
 ·
  have hlt:i<256:=by simp at hc;omega
  refine DW ?_;refine GQ ?_;refine Yb ?_;refine qJ ?_;refine qz (.int .u32 (i:Int)) (by rw[cp,Un O0]) ?_
  refine Y5 ?_;refine qf (Γ:=Unit) (fun _=>[(0,.pz b0),(1,.pz b1),(2,.iz i),(3,.int .u32 (gM i:Int)),(5,.iz i)]) (fun _ w=>St w0 (pt b1 (.cells (lQ (qU i)).toArray 255 (0,0))::pt b0 (.cells (List.replicate 256 (Value.int .u32 0)).toArray 255 (0,0))::l) w) ?_ ?_
  ·refine Yb ?_;refine K2 ?_;refine jy (Γ:=Nat) (fun k=>[(0,.pz b0),(1,.pz b1),(2,.iz i),(3,.int .u32 (BP k i:Int)),(5,.iz i),(10,.iz k)]) (fun k w=>k<=8∧St w0 (pt b1 (.cells (lQ (qU i)).toArray 255 (0,0))::pt b0 (.cells (List.replicate 256 (Value.int .u32 0)).toArray 255 (0,0))::l) w) (fun k=>8-k) 0 kX ⟨Uf _,h⟩ ?_;clear h;rintro k w e ⟨hk,h⟩;refine Cj ?_;refine qi (qo (decide ((k:Int)<8)) rfl (fun hc=>?_) (fun hc=>?_))
   ·
    have Ld:k<8:=by simp at hc;omega
    have xP:=Av (c:=i) O0 k;have hstep:BP (k+1) i=wT (BP k i):=rfl;generalize BP k i=c at xP hstep;refine Yu ?_;refine qf (Γ:=Unit) (fun _=>[(0,.pz b0),(1,.pz b1),(2,.iz i),(3,.int .u32 (BP (k+1) i:Int)),(5,.iz i),(10,.iz k)]) (fun _ w=>St w0 (pt b1 (.cells (lQ (qU i)).toArray 255 (0,0))::pt b0 (.cells (List.replicate 256 (Value.int .u32 0)).toArray 255 (0,0))::l) w) ?_ ?_
    ·refine Yg ?_;refine Yb ?_;refine aD (gx rfl rfl) rfl ?_;refine qz (.int .u32 ((c%2:Nat):Int)) (congrArg (Value.int .u32) (((wd xP (by decide:1<_)).1).trans (by rw[Nat.and_one_is_mod]))) ?_
     refine HT ?_;refine aD (q9 (v':=.int .u32 ((c / 2^1:Nat):Int)) (j2 rfl rfl O0) (congrArg (Value.int .u32) (j3 c 1 32 O2))) rfl ?_;refine HT ?_;refine Yi ?_;rw[hstep];unfold wT;by_cases h1:c%2=1
     ·rw[if_pos h1];refine qz (.bool true) (by rw[h1];rfl) ?_
      refine Yh ?_;refine AT ?_;refine HN ?_;refine qz (.int .u32 ((c / 2^1 ^^^ 2197175160:Nat):Int)) (congrArg (Value.int .u32) (wd O0 O2).2) ?_;refine Y4 ?_;exact qv ⟨(),kX,h⟩
     ·rw[if_neg h1];refine qz (.bool false) O6 ?_;refine Df ?_;exact qa ⟨(),kX,h⟩
    clear h;rintro _ w e h;refine Yw ?_;refine qz (.iz ((k+1:Nat):Int)) O8 ?_;refine Y0 ?_;exact qv ⟨k+1,kX,⟨Ld,h⟩,cI⟩
   have Ld:k=8:=by simp at hc;omega
   subst Ld;exact ju ⟨(),pS,h⟩
  clear h;rintro _ w e h;refine AT ?_;refine Y0 ?_;refine aD (yz (j:=i) (o':=i) rfl rfl rfl hlt O7) rfl ?_;refine aF rfl (qb 0 h rfl (show _=Value.int .u32 (gM i:Int) from rfl) rfl (by rw[Xu,BS,BT O0];omega) rfl rfl fun w h=>?_)
  simp only[Vh] at h;rw[FB hlt] at h;refine E6 ?_;refine qz (.iz ((i+1:Nat):Int)) O8 ?_;refine Y0 ?_;exact qv ⟨i+1,kK,⟨hlt,h⟩,cI⟩
 have Mx:i=256:=by simp at hc;omega
 subst Mx;refine ju ?_;refine Y1 ?_;refine aD (qx (l:=qV) rfl (by rw[oY];rfl) (qw (h.b 0 rfl) rfl)) rfl ?_
 refine aF rfl (qy (vs:=qV) 1 h rfl rfl rfl (by rw[oY];rfl) (by rw[oY];rfl) rfl FD fun w h=>?_)
 simp only[Vh,Vs] at h;rw[show(List.replicate 256 (Value.int .u32 0)).take 0++qV++(List.replicate 256 (Value.int .u32 0)).drop (0+qV.length)=qV by rw[Xn,Us,oY,Xz (by rw[Zf];decide),Ux]] at h
 refine Y2 ?_;exact qk (uQ (l:=qV) rfl (by rw[oY];rfl) (qw (h.b 1 rfl) rfl) ⟨rfl,h.drop.drop⟩)
theorem TA{sl:Option Addr}{c:Nat}{bs:List UInt8}(hn:bs.length<=140737488355328)(hr:Reads w0 l 1 sl bs.length (aY bs))(h:St w0 l w):
  bP prog 163 [.agg qV.toArray,.slice sl bs.length c] w fun v w'=>v=.int .u32 (crc bs:Int)∧St w0 l w':=by
 refine en func163 results163 ntmps163 ?_;refine Y1 ?_;refine aF rfl (jk h (show _=Value.agg qV.toArray from rfl) fun b2 w h=>?_);refine Y5 ?_;refine Yr ?_;refine LI ?_;refine DX ?_
 refine jy (Γ:=Nat×Nat) (fun k=>[(2,.pz b2),(5,.int .u32 (k.2:Int)),(8,.slice sl bs.length c),(9,.iz bs.length),(10,.iz k.1)])
  (fun k w=>k.1<=bs.length∧k.2<4294967296∧Ec k.2 (bs.drop k.1)=Ec 4294967295 bs∧St w0 (pt b2 (.cells qV.toArray 255 (0,0))::l) w) (fun k=>bs.length-k.1) (0,4294967295) pS ⟨Uf _,(by decide:(4294967295:Nat)<4294967296),rfl,h⟩ ?_
 clear h;rintro⟨i,s⟩ w e ⟨hi,hs,he,h⟩;dsimp only at hi hs he h ⊢;refine Cj ?_;refine qi (qo (decide ((i:Int)<(bs.length:Int))) rfl (fun hc=>?_) (fun hc=>?_))
 ·
  have hlt:i<bs.length:=by simp at hc;omega
  have hg:=Ub hlt;have yB:=Vx hlt;generalize bs[i]=x at hg yB;have hx:=x.toNat_lt;rw[yB,Ec] at he;have hst:=CG (x:=x.toNat) hs hx;unfold Au at he hst;have hj:(s%256) ^^^ x.toNat<256:=Mu (Vw _ O2) hx;have Gu:=wU hj;obtain⟨b,o,mW⟩:=(hr.cons.at_ h).some O0
  refine K4 ?_;refine aD (jj (b:=b) (o:=o) (m:=bs.length) (c:=c) (o':=o+i) DQ rfl rfl hlt O7) rfl ?_;refine aD (qr (v:=.int .u8 x.toNat) rfl ((mW▸hr.cons.at_ h).cell (jG hg))) rfl ?_
  refine Y5 ?_;refine AT ?_;refine qJ ?_;refine qz (.int .u8 ((s%256:Nat):Int)) (by rw[um]) ?_
  refine Y0 ?_;refine HN ?_;refine qz (.int .u8 (((s%256) ^^^ x.toNat:Nat):Int)) (congrArg (Value.int .u8) (w9 O0 hx).2.2) ?_;refine aD (yz (j:=(s%256) ^^^ x.toNat) (o':=(s%256) ^^^ x.toNat) rfl rfl rfl hj O7) rfl ?_;refine aD (qr (v:=.int .u32 (gM ((s%256) ^^^ x.toNat):Int)) rfl (by have:=yi (h.b 0 rfl) (FC hj);simpa using this)) rfl ?_
  generalize gM ((s%256) ^^^ x.toNat)=tb at he hst Gu ⊢;refine Y0 ?_;refine aD (q9 (v':=.int .u32 ((s / 2^8:Nat):Int)) (j2 rfl rfl O0) (congrArg (Value.int .u32) (j3 s 8 32 O2))) rfl ?_;refine HN ?_;refine qz (.int .u32 ((tb ^^^ (s / 256):Nat):Int)) (congrArg (Value.int .u32) (wd Gu O0).2) ?_;refine Y5 ?_;refine Yw ?_;refine qz (.iz ((i+1:Nat):Int)) O8 ?_;refine Y0 ?_;exact qv ⟨(i+1,tb ^^^ (s / 256)),pS,⟨hlt,hst,he,h⟩,gH⟩
 have hin:i=bs.length:=by simp at hc;omega
 rw[hin,Km,Ec] at he;refine ju ?_;refine Yb ?_;refine HN ?_;refine qz (.int .u32 ((s ^^^ 4294967295:Nat):Int)) (congrArg (Value.int .u32) (wd hs O2).2) ?_;refine Y5 ?_;exact qk (bQ ⟨by unfold crc;rw[<- he];rfl,h.drop⟩)
end
end
end Go.Proofs.YtngdfdangkdgcaaGreatDoor
/- xorv: values by what turns: reading them. -/
namespace Go.Hw
section
theorem qG{P:Program}{w:World}{t:TypeId}(ht:P.underlying t=some .bool){cs:List Value}{off:Nat}{v:Value}(hv:cs[off]?=some v):(part t cs.toArray off).run P w=.ok v w:=by
 have:(isAgg t).run P w=.ok false w:=by
  unfold Go.isAgg;rw[Sem.run_bind,run_underlying ht w];rfl
 simp[part,this,hv]
class JL(P:Program)(t:TypeId):Prop where
 u : ∃ fl : List Field, P.underlying t = some (.struct fl.toArray) ∧ fl.map (fun f => (f.name == "_", f.offset, P.underlying f.type)) = [(false, 0, some .bool), (false, 1, some (.int .i64)), (false, 2, some (.int .i64))]
 s:P.stoodInHeld t=false
 g:P.eqGuardType P.depth t=false
theorem TB{P:Program}{w:World}{t:TypeId}(h:JL P t)(a a':Bool)(b b' c c':Int)(d:Nat):
  (Op.equalIn (d+2) t (.agg [.bool a,.iz b,.iz c].toArray) (.agg [.bool a',.iz b',.iz c'].toArray)).run P w=.ok (a==a'&&([b,c]:List Int)==[b',c']) w:=by
 obtain⟨fl,hu,hf⟩:=h.u;have hfo:P.fieldsOf t=fl.toArray:=by unfold Program.fieldsOf;rw[hu]
 rw[run_equalIn_struct w (d+1) t _ _ (by rw[hfo];exact hu) h.s,hfo]
 have G9:fl.length=3:=by have:=congrArg List.length hf;simpa using this
 obtain⟨f,f2,f3,rfl⟩:∃f f2 f3,fl=[f,f2,f3]:=by
  match fl,G9 with
  |[x,y,z],_=>exact⟨x,y,z,rfl⟩
 simp only[Uy,List.map_nil,List.cons.injEq,Prod.mk.injEq,and_true] at hf;obtain⟨⟨h1,h2,h3⟩,h4⟩:=hf
 have hn : f.name ≠ "_" := by simpa using h1
 have e1:([.bool a,.iz b,.iz c]:List Value)[f.offset]?=some (.bool a):=by rw[h2];rfl
 have e2:([.bool a',.iz b',.iz c']:List Value)[f.offset]?=some (.bool a'):=by rw[h2];rfl
 show(Op.eqFields (d+1) _ _ [f,f2,f3]).run P w=_;unfold Op.eqFields;rw[if_pos hn];simp only[Sem.run_bind,qG h3 e1,qG h3 e2,Result.andThen_ok,run_equalIn_bool w d f.type a a' h3];by_cases Rh:a=a'
 ·subst Rh
  have ih:=kp (P:=P) (w:=w) d [f2,f3] [.i64,.i64] [b,c] [b',c'] [.bool a] [.bool a] rfl rfl rfl (by
   obtain⟨⟨g1,g2,g3⟩,g4,g5,g6⟩:=h4
   simp[g1,g2,g3,g4,g5,g6,List.zipIdx])
  have TC:(Op.eqFields (d+1) #[Value.bool a,.iz b,.iz c] #[Value.bool a,.iz b',.iz c'] [f2,f3]).run P w=.ok (b==b'&&c==c') w:=by
   have:=ih;simpa[ints] using this
  simp;exact TC
 ·simp[Rh]
section
variable{P:Program}{e:Env}{w:World}{d:Option Nat}{ty:TypeId}{pos:String}{af:Array Edge}{g:Option (Nat×Bool)}
theorem Ri{t t2:TypeId}[h:JL P t]{x y:Operand}(a a':Bool)(b b' c c':Int)(hx:ev e x=.agg [.bool a,.iz b,.iz c].toArray)(hy:ev e y=.agg [.bool a',.iz b',.iz c'].toArray):
  Qv P e ⟨d,.binOp .neq t x y t2,ty,pos,af,g⟩ w (.bool (!(a==a'&&([b,c]:List Int)==[b',c']))):=by
 unfold Qv;have h1:=run_eqGuard_agg (P:=P) w .neq t x y [.bool a,.iz b,.iz c].toArray [.bool a',.iz b',.iz c'].toArray h.g;have h2:=run_neq_struct (P:=P) w t [.bool a,.iz b,.iz c].toArray [.bool a',.iz b',.iz c'].toArray;rw[TB h a a' b b' c c' 9998] at h2;simp only[execOp,hx,hy,Sem.run_bind,h1,Result.andThen_ok,h2,Result.andThen];rfl
end
theorem Rj(x y:nM):(!(x.is==y.is&&([(x.lead:Int),(x.trail:Int)]:List Int)==[(y.lead:Int),(y.trail:Int)]))=decide (x≠y):=by
 obtain⟨a,b,c⟩:=x;obtain⟨a',b',c'⟩:=y;by_cases h:(⟨a,b,c⟩:nM)=⟨a',b',c'⟩
 ·cases h;simp
 ·rw[decide_eq_true h,Wi,Bool.eq_false_iff];intro hh;have hh:a=a'∧(b:Int)=b'∧(c:Int)=c':=by simpa using hh
  obtain⟨rfl,h2,h3⟩:=hh;obtain rfl:b=b':=by omega
  obtain rfl:c=c':=by omega
  exact h rfl
end
end Go.Hw
namespace Go.Proofs.YtngdfdangkdgcaaGreatDoor
open Go.Hw _root_.Go.Proofs.Tryz
section
instance PA:JL prog 279:=⟨⟨_,underlying279,by kernel_rfl⟩,by kernel_rfl,by kernel_rfl⟩
section
variable{w0 w:World}{l:List aC}
theorem ek(hT:Tz w0){p q:Nat}{s:RS}{win:nM}(ho:iM win∨win=⟨false,0,0⟩)(h:St w0 (eL p s::eZ q win::l) w):
  bP prog 185 [.pz p,.pz q] w fun v w'=>∃(x:Nat) (ok:Bool) (wD:nM),v=.tuple [.int .u64 (x:Int),.bool ok].toArray∧x<18446744073709551616∧iM wD∧(kF s win).1=(if ok=true then some (x,wD) else none)∧St w0 (eL p (kF s win).2::eZ q wD::l) w':=by
 have ho:iM win:=by
  rcases ho with h|h
  ·exact h
  ·subst h;unfold iM;decide
 have Hl:=lY win;refine en func185 results185 ntmps185 ?_;refine Y1 ?_;refine tZ ?_;refine GY ?_;refine aF rfl (qg rfl (gi 1 h) ?_);rw[show eY 1=1 from rfl];cases yD:s.get 1 with|mk a s1=>
 rintro _ w ⟨rfl,h⟩;dsimp only at h ⊢;refine Yi ?_;by_cases ha:a=0
 ·subst ha;refine qz (.bool true) rfl ?_;refine Yy ?_;refine tZ ?_;rw[GZ yD];exact qk (jQ ⟨0,true,win,rfl,rD,ho,rfl,h⟩)
 refine qz (.bool false) O6 ?_;refine Y8 ?_;refine GY ?_;refine aF rfl (qg rfl (gi 1 h) ?_);rw[show eY 1=1 from rfl];cases Gw:s1.get 1 with|mk b s2=>
 rintro _ w ⟨rfl,h⟩;dsimp only at h ⊢;refine Yi ?_;by_cases hb:b=0
 ·subst hb;refine qz (.bool true) rfl ?_;refine Yh ?_;cases Lf:s2.get win.cR with|mk g s3=>
  have PB:=Ds yD ha Gw Lf;have yJ:g*2^win.trail%18446744073709551616<18446744073709551616:=Vw _ O2;have My:win.trail<=64:=by unfold iM at ho;omega
  refine qf (Γ:=Unit) (fun _=>[(1,.pz q),(6,.int .u64 ((g*2^win.trail%18446744073709551616:Nat):Int))]) (fun _ w=>St w0 (eL p s3::eZ q win::l) w) ?_ ?_
  ·refine jb [0,1,2,3,4,5,6,7,8,9,10,11] none (fun w=>w.heap[q]?=some (.cells (kO win).toArray 279 (0,0))) O1 O1 ?_;replace h:=h.drew;generalize w.drew=w at h;have hs:=h;replace h:=hs.b 1 rfl;refine tY ?_;refine tY ?_;refine GM ?_;refine qj rfl rfl rfl rfl h (fun w h=>qh rfl (qx (l:=kO win) rfl rfl (qw h rfl))) ?_;refine Yn ?_;refine Y6 ?_;refine qj rfl rfl rfl rfl h (fun w h=>qh rfl (qq (v:=.iz win.trail) rfl h rfl)) ?_;refine Yn ?_;refine qd 4 rfl rfl rfl rfl ?_;refine(qg rfl (xh ho hs) ?_);rintro _ w ⟨rfl,hs⟩;replace h:=hs.b 1 rfl;refine⟨fun _=>h,?_⟩;refine Ys ?_;refine qd 5 rfl rfl rfl rfl ?_;refine(qg rfl (gi win.cR hs) ?_);rw[jI Hl,Lf];rintro _ w ⟨rfl,hs⟩;dsimp only at hs;replace h:=hs.b 1 rfl;refine⟨fun _=>h,?_⟩;refine cD rfl rfl rfl rfl h rfl (q9 (v':=.int .u64 ((g*2^win.trail%18446744073709551616:Nat):Int)) (x8 rfl rfl O0) (congrArg (Value.int .u64) (km g win.trail My))) ?_;refine AS ?_;exact qm ⟨(),gS,hs⟩
  clear h;rintro _ w e h;rw[PB];dsimp only;generalize hX:g*2^win.trail%18446744073709551616=x at yJ ⊢;refine Yb ?_;refine vE ?_;refine aD (qq (v:=.bool win.is) rfl (h.b 1 rfl) rfl) rfl ?_;cases hwi:win.is with
  |false=>
   refine yY ?_;refine Y9 ?_;refine tZ ?_;exact qk (jQ ⟨x,false,win,rfl,yJ,ho,by simp,h⟩)
  |true=>
   refine AU ?_;refine Bi ?_;refine Ye ?_;refine tZ ?_;refine qk (jQ ⟨x,(x:Int) != 0,win,rfl,yJ,ho,?_,h⟩);by_cases hx0:x=0
   ·subst hx0;simp
   ·rw[if_pos ⟨rfl,hx0⟩,if_pos (by rw[bne_iff_ne];omega)]
 refine qz (.bool false) O6 ?_;refine Y8 ?_;refine Yq ?_;refine aF rfl (qg rfl (gi 5 h) ?_);rw[show eY 5=5 from rfl];have Ii:=RS.tF s2 5;cases Lf:s2.get 5 with|mk lead s3=>
 rw[Lf] at Ii;rintro _ w ⟨rfl,h⟩;dsimp only at h Ii ⊢;refine qJ ?_;refine qz (.iz (lead:Int)) Ce ?_;refine AO ?_;refine aF rfl (qg rfl (gi 6 h) ?_);rw[show eY 6=6 from rfl];have Ij:=RS.tF s3 6;cases PC:s3.get 6 with|mk cR s4=>
 rw[PC] at Ij;rintro _ w ⟨rfl,h⟩;dsimp only at h Ij ⊢;refine qJ ?_;refine qz (.iz (cR:Int)) Ce ?_;refine tC ?_;refine qz (.iz ((cR+1:Nat):Int)) O8 ?_;refine HP ?_;refine Gk ?_;refine AQ ?_;refine qz (.iz (64-(lead:Int))) Ce ?_;refine Y0 ?_;refine AQ ?_;refine qz (.iz (64-(lead:Int)-((cR+1:Nat):Int))) Ce ?_;generalize My:64-(lead:Int)-((cR+1:Nat):Int)=tr;refine aD (qc (r:=[.bool true,.iz lead,.iz tr]) rfl) rfl ?_;refine aF rfl (qn h fun b9 w h=>?_);refine aF rfl (qy (vs:=[.bool true,.iz lead,.iz tr]) 0 h rfl rfl rfl rfl rfl rfl rfl fun w h=>?_);replace h:St w0 (pt b9 (.cells [.bool true,.iz lead,.iz tr].toArray 279 (0,0))::eL p s4::eZ q win::l) w:=h;refine yX ?_;refine qK ?_;refine aD (qq (v:=.iz tr) rfl (h.b 0 rfl) rfl) rfl ?_;refine yW ?_;refine qv (qo (decide (tr<0)) rfl (fun hc=>?_) (fun hc=>?_))
 ·
  refine Y1 ?_;refine tZ ?_;rw[Fo yD ha Gw hb Lf PC (by rw[decide_eq_true_eq] at hc;omega)]
  exact qk (jQ ⟨0,false,win,rfl,rD,ho,rfl,h.drop⟩)
 refine Yu ?_;have hle:¬64<lead+(cR+1):=by rw[decide_eq_false_iff_not] at hc;omega
 have PD:tr=((64-lead-(cR+1):Nat):Int):=by omega
 subst PD;clear hc My;cases Rk:s4.get (cR+1) with|mk g s5=>
 have NM:=Dt (win:=win) yD ha Gw hb Lf PC hle Rk;have yJ:g*2^(64-lead-(cR+1))%18446744073709551616<18446744073709551616:=Vw _ O2;generalize X2:64-lead-(cR+1)=tr at NM yJ h ⊢;replace h:St w0 (eZ b9 ⟨true,lead,tr⟩::eL p s4::eZ q win::l) w:=h;refine qf (Γ:=Unit) (fun _=>[(1,.pz q),(9,.pz b9),(10,.int .u64 ((g*2^tr%18446744073709551616:Nat):Int))]) (fun _ w=>St w0 (eZ b9 ⟨true,lead,tr⟩::eL p s5::eZ q win::l) w) ?_ ?_
 ·refine jb [0,1,2,3,4,5,6] none (fun w=>w.heap[b9]?=some (.cells (kO ⟨true,lead,tr⟩).toArray 279 (0,0))) O1 O1 ?_;replace h:=h.drew;generalize w.drew=w at h;have hs:=h;replace h:=hs.b 0 rfl;refine tY ?_;refine Yt ?_;refine EG ?_;refine qj rfl rfl rfl rfl h (fun w h=>qh rfl (qq (v:=.iz tr) rfl h rfl)) ?_;refine Yn ?_;refine qd 2 rfl rfl rfl rfl ?_;refine(qg rfl (gi ((cR+1:Nat):Int) (hs.f 1)) ?_);rw[jI O0,Rk];rintro _ w ⟨rfl,hs⟩;dsimp only at hs;replace hs:=hs.f 1;replace h:=hs.b 0 rfl;refine⟨fun _=>h,?_⟩;refine cD rfl rfl rfl rfl h rfl (q9 (v':=.int .u64 ((g*2^tr%18446744073709551616:Nat):Int)) (x8 rfl rfl O0) (congrArg (Value.int .u64) (km g tr O0))) ?_;refine AS ?_;exact qm ⟨(),kK,hs⟩
 clear h;rintro _ w e h;rw[NM];dsimp only;generalize hX:g*2^tr%18446744073709551616=x at yJ ⊢;refine qf (Γ:=Unit) (fun _=>[(1,.pz q),(9,.pz b9),(10,.int .u64 (x:Int))]) (fun _ w=>¬(x=0∨bJ x≠⟨true,lead,tr⟩∨win.fits x=true)∧St w0 (eZ b9 ⟨true,lead,tr⟩::eL p s5::eZ q win::l) w) ?_ ?_
 ·have bad:∀{w:World},(x=0∨bJ x≠⟨true,lead,tr⟩∨win.fits x=true)->St w0 (eZ b9 ⟨true,lead,tr⟩::eL p s5::eZ q win::l) w->∃(x':Nat) (ok:Bool) (wD:nM),Value.tuple [.int .u64 0,.bool false].toArray=.tuple [.int .u64 (x':Int),.bool ok].toArray∧x'<18446744073709551616∧iM wD∧(if x=0∨bJ x≠⟨true,lead,tr⟩∨win.fits x=true then none else some (x,(⟨true,lead,tr⟩:nM)))=(if ok=true then some (x',wD) else none)∧St w0 (eL p s5::eZ q wD::l) w:=fun hb h=>⟨0,false,win,rfl,rD,ho,by rw[if_pos hb];rfl,h.drop⟩
  have Rl:∀{w:World},St w0 (eZ b9 ⟨true,lead,tr⟩::eL p s5::eZ q win::l) w->At w b9 0 (kO ⟨true,lead,tr⟩):=fun h=>qw (h.b 0 rfl) rfl;by_cases hx0:x=0
  ·refine qi (jz none (fun w=>St w0 _ w) O1 O1 h.drew fun w h=>?_);refine Yt ?_;refine cD rfl rfl rfl rfl h rfl (q9 (v':=.bool true) (gk rfl rfl) (by rw[hx0];rfl)) ?_
   refine Yx ?_;refine qu rfl rfl rfl rfl (fun _=>h) (fun _=>qp rfl rfl) (qu rfl rfl rfl rfl (fun _=>h) (fun _=>qp rfl rfl) (qu rfl rfl rfl rfl (fun _=>h) (fun _=>qp rfl rfl) (qu rfl rfl rfl rfl (fun _=>h) (fun _=>qp rfl rfl) (cD rfl rfl rfl rfl h rfl (jp rfl rfl rfl) ?_))));refine Yx ?_;refine qu rfl rfl rfl rfl (fun _=>h) (fun _=>qp rfl rfl) (qu rfl rfl rfl rfl (fun _=>h) (fun _=>qp rfl rfl) (qu rfl rfl rfl rfl (fun _=>h) (fun _=>qp rfl rfl) (qu rfl rfl rfl rfl (fun _=>h) (fun _=>qp rfl rfl) (qu rfl rfl rfl rfl (fun _=>h) (fun _=>qp rfl rfl) (cD rfl rfl rfl rfl h rfl (jp rfl rfl rfl) ?_)))));refine qm (j6 rfl ?_);refine rC ?_;refine Y3 ?_;exact qv (qk (jQ (bad (.inl hx0) h)))
  by_cases hne:bJ x≠⟨true,lead,tr⟩
  ·refine qi (jz none (fun w=>St w0 _ w) O1 O1 h.drew fun w h=>?_);refine Yt ?_;refine cD rfl rfl rfl rfl h rfl (q9 (v':=.bool false) (gk rfl rfl) O6) ?_;refine Yx ?_;refine qu rfl rfl rfl rfl (fun _=>h) (fun _=>qe rfl rfl (v5 rfl)) ?_;refine Ym ?_;refine qj rfl rfl rfl rfl h (fun w h=>qe rfl rfl (qx (l:=kO ⟨true,lead,tr⟩) rfl rfl (Rl h))) ?_;refine nJ ?_;refine Cu ?_;refine qd 4 rfl rfl rfl (vt rfl rfl rfl) ?_;refine(qg rfl (ww hT yJ h) ?_);rintro _ w ⟨rfl,h⟩;refine⟨fun _=>h,?_⟩;refine qu rfl rfl rfl rfl (fun _=>h) (fun _=>qe rfl rfl (q9 (v':=.bool true) (Ri (bJ x).is true (bJ x).lead lead (bJ x).trail tr rfl rfl) (by rw[Rj (bJ x) ⟨true,lead,tr⟩,decide_eq_true hne]))) ?_
   refine cD rfl rfl rfl rfl h rfl (jc rfl rfl rfl) ?_;refine Yx ?_;refine qu rfl rfl rfl rfl (fun _=>h) (fun _=>qp rfl rfl) (qu rfl rfl rfl rfl (fun _=>h) (fun _=>qp rfl rfl) (qu rfl rfl rfl rfl (fun _=>h) (fun _=>qp rfl rfl) (qu rfl rfl rfl rfl (fun _=>h) (fun _=>qp rfl rfl) (qu rfl rfl rfl rfl (fun _=>h) (fun _=>qp rfl rfl) (cD rfl rfl rfl rfl h rfl (jp rfl rfl rfl) ?_)))));refine qm (j6 rfl ?_);refine rC ?_;refine Y3 ?_;exact qv (qk (jQ (bad (.inr (.inl hne)) h)))
  ·refine qi (jz none (fun w=>St w0 _ w) O1 O1 h.drew fun w h=>?_);refine Yt ?_;refine cD rfl rfl rfl rfl h rfl (q9 (v':=.bool false) (gk rfl rfl) O6) ?_;refine Yx ?_;refine qu rfl rfl rfl rfl (fun _=>h) (fun _=>qe rfl rfl (v5 rfl)) ?_;refine Ym ?_;refine qj rfl rfl rfl rfl h (fun w h=>qe rfl rfl (qx (l:=kO ⟨true,lead,tr⟩) rfl rfl (Rl h))) ?_;refine nJ ?_;refine Cu ?_;refine qd 4 rfl rfl rfl (vt rfl rfl rfl) ?_;refine(qg rfl (ww hT yJ h) ?_);rintro _ w ⟨rfl,h⟩;refine⟨fun _=>h,?_⟩;refine qu rfl rfl rfl rfl (fun _=>h) (fun _=>qe rfl rfl (q9 (v':=.bool false) (Ri (bJ x).is true (bJ x).lead lead (bJ x).trail tr rfl rfl) (by rw[Rj (bJ x) ⟨true,lead,tr⟩,decide_eq_false hne]))) ?_
   refine cD rfl rfl rfl rfl h rfl (jc rfl rfl rfl) ?_;refine Yx ?_;refine qu rfl rfl rfl rfl (fun _=>h) (fun _=>qe rfl rfl (j1 rfl)) (qu rfl rfl rfl rfl (fun _=>h) (fun _=>qe rfl rfl (uj rfl)) ?_);refine qj rfl rfl rfl rfl h (fun w h=>qe rfl rfl (qx (l:=kO win) rfl rfl (qw (h.b 2 rfl) rfl))) ?_;refine qu rfl rfl rfl rfl (fun _=>h) (fun _=>qe rfl rfl (v5 rfl)) ?_;refine Yn ?_;refine qd 13 rfl rfl rfl (vt rfl rfl rfl) ?_;refine(qg rfl (sr hT yJ h) ?_);rintro _ w ⟨rfl,h⟩;refine⟨fun _=>h,?_⟩;refine cD rfl rfl rfl rfl h rfl (jc rfl rfl rfl) ?_;refine qm (qo (win.fits x) rfl (fun hc=>?_) (fun hc=>?_))
   ·refine rC ?_;refine Y3 ?_;exact qv (qk (jQ (bad (.inr (.inr hc)) h)))
   ·refine qa ⟨(),kK,?_,h⟩;rintro(h|h|h)
    ·exact hx0 h
    ·exact hne h
    ·rw[hc] at h;cases h
 clear h;rintro _ w e ⟨BR,h⟩;refine Yq ?_;refine aD (qx (l:=kO ⟨true,lead,tr⟩) rfl rfl (qw (h.b 0 rfl) rfl)) rfl ?_;refine rI ?_;refine aF rfl (qy (vs:=kO ⟨true,lead,tr⟩) 2 h rfl rfl rfl rfl rfl rfl rfl fun w h=>?_);replace h:St w0 (eZ b9 ⟨true,lead,tr⟩::eL p s5::eZ q ⟨true,lead,tr⟩::l) w:=h;refine Y2 ?_;refine Yb ?_;refine tZ ?_;exact qk (jQ ⟨x,true,⟨true,lead,tr⟩,rfl,yJ,by unfold iM;dsimp only;omega,by rw[if_neg BR,if_pos rfl],h.drop⟩)
theorem ci(hT:Tz w0){p:Nat}{s:RS}{n:Nat}(hn:n<=65535)(h:St w0 (eL p s::l) w):
  bP prog 168 [.pz p,.iz (n:Int)] w fun v w'=>∃a c xs b,v=.tuple [.slice a xs.length c,.bool b].toArray∧lE n s=(if b=true then some xs else none)∧(b=true->xs.length=n∧∀x∈xs,x<18446744073709551616)∧∃s',St w0 (mO a c xs::eL p s'::l) w':=by
 refine en func168 results168 ntmps168 ?_;refine yZ ?_;refine LH ?_;refine qz (.iz (n:Int)) (by congr 1;omega) ?_
 refine Y5 ?_;refine xV ?_;refine Yl ?_;refine aF rfl (qn h fun q w h=>?_);replace h:St w0 (eZ q ⟨false,0,0⟩::eL p s::l) w:=h;refine Yl ?_;refine Y5 ?_;refine vT ?_;refine DX ?_
 refine jy (Γ:=Nat×List Nat×Nat×nM×RS×Option Addr×Nat) (fun k=>[(0,.pz p),(6,.slice k.2.2.2.2.2.1 k.2.1.length k.2.2.2.2.2.2),(7,.pz q),(8,.int .u64 k.2.2.1),(15,.iz n),(16,.iz k.1)])
  (fun k w=>k.1<=n∧k.2.1.length=k.1∧k.2.2.1<18446744073709551616∧(∀x∈k.2.1,x<18446744073709551616)∧iM k.2.2.2.1∧((k.1=0∧k.2.2.2.2.1=s∧k.2.2.2.1=⟨false,0,0⟩)∨(0<k.1∧k.2.2.2.2.1.bad=false∧lE n s=(lV (n-k.1) k.2.2.1 k.2.2.2.1 k.2.2.2.2.1).map fun r=>k.2.1++r))
   ∧ St w0 (mO k.2.2.2.2.2.1 k.2.2.2.2.2.2 k.2.1::eZ q k.2.2.2.1::eL p k.2.2.2.2.1::l) w)
  (fun k=>n-k.1) (0,[],0,⟨false,0,0⟩,s,none,0) kX ⟨Uf _,rfl,(by decide:(0:Nat)<18446744073709551616),(fun _ h=>by cases h),(show iM ⟨false,0,0⟩ by unfold iM;decide),.inl ⟨rfl,rfl,rfl⟩,St.aZ _ _ h⟩ ?_
 clear h;rintro⟨i,out,was,win,s1,a,c⟩ w e ⟨hi,Ft,oT,hout,ho,inv,h⟩;dsimp only at hi Ft oT hout ho inv h ⊢;have bad:∀{w:World} {s':RS},lE n s=none->St w0 (eL p s'::l) w->∃a c xs b,Value.tuple [.slice none 0 0,.bool false].toArray=.tuple [.slice a xs.length c,.bool b].toArray∧lE n s=(if b=true then some xs else none)∧(b=true->xs.length=n∧∀x∈xs,x<18446744073709551616)∧∃s',St w0 (mO a c xs::eL p s'::l) w:=fun hb h=>⟨none,0,[],false,rfl,hb,(fun h=>by cases h),_,St.aZ _ _ h⟩
 refine Cj ?_;refine qi (qo (decide ((i:Int)<(n:Int))) rfl (fun hc=>?_) (fun hc=>?_))
 ·
  have hlt:i<n:=by simp at hc;omega
  refine DW ?_;refine GQ ?_
  refine qf (Γ:=Nat×nM×RS) (fun k=>[(0,.pz p),(6,.slice a out.length c),(7,.pz q),(8,.int .u64 k.1),(15,.iz n),(16,.iz i)])
   (fun k w=>k.1<18446744073709551616∧iM k.2.1∧(lE n s=if k.2.2.bad=true then none else(lV (n-(i+1)) k.1 k.2.1 k.2.2).map fun r=>out++k.1::r)∧St w0 (eL p k.2.2::eZ q k.2.1::mO a c out::l) w) ?_ ?_
  ·refine Yb ?_;refine Yi ?_;rcases inv with⟨uU,hs1,hw0⟩|⟨uU,fH,inv⟩
   ·refine qz (.bool true) (by subst uU;rfl) ?_
    refine E8 ?_;refine aF rfl (qg rfl (gi 64 (h.f 2)) ?_);rintro _ w ⟨rfl,h⟩;rw[show eY 64=64 from rfl] at h ⊢;refine Y4 ?_;refine qv ⟨((s1.get 64).1,win,(s1.get 64).2),kX,RS.tF s1 64,ho,?_,h.f 2 |>.f 2 |>.f 1 |>.f 2⟩;dsimp only;have:out=[]:=Uq O0;subst this;rw[<- hs1,hw0,uU];cases n with
    |zero=>omega
    |succ m=>rfl
   ·refine qz (.bool false) O5 ?_;refine Df ?_;rw[show n-i=(n-(i+1))+1 by omega,lV] at inv
    refine Yq ?_;refine aF rfl (qg rfl (ek hT (.inl ho) ((h.f 1).f 2)) ?_);cases hR:kF s1 win with|mk o s2=>
    rw[hR] at inv;rintro _ w ⟨x,ok,wD,rfl,hx,ho',hr,h⟩;dsimp only at hr h;subst hr;refine K6 ?_;refine vU ?_;refine Y2 ?_;cases ok with
    |false=>
     refine vB ?_;refine yZ ?_;exact qk (jQ (bad inv (((h.f 1).drop.f 1).drop)))
    |true=>
     refine xU ?_;have hy:=Wu (n:=64) oT hx;refine AT ?_;refine Y0 ?_;refine HN ?_;refine qz (.int .u64 ((was ^^^ x:Nat):Int)) (congrArg (Value.int .u64) (v7 oT hx).2.2) ?_;refine Y4 ?_;refine qv ⟨(was ^^^ x,wD,s2),kX,hy,ho',?_,h⟩;simp only[if_true] at inv;dsimp only;rw[inv];cases s2.bad with
     |true=>rfl
     |false=>
      simp only[Xi,if_false,Option.map_map];rfl
  clear h inv oT ho;rintro⟨was,win,s2⟩ w e ⟨oT,ho,inv,h⟩;dsimp only at oT ho inv h ⊢
  refine qf (Γ:=Unit) (fun _=>[(0,.pz p),(6,.slice a out.length c),(7,.pz q),(8,.int .u64 was),(15,.iz n),(16,.iz i)])
   (fun _ w=>s2.bad=false∧St w0 (eL p s2::eZ q win::mO a c out::l) w) ?_ ?_
  ·refine Yq ?_;refine aF rfl (qg rfl (wx h) ?_);rintro _ w ⟨rfl,h⟩;refine oO ?_;refine Y2 ?_;cases hbd:s2.bad with
   |true=>
    refine vB ?_;refine yZ ?_;rw[hbd,if_pos rfl] at inv;exact qk (jQ (bad inv (((h.f 1).drop.f 1).drop)))
   |false=>
    refine qt rfl ?_;exact qa ⟨(),kX,rfl,h⟩
  clear h;rintro _ w e ⟨hbd,h⟩;rw[hbd,if_neg O2] at inv;refine Ow ?_;refine aF rfl (jq (r:=eE [was]) h rfl rfl rfl fun b2 w h=>?_);refine aF rfl (ql (ys:=eE [was]) (zs:=eE (out++[was])) (m3:=(out++[was]).length) (h.f 3) rfl rfl ⟨rfl,.inr ⟨b2,0,rfl,qw (h.b 0 rfl) rfl⟩⟩ (rN _) O7 (by simp[eE]) O5 O5 rfl fun a2 c2 w _ h=>?_)
  refine Yz ?_;refine Yw ?_;refine qz (.iz ((i+1:Nat):Int)) O8 ?_;refine Y0 ?_;refine qv ⟨(i+1,out++[was],was,win,s2,a2,c2),kX,⟨hlt,by simp;omega,oT,fun y hy=>?_,ho,.inr ⟨Nat.succ_pos _,hbd,?_⟩,?_⟩,gH⟩
  ·rcases Vc.1 hy with hy|hy
   ·exact hout y hy
   ·simp at hy;subst hy;exact oT
  ·rw[inv];congr 1;funext r;simp
  ·exact((h.f 1).drop.f 2).f 1
 have hin:i=n:=by simp at hc;omega
 refine ju ?_;refine qf (Γ:=Unit) (fun _=>[(6,.slice a out.length c)]) (fun _ w=>lE n s=some out∧St w0 (eL p s1::mO a c out::eZ q win::l) w) ?_ ?_
 ·refine Yq ?_;refine aF rfl (qg rfl (wx (h.f 2)) ?_);rintro _ w ⟨rfl,h⟩;refine oO ?_;refine Y2 ?_;have hx0:n=0->lE n s=if s.bad=true then none else some []:=fun h0=>by subst h0;rfl
  cases hbd:s1.bad with
  |true=>
   refine vB ?_;refine yZ ?_;rcases inv with⟨uU,hs1,hw0⟩|⟨uU,fH,inv⟩
   ·exact qk (jQ (bad (by rw[hx0 O0,<- hs1,hbd];rfl) (((h.f 1).drop.f 1).drop)))
   ·rw[hbd] at fH;cases fH
  |false=>
   refine qt rfl ?_;refine qa ⟨(),⟨rfl,trivial⟩,?_,h⟩;rcases inv with⟨uU,hs1,hw0⟩|⟨uU,fH,inv⟩
   ·have:out=[]:=Uq O0;rw[hx0 O0,<- hs1,hbd,this];rfl
   ·rw[inv,hin,Xv,lV];simp
 clear h inv;rintro _ w e ⟨hd,h⟩;refine Oy ?_;exact qk (jQ ⟨a,c,out,true,rfl,by rw[hd];rfl,fun _=>⟨cI,hout⟩,s1,((h.f 2).drop.f 1)⟩)
end
end
end Go.Proofs.YtngdfdangkdgcaaGreatDoor
/- suit: words, sums; slices.Equal; simp: reading small numbers. -/
namespace Go.Hw
section
end
end Go.Hw
namespace Go.Proofs.YtngdfdangkdgcaaGreatDoor
open Go.Hw _root_.Go.Proofs.Tryz
section
section
variable{w0 w:World}{l:List aC}
end
end
end Go.Proofs.YtngdfdangkdgcaaGreatDoor
/- simp: reading small numbers. -/
namespace Go.Proofs.YtngdfdangkdgcaaGreatDoor
open Go.Hw _root_.Go.Proofs.Tryz
section
section
variable{w0 w:World}{l:List aC}
end
end
end Go.Proofs.YtngdfdangkdgcaaGreatDoor
/- runl, forp: reading runs and frames. -/
namespace Go.Hw
section
theorem BU(bs:List UInt8)(k:Nat):aY (bs.drop k)=(aY bs).drop (k*1):=by
 unfold aY;rw[List.map_drop,Nat.mul_one]
theorem Reads.Ik{w0:World}{l:List aC}{a:Option Addr}{c:Nat}{bs:List UInt8}(h:Reads w0 l 1 a bs.length (aY bs)){i:Nat}(hi:i<=bs.length)(hc:bs.length<=c):Reads w0 l 1 (nI a (i*1) (Nat.beq c i)) (bs.drop i).length (aY (bs.drop i)):=by
 have:=h.tail hi hc;rw[Um,BU];exact this
end
end Go.Hw
namespace Go.Proofs.YtngdfdangkdgcaaGreatDoor
open Go.Hw _root_.Go.Proofs.Tryz
section
abbrev Told(w0:World)(l:List aC)(n:Nat)(D:Option (List Nat))(v:Value)(w':World):Prop:=∃a c xs b,v=.tuple [.slice a xs.length c,.bool b].toArray∧D=(if b=true then some xs else none)∧(b=true->xs.length=n∧∀x∈xs,x<18446744073709551616)∧St w0 (mO a c xs::l) w'
section
variable{w0 w:World}{l:List aC}
theorem Told.no{n:Nat}{D:Option (List Nat)}(hb:D=none)(h:St w0 l w):Told w0 l n D (.tuple [.slice none 0 0,.bool false].toArray) w:=⟨none,0,[],false,rfl,hb,(fun h=>by cases h),St.aZ _ _ h⟩
end
end
end Go.Proofs.YtngdfdangkdgcaaGreatDoor
/- dict: reading by a list of values. -/
namespace Go.Hw
section
end
end Go.Hw
namespace Go.Proofs.YtngdfdangkdgcaaGreatDoor
open Go.Hw _root_.Go.Proofs.Tryz
section
section
variable{w0 w:World}{l:List aC}
end
end
end Go.Proofs.YtngdfdangkdgcaaGreatDoor
/- suit.read: one value. -/
namespace Go.Proofs.YtngdfdangkdgcaaGreatDoor
open Go.Hw _root_.Go.Proofs.Tryz
section
end
end Go.Proofs.YtngdfdangkdgcaaGreatDoor
/- suit.read: any codec's bytes. -/
namespace Go.Proofs.YtngdfdangkdgcaaGreatDoor
open Go.Hw _root_.Go.Proofs.Tryz
section
theorem JM:nW 1:=by
 intro w0 w l sl c bs n hT hr hn hc Fu h;have eK:kT 1 bs n=_:=rfl
 conv at eK=>rhs;unfold kT
 rw[if_pos rfl] at eK;refine en func159 results159 ntmps159 ?_;refine yZ ?_;refine vT ?_;refine I1 ?_;refine vD ?_;refine Yd ?_;refine aF rfl (qg rfl (yy h hr.rd hn) ?_);rintro _ w ⟨p,rfl,h⟩;refine Y0 ?_;refine aF rfl (qg rfl (ci hT Fu h) ?_);rintro _ w ⟨a,c',xs,b,rfl,hd,hb,s',h⟩;refine QG ?_;refine Yv ?_;exact qk (jQ ⟨a,c',xs,b,rfl,by rw[eK,hd],hb,(h.f 1).drop⟩)
end
end Go.Proofs.YtngdfdangkdgcaaGreatDoor
namespace Go.Hw
section
section
variable{P:Program}{e:Env}{w:World}{φ:Value->World->Prop}
theorem Az{a c d:Tmp}{t:TypeId}{z:List Value}{bytes:Nat}[hi:cM P t z true bytes]{b o:Nat}{l:List Value}(hx:e a=.pointer (some ⟨b,o,none⟩))(hz:Nat.beq z.length l.length=true)(hl:At w b o l)(h:φ (.tuple [.agg l.toArray,e c,e d].toArray) w):
  bq P [.cell a t,.tmp c,.tmp d] φ .ret e w:=⟨_,j8 hx (Vg hz) hl,h⟩
end
def qH(h:Hd):List Value:=[.iz h.tag,.iz h.count,.iz h.f,.iz h.t]
def iR:List Value:=[.iz 0,.iz 0,.iz 0,.iz 0]
theorem Ef{vals:List Nat}{k:Nat}(hk:vals.length=k)(h3:k<3)(x:Nat):(eE (vals++List.replicate (3-k) 0)).set k (.int .u64 (x:Int))=eE ((vals++[x])++List.replicate (3-(k+1)) 0):=by
 have e:3-k=(3-(k+1))+1:=by omega
 have hl:(eE vals).length=k:=by simp[eE,hk]
 have e1:eE (vals++List.replicate (3-k) 0)=eE vals++(.int .u64 (0:Nat))::eE (List.replicate (3-(k+1)) 0):=by
  unfold eE;rw[e,Zp,Vo,Uy]
 have e2:eE ((vals++[x])++List.replicate (3-(k+1)) 0)=eE vals++(.int .u64 (x:Int))::eE (List.replicate (3-(k+1)) 0):=by
  unfold eE;rw[Vo,Vo,Uo];rfl
 rw[e1,e2,List.set_append_right _ _ O0,hl,Xv];rfl
end
end Go.Hw
namespace Go.Proofs.YtngdfdangkdgcaaGreatDoor
open Go.Hw _root_.Go.Proofs.Tryz
section
instance TD:eV prog 240 (.array 3 31):=⟨underlying240⟩
section
variable{w0 w:World}{l:List aC}
theorem dl(hT:Tz w0){tag:Int}(hV:wK tag){sl:Option Addr}{c:Nat}{L:List bZ}(hw:∀s∈L,s.Wf)(hn:L.length<=1073741824)(hr:Reads w0 l 2 sl L.length (aW L))(h:St w0 l w):
  bP prog 152 [.iz tag,.slice sl L.length c] w fun v w'=>∃a c',v=.tuple [.slice a ((dG tag L).getD []).length c',.bool (dG tag L).isSome].toArray∧St w0 (gI a c' ((dG tag L).getD [])::l) w':=by
 have hlen:=uF (tag:=tag) hw;refine en func152 results152 ntmps152 ?_;refine yZ ?_;refine Yb ?_;refine Yp ?_;refine aF rfl (qg rfl (xq hT hV hw hn hr h) ?_);cases hE:cU tag L with
 |none=>
  have hM:dG tag L=none:=by unfold dG;rw[hE]
  rw[hM];rintro _ w ⟨xa,xc,rfl,h⟩;replace h:=h.drop;show Rn _ _ _ _ _ (upd _ _ (.tuple [.slice xa 0 xc,.bool false].toArray)) _;refine Ck ?_;refine vU ?_;refine yY ?_;refine Cs ?_;refine NG ?_;exact qk (jQ ⟨none,0,rfl,St.aZ _ _ h⟩)
 |some x=>
 rw[hE] at hlen;have hxl:x.length<=3000000:=hlen;obtain⟨Gq,X3⟩:=oX hE;obtain⟨_,TE⟩:=qE hE;rintro _ w ⟨xa,xc,rfl,h⟩;replace h:St w0 (gI xa xc x::l) w:=h;show Rn _ _ _ _ _ (upd _ _ (.tuple [.slice xa x.length xc,.bool true].toArray)) _;refine Ck ?_;refine vU ?_;refine I0 ?_;refine ND ?_;by_cases PE:L.length=0
 ·have Mz:L=[]:=Uq PE;have hM:dG tag L=none:=by unfold dG;rw[hE];dsimp only;rw[if_pos Mz]
  rw[hM];refine aD (q9 (v':=.bool true) (gk rfl rfl) (by rw[PE];rfl)) rfl ?_
  refine Y9 ?_;refine NG ?_;exact qk (jQ ⟨none,0,rfl,St.aZ _ _ h.drop⟩)
 have Mz:L≠[]:=fun hh=>PE (by rw[hh];rfl)
 have hM:dG tag L=some (eI tag L x++Cn (crc (eI tag L x))):=by unfold dG;rw[hE];dsimp only;rw[if_neg Mz]
 rw[hM];obtain⟨w1,w2⟩:=i4 hw Mz;refine aD (q9 (v':=.bool false) (gk rfl rfl) O6) rfl ?_;refine Y9 ?_;refine Y8 ?_;refine Yb ?_;refine qJ ?_;refine qz (.int .u8 ((UInt8.ofNat tag.toNat).toNat:Int)) (by rw[UInt8.toNat_ofNat',show tag=((tag.toNat:Nat):Int) by omega,um];simp) ?_
 refine aF rfl (jq (r:=aY [UInt8.ofNat tag.toNat]) h rfl rfl rfl fun b2 w h=>?_);refine sV ?_;refine qJ ?_;refine qz (.int .u64 (L.length:Int)) (congrArg (Value.int .u64) (cn O0)) ?_;refine aF rfl (qg rfl (z8 (bs:=[UInt8.ofNat tag.toNat]) L.length O0 h (fun w' h'=>(Reads.pt (m:=0) rfl rfl).at_ h') O7) ?_)
 rintro _ w ⟨a1,c1,rfl,h⟩;replace h:=(h.f 1).drop;refine Yz ?_;have A0:=jd L.length;have A1:=jd (oW (fV L));have Ic:=jd (oW (eG L));refine qf (Γ:=Option Addr×Nat) (fun q=>[(0,.iz tag),(1,.slice sl L.length c),(6,.slice xa x.length xc),(8,.slice q.1 (UInt8.ofNat tag.toNat::(fR L).flatMap cS).length q.2)]) (fun q w=>St w0 (gI q.1 q.2 (UInt8.ofNat tag.toNat::(fR L).flatMap cS)::gI xa xc x::l) w) ?_ ?_
 ·have JC:L[0]?=some (L[0]'O0):=Ub _;have Ih:L[L.length-1]?=some (L[L.length-1]'O0):=Ub _;have hf:fV L=(L[0]'O0).T:=by unfold fV;rw[List.head?_eq_getElem?,JC];rfl
  have ht:eG L=(L[L.length-1]'O0).T:=by unfold eG;rw[List.getLast?_eq_getElem?,Ih];rfl
  generalize L[0]'O0=s0 at JC hf;generalize L[L.length-1]'O0=s1 at Ih ht;obtain⟨b,o,mW⟩:=((hr.more [_,_]).at_ h).some O0
  have hc0:∀{w'},(∃M,St w0 (M++l) w')->w'.cell? ⟨b,o,none⟩=some (.iz s0.T):=fun⟨M,h'⟩=>by
   have:=(mW▸hr M _ h').elem jt JC 0 _ rfl;simpa using this
  have kZ:∀{w'},(∃M,St w0 (M++l) w')->w'.cell? ⟨b,o+(L.length-1)*2+0,none⟩=some (.iz s1.T):=fun⟨M,h'⟩=>(mW▸hr M _ h').elem jt Ih 0 _ rfl;refine jb [0,1,2,3,4,5,6,7,8,9,10,11,12,13,14,15,16] none (fun w=>∃M,St w0 (M++l) w) O1 O1 ?_;replace h:=h.drew;generalize w.drew=w at h;have hs:=h;replace h:∃M,St w0 (M++l) w:=⟨[_,_],hs⟩;refine AR ?_;refine AR ?_;refine cD rfl rfl rfl rfl h rfl (jj (b:=b) (o:=o) (m:=L.length) (c:=c) (j:=0) (o':=o) DQ rfl rfl O0 O7) ?_;refine Yj ?_;refine qj rfl rfl rfl rfl h (fun w h=>qh rfl (qr (v:=.iz s0.T) rfl (hc0 h))) ?_;refine Yn ?_;refine AR ?_;refine AR ?_;refine De ?_;refine cD rfl rfl rfl rfl h rfl (q9 (v':=.iz ((L.length-1:Nat):Int)) (vk rfl rfl) O9) ?_;refine cD rfl rfl rfl rfl h rfl (jj (b:=b) (o:=o) (m:=L.length) (c:=c) (j:=L.length-1) (o':=o+(L.length-1)*2) DQ rfl rfl O0 rfl) ?_;refine Yj ?_;refine qj rfl rfl rfl rfl h (fun w h=>qh rfl (qr (v:=.iz s1.T) rfl (kZ h))) ?_;refine Ys ?_;refine qd 5 rfl rfl rfl rfl ?_;refine(qg rfl (po (hf▸w1) hs) ?_);rintro _ w ⟨rfl,hs⟩;rw[<- hf,show uT (us (fV L))=oW (fV L) from rfl];replace h:∃M,St w0 (M++l) w:=⟨[_,_],hs⟩;refine⟨fun _=>h,?_⟩;refine nJ ?_;refine qd 6 rfl rfl rfl rfl ?_;refine(qg rfl (z8 (oW (fV L)) (vJ _) hs (fun w' h'=>h'.bU) O5) ?_);rintro _ w ⟨a2,c2,rfl,hs⟩;replace h:∃M,St w0 (M++l) w:=⟨[_,_,_],hs⟩;refine⟨fun _=>h,?_⟩;refine Ys ?_;refine qd 14 rfl rfl rfl rfl ?_;refine(qg rfl (po (ht▸w2) hs) ?_);rintro _ w ⟨rfl,hs⟩;rw[<- ht,show uT (us (eG L))=oW (eG L) from rfl];replace h:∃M,St w0 (M++l) w:=⟨[_,_,_],hs⟩
  refine⟨fun _=>h,?_⟩;refine Yn ?_;refine qd 15 rfl rfl rfl rfl ?_;refine(qg rfl (z8 (oW (eG L)) (vJ _) hs (fun w' h'=>h'.bU) O5) ?_);rintro _ w ⟨a3,c3,rfl,hs⟩;replace h:∃M,St w0 (M++l) w:=⟨[_,_,_,_],hs⟩;refine⟨fun _=>h,?_⟩;refine zW ?_;have e3:[UInt8.ofNat tag.toNat]++cS L.length++cS (oW (fV L))++cS (oW (eG L))=UInt8.ofNat tag.toNat::(fR L).flatMap cS:=by simp[fR]
  rw[e3] at hs;refine qm ⟨(a3,c3),⟨rfl,rfl,rfl,?_,trivial⟩,((hs.f 1).drop.f 1).drop⟩;show Value.slice _ _ _=Value.slice _ _ _;rw[e3]
 clear h a1 c1;rintro⟨a1,c1⟩ w e h;dsimp only at h ⊢;have Gu:=nV tag L x;have NN:eI tag L x=(UInt8.ofNat tag.toNat::(fR L).flatMap cS)++x:=by simp[eI]
 have MA:(UInt8.ofNat tag.toNat::(fR L).flatMap cS).length+x.length=(eI tag L x).length:=by rw[NN,Ua]
 generalize UInt8.ofNat tag.toNat::(fR L).flatMap cS=hd at h NN MA ⊢;generalize eI tag L x=B at NN Gu MA ⊢;refine Yd ?_;refine Yp ?_;refine aF rfl (ql (ys:=aY x) (zs:=aY B) (m3:=B.length) h rfl rfl (h.f 1).bU (fU _) O0 (by rw[NN];simp[aY]) O0 O0 rfl fun a2 c2 w _ h=>?_)
 refine Yo ?_;refine Yl ?_;refine aF rfl (qg rfl (tq h) ?_);rintro _ w ⟨rfl,h⟩;refine Yp ?_;refine aF rfl (qg rfl (TA (bs:=B) O0 Reads.own h) ?_);rintro _ w ⟨rfl,h⟩;refine Y5 ?_;generalize crc B=k;refine EJ ?_;refine aD (q9 (v':=.int .u32 ((k / 2^24:Nat):Int)) (j2 rfl rfl O0) (congrArg (Value.int .u32) (j3 k 24 32 O2))) rfl ?_;refine qJ ?_;refine qz (.int .u8 ((UInt8.ofNat (k / 2^24)).toNat:Int)) Lt ?_;refine Y0 ?_;refine aD (q9 (v':=.int .u32 ((k / 2^16:Nat):Int)) (j2 rfl rfl O0) (congrArg (Value.int .u32) (j3 k 16 32 O2))) rfl ?_;refine qJ ?_;refine qz (.int .u8 ((UInt8.ofNat (k / 2^16)).toNat:Int)) Lt ?_;refine Y0 ?_;refine aD (q9 (v':=.int .u32 ((k / 2^8:Nat):Int)) (j2 rfl rfl O0) (congrArg (Value.int .u32) (j3 k 8 32 O2))) rfl ?_;refine qJ ?_;refine qz (.int .u8 ((UInt8.ofNat (k / 2^8)).toNat:Int)) Lt ?_;refine Y0 ?_;refine qJ ?_;refine qz (.int .u8 ((UInt8.ofNat k).toNat:Int)) Lt ?_;refine aF rfl (jq (r:=aY (Cn k)) h rfl rfl rfl fun b4 w h=>?_);refine aF rfl (ql (ys:=aY (Cn k)) (zs:=aY (B++Cn k)) (m3:=(B++Cn k).length) (h.f 1) rfl rfl ⟨rfl,.inr ⟨b4,0,rfl,qw (h.b 0 rfl) rfl⟩⟩ (fU _) (by simp[mD]) (by simp[aY]) (by rw[Ua,mD];omega) (by rw[Ua,mD];omega) rfl fun a3 c3 w _ h=>?_)
 refine Yv ?_;refine qk (jQ ⟨a3,c3,rfl,?_⟩);have h':=((h.f 1).drop.f 1).drop;exact h'
end
end
section
section
variable{w0 w:World}{l:List aC}
abbrev JN(w0:World)(l:List aC)(bs:List UInt8)(v:Value):Prop:=
 (fO bs=none∧v=.tuple [.agg iR.toArray,.slice none 0 0,.bool false].toArray)∨
 ∃hd rest a c,fO bs=some (hd,rest)∧v=.tuple [.agg (qH hd).toArray,.slice a rest.length c,.bool true].toArray∧rest.length<=c∧rest.length<=bs.length∧hd.count<=65535∧hd.tag<=6∧Reads w0 l 1 a rest.length (aY rest)
theorem mv{sl:Option Addr}{c:Nat}{bs:List UInt8}(hn:bs.length<=140737488355328)(hc:bs.length<=c)(hr:Reads w0 l 1 sl bs.length (aY bs))(h:St w0 l w):
  bP prog 150 [.slice sl bs.length c] w fun v w'=>JN w0 l bs v∧St w0 l w':=by
 refine en func150 results150 ntmps150 ?_;refine Y1 ?_;refine aF rfl (qn h fun b2 w h=>?_);replace h:St w0 (pt b2 (.cells iR.toArray 229 (0,0))::l) w:=h;refine Yv ?_;cases bs with
 |nil=>
  refine LI ?_;refine aD (q9 (v':=.bool true) (gk rfl rfl) rfl) rfl ?_;refine I4 ?_;refine I4 ?_;refine Yy ?_;refine aD (qc (r:=iR) rfl) rfl ?_;refine aF rfl (qy (vs:=iR) 0 h rfl rfl rfl rfl rfl rfl rfl fun w h=>?_);replace h:St w0 (pt b2 (.cells iR.toArray 229 (0,0))::l) w:=h;refine Yv ?_;exact qk (Az (l:=iR) rfl rfl (qw (h.b 0 rfl) rfl) ⟨.inl ⟨rfl,rfl⟩,h.drop⟩)
 |cons ch r=>
 have eK:fO (ch::r)=_:=rfl
 conv at eK=>rhs;unfold fO
 dsimp only at eK;have hlc:(ch::r).length=r.length+1:=rfl;obtain⟨b,o,mW⟩:=(hr.cons.at_ h).some O7
 have hc0:∀{M:List aC} {w'},St w0 (M++l) w'->w'.cell? ⟨b,o,none⟩=some (.int .u8 ch.toNat):=fun {M} {w'} h'=>by
  have:=(mW▸hr M _ h').cell (jG (bs:=ch::r) (j:=0) rfl);simpa using this
 refine qf (Γ:=Unit) (fun _=>[(0,.slice sl (ch::r).length c),(2,.pz b2)]) (fun _ w=>¬(ch.toNat<1∨6<ch.toNat)∧St w0 (pt b2 (.cells iR.toArray 229 (0,0))::l) w) ?_ ?_
 ·refine HS ?_;refine aD (q9 (v':=.bool false) (gk rfl rfl) (by congr 1)) rfl ?_
  refine I0 ?_;refine aD (jj (b:=b) (o:=o) (m:=(ch::r).length) (c:=c) (j:=0) (o':=o) DQ rfl rfl O7 O7) rfl ?_;refine Yf ?_;refine aD (qr (v:=.int .u8 ch.toNat) rfl (hc0 (M:=[_]) h)) rfl ?_;refine Yf ?_;by_cases g1:ch.toNat<1
  ·refine aD (q9 (v':=.bool true) (yq rfl rfl) KW) rfl ?_;refine Y9 ?_;refine I4 ?_;refine Yy ?_;refine aD (qc (r:=iR) rfl) rfl ?_;refine aF rfl (qy (vs:=iR) 0 h rfl rfl rfl rfl rfl rfl rfl fun w h=>?_);replace h:St w0 (pt b2 (.cells iR.toArray 229 (0,0))::l) w:=h;refine Yv ?_;exact qk (Az (l:=iR) rfl rfl (qw (h.b 0 rfl) rfl) ⟨.inl ⟨by rw[eK,if_pos (.inl g1)],rfl⟩,h.drop⟩)
  refine aD (q9 (v':=.bool false) (yq rfl rfl) KW) rfl ?_;refine Y9 ?_;refine I0 ?_;refine aD (jj (b:=b) (o:=o) (m:=(ch::r).length) (c:=c) (j:=0) (o':=o) DQ rfl rfl O7 O7) rfl ?_;refine Yf ?_;refine aD (qr (v:=.int .u8 ch.toNat) rfl (hc0 (M:=[_]) h)) rfl ?_;refine Yf ?_;refine Cr ?_;refine Y9 ?_;refine qv (qo (decide ((ch.toNat:Int)>6)) rfl (fun kZ=>?_) (fun kZ=>?_))
  ·refine Y1 ?_;refine aD (qc (r:=iR) rfl) rfl ?_;refine aF rfl (qy (vs:=iR) 0 h rfl rfl rfl rfl rfl rfl rfl fun w h=>?_);replace h:St w0 (pt b2 (.cells iR.toArray 229 (0,0))::l) w:=h;refine Yv ?_;exact qk (Az (l:=iR) rfl rfl (qw (h.b 0 rfl) rfl) ⟨.inl ⟨by rw[eK,if_pos (.inr (by simp at kZ;omega))],rfl⟩,h.drop⟩)
  ·exact qa ⟨(),gS,by simp at kZ;omega,h⟩
 clear h;rintro _ w e ⟨BR,h⟩;rw[if_neg BR] at eK;have Cy:=hr.Ik (i:=1) O0 hc;rw[show(ch::r).drop 1=r from rfl] at Cy;refine Yd ?_;refine aD (gu (i:=1) rfl rfl O0) rfl ?_;show Rn _ _ _ _ _ (upd _ _ (.slice (nI sl (1*1) (Nat.beq c 1)) r.length (c-1))) _;refine Yo ?_;refine Yl ?_;refine aF rfl (qn h fun b6 w h=>?_);replace h:St w0 (pt b6 (.cells (eE ([]++List.replicate (3-0) 0)).toArray 240 (0,0))::pt b2 (.cells iR.toArray 229 (0,0))::l) w:=h;refine Y2 ?_;generalize hG:qC 3 r=G at eK
 refine qf (Γ:=Nat×Nat×Nat×List UInt8×Option Addr×Nat) (fun k=>[(0,.slice sl (ch::r).length c),(2,.pz b2),(5,.slice k.2.2.2.2.1 k.2.2.2.1.length k.2.2.2.2.2),(6,.pz b6)])
  (fun k w=>G=some ([k.1,k.2.1,k.2.2.1],k.2.2.2.1)∧k.1<18446744073709551616∧k.2.1<18446744073709551616∧k.2.2.1<18446744073709551616∧k.2.2.2.1.length<=r.length∧k.2.2.2.1.length<=k.2.2.2.2.2∧Reads w0 l 1 k.2.2.2.2.1 k.2.2.2.1.length (aY k.2.2.2.1)∧St w0 (pt b6 (.cells (eE [k.1,k.2.1,k.2.2.1]).toArray 240 (0,0))::pt b2 (.cells iR.toArray 229 (0,0))::l) w) ?_ ?_
 ·refine Yb ?_;refine K2 ?_
  refine jy (Γ:=Nat×List Nat×List UInt8×Option Addr×Nat) (fun k=>[(0,.slice sl (ch::r).length c),(2,.pz b2),(5,.slice k.2.2.2.1 k.2.2.1.length k.2.2.2.2),(6,.pz b6),(29,.iz k.1)])
   (fun k w=>k.1<=3∧k.2.1.length=k.1∧(∀x∈k.2.1,x<18446744073709551616)∧G=(qC (3-k.1) k.2.2.1).map (fun q=>(k.2.1++q.1,q.2))∧k.2.2.1.length<=r.length∧k.2.2.1.length<=k.2.2.2.2∧Reads w0 l 1 k.2.2.2.1 k.2.2.1.length (aY k.2.2.1)∧St w0 (pt b6 (.cells (eE (k.2.1++List.replicate (3-k.1) 0)).toArray 240 (0,0))::pt b2 (.cells iR.toArray 229 (0,0))::l) w)
   (fun k=>3-k.1) (0,[],r,nI sl (1*1) (Nat.beq c 1),c-1) pS ⟨Uf _,rfl,(fun _ h=>by cases h),(by rw[<- hG];simp),Ug _,GH,Cy,h⟩ ?_
  clear h;rintro⟨k,vals,rest,ra,rc⟩ w e ⟨hk,hvl,hv,inv,hrl,hrc,Gx,h⟩;dsimp only at hk hvl hv inv hrl hrc Gx h ⊢;refine Cj ?_;refine qi (qo (decide ((k:Int)<3)) rfl (fun kZ=>?_) (fun kZ=>?_))
  ·
   have hlt:k<3:=by simp at kZ;omega
   rw[show 3-k=(3-(k+1))+1 by omega,qC] at inv
   have hk2:=im rest;have hx:=ip rest;refine DW ?_;refine GQ ?_;refine Yd ?_;refine aF rfl (qg rfl (pf h (Gx.more [_,_]).rd O0) ?_);rintro _ w ⟨rfl,h⟩;refine QI ?_;generalize (dX rest).1=x at hx inv ⊢;generalize (dX rest).2=j at hk2 inv ⊢;refine K7 ?_;by_cases hj0:j=0
   ·refine qz (.bool true) (by rw[hj0];rfl) ?_
    refine Yy ?_;refine aD (qc (r:=iR) rfl) rfl ?_;refine aF rfl (qy (vs:=iR) 1 h rfl rfl rfl rfl rfl rfl rfl fun w h=>?_);replace h:=h.drop;replace h:St w0 (pt b2 (.cells iR.toArray 229 (0,0))::l) w:=h;refine Yv ?_;rw[if_pos hj0] at inv;exact qk (Az (l:=iR) rfl rfl (qw (h.b 0 rfl) rfl) ⟨.inl ⟨by rw[eK,inv];rfl,rfl⟩,h.drop⟩)
   refine qz (.bool false) O6 ?_;refine Y8 ?_;rw[if_neg hj0,Option.map_map] at inv;have Cy:=Gx.Ik hk2 hrc;refine jz (some 6) (fun w=>St w0 _ w) O1 O1 h.drew fun w h=>?_;refine Yt ?_;refine Yt ?_;refine Dg ?_;refine cD rfl rfl rfl rfl h rfl (q9 (v':=.slice (nI ra (j*1) (Nat.beq rc j)) (rest.drop j).length (rc-j)) (gu (i:=j) rfl rfl hk2) (by rw[Um];rfl)) ?_
   refine cD rfl rfl rfl rfl h rfl (yz (j:=k) (o':=k) rfl rfl rfl hlt O7) ?_;refine Yn ?_;refine jx 6 none rfl rfl rfl rfl ?_;refine qb 0 h rfl (show _=Value.int .u64 (x:Int) from rfl) rfl (by rw[Xu];simp[eE];omega) rfl rfl fun w h=>?_
   simp only[Vh] at h;rw[Ef hvl hlt] at h;refine jh h ?_;refine zW ?_;refine qm ?_;refine Yw ?_;refine qz (.iz ((k+1:Nat):Int)) O8 ?_;refine Y0 ?_;refine qv ⟨(k+1,vals++[x],rest.drop j,nI ra (j*1) (Nat.beq rc j),rc-j),pS,⟨hlt,by simp;omega,fun z hz=>?_,?_,by dsimp only;rw[Um];omega,by dsimp only;rw[Um];omega,Cy,h⟩,gH⟩
   ·rcases Vc.1 hz with hz|hz
    ·exact hv z hz
    ·simp at hz;subst hz;exact hx
   ·dsimp only;rw[inv];congr 1;funext q;simp
  have D7:k=3:=by simp at kZ;omega
  subst D7;rw[Xv,qC,Ww,Ux] at inv;rw[Xv,List.replicate_zero,Ux] at h
  match vals,hvl with
  |[v0,v1,v2],_=>
   exact ju ⟨(v0,v1,v2,rest,ra,rc),iA,inv,hv v0 O7,hv v1 O7,hv v2 O7,hrl,hrc,Gx,h⟩
 clear h;rintro⟨v0,v1,v2,rest,ra,rc⟩ w e ⟨Rm,NO,Ap,Hr,hrl,hrc,Gx,h⟩;dsimp only at Rm NO Ap Hr hrl hrc Gx h ⊢;rw[Rm] at eK;dsimp only at eK;rw[show[v0,v1,v2].getD 0 0=v0 from rfl,show[v0,v1,v2].getD 1 0=v1 from rfl,show[v0,v1,v2].getD 2 0=v2 from rfl,show JK ch [v0,v1,v2]=⟨ch.toNat,v0,sg (eX v1),sg (eX v2)⟩ from rfl] at eK;have xR:=ch.toNat_lt
 refine qf (Γ:=Nat) (fun mX=>[(2,.pz b2),(5,.slice ra rest.length rc),(10,.pz mX)])
  (fun mX w=>St w0 (pt mX (.cells (qH ⟨ch.toNat,min v0 65536,sg (eX v1),sg (eX v2)⟩).toArray 229 (0,0))::pt b2 (.cells iR.toArray 229 (0,0))::l) w) ?_ ?_
 ·have Hs:∀{w'},(∃M,St w0 (M++(pt b6 (.cells (eE [v0,v1,v2]).toArray 240 (0,0))::pt b2 (.cells iR.toArray 229 (0,0))::l)) w')->w'.cell? ⟨b,o,none⟩=some (.int .u8 ch.toNat):=fun⟨M,h'⟩=>hc0 (M:=[]) ((h'.wA).drop.drop);have hca:∀{w'},(∃M,St w0 (M++(pt b6 (.cells (eE [v0,v1,v2]).toArray 240 (0,0))::pt b2 (.cells iR.toArray 229 (0,0))::l)) w')->w'.heap[b6]?=some (.cells (eE [v0,v1,v2]).toArray 240 (0,0)):=fun⟨M,h'⟩=>(h'.wA).b 0 rfl;refine jb [0,1,2,3,4,5,6,7,8,9,10,11,12,13,14,15,16] (some 16) (fun w=>∃M,St w0 (M++(pt b6 (.cells (eE [v0,v1,v2]).toArray 240 (0,0))::pt b2 (.cells iR.toArray 229 (0,0))::l)) w) O1 O1 ?_;replace h:=h.drew;generalize w.drew=w at h;have hs:=h;replace h:∃M,St w0 (M++(pt b6 (.cells (eE [v0,v1,v2]).toArray 240 (0,0))::pt b2 (.cells iR.toArray 229 (0,0))::l)) w:=⟨[],hs⟩;refine AR ?_;refine cD rfl rfl rfl rfl h rfl (jj (b:=b) (o:=o) (m:=(ch::r).length) (c:=c) (j:=0) (o':=o) DQ rfl rfl O7 O7) ?_;refine qj rfl rfl rfl rfl h (fun w h=>qh rfl (qr (v:=.int .u8 ch.toNat) rfl (Hs h))) ?_;refine cD rfl rfl rfl rfl h rfl (q9 (v':=.iz (ch.toNat:Int)) (zn rfl) Ce) ?_;refine cD rfl rfl rfl rfl h rfl (yz (j:=0) (o':=0) rfl rfl rfl O2 rfl) ?_;refine qj rfl rfl rfl rfl h (fun w h=>qh rfl (qq (v:=.int .u64 (v0:Int)) rfl (hca h) rfl)) ?_;refine cD rfl rfl rfl rfl h rfl (q9 (v':=.int .u64 ((min v0 65536:Nat):Int)) (Ol rfl rfl) (by congr 1;omega)) ?_
  refine cD rfl rfl rfl rfl h rfl (q9 (v':=.iz ((min v0 65536:Nat):Int)) (zn rfl) Ce) ?_;refine cD rfl rfl rfl rfl h rfl (yz (j:=1) (o':=1) rfl rfl rfl O2 rfl) ?_;refine qj rfl rfl rfl rfl h (fun w h=>qh rfl (qq (v:=.int .u64 (v1:Int)) rfl (hca h) rfl)) ?_;refine Ym ?_;refine cD rfl rfl rfl rfl h rfl (yz (j:=2) (o':=2) rfl rfl rfl O2 rfl) ?_;refine qj rfl rfl rfl rfl h (fun w h=>qh rfl (qq (v:=.int .u64 (v2:Int)) rfl (hca h) rfl)) ?_;refine nJ ?_;refine j5 10 15 rfl rfl rfl rfl rfl rfl ?_ ?_
  ·refine(qg rfl (yk Ap hs) ?_);rintro _ w ⟨rfl,hs⟩;replace h:∃M,St w0 (M++(pt b6 (.cells (eE [v0,v1,v2]).toArray 240 (0,0))::pt b2 (.cells iR.toArray 229 (0,0))::l)) w:=⟨[],hs⟩;refine⟨fun _=>h,?_⟩;refine nJ ?_;refine j5 13 15 rfl rfl rfl rfl rfl rfl ?_ ?_
   ·refine(qg rfl (yk Hr hs) ?_);rintro _ w ⟨rfl,hs⟩;replace h:∃M,St w0 (M++(pt b6 (.cells (eE [v0,v1,v2]).toArray 240 (0,0))::pt b2 (.cells iR.toArray 229 (0,0))::l)) w:=⟨[],hs⟩;refine⟨fun _=>h,?_⟩;refine cD rfl rfl rfl rfl h rfl (qc (r:=qH ⟨ch.toNat,min v0 65536,sg (eX v1),sg (eX v2)⟩) rfl) ?_;refine Yn ?_;refine qd 15 rfl rfl rfl rfl ?_;refine(qn hs fun mX w hs=>?_);replace h:∃M,St w0 (M++(pt b6 (.cells (eE [v0,v1,v2]).toArray 240 (0,0))::pt b2 (.cells iR.toArray 229 (0,0))::l)) w:=⟨[_],hs⟩;refine⟨fun _=>h,?_⟩;refine Ym ?_;refine jv 16 rfl rfl rfl ?_;refine qy (vs:=qH ⟨ch.toNat,min v0 65536,sg (eX v1),sg (eX v2)⟩) 0 hs rfl rfl rfl rfl rfl rfl rfl fun w hs=>?_;exact⟨mX,kK,(hs.f 1).drop⟩
   ·refine(qn hs fun mX w hs=>?_);replace h:∃M,St w0 (M++(pt b6 (.cells (eE [v0,v1,v2]).toArray 240 (0,0))::pt b2 (.cells iR.toArray 229 (0,0))::l)) w:=⟨[_],hs⟩;refine⟨fun _=>h,?_⟩;refine Ys ?_;refine qd 13 rfl rfl rfl rfl ?_;refine(qg rfl (yk Hr hs) ?_);rintro _ w ⟨rfl,hs⟩;replace h:∃M,St w0 (M++(pt b6 (.cells (eE [v0,v1,v2]).toArray 240 (0,0))::pt b2 (.cells iR.toArray 229 (0,0))::l)) w:=⟨[_],hs⟩;refine⟨fun _=>h,?_⟩;refine cD rfl rfl rfl rfl h rfl (qc (r:=qH ⟨ch.toNat,min v0 65536,sg (eX v1),sg (eX v2)⟩) rfl) ?_;refine Ym ?_;refine jv 16 rfl rfl rfl ?_;refine qy (vs:=qH ⟨ch.toNat,min v0 65536,sg (eX v1),sg (eX v2)⟩) 0 hs rfl rfl rfl rfl rfl rfl rfl fun w hs=>?_;exact⟨mX,kK,(hs.f 1).drop⟩
  ·refine(qn hs fun mX w hs=>?_);replace h:∃M,St w0 (M++(pt b6 (.cells (eE [v0,v1,v2]).toArray 240 (0,0))::pt b2 (.cells iR.toArray 229 (0,0))::l)) w:=⟨[_],hs⟩;refine⟨fun _=>h,?_⟩;refine nJ ?_;refine qd 10 rfl rfl rfl rfl ?_;refine(qg rfl (yk Ap hs) ?_);rintro _ w ⟨rfl,hs⟩;replace h:∃M,St w0 (M++(pt b6 (.cells (eE [v0,v1,v2]).toArray 240 (0,0))::pt b2 (.cells iR.toArray 229 (0,0))::l)) w:=⟨[_],hs⟩;refine⟨fun _=>h,?_⟩;refine Ys ?_;refine qd 13 rfl rfl rfl rfl ?_;refine(qg rfl (yk Hr hs) ?_);rintro _ w ⟨rfl,hs⟩;replace h:∃M,St w0 (M++(pt b6 (.cells (eE [v0,v1,v2]).toArray 240 (0,0))::pt b2 (.cells iR.toArray 229 (0,0))::l)) w:=⟨[_],hs⟩;refine⟨fun _=>h,?_⟩;refine cD rfl rfl rfl rfl h rfl (qc (r:=qH ⟨ch.toNat,min v0 65536,sg (eX v1),sg (eX v2)⟩) rfl) ?_;refine Ym ?_;refine jv 16 rfl rfl rfl ?_;refine qy (vs:=qH ⟨ch.toNat,min v0 65536,sg (eX v1),sg (eX v2)⟩) 0 hs rfl rfl rfl rfl rfl rfl rfl fun w hs=>?_;exact⟨mX,kK,(hs.f 1).drop⟩
 clear h;rintro mX w e h
 refine qf (Γ:=Unit) (fun _=>[(2,.pz b2),(5,.slice ra rest.length rc),(10,.pz mX)])
  (fun _ w=>¬(v0<1∨65535<v0∨sg (eX v2)<sg (eX v1))∧St w0 (pt mX (.cells (qH ⟨ch.toNat,min v0 65536,sg (eX v1),sg (eX v2)⟩).toArray 229 (0,0))::pt b2 (.cells iR.toArray 229 (0,0))::l) w) ?_ ?_
 ·refine qK ?_;refine aD (qq (v:=.iz ((min v0 65536:Nat):Int)) rfl (h.b 0 rfl) rfl) rfl ?_;by_cases g1:v0<1
  ·refine aD (q9 (v':=.bool true) (yq rfl rfl) KW) rfl ?_;refine yY ?_;refine Cs ?_;refine zX ?_;refine Cs ?_;refine Yy ?_;refine aD (qc (r:=iR) rfl) rfl ?_;refine aF rfl (qy (vs:=iR) 1 h rfl rfl rfl rfl rfl rfl rfl fun w h=>?_);replace h:=h.drop;replace h:St w0 (pt b2 (.cells iR.toArray 229 (0,0))::l) w:=h;refine Yv ?_;exact qk (Az (l:=iR) rfl rfl (qw (h.b 0 rfl) rfl) ⟨.inl ⟨by rw[eK,if_pos (.inl g1)],rfl⟩,h.drop⟩)
  refine aD (q9 (v':=.bool false) (yq rfl rfl) KW) rfl ?_;refine pV ?_;refine aD (qq (v:=.iz ((min v0 65536:Nat):Int)) rfl (h.b 0 rfl) rfl) rfl ?_;refine Yf ?_;by_cases g2:65535<v0
  ·refine aD (q9 (v':=.bool true) (ue rfl rfl) KW) rfl ?_;refine Y9 ?_;refine zX ?_;refine Cs ?_;refine Yy ?_;refine aD (qc (r:=iR) rfl) rfl ?_;refine aF rfl (qy (vs:=iR) 1 h rfl rfl rfl rfl rfl rfl rfl fun w h=>?_);replace h:=h.drop;replace h:St w0 (pt b2 (.cells iR.toArray 229 (0,0))::l) w:=h;refine Yv ?_;exact qk (Az (l:=iR) rfl rfl (qw (h.b 0 rfl) rfl) ⟨.inl ⟨by rw[eK,if_pos (.inr (.inl g2))],rfl⟩,h.drop⟩)
  refine aD (q9 (v':=.bool false) (ue rfl rfl) KW) rfl ?_;refine Y9 ?_;refine pV ?_;refine aD (qq (v:=.iz (sg (eX v1))) rfl (h.b 0 rfl) rfl) rfl ?_;refine Dk ?_;refine aD (qq (v:=.iz (sg (eX v2))) rfl (h.b 0 rfl) rfl) rfl ?_;refine Yf ?_;refine Cr ?_;refine Y9 ?_;refine qv (qo (decide (sg (eX v1)>sg (eX v2))) rfl (fun kZ=>?_) (fun kZ=>?_))
  ·refine Y1 ?_;refine aD (qc (r:=iR) rfl) rfl ?_;refine aF rfl (qy (vs:=iR) 1 h rfl rfl rfl rfl rfl rfl rfl fun w h=>?_);replace h:=h.drop;replace h:St w0 (pt b2 (.cells iR.toArray 229 (0,0))::l) w:=h;refine Yv ?_;exact qk (Az (l:=iR) rfl rfl (qw (h.b 0 rfl) rfl) ⟨.inl ⟨by rw[eK,if_pos (.inr (.inr (by rw[decide_eq_true_eq] at kZ;exact kZ)))],rfl⟩,h.drop⟩)
  ·refine qa ⟨(),kK,?_,h⟩;rw[decide_eq_false_iff_not] at kZ;rintro(h|h|h)
   ·exact g1 h
   ·exact g2 h
   ·exact kZ h
 clear h;rintro _ w e ⟨JO,h⟩;rw[if_neg JO] at eK;rw[show min v0 65536=v0 by omega] at h
 refine Y1 ?_;refine aD (qx (l:=qH ⟨ch.toNat,v0,sg (eX v1),sg (eX v2)⟩) rfl rfl (qw (h.b 0 rfl) rfl)) rfl ?_;refine Yp ?_;refine aF rfl (qy (vs:=qH ⟨ch.toNat,v0,sg (eX v1),sg (eX v2)⟩) 1 h rfl rfl rfl rfl rfl rfl rfl fun w h=>?_);replace h:=h.drop;replace h:St w0 (pt b2 (.cells (qH ⟨ch.toNat,v0,sg (eX v1),sg (eX v2)⟩).toArray 229 (0,0))::l) w:=h;refine Yv ?_;exact qk (Az (l:=qH ⟨ch.toNat,v0,sg (eX v1),sg (eX v2)⟩) rfl rfl (qw (h.b 0 rfl) rfl) ⟨.inr ⟨_,rest,ra,rc,eK,rfl,hrc,cI,gH,gH,Gx⟩,h.drop⟩)
theorem ey{sl:Option Addr}{c:Nat}{bs:List UInt8}(hn:bs.length<=140737488355328)(hc:bs.length<=c)(hr:Reads w0 l 1 sl bs.length (aY bs))(h:St w0 l w):
  bP prog 146 [.slice sl bs.length c] w fun v w'=>v=.tuple [.agg ((((fO bs).map fun q=>qH q.1).getD iR)).toArray,.bool (fO bs).isSome].toArray∧St w0 l w':=by
 refine en func146 results146 ntmps146 ?_;refine Y1 ?_;refine aF rfl (qn h fun b2 w h=>?_);refine Ya ?_;refine Yd ?_;refine aF rfl (qg rfl (mv hn hc hr.cons h) ?_);rintro _ w ⟨(⟨EN,rfl⟩|⟨hd,rest,ra,rc,EN,rfl,hrc,hrl,JP,PF,Gx⟩),h⟩
 ·rw[EN];refine E9 ?_;refine aF rfl (qn h fun b4 w h=>?_);refine aF rfl (qy (vs:=iR) 0 h rfl rfl rfl rfl rfl rfl rfl fun w h=>?_);replace h:St w0 (pt b4 (.cells iR.toArray 229 (0,0))::pt b2 (.cells iR.toArray 229 (0,0))::l) w:=h;refine Yv ?_;refine Y1 ?_;refine aD (qx (l:=iR) rfl rfl (qw (h.b 0 rfl) rfl)) rfl ?_;refine AP ?_;refine aF rfl (qy (vs:=iR) 1 h rfl rfl rfl rfl rfl rfl rfl fun w h=>?_);replace h:=h.drop;replace h:St w0 (pt b2 (.cells iR.toArray 229 (0,0))::l) w:=h;refine Ya ?_;exact qk (uR (l:=iR) rfl rfl (qw (h.b 0 rfl) rfl) ⟨rfl,h.drop⟩)
 ·rw[EN];refine E9 ?_;refine aF rfl (qn h fun b4 w h=>?_);refine aF rfl (qy (vs:=qH hd) 0 h rfl rfl rfl rfl rfl rfl rfl fun w h=>?_);replace h:St w0 (pt b4 (.cells (qH hd).toArray 229 (0,0))::pt b2 (.cells iR.toArray 229 (0,0))::l) w:=h;refine Yv ?_;refine Y1 ?_;refine aD (qx (l:=qH hd) rfl rfl (qw (h.b 0 rfl) rfl)) rfl ?_;refine AP ?_;refine aF rfl (qy (vs:=qH hd) 1 h rfl rfl rfl rfl rfl rfl rfl fun w h=>?_);replace h:=h.drop;replace h:St w0 (pt b2 (.cells (qH hd).toArray 229 (0,0))::l) w:=h;refine Ya ?_;exact qk (uR (l:=qH hd) rfl rfl (qw (h.b 0 rfl) rfl) ⟨rfl,h.drop⟩)
def wW(bs:List UInt8):Prop:=∀x,fO bs=some x->nW (x.1.tag:Int)∧wK (x.1.tag:Int)
theorem tj(hT:Tz w0){sl:Option Addr}{c:Nat}{bs:List UInt8}(hV:wW bs)(hn:bs.length<=140737488355328)(hc:bs.length<=c)(hr:Reads w0 l 1 sl bs.length (aY bs))(h:St w0 l w):
  bP prog 141 [.slice sl bs.length c] w fun v w'=>∃a c',v=.tuple [.slice a (((eJ bs).map Prod.fst).getD []).length c',.iz ((((eJ bs).map Prod.snd).getD 0:Nat):Int),.bool (eJ bs).isSome].toArray∧(∀L t,eJ bs=some (L,t)->L.length<=65535∧∀s∈L,s.Wf)∧St w0 (aB a c' (((eJ bs).map Prod.fst).getD [])::l) w':=by
 have bad:∀{w:World},eJ bs=none->St w0 l w->∃a c',Value.tuple [.slice none 0 0,.iz 0,.bool false].toArray=.tuple [.slice a (((eJ bs).map Prod.fst).getD []).length c',.iz ((((eJ bs).map Prod.snd).getD 0:Nat):Int),.bool (eJ bs).isSome].toArray∧(∀L t,eJ bs=some (L,t)->L.length<=65535∧∀s∈L,s.Wf)∧St w0 (aB a c' (((eJ bs).map Prod.fst).getD [])::l) w:=fun hb h=>by
  rw[hb];exact⟨none,0,rfl,(fun _ _ h=>by cases h),St.aZ _ _ h⟩
 have eK:eJ bs=_:=rfl
 conv at eK=>rhs;unfold eJ
 refine en func141 results141 ntmps141 ?_;refine xV ?_;refine tZ ?_;refine Yd ?_;refine aF rfl (qg rfl (mv hn hc hr h) ?_);clear h;rintro _ w ⟨(⟨EN,rfl⟩|⟨hd,rest,ra,rc,EN,rfl,hrc,hrl,JP,PF,Gx⟩),h⟩
 ·rw[EN] at eK;refine E9 ?_;refine aF rfl (qn h fun b5 w h=>?_);refine aF rfl (qy (vs:=iR) 0 h rfl rfl rfl rfl rfl rfl rfl fun w h=>?_);replace h:=h.drop;refine Yv ?_;refine vU ?_;refine yY ?_;refine Cs ?_;refine NF ?_;refine tZ ?_;exact qk (KY (bad eK h))
 rw[EN] at eK;dsimp only at eK;refine E9 ?_;refine aF rfl (qn h fun b5 w h=>?_);refine aF rfl (qy (vs:=qH hd) 0 h rfl rfl rfl rfl rfl rfl rfl fun w h=>?_);replace h:St w0 (pt b5 (.cells (qH hd).toArray 229 (0,0))::l) w:=h;refine Yv ?_;refine vU ?_;refine I0 ?_;refine ND ?_;refine yW ?_;refine Y9 ?_;refine qv (qo (decide ((rest.length:Int)<4)) rfl (fun kZ=>?_) (fun kZ=>?_))
 ·refine xV ?_;refine tZ ?_;exact qk (KY (bad (by rw[eK,if_pos (by simp at kZ;omega)]) h.drop))
 have CE:4<=rest.length:=by simp at kZ;omega
 rw[if_neg O0] at eK;refine Yu ?_;have TF:=Gx.head (i:=rest.length-4) O0;have Am:(rest.take (rest.length-4)).length=rest.length-4:=by rw[Ul];omega
 have MB:Reads w0 l 1 ra (rest.take (rest.length-4)).length (aY (rest.take (rest.length-4))):=by
  rw[Am];have:aY (rest.take (rest.length-4))=(aY rest).take ((rest.length-4)*1):=by unfold aY;rw[List.map_take,Nat.mul_one]
  rw[this];exact TF
 generalize hP:rest.take (rest.length-4)=P at eK Am MB
 refine qf (Γ:=Option Addr×Nat) (fun q=>[(0,.slice sl bs.length c),(5,.pz b5),(8,.slice q.1 ((cY hd.tag P hd.count).getD []).length q.2),(9,.bool (cY hd.tag P hd.count).isSome)])
  (fun q w=>(∀L,cY hd.tag P hd.count=some L->(L.length:Int)=hd.count∧∀s∈L,s.Wf)∧St w0 (aB q.1 q.2 ((cY hd.tag P hd.count).getD [])::pt b5 (.cells (qH hd).toArray 229 (0,0))::l) w) ?_ ?_
 ·refine jb [0,1,2,3,4,5,6,7,8,9,10,11,13,12,14] none (fun w=>w.heap[b5]?=some (.cells (qH hd).toArray 229 (0,0))) O1 O1 ?_;replace h:=h.drew;generalize w.drew=w at h;have hs:=h;replace h:=hs.b 0 rfl;refine Yj ?_;refine qj rfl rfl rfl rfl h (fun w h=>qh rfl (qq (v:=.iz (hd.tag:Int)) rfl h rfl)) ?_;refine AR ?_;refine AR ?_;refine De ?_;refine cD rfl rfl rfl rfl h rfl (q9 (v':=.iz ((rest.length-4:Nat):Int)) (vk rfl rfl) O9) ?_;refine cD rfl rfl rfl rfl h rfl (q9 (v':=.slice ra P.length rc) (vh (h:=rest.length-4) rfl rfl O0) (by rw[Am])) ?_
  refine Yj ?_;refine qj rfl rfl rfl rfl h (fun w h=>qh rfl (qq (v:=.iz (hd.count:Int)) rfl h rfl)) ?_;refine xO ?_;refine qd 9 rfl rfl rfl rfl ?_;refine(qg rfl (nf hT (hV _ EN).2 (hV _ EN).1 (hd.count:Int) O0 O0 (MB.more [_]) hs) ?_);rintro _ w ⟨da,dc,rfl,hM,hs⟩;replace h:=hs.b 1 rfl;refine⟨fun _=>h,?_⟩;refine xX ?_;refine zW ?_;refine rK ?_;exact qm ⟨(da,dc),iA,hM,hs⟩
 clear h;rintro⟨da,dc⟩ w e ⟨hM,h⟩;dsimp only at h ⊢;refine vU ?_;cases hD:cY hd.tag P hd.count with
 |none=>
  rw[hD] at eK;refine NF ?_;refine tZ ?_;exact qk (KY (bad eK h.drop.drop))
 |some M=>
 rw[hD] at eK h;obtain⟨X4,Ro⟩:=hM M hD;have PG:M.length<=65535:=by omega
 dsimp only at eK;refine Y8 ?_;replace h:St w0 (aB da dc M::pt b5 (.cells (qH hd).toArray 229 (0,0))::l) w:=h;refine qK ?_;refine aD (qq (v:=.iz (hd.tag:Int)) rfl (h.b 1 rfl) rfl) rfl ?_;refine Yp ?_;refine aF rfl (qg rfl (dl hT (hV _ EN).2 (L:=M) Ro O0 Reads.own h) ?_);rintro _ w ⟨ea,ec,rfl,h⟩;refine Ck ?_;refine qf (Γ:=Unit) (fun _=>[(5,.pz b5),(8,.slice da M.length dc)]) (fun _ w=>dG (hd.tag:Int) M=some bs∧St w0 (aB da dc M::pt b5 (.cells (qH hd).toArray 229 (0,0))::l) w) ?_ ?_
 ·refine Y1 ?_;cases hE:dG (hd.tag:Int) M with
  |none=>
   refine vC ?_;refine I4 ?_;refine NF ?_;refine tZ ?_;exact qk (KY (bad (by rw[eK,if_neg (by rw[hE];simp)]) h.drop.drop.drop))
  |some d=>
   rw[hE] at h;refine vC ?_;refine I0 ?_;refine K3 ?_;refine aF rfl (qg rfl (wg (b1:=d) (b2:=bs) h (fun w' h'=>h'.bU) (hr.more [_,_,_]).rd) ?_);rintro _ w ⟨rfl,h⟩;refine HQ ?_;refine qv (qo (!decide (d=bs)) rfl (fun lO=>?_) (fun lO=>?_))
   ·refine xV ?_;refine tZ ?_;exact qk (KY (bad (by rw[eK,if_neg (by rw[hE];simpa using lO)]) h.drop.drop.drop))
   ·exact qa ⟨(),gS,by simpa using lO,h.drop⟩
 clear h;rintro _ w e ⟨hE,h⟩;rw[if_pos hE] at eK;rw[eK];refine qi (vr [0,2,3,1,4,5] none (fun w=>St w0 _ w) O1 O1 h.drew fun w h=>?_);refine AR ?_;refine Yj ?_;refine qj rfl rfl rfl rfl h (fun w h=>qh rfl (qq (v:=.iz (hd.tag:Int)) rfl (h.b 1 rfl) rfl)) ?_;refine zW ?_;refine AS ?_;refine rK ?_;refine qm ?_;refine qk (KY ⟨da,dc,rfl,fun L t hh=>?_,(h.f 1).drop⟩);cases hh
 exact⟨PG,Ro⟩
end
end
section
instance PI:EM prog 57 [.i64,.u64]:=⟨⟨_,underlying57,by kernel_rfl⟩,by kernel_rfl,by kernel_rfl⟩
section
variable{w0 w:World}{l:List aC}
theorem wX{a1 a2:Option Addr}{n1 n2 c1 c2:Nat}{L1 L2:List bZ}(h:St w0 l w)(iX:∀w',St w0 l w'->Rd w' 2 a1 n1 (aW L1))(yF:∀w',St w0 l w'->Rd w' 2 a2 n2 (aW L2))(hn:n1<9223372036854775807):
  bP prog 44 [.slice a1 n1 c1,.slice a2 n2 c2] w fun v w'=>v=.bool (decide (L1=L2))∧St w0 l w':=by
 have rV:L1.length=n1:=(iX w h).count jt O2;have AX:L2.length=n2:=(yF w h).count jt O2;refine en func44 results44 ntmps44 ?_;refine pL ?_;refine LI ?_;refine sV ?_;refine Bi ?_;refine Y2 ?_;refine qo _ rfl (fun hc=>?_) (fun hc=>?_)
 ·
  refine pL ?_;refine qk (bQ ⟨?_,h⟩)
  have:L1≠L2:=by
   rintro rfl;simp at hc;omega
  show Value.bool false=_;rw[decide_eq_false this]
 have Om:n1=n2:=by simp at hc;omega
 subst Om;refine Yu ?_;refine qi ?_;refine GR ?_;refine jy (Γ:=Nat) (fun k=>[(0,.slice a1 n1 c1),(1,.slice a2 n1 c2),(5,.iz k)]) (fun k w=>k<=n1∧L1.take k=L2.take k∧St w0 l w) (fun k=>n1-k) 0 kK ⟨Uf _,by simp,h⟩ ?_
 clear h;rintro k w e ⟨hk,hpre,h⟩;refine vT ?_;refine sV ?_;refine yW ?_;refine Y2 ?_;refine qo (decide ((k:Int)<(n1:Int))) rfl (fun hc=>?_) (fun hc=>?_)
 ·
  have hkn:k<n1:=by simp at hc;omega
  obtain⟨b1,o1,rfl⟩:=(iX w h).some O0;obtain⟨b2,o2,rfl⟩:=(yF w h).some O0;have yD:=Ub (show k<L1.length by omega)
  have Gw:=Ub (show k<L2.length by omega)
  generalize L1[k]=s1 at yD;generalize L2[k]=s2 at Gw;refine DW ?_;refine qi (jz none (fun w=>St w0 _ w) O1 O1 h.drew fun w h=>?_);refine Dg ?_;refine cD rfl rfl rfl rfl h rfl (jj rfl rfl rfl hkn rfl) ?_;refine qj rfl rfl rfl rfl h (fun w h=>qh rfl (qx (l:=s1.cells) rfl rfl ((iX w h).elem jt yD))) ?_;refine Dg ?_;refine cD rfl rfl rfl rfl h rfl (jj rfl rfl rfl hkn rfl) ?_;refine qj rfl rfl rfl rfl h (fun w h=>qh rfl (qx (l:=s2.cells) rfl rfl ((yF w h).elem jt Gw))) ?_;refine cD rfl rfl rfl rfl h rfl (Me [s1.T,s1.V] [s2.T,s2.V] rfl rfl rfl rfl) ?_;refine qm ?_;refine qo _ rfl (fun hc=>?_) (fun hc=>?_)
  ·
   refine pL ?_;refine qk (bQ ⟨?_,h⟩)
   have:L1≠L2:=by
    rintro rfl;rw[yD] at Gw;cases Gw
    simp at hc
   show Value.bool false=_;rw[decide_eq_false this]
  ·have hss:s1=s2:=by
    obtain⟨T1,V1⟩:=s1;obtain⟨T2,V2⟩:=s2;simp at hc;simp[hc.1,hc.2]
   subst hss;refine Yu ?_;refine Bk ?_;refine qz (.iz ((k+1:Nat):Int)) O8 ?_;refine Y4 ?_;refine qv ⟨k+1,kK,⟨cI,?_,h⟩,cI⟩;rw[Vk,Vk,hpre,yD,Gw]
 have hkn:k=n1:=by simp at hc;omega
 subst hkn;refine ju ?_;refine pL ?_;refine qk (bQ ⟨?_,h⟩)
 have:L1=L2:=by
  rw[Uu O0,Uu O0] at hpre;exact hpre
 show Value.bool true=_;rw[decide_eq_true this]
end
end
end Go.Proofs.YtngdfdangkdgcaaGreatDoor
namespace Go.Hw
section
end
end Go.Hw
namespace Go.Proofs.YtngdfdangkdgcaaGreatDoor
open Go.Hw _root_.Go.Proofs.Tryz
section
instance NP:EM prog 229 [.i64,.i64,.i64,.i64]:=⟨⟨_,underlying229,by kernel_rfl⟩,by kernel_rfl,by kernel_rfl⟩
theorem BV{tag:Int}{L:List bZ}{b:List UInt8}(hw:∀s∈L,s.Wf)(h:dG tag L=some b):b.length<=4000000:=by
 obtain⟨x,hx,_,he⟩:=mC h;have h1:=uF (tag:=tag) hw;rw[hx] at h1;have h2:x.length<=3000000:=h1;have:=nV tag L x;rw[he,Ua,mD];omega
section
variable{w0 w:World}{l:List aC}
end
end
end Go.Proofs.YtngdfdangkdgcaaGreatDoor
namespace Go.Hw
section
def gJ(n:Int):Int:=min (max n 1) 65535
theorem zO(n:Int):1<=gJ n∧gJ n<=65535:=by unfold gJ;omega
structure vK where
 bg:Bool
 ov:Bool
 lf:Int
 bad:Bool
def vK.step(s:vK)(n:Int):vK:=⟨s.bg,s.ov||decide (s.lf-gJ n<=0),if s.ov then s.lf else s.lf-gJ n,s.bad⟩
def vK.more(s:vK)(n:Int):Bool:=!s.ov&&!decide (s.lf-gJ n<=0)
def FE(s:vK)(rest:List Value):List Value:=.bool s.bg::.bool s.ov::.iz s.lf::rest
def JQ(s:vK)(ba:Option Addr)(m bc:Nat)(la:Option Addr)(n lc:Nat):List Value:=FE s [.slice ba m bc,.slice la n lc,.bool s.bad]
end
end Go.Hw
namespace Go.Proofs.YtngdfdangkdgcaaGreatDoor
open Go.Hw _root_.Go.Proofs.Tryz
section
section
variable{w0 w:World}{l:List aC}
theorem uy{sl:Option Addr}{c:Nat}{L:List bZ}(h:St w0 l w)(hr:Reads w0 l 2 sl L.length (aW L))(hn:L.length<=1073741824):
  bP prog 43 [.slice sl L.length c] w fun v w'=>∃a c',v=.slice a L.length c'∧St w0 (aB a c' L::l) w':=by
 refine en func43 results43 ntmps43 ?_;refine GP ?_;refine Yd ?_;refine aD (ur rfl rfl) rfl ?_;refine qv (qo sl.isNone rfl (fun hs=>?_) (fun hs=>?_))
 ·refine xV ?_;obtain rfl:sl=none:=by simpa using hs
  obtain⟨h3,h4⟩:=hr.at_ h
  have h5:L.length=0:=by rcases h4 with h|⟨b,o,h,_⟩;exact h;cases h
  obtain rfl:L=[]:=Uq h5;exact qv (qk (bQ ⟨none,0,rfl,St.aZ _ _ h⟩))
 ·refine Yu ?_;refine Y1 ?_;refine aF rfl (jq (r:=[]) h rfl rfl rfl fun b w h=>?_);refine Yp ?_;have h1:St w0 (eW 57 2 (sQ b) 0 0 []::l) w:=St.iH (cur:=[]) h rfl rfl (Ug _);refine aF rfl (ql (zs:=aW L) (m3:=L.length) h1 rfl rfl (hr.at_ h1.drop) (jm _) O0 (Us _) O0 O0 rfl fun a c' w hn h=>?_)
  refine Yo ?_;exact qv (qk (bQ ⟨a,c',rfl,h⟩))
theorem mu{p:Nat}{s:vK}{rest:List Value}{T:TypeId}(n:Int)(hlf:-200000<=s.lf∧s.lf<=200000)(h:St w0 (pt p (.cells (FE s rest).toArray T (0,0))::l) w):
  bP prog 142 [.pz p,.iz n] w fun v w'=>v=.bool (s.more n)∧St w0 (pt p (.cells (FE (s.step n) rest).toArray T (0,0))::l) w':=by
 obtain⟨h1,h2⟩:=hlf;obtain⟨kZ,lO⟩:=zO n;obtain⟨bg,ov,lf,bd⟩:=s;dsimp only at h1 h2;refine en func142 results142 ntmps142 ?_;refine pL ?_;refine Bm ?_;refine aD (qq (v:=.bool ov) rfl (h.b 0 rfl) rfl) rfl ?_;refine Y2 ?_;cases ov with
 |true=>
  refine vB ?_;refine pL ?_;exact qk (bQ ⟨rfl,h⟩)
 |false=>
  refine xU ?_;refine Y7 ?_;refine aD (qq (v:=.iz lf) rfl (h.b 0 rfl) rfl) rfl ?_;refine Y0 ?_;refine Ov ?_;refine qz (.iz (gJ n)) (by unfold gJ;rfl) ?_
  refine AQ ?_;refine qz (.iz (lf-gJ n)) Ce ?_;refine Yk ?_;refine aF rfl (qb 0 h rfl (show _=Value.iz (lf-gJ n) from rfl) rfl rfl rfl rfl fun w h=>?_);replace h:St w0 (pt p (.cells (.bool bg::.bool false::.iz (lf-gJ n)::rest).toArray T (0,0))::l) w:=h;refine Y2 ?_;refine AW ?_;refine aD (qq (v:=.iz (lf-gJ n)) rfl (h.b 0 rfl) rfl) rfl ?_;refine EF ?_;refine Yk ?_;refine aF rfl (qb 0 h rfl (show _=Value.bool (decide (lf-gJ n<=0)) from rfl) rfl rfl rfl rfl fun w h=>?_);replace h:St w0 (pt p (.cells (.bool bg::.bool (decide (lf-gJ n<=0))::.iz (lf-gJ n)::rest).toArray T (0,0))::l) w:=h;refine Y2 ?_;refine Y7 ?_;refine aD (qq (v:=.bool (decide (lf-gJ n<=0))) rfl (h.b 0 rfl) rfl) rfl ?_;refine oO ?_;refine Ya ?_;exact qk (bQ ⟨rfl,h⟩)
abbrev nE(p:Nat)(s:vK)(ba:Option Addr)(m bc:Nat)(la:Option Addr)(n lc:Nat):aC:=pt p (.cells (JQ s ba m bc la n lc).toArray 222 (0,0))
theorem wz{sl:Option Addr}{c:Nat}{bs:List UInt8}(hn:bs.length<=140737488355328)(hr:Reads w0 l 1 sl bs.length (aY bs))(h:St w0 l w):
  bP prog 140 [.slice sl bs.length c] w fun v w'=>∃p ba bc,v=.pz p∧St w0 (nE p ⟨false,false,0,false⟩ ba bs.length bc none 0 0::gI ba bc bs::l) w':=by
 refine en func140 results140 ntmps140 ?_;refine Gi ?_;refine Yd ?_;refine aF rfl (qg rfl (un h hr.rd hn) ?_);rintro _ w ⟨ba,bc,rfl,h⟩;refine aD (qc (r:=JQ ⟨false,false,0,false⟩ ba bs.length bc none 0 0) rfl) rfl ?_;refine aF rfl (jk h (show _=Value.agg (JQ ⟨false,false,0,false⟩ ba bs.length bc none 0 0).toArray from rfl) fun p w h=>?_);refine DU ?_;exact qk (bQ ⟨p,ba,bc,rfl,h⟩)
def jV(bs:List UInt8):List bZ:=((eJ bs).map Prod.fst).getD []
def fJ(bs:List UInt8):vK:=⟨true,false,(jV bs).length,!(eJ bs).isSome⟩
theorem tg(hT:Tz w0){p:Nat}{ba:Option Addr}{bc:Nat}{bs:List UInt8}(n:Int)(hV:wW bs)(hn:bs.length<=140737488355328)(h:St w0 (nE p ⟨false,false,0,false⟩ ba bs.length bc none 0 0::gI ba bc bs::l) w):
  bP prog 123 [.pz p,.iz n] w fun v w'=>∃la lc,v=.bool ((fJ bs).more n)∧(jV bs).length<=65535∧St w0 (nE p ((fJ bs).step n) ba bs.length bc la (jV bs).length lc::aB la lc (jV bs)::gI ba bc bs::l) w':=by
 have hbc:=(h.f 1).bT.2.1;refine en func123 results123 ntmps123 ?_;refine pL ?_;refine qf (Γ:=Option Addr×Nat) (fun _=>[(0,.pz p),(1,.iz n)]) (fun q w=>(jV bs).length<=65535∧St w0 (nE p (fJ bs) ba bs.length bc q.1 (jV bs).length q.2::aB q.1 q.2 (jV bs)::gI ba bc bs::l) w) ?_ ?_
 ·refine EK ?_;refine aD (qq (v:=.bool false) rfl (h.b 0 rfl) rfl) rfl ?_;refine oO ?_;refine Yh ?_;refine Y7 ?_;refine aD (qq (v:=.slice ba bs.length bc) rfl (h.b 0 rfl) rfl) rfl ?_;refine aF rfl (qg rfl (tj hT hV hn hbc Reads.own.cons h) ?_);rintro _ w ⟨oa,oc,rfl,hwf,h⟩
  have JR:(jV bs).length<=65535:=by
   unfold jV;cases hO:eJ bs with
   |none=>exact Uf _
   |some q=>obtain⟨M,t⟩:=q;exact(hwf M t hO).1
  replace h:St w0 (aB oa oc (jV bs)::nE p ⟨false,false,0,false⟩ ba bs.length bc none 0 0::gI ba bc bs::l) w:=h;show Rn _ _ _ _ _ (upd _ _ (.tuple [.slice oa (jV bs).length oc,.iz _,.bool (eJ bs).isSome].toArray)) _;refine E9 ?_;refine Yo ?_;refine tZ ?_;refine Ci ?_;refine AO ?_;refine AO ?_;refine AO ?_;refine Yp ?_;refine vC ?_;refine sV ?_;refine Yk ?_;refine Yc ?_;refine aF rfl (qb 1 h rfl (show _=Value.bool true from rfl) rfl rfl rfl rfl fun w h=>?_);refine Yk ?_;refine aF rfl (qb 1 h rfl (show _=Value.slice oa (jV bs).length oc from rfl) rfl rfl rfl rfl fun w h=>?_);refine Yk ?_;refine aF rfl (qb 1 h rfl (show _=Value.bool (!(eJ bs).isSome) from rfl) rfl rfl rfl rfl fun w h=>?_);refine Yk ?_;refine Yc ?_;refine aF rfl (qb 1 h rfl (show _=Value.iz ((jV bs).length:Int) from rfl) rfl rfl rfl rfl fun w h=>?_);replace h:St w0 (aB oa oc (jV bs)::nE p (fJ bs) ba bs.length bc oa (jV bs).length oc::gI ba bc bs::l) w:=h;exact qv ⟨(oa,oc),gS,JR,h.f 1⟩
 clear h;rintro⟨la,lc⟩ w e ⟨JR,h⟩;dsimp only at h ⊢;refine Y7 ?_;refine Y0 ?_;refine aF rfl (qg rfl (mu (s:=fJ bs) n (by unfold fJ;dsimp only;omega) h) ?_)
 rintro _ w ⟨rfl,h⟩;refine Ya ?_;exact qk (bQ ⟨la,lc,rfl,JR,h⟩)
theorem TG{p:Nat}{s:vK}{ba:Option Addr}{bm bc:Nat}{la:Option Addr}{m lc:Nat}(n:Int)(hb:s.bg=true)(hlf:-200000<=s.lf∧s.lf<=200000)(h:St w0 (nE p s ba bm bc la m lc::l) w):
  bP prog 123 [.pz p,.iz n] w fun v w'=>v=.bool (s.more n)∧St w0 (nE p (s.step n) ba bm bc la m lc::l) w':=by
 refine en func123 results123 ntmps123 ?_;refine pL ?_;refine Bm ?_;refine Yc ?_;refine aD (qq (v:=.bool s.bg) rfl (h.b 0 rfl) rfl) rfl ?_;rw[hb];refine Gl ?_;refine Y7 ?_;refine Y0 ?_;refine aF rfl (qg rfl (mu (s:=s) n hlf h) ?_);rintro _ w ⟨rfl,h⟩;refine Ya ?_;exact qk (bQ ⟨rfl,h⟩)
theorem TH{p:Nat}{s:vK}{ba:Option Addr}{bm bc:Nat}{la:Option Addr}{lc:Nat}{L:List bZ}(hn:L.length<=1073741824)(hr:Reads w0 (nE p s ba bm bc la L.length lc::l) 2 la L.length (aW L))(h:St w0 (nE p s ba bm bc la L.length lc::l) w):
  bP prog 143 [.pz p] w fun v w'=>∃a c,v=.tuple [.slice a (if s.ov=true∧s.bad=false then L else[]).length c,.bool (s.ov&&!s.bad)].toArray∧St w0 (aB a c (if s.ov=true∧s.bad=false then L else[])::nE p s ba bm bc la L.length lc::l) w':=by
 obtain⟨bg,ov,lf,bd⟩:=s;dsimp only;refine en func143 results143 ntmps143 ?_;refine yZ ?_;refine Bm ?_;refine Yc ?_;refine aD (qq (v:=.bool ov) rfl (h.b 0 rfl) rfl) rfl ?_;cases ov with
 |false=>
  refine oO ?_;refine I4 ?_;refine NG ?_;rw[if_neg O7];exact qk (jQ ⟨none,0,rfl,St.aZ _ _ h⟩)
 |true=>
  refine oO ?_;refine Cm ?_;refine aD (qq (v:=.bool bd) rfl (h.b 0 rfl) rfl) rfl ?_;refine Y9 ?_;cases bd with
  |true=>
   refine NG ?_;rw[if_neg O7];exact qk (jQ ⟨none,0,rfl,St.aZ _ _ h⟩)
  |false=>
   refine Y8 ?_;refine Y7 ?_;refine aD (qq (v:=.slice la L.length lc) rfl (h.b 0 rfl) rfl) rfl ?_;refine aF rfl (qg rfl (uy h hr hn) ?_);rintro _ w ⟨a,c,rfl,h⟩;refine Yv ?_;rw[if_pos ⟨rfl,rfl⟩];exact qk (jQ ⟨a,c,rfl,h⟩)
end
end
end Go.Proofs.YtngdfdangkdgcaaGreatDoor
namespace Go.Hw
section
structure eC where
 bE:aT
 rows:List (bL×List bZ)
def aT.wY(q:aT)(k:bL):Option Pg:=(q.find k).bind fun i=>q.pages[i]?
theorem St.Eg{w0 w:World}{l:List aC}{κ α γ:Type}[DecidableEq κ]{kv:κ->Value}{vf:γ×α->Value}{R:γ->α->aC}{b:Nat}{m:List (κ×α)}{k:κ}{p:Prop}(h:St w0 (uX kv b vf R m::l) w)(hk:aH k m=none)
  (kk:∀ps,oP kv w b ps->aH k ps=none->p):p:=by
 obtain⟨mm,D1,h0⟩:=St.Ar.1 h;subst D1;have hk':=(gw (fun p:γ×α=>p.2) k mm).symm.trans hk;refine kk _ h0.Bn ?_;rw[gw (fun p:γ×α=>vf p) k mm];rw[Option.map_eq_none_iff] at hk' ⊢;exact hk'
namespace eC
def new(n:Int):eC:=⟨aT.new n,[]⟩
def get(C:eC)(k:bL):eC×Option (List bZ):=if(C.bE.cH k).2 then(⟨(C.bE.cH k).1,C.rows⟩,some ((aH k C.rows).getD [])) else(C,none)
def tP(m:List (bL×List bZ))(ks:List bL):List (bL×List bZ):=ks.foldl (fun m x=>bY x m) m
def put(C:eC)(k:bL)(L:List bZ):eC×Bool:=if(C.bE.lets k).2.2 then(⟨(C.bE.lets k).1,aX k L (tP C.rows (C.bE.lets k).2.1)⟩,true) else(C,false)
def eN(C:eC)(k:bL)(n:Int):eC×Bool:=if(C.bE.fS k n).2 then(⟨(C.bE.fS k n).1,C.rows⟩,true) else(C,false)
def gD(C:eC)(k:bL):eC×Bool:=match C.bE.wY k with
 |some p=>if 0<p.pins then C.eN k (-1) else(C,false)
 |none=>(C,false)
def drop(C:eC)(k:bL):eC×Bool:=match C.bE.wY k with
 |some p=>if 0<p.pins then(C,false) else(⟨(C.bE.drop k).1,bY k C.rows⟩,true)
 |none=>(C,false)
structure Ok(C:eC):Prop where
 wf:C.bE.Wf
 len:C.bE.pages.length<=100000
 res:(C.bE.count Pg.aJ:Int)<=C.bE.most
 pins:∀p∈C.bE.pages,0<=p.pins∧p.pins<=1099511627776
 rows:∀k L,aH k C.rows=some L->L.length<=1073741824
end eC
end
end Go.Hw
namespace Go.Proofs.YtngdfdangkdgcaaGreatDoor
open Go.Hw _root_.Go.Proofs.Tryz
section
instance mkKey:MK prog 51 bL (fun k=>.agg k.C.toArray):=
 MK.ints (P:=prog) (kt:=51) (ks:=[.i64,.i64,.i64]) JG (fun k:bL=>[k.aA,k.bN,k.bB]) (fun _=>rfl) (fun a b h=>by obtain⟨_,_,_⟩:=a;obtain⟨_,_,_⟩:=b;simpa using h) (fun e w k=>by kernel_rfl)
abbrev Eh(x:(Option Addr×Nat)×List bZ):Value:=.slice x.1.1 x.2.length x.1.2
abbrev Ei(y:Option Addr×Nat)(L:List bZ):aC:=aB y.1 y.2 L
abbrev iY(p:Nat)(a:Option Addr)(c m:Nat)(q:aT):aC:=pt p (.cells (q.C a c++[Value.map (some m)]).toArray 110 (0,0))
abbrev fT(m:Nat)(rows:List (bL×List bZ)):aC:=uX (fun k:bL=>.agg k.C.toArray) m Eh Ei rows
def aK(p:Nat)(C:eC):aC:=ex fun x:(Option Addr×Nat)×Nat=>all [iY p x.1.1 x.1.2 x.2 C.bE,bC x.1.1 x.1.2 C.bE.pages,fT x.2 C.rows]
section
variable{w0 w:World}{l:List aC}{p:Nat}{C:eC}
theorem St.oL:St w0 (aK p C::l) w↔∃a c m,St w0 (iY p a c m C.bE::bC a c C.bE.pages::fT m C.rows::l) w:=by
 unfold aK;rw[St.ex];exact⟨fun⟨x,h⟩=>⟨x.1.1,x.1.2,x.2,h.join⟩,fun⟨a,c,m,h⟩=>⟨((a,c),m),St.fold [_,_,_] h⟩⟩
theorem jL{b a c m}{q:aT}{M:List aC}:Reads w0 (iY b a c m q::bC a c q.pages::M) 7 a q.pages.length (cO q.pages):=Reads.own.cons
theorem TI(n:Int)(h:St w0 l w):bP prog 32 [.iz n] w fun v w'=>∃p,v=.pz p∧St w0 (aK p (eC.new n)::l) w':=by
 refine en func32 results32 ntmps32 ?_;refine Gi ?_;refine Yb ?_;refine aF rfl (qg rfl (Tq n h) ?_);clear h;rintro _ w ⟨rfl,h⟩;refine aF rfl (Tu (fun k:bL=>.agg k.C.toArray) Eh Ei h fun m w h=>?_);refine aD (qc (r:=(aT.new n).C none 0++[Value.map (some m)]) rfl) rfl ?_;refine aF rfl (jk h (show _=Value.agg ((aT.new n).C none 0++[Value.map (some m)]).toArray from rfl) fun p w h=>?_);refine tW ?_;refine qv (qk (bQ ⟨p,rfl,?_⟩));exact St.oL.2 ⟨none,0,m,(St.aZ 113 7 h).f 1⟩
theorem ce(h:St w0 (aK p C::l) w):bP prog 28 [.pz p] w fun v w'=>v=.iz C.rows.length∧St w0 (aK p C::l) w':=by
 obtain⟨a,c,m,h⟩:=St.oL.1 h;refine en func28 results28 ntmps28 ?_;refine Yr ?_;refine Y7 ?_;refine aD (qq (v:=.map (some m)) rfl (h.b 0 rfl) rfl) rfl ?_;obtain⟨ps,i1,i2,i3⟩:=(h.f 2).Ho;refine aD (QJ rfl i1) rfl ?_;rw[i3];refine Y4 ?_;exact qv (qk (bQ ⟨rfl,St.oL.2 ⟨a,c,m,h⟩⟩))
def JS:Pg:=⟨⟨0,0,0⟩,0,false,false,0⟩
theorem ez{k:bL}(hC:C.Ok)(h:St w0 (aK p C::l) w):bP prog 47 [.pz p,.agg k.C.toArray] w fun v w'=>v=.tuple [.agg ((C.bE.wY k).getD JS).C.toArray,.bool (C.bE.wY k).isSome].toArray∧St w0 (aK p C::l) w':=by
 obtain⟨a,c,m,h⟩:=St.oL.1 h;have hlen:=hC.len;refine en func47 results47 ntmps47 ?_;refine Y1 ?_;refine aF rfl (jk h (show _=Value.agg k.C.toArray from rfl) fun b3 w h=>?_);refine aF rfl (qn h fun b4 w h=>?_);replace h:St w0 (pT b4 JS::bS b3 k::iY p a c m C.bE::bC a c C.bE.pages::fT m C.rows::l) w:=h;refine Ya ?_;refine qi (jz none (fun w=>St w0 (pT b4 JS::bS b3 k::iY p a c m C.bE::bC a c C.bE.pages::fT m C.rows::l) w) O1 O1 h.drew fun w h=>?_);refine Y6 ?_;refine qj rfl rfl rfl rfl h (fun _ h=>qh rfl (qx (l:=C.bE.C a c) rfl rfl (qw (h.b 2 rfl) rfl))) ?_;refine qj rfl rfl rfl rfl h (fun _ h=>qh rfl (qx (l:=k.C) rfl rfl (qw (h.b 1 rfl) rfl))) ?_;refine Yn ?_;refine qd 5 rfl rfl rfl rfl (qg rfl (zv O0 (jL.more [_,_]) h) ?_);clear h;rintro _ w ⟨rfl,h⟩;refine⟨fun _=>h,?_⟩;refine AS ?_;refine qm ?_;refine vT ?_;refine yW ?_;cases hf:C.bE.find k with
 |none=>
  have hp:C.bE.wY k=none:=by unfold aT.wY;rw[hf];rfl
  refine Yy ?_;refine aD (qc (r:=JS.C) rfl) rfl ?_;refine aF rfl (qy (vs:=JS.C) 0 h rfl rfl rfl rfl rfl rfl rfl fun w h=>?_);refine Y3 ?_;refine qv (qk ?_);refine BO (v:=.agg JS.C.toArray) (js (by rfl) (qw (h.b 0 rfl) rfl)) ⟨by rw[hp];rfl,?_⟩
  exact St.oL.2 ⟨a,c,m,h.drop.drop⟩
 |some i=>
  obtain⟨pg,ES,_⟩:=aT.pQ hf;have hlt:=(Uc.1 ES).1;have hp:C.bE.wY k=some pg:=by unfold aT.wY;rw[hf];exact ES
  obtain⟨g,rfl⟩:=vm ES (h.f 3);refine qz (.bool false) (by congr 1) ?_
  refine Y8 ?_;refine EK ?_;refine aD (qq (v:=.slice (sQ g) C.bE.pages.length c) rfl (h.b 2 rfl) rfl) rfl ?_;refine Y0 ?_;refine aD (jj (j:=i) (o':=0+i*7) rfl rfl rfl hlt rfl) rfl ?_;refine aD (qx (l:=pg.C) rfl rfl (((h.f 3).bU).elem gb ES)) rfl ?_;refine aF rfl (qy (vs:=pg.C) 0 h rfl rfl rfl rfl rfl rfl rfl fun w h=>?_);refine Y3 ?_;refine qv (qk ?_);refine BO (v:=.agg pg.C.toArray) (js (by rfl) (qw (h.b 0 rfl) rfl)) ⟨by rw[hp];rfl,?_⟩
  exact St.oL.2 ⟨_,c,m,h.drop.drop⟩
theorem cr{k:bL}{n:Int}(hn:-1<=n∧n<=1)(hC:C.Ok)(h:St w0 (aK p C::l) w):bP prog 46 [.pz p,.agg k.C.toArray,.iz n] w fun v w'=>v=.bool (C.eN k n).2∧St w0 (aK p (C.eN k n).1::l) w':=by
 obtain⟨a,c,m,h⟩:=St.oL.1 h;have hlen:=hC.len;refine en func46 results46 ntmps46 ?_;refine Y1 ?_;refine aF rfl (jk h (show _=Value.agg k.C.toArray from rfl) fun b3 w h=>?_);replace h:St w0 (bS b3 k::iY p a c m C.bE::bC a c C.bE.pages::fT m C.rows::l) w:=h;refine Ya ?_;refine qf (Γ:=(Option Addr×Nat)×Nat) (fun x=>[(0,.pz p),(7,.pointer (some ⟨x.2,0,none⟩)),(8,.bool (C.bE.fS k n).2)]) (fun x w=>St w0 (dR x.2 x.1.1 x.1.2 (C.bE.fS k n).1::bC x.1.1 x.1.2 (C.bE.fS k n).1.pages::bS b3 k::iY p a c m C.bE::bC a c C.bE.pages::fT m C.rows::l) w) ?_ ?_
 ·refine vr [0,1,2,3,4,5,6,7,8,11,9,10,12] (some 11) (fun w=>St w0 (bS b3 k::iY p a c m C.bE::bC a c C.bE.pages::fT m C.rows::l) w) O1 O1 h.drew fun w h=>?_;refine Y6 ?_;refine qj rfl rfl rfl rfl h (fun _ h=>qh rfl (qx (l:=C.bE.C a c) rfl rfl (qw (h.b 1 rfl) rfl))) ?_;refine qj rfl rfl rfl rfl h (fun _ h=>qh rfl (qx (l:=k.C) rfl rfl (qw (h.b 0 rfl) rfl))) ?_;refine Yt ?_;refine Fa ?_;refine j5 6 10 rfl rfl rfl rfl rfl rfl ?_ ?_
  ·refine qg rfl (cd hC.pins hn O0 (jL.more [_]) h) ?_;clear h;rintro _ w ⟨a',c',rfl,h⟩;refine⟨fun _=>h.drop,?_⟩;have h1:=h;replace h:=h1.drop;refine xX ?_;refine Ys ?_;refine qd 10 rfl rfl rfl rfl ?_;refine qn h1 fun b7 w h1=>?_;have h:=h1.drop.drop;refine⟨fun _=>h,?_⟩;refine Yn ?_;refine jx 11 none rfl rfl rfl rfl ?_;refine(qy (vs:=(C.bE.fS k n).1.C a' c') 0 h1 rfl rfl rfl rfl rfl rfl rfl fun w h=>?_);refine jh h ?_;refine rK ?_;refine qm ⟨((a',c'),b7),kK,h⟩
  ·refine qn h fun b7 w h1=>?_;have h:=h1.drop;refine⟨fun _=>h,?_⟩;refine xO ?_;refine qd 6 rfl rfl rfl rfl ?_;refine qg rfl (cd hC.pins hn O0 (jL.more [_,_]) h1) ?_;clear h h1;rintro _ w ⟨a',c',rfl,h1⟩;have h:=h1.drop.drop;refine⟨fun _=>h,?_⟩;refine xX ?_;refine Yn ?_;refine jx 11 none rfl rfl rfl rfl ?_;refine(qy (vs:=(C.bE.fS k n).1.C a' c') 1 h1 rfl rfl rfl rfl rfl rfl rfl fun w h=>?_);refine jh h ?_;refine rK ?_;refine qm ⟨((a',c'),b7),kK,h.f 1⟩
 rintro⟨⟨a',c'⟩,b7⟩ w e h;refine E4 ?_;refine AP ?_;refine Y2 ?_;cases hp:(C.bE.fS k n).2 with
 |false=>
  have e1:C.eN k n=(C,false):=by unfold eC.eN;rw[hp];rfl
  refine xU ?_;refine EI ?_;refine Y3 ?_;refine qv (qk (bQ ⟨by rw[e1];rfl,?_⟩))
  rw[e1];exact St.oL.2 ⟨a,c,m,h.x [0,1,2]⟩
 |true=>
  have e1:C.eN k n=(⟨(C.bE.fS k n).1,C.rows⟩,true):=by unfold eC.eN;rw[hp];rfl
  refine vB ?_;refine Ci ?_;refine aD (qx (l:=(C.bE.fS k n).1.C a' c') rfl rfl (qw (h.b 0 rfl) rfl)) rfl ?_;refine Yk ?_;refine aF rfl (qy (vs:=(C.bE.fS k n).1.C a' c') 3 h rfl rfl rfl rfl rfl rfl rfl fun w h=>?_);refine Yl ?_;refine AP ?_;refine Y3 ?_;refine qv (qk (bQ ⟨by rw[e1];rfl,?_⟩))
  rw[e1];exact St.oL.2 ⟨a',c',m,(h.x [0,2,4]).f 1⟩
theorem TJ{k:bL}(hC:C.Ok)(h:St w0 (aK p C::l) w):bP prog 25 [.pz p,.agg k.C.toArray] w fun v w'=>v=.bool (C.eN k 1).2∧St w0 (aK p (C.eN k 1).1::l) w':=by
 refine en func25 results25 ntmps25 ?_;refine Y1 ?_;refine aF rfl (jk h (show _=Value.agg k.C.toArray from rfl) fun b3 w h=>?_);refine Ya ?_;refine Yq ?_;refine aD (qx (l:=k.C) rfl rfl (qw (h.b 0 rfl) rfl)) rfl ?_;refine aF rfl (qg rfl (cr (n:=1) O0 hC (h.f 1)) ?_);clear h;rintro _ w ⟨rfl,h⟩;refine Y3 ?_;exact qv (qk (bQ ⟨rfl,h.x [1]⟩))
theorem de{k:bL}(hC:C.Ok)(h:St w0 (aK p C::l) w):bP prog 26 [.pz p,.agg k.C.toArray] w fun v w'=>v=.bool (C.gD k).2∧St w0 (aK p (C.gD k).1::l) w':=by
 refine en func26 results26 ntmps26 ?_;refine Y1 ?_;refine aF rfl (jk h (show _=Value.agg k.C.toArray from rfl) fun b3 w h=>?_);replace h:St w0 (bS b3 k::aK p C::l) w:=h;refine Ya ?_;refine Yq ?_;refine aD (qx (l:=k.C) rfl rfl (qw (h.b 0 rfl) rfl)) rfl ?_;have ES:=ez (k:=k) hC (h.f 1);clear h;cases hp:C.bE.wY k with
 |none=>
  rw[hp] at ES;have e1:C.gD k=(C,false):=by unfold eC.gD;rw[hp]
  refine aF rfl (qg rfl ES ?_);rintro _ w ⟨rfl,h⟩;refine Ct ?_;refine aF rfl (qn h fun b5 w h=>?_);refine aF rfl (qy (vs:=JS.C) 0 h rfl rfl rfl rfl rfl rfl rfl fun w h=>?_);refine Ya ?_;refine EI ?_;refine DZ ?_;refine Y9 ?_;refine DZ ?_;refine xM ?_;refine qv (qk (bQ ⟨by rw[e1];rfl,?_⟩))
  rw[e1];exact h.x [0,2]
 |some pg=>
  rw[hp] at ES;refine aF rfl (qg rfl ES ?_);rintro _ w ⟨rfl,h⟩;refine Ct ?_;refine aF rfl (qn h fun b5 w h=>?_);refine aF rfl (qy (vs:=pg.C) 0 h rfl rfl rfl rfl rfl rfl rfl fun w h=>?_);replace h:St w0 (pT b5 pg::aK p C::bS b3 k::l) w:=h;refine Ya ?_;refine EI ?_;refine pV ?_;refine aD (qq (v:=.iz pg.pins) rfl (h.b 0 rfl) rfl) rfl ?_;refine Yf ?_;refine Cr ?_;by_cases hpos:0<pg.pins
  ·have e1:C.gD k=C.eN k (-1):=by unfold eC.gD;rw[hp];exact if_pos hpos
   refine qz (.bool true) O3 ?_;refine Ye ?_;refine DY ?_;refine aD (qx (l:=k.C) rfl rfl (qw (h.b 2 rfl) rfl)) rfl ?_;refine Yf ?_;refine aF rfl (qg rfl (cr (n:=-1) O0 hC (h.f 1)) ?_);clear h;rintro _ w ⟨rfl,h⟩;refine Dh ?_;refine qv (qk (bQ ⟨by rw[e1];rfl,?_⟩))
   rw[e1];exact h.x [1,2]
  ·have e1:C.gD k=(C,false):=by unfold eC.gD;rw[hp];exact if_neg hpos
   refine qz (.bool false) O4 ?_;refine Ye ?_;refine DZ ?_;refine xM ?_;refine qv (qk (bQ ⟨by rw[e1];rfl,?_⟩))
   rw[e1];exact h.x [0,2]
theorem ew(q:aT)(k:bL):(q.lets k).2.1.length<=1:=by
 have hr:∀q:aT,q.room.2.length<=1:=by
  intro q;unfold aT.room;split
  ·cases q.dS.2 <;> simp
  ·simp
 unfold aT.lets;split
 ·simp
 ·split
  ·simp
  ·exact hr _
theorem TK(k:bL):k.C.length=3:=rfl
theorem TL{k:bL}{sl:Option Addr}{c0:Nat}{L:List bZ}(hC:C.Ok)(hr:Reads w0 l 2 sl L.length (aW L))(hL:L.length<=1073741824)(h:St w0 (aK p C::l) w):
  bP prog 24 [.pz p,.agg k.C.toArray,.slice sl L.length c0] w fun v w'=>v=.bool (C.put k L).2∧St w0 (aK p (C.put k L).1::l) w':=by
 obtain⟨a,c,m,h⟩:=St.oL.1 h;have hlen:=hC.len;refine en func24 results24 ntmps24 ?_;refine Y1 ?_;refine aF rfl (jk h (show _=Value.agg k.C.toArray from rfl) fun b4 w h=>?_);replace h:St w0 (bS b4 k::iY p a c m C.bE::bC a c C.bE.pages::fT m C.rows::l) w:=h;refine Ya ?_
 refine qf (Γ:=((Option Addr×Nat)×Nat)×(Option Addr×Nat)) (fun x=>[(0,.pz p),(2,.slice sl L.length c0),(4,.pz b4),(7,.pointer (some ⟨x.1.2,0,none⟩)),(8,.slice x.2.1 (C.bE.lets k).2.1.length x.2.2),(9,.bool (C.bE.lets k).2.2)])
  (fun x w=>St w0 (dR x.1.2 x.1.1.1 x.1.1.2 (C.bE.lets k).1::bC x.1.1.1 x.1.1.2 (C.bE.lets k).1.pages::kG x.2.1 x.2.2 (C.bE.lets k).2.1::bS b4 k::iY p a c m C.bE::bC a c C.bE.pages::fT m C.rows::l) w) ?_ ?_
 ·refine vr [0,1,2,3,4,5,6,7,10,12,8,9,11,13] (some 11) (fun w=>St w0 (bS b4 k::iY p a c m C.bE::bC a c C.bE.pages::fT m C.rows::l) w) O1 O1 h.drew fun w h=>?_;refine Y6 ?_;refine qj rfl rfl rfl rfl h (fun _ h=>qh rfl (qx (l:=C.bE.C a c) rfl rfl (qw (h.b 1 rfl) rfl))) ?_;refine qj rfl rfl rfl rfl h (fun _ h=>qh rfl (qx (l:=k.C) rfl rfl (qw (h.b 0 rfl) rfl))) ?_;refine nJ ?_;refine Cu ?_;refine j5 5 10 rfl rfl rfl rfl rfl rfl ?_ ?_
  ·refine qg rfl (di hC.wf hlen hC.res (jL.more [_]) h) ?_;clear h;rintro _ w ⟨a',c',ao,co,rfl,h1⟩;have h:=h1.drop.drop;refine⟨fun _=>h,?_⟩;refine xX ?_;refine NA ?_;refine nJ ?_;refine qd 10 rfl rfl rfl rfl ?_;refine qn h1 fun b7 w h1=>?_;have h:=h1.drop.drop.drop;refine⟨fun _=>h,?_⟩;refine Ys ?_;refine jx 11 none rfl rfl rfl rfl ?_;refine(qy (vs:=(C.bE.lets k).1.C a' c') 0 h1 rfl rfl rfl rfl rfl rfl rfl fun w h=>?_);refine jh h ?_;refine zW ?_;refine rK ?_;refine qm ⟨(((a',c'),b7),(ao,co)),kX,h⟩
  ·refine qn h fun b7 w h1=>?_;have h:=h1.drop;refine⟨fun _=>h,?_⟩;refine nJ ?_;refine nJ ?_;refine qd 5 rfl rfl rfl rfl ?_;refine qg rfl (di hC.wf hlen hC.res (jL.more [_,_]) h1) ?_;clear h h1;rintro _ w ⟨a',c',ao,co,rfl,h1⟩;have h:=h1.drop.drop.drop;refine⟨fun _=>h,?_⟩;refine xX ?_;refine NA ?_;refine Ys ?_;refine jx 11 none rfl rfl rfl rfl ?_;refine(qy (vs:=(C.bE.lets k).1.C a' c') 2 h1 rfl rfl rfl rfl rfl rfl rfl fun w h=>?_);refine jh h ?_;refine zW ?_;refine rK ?_;refine qm ⟨(((a',c'),b7),(ao,co)),kX,h.f 2⟩
 rintro⟨⟨⟨a',c'⟩,b7⟩,ao,co⟩ w e h;replace h:St w0 (dR b7 a' c' (C.bE.lets k).1::bC a' c' (C.bE.lets k).1.pages::kG ao co (C.bE.lets k).2.1::bS b4 k::iY p a c m C.bE::bC a c C.bE.pages::fT m C.rows::l) w:=h;have hk1:=ew C.bE k;obtain⟨ks,hks⟩:∃ks,(C.bE.lets k).2.1=ks:=⟨_,rfl⟩;have A2:=@eC.put.eq_1 C k L;rw[hks] at hk1 h A2;refine vU ?_;refine Y2 ?_;cases hp:(C.bE.lets k).2.2 with
 |false=>
  rw[hp] at A2;have e1:C.put k L=(C,false):=A2;refine vB ?_;refine Y1 ?_;refine Y3 ?_;refine qv (qk (bQ ⟨by rw[e1];rfl,?_⟩))
  rw[e1];exact St.oL.2 ⟨a,c,m,h.x [0,1,2,3]⟩
 |true=>
  rw[hp] at A2;have e1:C.put k L=(⟨(C.bE.lets k).1,aX k L (eC.tP C.rows ks)⟩,true):=A2;clear A2;refine xU ?_;refine Yq ?_;refine aD (qx (l:=(C.bE.lets k).1.C a' c') rfl rfl (qw (h.b 0 rfl) rfl)) rfl ?_;refine Yk ?_;refine aF rfl (qy (vs:=(C.bE.lets k).1.C a' c') 4 h rfl rfl rfl rfl rfl rfl rfl fun w h=>?_);replace h:St w0 (dR b7 a' c' (C.bE.lets k).1::bC a' c' (C.bE.lets k).1.pages::kG ao co ks::bS b4 k::iY p a' c' m (C.bE.lets k).1::bC a c C.bE.pages::fT m C.rows::l) w:=h;replace h:St w0 (bC a' c' (C.bE.lets k).1.pages::kG ao co ks::bS b4 k::iY p a' c' m (C.bE.lets k).1::fT m C.rows::l) w:=h.x [0,5];refine Y2 ?_;refine qf (Γ:=Unit) (fun _=>[(0,.pz p),(2,.slice sl L.length c0),(4,.pz b4)]) (fun _ w=>St w0 (bC a' c' (C.bE.lets k).1.pages::kG ao co ks::bS b4 k::iY p a' c' m (C.bE.lets k).1::fT m (eC.tP C.rows ks)::l) w) ?_ ?_
  ·refine Y1 ?_;refine aD (nw (a:=ao) (m:=ks.length) (c:=co) (by rw[<- hks];rfl)) rfl ?_
   refine rJ ?_;refine DX ?_
   refine jy (Γ:=Nat) (fun i=>[(0,.pz p),(2,.slice sl L.length c0),(4,.pz b4),(28,.slice ao ks.length co),(29,.iz ks.length),(30,.iz i)])
    (fun i w=>i<=ks.length∧St w0 (bC a' c' (C.bE.lets k).1.pages::kG ao co ks::bS b4 k::iY p a' c' m (C.bE.lets k).1::fT m (eC.tP C.rows (ks.take i))::l) w) (fun i=>ks.length-i) 0 kX ⟨Uf _,h⟩ ?_
   clear h;rintro i w e ⟨hi,h⟩;refine E5 ?_;by_cases hlt:i<ks.length
   ·refine qz (.bool true) O3 ?_;refine Gj ?_;refine Yu ?_;have fM:ks[i]?=some ks[i]:=Ub hlt;generalize ks[i]=x at fM;have Pa:Reads w0 (bC a' c' (C.bE.lets k).1.pages::kG ao co ks::bS b4 k::iY p a' c' m (C.bE.lets k).1::fT m (eC.tP C.rows (ks.take i))::l) 3 ao ks.length (NL ks):=Reads.own.cons;have lC:=h;obtain⟨b2,o2,rfl⟩:=(Pa.at_ h).some O0
    have h:=lC;refine Ch ?_;refine Y1 ?_;refine aD (jj (j:=i) (o':=o2+i*3) rfl rfl rfl hlt rfl) rfl ?_;refine aD (qx (l:=x.C) rfl rfl ((Pa.at_ h).elem TK fM)) rfl ?_
    refine aF rfl (qn h fun b5 w h=>?_);refine aF rfl (qy (vs:=x.C) 0 h rfl rfl rfl rfl rfl rfl rfl fun w h=>?_);replace h:St w0 (bS b5 x::bC a' c' (C.bE.lets k).1.pages::kG (some ⟨b2,o2,none⟩) co ks::bS b4 k::iY p a' c' m (C.bE.lets k).1::fT m (eC.tP C.rows (ks.take i))::l) w:=h;refine Y2 ?_;refine jz (some 5) (fun w=>St w0 (bS b5 x::bC a' c' (C.bE.lets k).1.pages::kG (some ⟨b2,o2,none⟩) co ks::bS b4 k::iY p a' c' m (C.bE.lets k).1::fT m (eC.tP C.rows (ks.take i))::l) w) O1 O1 h.drew fun w h=>?_;refine Y6 ?_;refine qj rfl rfl rfl rfl h (fun _ h=>qh rfl (qq (v:=.map (some m)) rfl (h.b 4 rfl) rfl)) ?_;refine qj rfl rfl rfl rfl h (fun _ h=>qh rfl (qx (l:=x.C) rfl rfl (qw (h.b 0 rfl) rfl))) ?_;refine Ym ?_;refine jv 5 rfl rfl rfl ?_;refine JJ (k:=x) (h.f 5) rfl rfl fun w h=>?_;refine Yw ?_;refine qz (.iz (i+1:Nat)) C8 ?_;refine Y0 ?_;refine qv ⟨i+1,kX,⟨hlt,?_⟩,cI⟩
    have e2:eC.tP C.rows (ks.take (i+1))=bY x (eC.tP C.rows (ks.take i)):=by
     rw[Vk,fM,eC.tP,List.foldl_append];rfl
    rw[e2];exact(h.x [1]).o [1,2,3,4,0]
   ·refine qz (.bool false) O4 ?_;refine qv (qi (qt rfl (ju ?_)));obtain rfl:i=ks.length:=by omega
    rw[Xa] at h;refine Eq.mpr (if_pos rfl) ⟨(),kK,h⟩
  rintro-w e h;refine qi (jz (some 7) (fun w=>St w0 (bC a' c' (C.bE.lets k).1.pages::kG ao co ks::bS b4 k::iY p a' c' m (C.bE.lets k).1::fT m (eC.tP C.rows ks)::l) w) O1 O1 h.drew fun w h=>?_);refine Y6 ?_;refine qj rfl rfl rfl rfl h (fun _ h=>qh rfl (qq (v:=.map (some m)) rfl (h.b 3 rfl) rfl)) ?_;refine qj rfl rfl rfl rfl h (fun _ h=>qh rfl (qx (l:=k.C) rfl rfl (qw (h.b 2 rfl) rfl))) ?_;refine AR ?_;refine Yn ?_;refine qd 6 rfl rfl rfl rfl ?_;refine qg rfl (uy h (hr.more [_,_,_,_,_]) hL) ?_;clear h;rintro _ w ⟨a9,c9,rfl,h1⟩;have h:=h1.drop;refine⟨fun _=>h,?_⟩;refine Ym ?_;refine jv 7 rfl rfl rfl ?_;refine JI (vf:=Eh) (R:=Ei) (k:=k) (u:=(a9,c9)) (v:=L) (h1.o [0,5]) rfl rfl rfl fun w h=>?_;clear h1;refine Y1 ?_;refine Y3 ?_;refine qv (qk (bQ ⟨by rw[e1];rfl,?_⟩))
  rw[e1];exact St.oL.2 ⟨a',c',m,(h.x [2,3]).o [2,1,0]⟩
theorem TM{k:bL}(hC:C.Ok)(h:St w0 (aK p C::l) w):
  bP prog 137 [.pz p,.agg k.C.toArray] w fun v w'=>∃a' c',v=.tuple [.slice a' ((C.get k).2.getD []).length c',.bool (C.get k).2.isSome].toArray∧St w0 (aB a' c' ((C.get k).2.getD [])::aK p (C.get k).1::l) w':=by
 obtain⟨a,c,m,h⟩:=St.oL.1 h;have hlen:=hC.len;refine en func137 results137 ntmps137 ?_;refine Y1 ?_;refine aF rfl (jk h (show _=Value.agg k.C.toArray from rfl) fun b3 w h=>?_);replace h:St w0 (bS b3 k::iY p a c m C.bE::bC a c C.bE.pages::fT m C.rows::l) w:=h;refine Yv ?_;refine qf (Γ:=(Option Addr×Nat)×Nat) (fun x=>[(0,.pz p),(3,.pz b3),(6,.pointer (some ⟨x.2,0,none⟩)),(7,.bool (C.bE.cH k).2)]) (fun x w=>St w0 (dR x.2 x.1.1 x.1.2 (C.bE.cH k).1::bC x.1.1 x.1.2 (C.bE.cH k).1.pages::bS b3 k::iY p a c m C.bE::bC a c C.bE.pages::fT m C.rows::l) w) ?_ ?_
 ·refine vr [0,1,2,3,4,5,6,7,10,8,9,11] (some 10) (fun w=>St w0 (bS b3 k::iY p a c m C.bE::bC a c C.bE.pages::fT m C.rows::l) w) O1 O1 h.drew fun w h=>?_;refine Y6 ?_;refine qj rfl rfl rfl rfl h (fun _ h=>qh rfl (qx (l:=C.bE.C a c) rfl rfl (qw (h.b 1 rfl) rfl))) ?_;refine qj rfl rfl rfl rfl h (fun _ h=>qh rfl (qx (l:=k.C) rfl rfl (qw (h.b 0 rfl) rfl))) ?_;refine Fa ?_;refine j5 5 9 rfl rfl rfl rfl rfl rfl ?_ ?_
  ·refine qg rfl (zc O0 (jL.more [_]) h) ?_;clear h;rintro _ w ⟨a',c',rfl,h1⟩;have h:=h1.drop;refine⟨fun _=>h,?_⟩;refine xX ?_;refine Ys ?_;refine qd 9 rfl rfl rfl rfl ?_;refine qn h1 fun b7 w h1=>?_;have h:=h1.drop.drop;refine⟨fun _=>h,?_⟩;refine Yn ?_;refine jx 10 none rfl rfl rfl rfl ?_;refine(qy (vs:=(C.bE.cH k).1.C a' c') 0 h1 rfl rfl rfl rfl rfl rfl rfl fun w h=>?_);refine jh h ?_;refine rK ?_;refine qm ⟨((a',c'),b7),iA,h⟩
  ·refine qn h fun b7 w h1=>?_;have h:=h1.drop;refine⟨fun _=>h,?_⟩;refine xO ?_;refine qd 5 rfl rfl rfl rfl ?_;refine qg rfl (zc O0 (jL.more [_,_]) h1) ?_;clear h h1;rintro _ w ⟨a',c',rfl,h1⟩;have h:=h1.drop.drop;refine⟨fun _=>h,?_⟩;refine xX ?_;refine Yn ?_;refine jx 10 none rfl rfl rfl rfl ?_;refine(qy (vs:=(C.bE.cH k).1.C a' c') 1 h1 rfl rfl rfl rfl rfl rfl rfl fun w h=>?_);refine jh h ?_;refine rK ?_;refine qm ⟨((a',c'),b7),iA,h.f 1⟩
 rintro⟨⟨a',c'⟩,b7⟩ w e h;replace h:St w0 (dR b7 a' c' (C.bE.cH k).1::bC a' c' (C.bE.cH k).1.pages::bS b3 k::iY p a c m C.bE::bC a c C.bE.pages::fT m C.rows::l) w:=h;refine vU ?_;refine Y2 ?_;cases hp:(C.bE.cH k).2 with
 |false=>
  have e1:C.get k=(C,none):=by unfold eC.get;rw[hp];rfl
  refine vB ?_;refine xV ?_;refine Y3 ?_;rw[e1];refine qv (qk (jQ ⟨none,0,rfl,?_⟩));exact St.aZ 57 2 (St.oL.2 ⟨a,c,m,h.x [0,1,2]⟩)
 |true=>
  have e1:C.get k=(⟨(C.bE.cH k).1,C.rows⟩,some ((aH k C.rows).getD [])):=by unfold eC.get;rw[hp];rfl
  rw[e1];refine xU ?_;refine Yq ?_;refine aD (qx (l:=(C.bE.cH k).1.C a' c') rfl rfl (qw (h.b 0 rfl) rfl)) rfl ?_;refine Yk ?_;refine aF rfl (qy (vs:=(C.bE.cH k).1.C a' c') 3 h rfl rfl rfl rfl rfl rfl rfl fun w h=>?_);replace h:St w0 (dR b7 a' c' (C.bE.cH k).1::bC a' c' (C.bE.cH k).1.pages::bS b3 k::iY p a' c' m (C.bE.cH k).1::bC a c C.bE.pages::fT m C.rows::l) w:=h;replace h:St w0 (bC a' c' (C.bE.cH k).1.pages::bS b3 k::iY p a' c' m (C.bE.cH k).1::fT m C.rows::l) w:=h.x [0,4];refine Y2 ?_;cases hg:aH k C.rows with
  |none=>
   refine qi (jz none (fun w=>St w0 (bC a' c' (C.bE.cH k).1.pages::bS b3 k::iY p a' c' m (C.bE.cH k).1::fT m C.rows::l) w) O1 O1 h.drew fun w h=>?_);refine Y6 ?_;refine qj rfl rfl rfl rfl h (fun _ h=>qh rfl (qq (v:=.map (some m)) rfl (h.b 2 rfl) rfl)) ?_;refine qj rfl rfl rfl rfl h (fun _ h=>qh rfl (qx (l:=k.C) rfl rfl (qw (h.b 1 rfl) rfl))) ?_;refine qj (v:=.slice none 0 0) rfl rfl rfl rfl h (fun _ h=>(h.f 3).Eg hg fun ps i1 i2=>qh rfl (q9 (sn (k:=k) rfl rfl i1) (by rw[i2];rfl))) ?_
   refine Ys ?_;refine qd 6 rfl rfl rfl rfl ?_;refine qg rfl (uy (L:=[]) h Reads.nil O2) ?_;clear h;rintro _ w ⟨a9,c9,rfl,h1⟩;have h:=h1.drop;refine⟨fun _=>h,?_⟩;refine zW ?_;refine rK ?_;refine qm (qk (jQ ⟨a9,c9,rfl,?_⟩));exact((St.oL (C:=⟨(C.bE.cH k).1,C.rows⟩)).2 ⟨a',c',m,(h1.x [2]).o [2,1,3,0]⟩).f 1
  |some L=>
   have hL:=hC.rows k L hg;obtain⟨y,mm,e2,e3,h⟩:=(h.f 3).Ms hg;have e4:=Tt (vf:=Eh) e3;refine qi (jz none (fun w=>St w0 (Ei y L::fY (fun k:bL=>.agg k.C.toArray) m (mm.map fun p=>(p.1,Eh p.2))::big (fun p=>Ei p.2.1 p.2.2) (bY k mm)::bC a' c' (C.bE.cH k).1.pages::bS b3 k::iY p a' c' m (C.bE.cH k).1::l) w) O1 O1 h.drew fun w h=>?_);refine Y6 ?_;refine qj rfl rfl rfl rfl h (fun _ h=>qh rfl (qq (v:=.map (some m)) rfl (h.b 5 rfl) rfl)) ?_;refine qj rfl rfl rfl rfl h (fun _ h=>qh rfl (qx (l:=k.C) rfl rfl (qw (h.b 4 rfl) rfl))) ?_;refine qj (v:=.slice y.1 L.length y.2) rfl rfl rfl rfl h (fun _ h=>qh rfl (q9 (sn (k:=k) rfl rfl (h.f 1).Bn) (by rw[e4];rfl))) ?_
   refine Ys ?_;refine qd 6 rfl rfl rfl rfl ?_;refine qg rfl (uy (L:=L) h Reads.own hL) ?_;clear h;rintro _ w ⟨a9,c9,rfl,h1⟩;have h:=h1.drop;refine⟨fun _=>h,?_⟩;refine zW ?_;refine rK ?_;refine qm (qk (jQ ⟨a9,c9,rfl,?_⟩));have h2:=St.Mt (vf:=Eh) (R:=Ei) e3 (h1.o [1,2,3]);rw[e2] at h2;exact((St.oL (C:=⟨(C.bE.cH k).1,C.rows⟩)).2 ⟨a',c',m,(h2.x [3]).o [3,2,0,1]⟩).f 1
end
end
end Go.Proofs.YtngdfdangkdgcaaGreatDoor
