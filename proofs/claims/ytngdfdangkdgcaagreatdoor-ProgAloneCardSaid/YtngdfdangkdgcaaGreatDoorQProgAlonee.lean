/- What the proof of ProgAlone needs, part 5: plain lemmas, and what each function does. -/
import Derived.Test.YtngdfdangkdgcaaGreatDoorQProgAloned
set_option linter.unusedVariables false
set_option linter.unusedSimpArgs false
set_option linter.unnecessarySimpa false
set_option maxRecDepth 100000
set_option maxHeartbeats 4000000
namespace Go.Hw
section
theorem fg{α:Type}{cur vs:List α}{o N:Nat}(h:o+vs.length<=N)(hc:N<=cur.length):
  (cur.take o++vs++cur.drop (o+vs.length)).take N=(cur.take N).take o++vs++(cur.take N).drop (o+vs.length):=by
 have h1:(cur.take o).length=o:=by rw[Ul];omega
 rw[Zt,Ua,h1,Uu (by rw[Ua,h1];omega),Kf,Vn O0,List.drop_take]
theorem yw{α:Type}{f:α->List Value}{sz:Nat}(hf:∀x,(f x).length=sz)(y:α):∀(L:List α) (k:Nat),k<L.length->(L.flatMap f).take (k*sz)++f y++(L.flatMap f).drop (k*sz+(f y).length)=(L.set k y).flatMap f
 |[],k,h=>by simp at h
 |a::L,0,h=>by
  rw[Nat.zero_mul,Xn,Us,Uz,Vh,Ui,Ui,hf y,<- hf a,Kg]
 |a::L,k+1,h=>by
  rw[Vs,Ui,Ui,<- yw hf y L k Co];have e1:(k+1)*sz=(f a).length+k*sz:=by rw[hf,Vj];omega
  rw[e1,List.take_length_add_append,Nat.add_assoc,List.drop_length_add_append];simp only[Uo]
section
variable{P:Program}{e:Env}{w w0:World}{K:Env->World->Prop}{l:List aC}
variable{ty:TypeId}{pos:String}{af:Array Edge}{g:Option (Nat×Bool)}
theorem em{t T:TypeId}{z:List Value}{bytes:Nat}[hi:cM P t z true bytes]{x y:Operand}{sz m c b o:Nat}{xs vs:List Value}
  (h:St w0 (eW T sz (sQ b) m c xs::l) w) (hx:ev e x=.pointer (some ⟨b,o,none⟩)) (hy:ev e y=.agg vs.toArray) (hs:Nat.beq vs.length z.length=true) (ho:o+vs.length<=m*sz) (h1:vs.all (·.oneCell')=true)
  (k:∀w',St w0 (eW T sz (sQ b) m c (xs.take o++vs++xs.drop (o+vs.length))::l) w'->K e w'):Ex P ⟨none,.store t x y,ty,pos,af,g⟩ e w K:=by
 obtain⟨h2,h3,⟨h4,_⟩|⟨g,cur,h4,h5,h6,h7⟩⟩:=h.bT
 ·cases h4
 ·cases h4
  have hle:m*sz<=c*sz:=Uv _ h3;refine qy 0 h7 hx hy rfl hs (by rw[Nat.ble_eq];omega) rfl h1 fun w' h=>k w' ?_
  simp only[Vh] at h;refine St.kL h ?_ (by rw[fg ho O0,h6]) h3
  rw[Ua,Ua,Ul,Um];omega
end
end
end Go.Hw
namespace Go.Proofs.YtngdfdangkdgcaaGreatDoor
open Go.Hw _root_.Go.Proofs.Tryz
section
structure Q4 where
 a4:Option Addr
 c4:Nat
 a5:Option Addr
 c5:Nat
abbrev aI(a:Option Addr)(c:Nat)(Ps:List gP):aC:=eW 168 5 a Ps.length c (dP Ps)
def FH(e:iU×Q4):List Value:=e.1.s.cells e.2.a4 e.2.c4 e.2.a5 e.2.c5++[.bool e.1.taken,.iz e.1.who]
theorem gN(e:iU×Q4):(FH e).length=10:=rfl
def pU(e:iU×Q4):aC:=all [aB e.2.a4 e.2.c4 e.1.s.aQ,aI e.2.a5 e.2.c5 e.1.s.chunks]
abbrev uH(d:Nat)(E:List (iU×Q4)):aC:=pt d (.cells (E.flatMap FH).toArray 129 (0,0))
def bF(d:Nat)(D:List iU):aC:=ex fun E:List (iU×Q4)=>all [lift (E.map (·.1)=D∧E.length=16),uH d E,all (E.map pU)]
section
variable{w0 w:World}{l:List aC}{d:Nat}{D:List iU}{E:List (iU×Q4)}{k:Nat}{e e':iU×Q4}
theorem St.dir:St w0 (bF d D::l) w↔∃E:List (iU×Q4),(E.map (·.1)=D∧E.length=16)∧St w0 (uH d E::all (E.map pU)::l) w:=by
 unfold bF;rw[St.ex];constructor
 ·rintro⟨E,h⟩;obtain⟨hl,h⟩:=St.lift.1 h.join;exact⟨E,hl,h⟩
 ·rintro⟨E,hl,h⟩;exact⟨E,St.fold [_,_,_] (St.lift.2 ⟨hl,h⟩)⟩
theorem vL(he:E[k]?=some e):all (E.map pU)=star (pU e) (all ((E.map pU).eraseIdx k)):=by
 have h1:(E.map pU)[k]?=some (pU e):=by rw[Vb,he];rfl
 rw[<- yo k,ut k _ h1];rfl
theorem DD(he:E[k]?=some e):all ((E.set k e').map pU)=star (pU e') (all ((E.map pU).eraseIdx k)):=by
 have hk:=(Uc.1 he).1;have h1:(E.set k e')[k]?=some e':=by rw[Wp hk]
 rw[vL h1,Zm,List.eraseIdx_set_eq]
theorem DE(A B R T:aC):star (star (all [A,B]) R) T=star A (star B (star R T)):=by
 show star (star (star A (star B emp)) R) T=_;rw[jl,jl,jl,kr]
theorem St.place(he:E[k]?=some e)(h:St w0 (all (E.map pU)::l) w):St w0 (aB e.2.a4 e.2.c4 e.1.s.aQ::aI e.2.a5 e.2.c5 e.1.s.chunks::all ((E.map pU).eraseIdx k)::l) w:=by
 refine h.eH ?_;rw[jn,vL he];exact DE _ _ _ _
theorem St.Ht(he:E[k]?=some e)(h:St w0 (aB e'.2.a4 e'.2.c4 e'.1.s.aQ::aI e'.2.a5 e'.2.c5 e'.1.s.chunks::all ((E.map pU).eraseIdx k)::l) w):St w0 (all ((E.set k e').map pU)::l) w:=by
 refine h.eH ?_;rw[jn (all ((E.set k e').map pU)),DD he];exact(DE _ _ _ _).symm
theorem St.JT(he:E[k]?=some e)(h:St w0 (aB e.2.a4 e.2.c4 e.1.s.aQ::aI e.2.a5 e.2.c5 e.1.s.chunks::all ((E.map pU).eraseIdx k)::l) w):St w0 (all (E.map pU)::l) w:=by
 refine h.eH ?_;rw[jn (all (E.map pU)),vL he];exact(DE _ _ _ _).symm
theorem FI(he:E[k]?=some e)(h:pU e'=pU e):all ((E.set k e').map pU)=all (E.map pU):=by rw[DD he,vL he,h]
def NQ:iU×Q4:=(⟨aG.zero,false,0⟩,⟨none,0,none,0⟩)
theorem St.Im:∀(n:Nat),St w0 l w->St w0 (all ((List.replicate n NQ).map pU)::l) w
 |0,h=>St.fold [] h
 |n+1,h=>((St.Im n h).aZ 168 5).aZ 57 2 |>.eH (by
   rw[Zp,Uy];show _=star (star (pU NQ) _) _
   exact(DE _ _ _ _).symm)
theorem d7{α:Type}{f:α->List Value}{sz b:Nat}{T:TypeId}{fr:Nat×Nat}{E:List α}{x:α}(hf:∀x,(f x).length=sz)(hb:w.heap[b]?=some (.cells (E.flatMap f).toArray T fr))(hk:E[k]?=some x):At w b (k*sz) (f x):=
 fun j v hj=>yi hb (yu hf E k x hk j v hj)
theorem At.left{b o:Nat}{A B:List Value}(h:At w b o (A++B)):At w b o A:=fun j v hj=>h j v (by rw[Wh (Uc.1 hj).1];exact hj)
theorem tx{id:Int}(hE:E.map (·.1)=D∧E.length=16):(∃(k:Nat) (e:iU×Q4),id=(k:Int)∧k<16∧E[k]?=some e∧dM.at_ D id=some e.1)∨((id<0∨id ≥ 16)∧dM.at_ D id=none):=by
 by_cases h:0<=id∧id<16
 ·have hlt:id.toNat<E.length:=by omega
  obtain⟨e,he⟩:∃e,E[id.toNat]?=some e:=⟨_,Ub hlt⟩;refine .inl ⟨id.toNat,e,cI,cI,he,?_⟩;obtain⟨rfl,_⟩:=hE;unfold dM.at_
  rw[if_pos h,Vb,he];rfl
 ·refine .inr ⟨cI,?_⟩;unfold dM.at_
  rw[if_neg h]
end
end
section
def hY(any:Bool)(last:Int)(a:Option Addr)(n c:Nat):List Value:=[.bool any,.iz last,.slice a n c]
abbrev sF:List Value:=hY false 0 none 0 0
section
variable{w0 w:World}{l:List aC}{d:Nat}{D:List iU}
theorem xo{a:Option Addr}{c n:Nat}{xs:List Value}(h:St w0 (eW 168 5 a n c xs::l) w):bP prog 95 [.slice a n c] w fun v w'=>v=.slice a n n∧St w0 (eW 168 5 a n n xs::l) w':=by
 have hc:=h.bT.2.1;refine en func95 results95 ntmps95 ?_;refine Bl ?_;refine Yd ?_;refine sV ?_;refine sV ?_;refine aD (xx (h:=n) (h':=n) rfl rfl rfl (Ug _) hc) rfl ?_;refine Yz ?_;exact qk (bQ ⟨rfl,h.mY⟩)
theorem zf{any:Bool}{last:Int}{a4:Option Addr}{c4:Nat}{L:List bZ}(hn:L.length<=1073741824)(hr:Reads w0 l 2 a4 L.length (aW L))(h:St w0 l w):
  bP prog 125 [.agg (hY any last a4 L.length c4).toArray] w fun v w'=>∃a,v=.agg (hY any last a L.length L.length).toArray∧St w0 (aB a L.length L::l) w':=by
 refine en func125 results125 ntmps125 ?_;refine Y1 ?_;refine aF rfl (jk h (show _=Value.agg (hY any last a4 L.length c4).toArray from rfl) fun b1 w h=>?_);refine aF rfl (qn h fun b2 w h=>?_);replace h:St w0 (pt b2 (.cells sF.toArray 82 (0,0))::pt b1 (.cells (hY any last a4 L.length c4).toArray 82 (0,0))::l) w:=h;refine Cv ?_;refine aD (qq (v:=.slice a4 L.length c4) rfl (h.b 1 rfl) rfl) rfl ?_;refine aF rfl (qg rfl (uk (n:=L.length) h (fun w' h'=>(hr.more [_,_]).rd w' h') (jm _) O0) ?_);clear h;rintro _ w ⟨a,c,rfl,_,h⟩;refine aF rfl (qg rfl (mx h) ?_);clear h;rintro _ w ⟨rfl,h⟩;refine Yc ?_;refine aF rfl (qb 2 h rfl (show _=Value.slice a L.length L.length from rfl) rfl rfl rfl rfl fun w h=>?_);replace h:St w0 (aB a L.length L::pt b2 (.cells sF.toArray 82 (0,0))::pt b1 (.cells (hY any last a L.length L.length).toArray 82 (0,0))::l) w:=h;refine Yl ?_;refine aD (qx (l:=hY any last a L.length L.length) rfl rfl (qw (h.b 2 rfl) rfl)) rfl ?_;refine aF rfl (qy (vs:=hY any last a L.length L.length) 1 h rfl rfl rfl rfl rfl rfl rfl fun w h=>?_);replace h:St w0 (aB a L.length L::pt b2 (.cells (hY any last a L.length L.length).toArray 82 (0,0))::pt b1 (.cells (hY any last a L.length L.length).toArray 82 (0,0))::l) w:=h;exact qv (qk (uQ (l:=hY any last a L.length L.length) rfl rfl (qw (h.b 1 rfl) rfl) ⟨a,rfl,h.x [1,2]⟩))
theorem zo{s:aG}{a4 a5:Option Addr}{c4 c5:Nat}(AZ:s.aQ.length<=1073741824)(Dy:s.chunks.length<=1073741824)(CE:Reads w0 l 2 a4 s.aQ.length (aW s.aQ))(Gr:Reads w0 l 5 a5 s.chunks.length (dP s.chunks))(h:St w0 l w):
  bP prog 94 [.agg (s.cells a4 c4 a5 c5).toArray] w fun v w'=>∃a b,v=.agg (s.cells a s.aQ.length b s.chunks.length).toArray∧St w0 (aB a s.aQ.length s.aQ::aI b s.chunks.length s.chunks::l) w':=by
 refine en func94 results94 ntmps94 ?_;refine Y1 ?_;refine aF rfl (jk h (show _=Value.agg (s.cells a4 c4 a5 c5).toArray from rfl) fun b1 w h=>?_);refine aF rfl (qn h fun b2 w h=>?_);replace h:St w0 (pt b2 (.cells (aG.zero.cells none 0 none 0).toArray 85 (0,0))::pt b1 (.cells (s.cells a4 c4 a5 c5).toArray 85 (0,0))::l) w:=h;refine Cv ?_;refine aD (qx (l:=hY s.any s.last a4 s.aQ.length c4) rfl rfl (qw (h.b 1 rfl) rfl)) rfl ?_;refine aF rfl (qg rfl (zf AZ (CE.more [_,_]) h) ?_);clear h;rintro _ w ⟨a,rfl,h⟩;refine Yc ?_;refine aF rfl (qy (vs:=hY s.any s.last a s.aQ.length s.aQ.length) 2 h rfl rfl rfl rfl rfl rfl rfl fun w h=>?_);replace h:St w0 (aB a s.aQ.length s.aQ::pt b2 (.cells (aG.zero.cells none 0 none 0).toArray 85 (0,0))::pt b1 (.cells (s.cells a s.aQ.length a5 c5).toArray 85 (0,0))::l) w:=h;refine Cv ?_;refine aD (qq (v:=.slice a5 s.chunks.length c5) rfl (h.b 2 rfl) rfl) rfl ?_;refine aF rfl (qg rfl (wj (n:=s.chunks.length) h (fun w' h'=>(Gr.more [_,_,_]).rd w' h') (uu _) O0) ?_);clear h;rintro _ w ⟨b,c,rfl,_,h⟩;refine aF rfl (qg rfl (xo h) ?_);clear h;rintro _ w ⟨rfl,h⟩;refine Yc ?_;refine aF rfl (qb 3 h rfl (show _=Value.slice b s.chunks.length s.chunks.length from rfl) rfl rfl rfl rfl fun w h=>?_);replace h:St w0 (aI b s.chunks.length s.chunks::aB a s.aQ.length s.aQ::pt b2 (.cells (aG.zero.cells none 0 none 0).toArray 85 (0,0))::pt b1 (.cells (s.cells a s.aQ.length b s.chunks.length).toArray 85 (0,0))::l) w:=h;refine Yl ?_;refine aD (qx (l:=s.cells a s.aQ.length b s.chunks.length) rfl rfl (qw (h.b 3 rfl) rfl)) rfl ?_
 refine aF rfl (qy (vs:=s.cells a s.aQ.length b s.chunks.length) 2 h rfl rfl rfl rfl rfl rfl rfl fun w h=>?_);replace h:St w0 (aI b s.chunks.length s.chunks::aB a s.aQ.length s.aQ::pt b2 (.cells (s.cells a s.aQ.length b s.chunks.length).toArray 85 (0,0))::pt b1 (.cells (s.cells a s.aQ.length b s.chunks.length).toArray 85 (0,0))::l) w:=h;exact qv (qk (uQ (l:=s.cells a s.aQ.length b s.chunks.length) rfl rfl (qw (h.b 2 rfl) rfl) ⟨a,b,rfl,(h.x [2,3]).f 1⟩))
instance Lh:eV prog 127 (.array 16 126):=⟨underlying127⟩
theorem nt(id:Int)(h:St w0 l w):bP prog 93 [.pz d,.iz id] w fun v w'=>v=.pointer (if 0<=id∧id<16 then some ⟨d,id.toNat*10,none⟩ else none)∧St w0 l w':=by
 refine en func93 results93 ntmps93 ?_;refine Y1 ?_;refine QH ?_;refine Cl ?_;by_cases h0:id<0
 ·refine qz (.bool true) O3 ?_;refine K5 ?_;refine Yy ?_;refine tW ?_;exact qv (qk (bQ ⟨by rw[if_neg O0];rfl,h⟩))
 refine qz (.bool false) O4 ?_;refine AU ?_;refine tX ?_;by_cases h1:id ≥ 16
 ·refine qz (.bool true) O3 ?_;refine Y9 ?_;refine Yy ?_;refine tW ?_;exact qv (qk (bQ ⟨by rw[if_neg O0];rfl,h⟩))
 refine qz (.bool false) O4 ?_;refine Y9 ?_;refine Y8 ?_;refine GV ?_;refine Yk ?_;refine aD (yz (j:=id.toNat) (o':=id.toNat*10) rfl rfl O0 O0 (Uz _)) rfl ?_;refine tW ?_;exact qv (qk (bQ ⟨by rw[if_pos O0];rfl,h⟩))
theorem mw(id:Int)(hsz:∀p∈D,p.s.aQ.length<=1073741824∧p.s.chunks.length<=1073741824)(h:St w0 (bF d D::l) w):
  bP prog 61 [.pz d,.iz id] w fun v w'=>match dM.look D id with
   |some s=>∃a b,v=.tuple [.agg (s.cells a s.aQ.length b s.chunks.length).toArray,.bool true].toArray∧St w0 (aB a s.aQ.length s.aQ::aI b s.chunks.length s.chunks::bF d D::l) w'
   |none=>v=.tuple [.agg (aG.zero.cells none 0 none 0).toArray,.bool false].toArray∧St w0 (bF d D::l) w':=by
 refine en func61 results61 ntmps61 ?_;refine Y1 ?_;refine aF rfl (qn h fun b1 w h=>?_);replace h:St w0 (pt b1 (.cells (aG.zero.cells none 0 none 0).toArray 85 (0,0))::bF d D::l) w:=h;refine Ya ?_;refine GV ?_;refine aF rfl (qg rfl (nt (d:=d) id h) ?_);clear h;rintro _ w ⟨rfl,h⟩;obtain⟨E,hE,h⟩:=St.dir.1 (h.f 1);rcases tx (id:=id) hE with⟨k,e,rfl,hk,CI,gO⟩|⟨hid,gO⟩
 ·rw[if_pos O0];have JU:((k:Nat):Int).toNat=k:=by omega
  rw[JU];have hrow:=d7 gN (h.b 0 rfl) CI;have PJ:=hrow 3 (.iz e.1.s.cW) rfl;refine D0 ?_;refine Cm ?_;refine Oo ?_;refine aD (qr (v:=.iz e.1.s.cW) rfl PJ) rfl ?_;refine Yf ?_;refine aD (pj rfl rfl O2) rfl ?_;refine EH ?_;by_cases hv:e.1.s.cW.tmod 2=1
  ·refine qz (.bool true) (by congr 1;rw[beq_iff_eq];exact hv) ?_
   refine Y9 ?_;have hl:dM.look D (k:Int)=none:=by unfold dM.look;rw[gO];exact if_pos hv
   rw[hl];refine Yy ?_;refine aD (qc (r:=aG.zero.cells none 0 none 0) rfl) rfl ?_;refine aF rfl (qy (vs:=aG.zero.cells none 0 none 0) 2 h rfl rfl rfl rfl rfl rfl rfl fun w h=>?_);refine Y3 ?_;exact qv (qk (uR (l:=aG.zero.cells none 0 none 0) rfl rfl (qw (h.b 2 rfl) rfl) ⟨rfl,(St.dir.2 ⟨E,hE,h.x [2]⟩)⟩))
  ·refine qz (.bool false) (by congr 1;rw[beq_eq_false_iff_ne];exact hv) ?_
   refine Y9 ?_;have hl:dM.look D (k:Int)=some e.1.s:=by unfold dM.look;rw[gO];exact if_neg hv
   have hmem:e.1∈D:=by rw[<- hE.1];exact List.mem_map_of_mem (Ue CI)
   obtain⟨n4,n5⟩:=hsz e.1 hmem;rw[hl];refine Y8 ?_;refine Y7 ?_;refine aD (qx (l:=e.1.s.cells e.2.a4 e.2.c4 e.2.a5 e.2.c5) rfl rfl (At.left (B:=[.bool e.1.taken,.iz e.1.who]) hrow)) rfl ?_;have h:=St.place CI (h.f 1);refine aF rfl (qg rfl (zo n4 n5 Reads.own (Reads.own.cons) h) ?_);clear h;rintro _ w ⟨a,b,rfl,h⟩;refine aF rfl (qy (vs:=e.1.s.cells a e.1.s.aQ.length b e.1.s.chunks.length) 6 h rfl rfl rfl rfl rfl rfl rfl fun w h=>?_);replace h:St w0 (aB a e.1.s.aQ.length e.1.s.aQ::aI b e.1.s.chunks.length e.1.s.chunks::aB e.2.a4 e.2.c4 e.1.s.aQ::aI e.2.a5 e.2.c5 e.1.s.chunks::all ((E.map pU).eraseIdx k)::uH d E::pt b1 (.cells (e.1.s.cells a e.1.s.aQ.length b e.1.s.chunks.length).toArray 85 (0,0))::l) w:=h;refine Y3 ?_;refine qv (qk (uR (l:=e.1.s.cells a e.1.s.aQ.length b e.1.s.chunks.length) rfl rfl (qw (h.b 6 rfl) rfl) ⟨a,b,rfl,?_⟩));exact(St.dir.2 ⟨E,hE,(St.JT CI ((h.x [6]).o [2,3,4])).o [3,0]⟩).o [1,2]
 ·rw[if_neg O0];refine D0 ?_;refine K8 ?_;have hl:dM.look D id=none:=by unfold dM.look;rw[gO]
  rw[hl];refine Yy ?_;refine aD (qc (r:=aG.zero.cells none 0 none 0) rfl) rfl ?_;refine aF rfl (qy (vs:=aG.zero.cells none 0 none 0) 2 h rfl rfl rfl rfl rfl rfl rfl fun w h=>?_);replace h:St w0 (uH d E::all (E.map pU)::pt b1 (.cells (aG.zero.cells none 0 none 0).toArray 85 (0,0))::l) w:=h;refine Y3 ?_;exact qv (qk (uR (l:=aG.zero.cells none 0 none 0) rfl rfl (qw (h.b 2 rfl) rfl) ⟨rfl,(St.dir.2 ⟨E,hE,h.x [2]⟩)⟩))
theorem mh(id who:Int)(h:St w0 (bF d D::l) w):
  bP prog 105 [.pz d,.iz id,.iz who] w fun v w'=>v=.bool (dM.take D id who).isSome∧St w0 (bF d ((dM.take D id who).getD D)::l) w':=by
 refine en func105 results105 ntmps105 ?_;refine pL ?_;refine GV ?_;refine aF rfl (qg rfl (nt (d:=d) id h) ?_);clear h;rintro _ w ⟨rfl,h⟩;obtain⟨E,hE,h⟩:=St.dir.1 h;rcases tx (id:=id) hE with⟨k,e,rfl,hk,CI,gO⟩|⟨hid,gO⟩
 ·rw[if_pos O0];have JU:((k:Nat):Int).toNat=k:=by omega
  rw[JU];have NR:=(Uc.1 CI).1;have hrow:=d7 gN (h.b 0 rfl) CI;refine D0 ?_;refine Cm ?_;refine aD (qr (v:=.bool e.1.taken) rfl (hrow 8 (.bool e.1.taken) rfl)) rfl ?_;cases ht:e.1.taken with
  |true=>
   refine Y9 ?_;have hl:dM.take D (k:Int) who=none:=by unfold dM.take;rw[gO];exact if_pos ht
   rw[hl];refine GS ?_;exact qv (qk (bQ ⟨rfl,St.dir.2 ⟨E,hE,h⟩⟩))
  |false=>
   refine Y9 ?_;have hl:dM.take D (k:Int) who=some (D.set k ⟨{ e.1.s with cW:=wI (e.1.s.cW+1) },true,who⟩):=by unfold dM.take;rw[gO,JU];dsimp only;rw[ht];rfl
   rw[hl];refine Y8 ?_;refine oE ?_;refine Y0 ?_;refine Yk ?_;refine aF rfl (qb 0 h rfl (show _=Value.bool true from rfl) rfl (by rw[Xu,eT gN];omega) rfl rfl fun w h=>?_)
   replace h:St w0 (pt d (.cells ((E.flatMap FH).set (k*10+8) (.bool true)).toArray 129 (0,0))::all (E.map pU)::l) w:=h;rw[uv gN E k e (⟨e.1.s,true,e.1.who⟩,e.2) 8 (.bool true) CI O2 rfl] at h;have hk1:(E.set k (⟨e.1.s,true,e.1.who⟩,e.2))[k]?=some (⟨e.1.s,true,e.1.who⟩,e.2):=Wp NR;refine Yk ?_;refine aF rfl (qb 0 h rfl (show _=Value.iz who from rfl) rfl (by rw[Xu,eT gN,Vd];omega) rfl rfl fun w h=>?_)
   replace h:St w0 (pt d (.cells (((E.set k (⟨e.1.s,true,e.1.who⟩,e.2)).flatMap FH).set (k*10+9) (.iz who)).toArray 129 (0,0))::all (E.map pU)::l) w:=h;rw[uv gN _ k _ (⟨e.1.s,true,who⟩,e.2) 9 (.iz who) hk1 O2 rfl,Kn] at h;have hk2:(E.set k (⟨e.1.s,true,who⟩,e.2))[k]?=some (⟨e.1.s,true,who⟩,e.2):=Wp NR;have hrow:=d7 gN (h.b 0 rfl) hk2;refine Y2 ?_;refine EK ?_;refine aD (qr (v:=.iz e.1.s.cW) rfl (hrow 3 (.iz e.1.s.cW) rfl)) rfl ?_;refine tC ?_;refine Yk ?_;refine Yc ?_;refine aF rfl (qb 0 h rfl (show _=Value.iz (wI (e.1.s.cW+1)) from rfl) rfl (by rw[Xu,eT gN,Vd];omega) rfl rfl fun w h=>?_)
   replace h:St w0 (pt d (.cells (((E.set k (⟨e.1.s,true,who⟩,e.2)).flatMap FH).set (k*10+3) (.iz (wI (e.1.s.cW+1)))).toArray 129 (0,0))::all (E.map pU)::l) w:=h;rw[uv gN _ k _ (⟨{ e.1.s with cW:=wI (e.1.s.cW+1) },true,who⟩,e.2) 3 (.iz (wI (e.1.s.cW+1))) hk2 O2 rfl,Kn] at h
   refine Yl ?_;refine Y3 ?_;refine qv (qk (bQ ⟨rfl,St.dir.2 ⟨E.set k (⟨{ e.1.s with cW:=wI (e.1.s.cW+1) },true,who⟩,e.2),⟨by rw[Zm,hE.1];rfl,by rw[Vd];exact hE.2⟩,h.eH ?_⟩⟩))
   rw[FI (e':=(⟨{ e.1.s with cW:=wI (e.1.s.cW+1) },true,who⟩,e.2)) CI rfl]
 ·rw[if_neg O0];refine D0 ?_;refine I4 ?_;have hl:dM.take D id who=none:=by unfold dM.take;rw[gO]
  rw[hl];refine GS ?_;exact qv (qk (bQ ⟨rfl,St.dir.2 ⟨E,hE,h⟩⟩))
theorem tw(id who:Int){s:aG}{a4 a5:Option Addr}{c4 c5:Nat}(AZ:s.aQ.length<=1073741824)(Dy:s.chunks.length<=1073741824)(CE:Reads w0 l 2 a4 s.aQ.length (aW s.aQ))(Gr:Reads w0 l 5 a5 s.chunks.length (dP s.chunks))(h:St w0 (bF d D::l) w):
  bP prog 106 [.pz d,.iz id,.iz who,.agg (s.cells a4 c4 a5 c5).toArray] w fun v w'=>v=.bool (dM.leave D id who s).isSome∧St w0 (bF d ((dM.leave D id who s).getD D)::l) w':=by
 refine en func106 results106 ntmps106 ?_;refine Y1 ?_;refine aF rfl (jk h (show _=Value.agg (s.cells a4 c4 a5 c5).toArray from rfl) fun b7 w h=>?_);replace h:St w0 (pt b7 (.cells (s.cells a4 c4 a5 c5).toArray 85 (0,0))::bF d D::l) w:=h;refine Ya ?_;refine GV ?_;refine aF rfl (qg rfl (nt (d:=d) id h) ?_);clear h;rintro _ w ⟨rfl,h⟩;obtain⟨E,hE,h⟩:=St.dir.1 (h.f 1);rcases tx (id:=id) hE with⟨k,e,rfl,hk,CI,gO⟩|⟨hid,gO⟩
 ·rw[if_pos O0];have JU:((k:Nat):Int).toNat=k:=by omega
  rw[JU];have NR:=(Uc.1 CI).1;have hrow:=d7 gN (h.b 0 rfl) CI;refine D0 ?_;refine Cm ?_;refine aD (qr (v:=.bool e.1.taken) rfl (hrow 8 (.bool e.1.taken) rfl)) rfl ?_;by_cases hok:e.1.taken=true∧e.1.who=who
  ·rw[hok.1];refine HQ ?_;refine Cm ?_;refine aD (qr (v:=.iz e.1.who) rfl (hrow 9 (.iz e.1.who) rfl)) rfl ?_;refine xW ?_;refine Bi ?_;refine qz (.bool false) (by congr 1;rw[bne_eq_false_iff_eq];exact hok.2) ?_
   refine Y9 ?_;have hl:dM.leave D (k:Int) who s=some (D.set k ⟨{ s with cW:=wI (e.1.s.cW+1) },false,0⟩):=by unfold dM.leave;rw[gO,JU];dsimp only;rw[if_pos hok]
   rw[hl];refine Y8 ?_;refine Y1 ?_;refine aD (qx (l:=s.cells a4 c4 a5 c5) rfl rfl (qw (h.b 2 rfl) rfl)) rfl ?_;refine aF rfl (qg rfl (zo AZ Dy (CE.more [_,_,_]) (Gr.more [_,_,_]) h) ?_);clear h;rintro _ w ⟨a,b,rfl,h⟩;refine aF rfl (qy (vs:=s.cells a s.aQ.length b s.chunks.length) 4 h rfl rfl rfl rfl rfl rfl rfl fun w h=>?_);replace h:St w0 (aB a s.aQ.length s.aQ::aI b s.chunks.length s.chunks::uH d E::all (E.map pU)::pt b7 (.cells (s.cells a s.aQ.length b s.chunks.length).toArray 85 (0,0))::l) w:=h;refine Yl ?_;have hrow:=d7 gN (h.b 2 rfl) CI;refine vE ?_;refine Yc ?_;refine aD (qr (v:=.iz e.1.s.cW) rfl (hrow 3 (.iz e.1.s.cW) rfl)) rfl ?_;refine tC ?_;refine Yc ?_;refine aF rfl (qb 4 h rfl (show _=Value.iz (wI (e.1.s.cW+1)) from rfl) rfl rfl rfl rfl fun w h=>?_);obtain⟨s',hs'⟩:∃s':aG,s'={ s with cW:=wI (e.1.s.cW+1) }:=⟨_,rfl⟩
   replace h:St w0 (aB a s'.aQ.length s'.aQ::aI b s'.chunks.length s'.chunks::uH d E::all (E.map pU)::pt b7 (.cells (s'.cells a s'.aQ.length b s'.chunks.length).toArray 85 (0,0))::l) w:=by rw[hs'];exact h
   rw[<- hs'];refine rL ?_;refine aD (qx (l:=s'.cells a s'.aQ.length b s'.chunks.length) rfl rfl (qw (h.b 4 rfl) rfl)) rfl ?_;refine aD (qc (r:=FH (⟨s',false,0⟩,⟨a,s'.aQ.length,b,s'.chunks.length⟩)) rfl) rfl ?_;refine rI ?_;refine aF rfl (qy (vs:=FH (⟨s',false,0⟩,⟨a,s'.aQ.length,b,s'.chunks.length⟩)) 2 h rfl rfl rfl rfl (by rw[Nat.ble_eq,eT gN];show k*10+10<=_;omega) rfl rfl fun w h=>?_)
   replace h:St w0 (aB a s'.aQ.length s'.aQ::aI b s'.chunks.length s'.chunks::pt d (.cells ((E.flatMap FH).take (k*10)++FH (⟨s',false,0⟩,⟨a,s'.aQ.length,b,s'.chunks.length⟩)++(E.flatMap FH).drop (k*10+(FH (⟨s',false,0⟩,⟨a,s'.aQ.length,b,s'.chunks.length⟩)).length)).toArray 129 (0,0))::all (E.map pU)::pt b7 (.cells (s'.cells a s'.aQ.length b s'.chunks.length).toArray 85 (0,0))::l) w:=h;rw[yw gN _ E k NR] at h;refine Yl ?_;refine Y3 ?_;refine qv (qk (bQ ⟨rfl,St.dir.2 ⟨E.set k (⟨s',false,0⟩,⟨a,s'.aQ.length,b,s'.chunks.length⟩),⟨by rw[Zm,hE.1];rfl,by rw[Vd];exact hE.2⟩,?_⟩⟩))
   have h:=(h.x [4]).o [3,2,0,1];have h1:=(St.place CI h).x [0,1];replace h1:St w0 (all ((E.map pU).eraseIdx k)::uH d (E.set k (⟨s',false,0⟩,⟨a,s'.aQ.length,b,s'.chunks.length⟩))::aB a s'.aQ.length s'.aQ::aI b s'.chunks.length s'.chunks::l) w:=h1;exact(St.Ht (e':=(⟨s',false,0⟩,⟨a,s'.aQ.length,b,s'.chunks.length⟩)) CI (h1.o [2,3,0])).f 1
  ·have hl:dM.leave D (k:Int) who s=none:=by unfold dM.leave;rw[gO];dsimp only;rw[if_neg hok]
   rw[hl];cases ht:e.1.taken with
   |false=>
    refine HQ ?_;refine Gm ?_;refine Ye ?_;refine GS ?_;exact qv (qk (bQ ⟨rfl,St.dir.2 ⟨E,hE,h.x [2]⟩⟩))
   |true=>
    refine HQ ?_;refine Cm ?_;refine aD (qr (v:=.iz e.1.who) rfl (hrow 9 (.iz e.1.who) rfl)) rfl ?_;refine xW ?_;refine Bi ?_;refine qz (.bool true) (by congr 1;rw[bne_iff_ne];exact fun hh=>hok ⟨ht,hh⟩) ?_
    refine Y9 ?_;refine GS ?_;exact qv (qk (bQ ⟨rfl,St.dir.2 ⟨E,hE,h.x [2]⟩⟩))
 ·rw[if_neg O0];refine D0 ?_;refine zX ?_;refine Cs ?_;refine Gm ?_;refine Ye ?_;have hl:dM.leave D id who s=none:=by unfold dM.leave;rw[gO]
  rw[hl];refine GS ?_;exact qv (qk (bQ ⟨rfl,St.dir.2 ⟨E,hE,h.x [2]⟩⟩))
theorem TV(h:St w0 l w):bP prog 31 [] w fun v w'=>∃p,v=.pz p∧St w0 (bF p (List.replicate 16 ⟨aG.zero,false,0⟩)::l) w':=by
 refine en func31 results31 ntmps31 ?_;refine Y1 ?_;refine tW ?_;refine Yl ?_;refine aD (qc rfl) rfl ?_;refine aF rfl (jk h rfl fun p w h=>?_);replace h:St w0 (uH p (List.replicate 16 NQ)::l) w:=h;refine tW ?_;exact qv (qk (bQ ⟨p,rfl,St.dir.2 ⟨List.replicate 16 NQ,⟨rfl,rfl⟩,(St.Im 16 h).f 1⟩⟩))
end
end
section
structure gX where
 s:Q4
 n:Q4
 pa:Option Addr
 pc:Nat
 ta:Option Addr
 tc:Nat
 one:Option Addr
 ga:Option Addr
 gc:Nat
 ra:Option Addr
 rc:Nat
abbrev Q4.cells(q:Q4)(s:aG):List Value:=s.cells q.a4 q.c4 q.a5 q.c5
def mE.C(x:mE)(a1:Option Addr)(c1:Nat)(a2:Option Addr)(c2:Nat):List Value:=[.iz x.bN,.iz x.cW,.iz x.lX,.iz x.upto,.slice a1 x.parts.length c1,.slice a2 x.tail.length c2]
def aP.C(r:aP)(q:gX):List Value:=
 .iz r.who::r.o.C++(.iz r.ph::q.s.cells r.slot++q.n.cells r.next++[.bool r.flag,.bool r.using_,.bool r.held]++r.x.C q.pa q.pc q.ta q.tc++
  [.iz r.told,.pointer q.one,.iz r.i,.slice q.ga r.got.length q.gc,.iz r.dH,.bool r.over,.iz r.res.err,.iz r.res.iter,.slice q.ra r.res.list.length q.rc])
def iC(dp:Option Addr):Option Tk->aC
 |none=>lift (dp=none)
 |some x=>ex fun t:Nat=>all [lift (dp=some ⟨t,0,none⟩),gW t x]
abbrev aM(t:Nat)(r:aP)(q:gX):aC:=pt t (.cells (r.C q).toArray 90 (0,0))
def aP.rows(r:aP)(q:gX):List aC:=
 [iC q.one r.one,aB q.s.a4 q.s.c4 r.slot.aQ,aI q.s.a5 q.s.c5 r.slot.chunks,aB q.n.a4 q.n.c4 r.next.aQ,aI q.n.a5 q.n.c5 r.next.chunks,aI q.pa q.pc r.x.parts,aB q.ta q.tc r.x.tail,aB q.ga q.gc r.got,aB q.ra q.rc r.res.list]
def bH(t:Nat)(r:aP):aC:=ex fun q:gX=>all (aM t r q::r.rows q)
structure Hu where
 d:Nat
 c:Nat
 b:Nat
 t:Nat
abbrev bV(p:Nat)(q:Hu):aC:=pt p (.cells [.pointer (some ⟨q.d,0,none⟩),.pointer (some ⟨q.c,0,none⟩),.pointer (some ⟨q.b,0,none⟩),.pointer (some ⟨q.t,0,none⟩)].toArray 79 (0,0))
def aU(p:Nat)(s:cG):aC:=ex fun q:Hu=>all [bV p q,bF q.d s.d,aK q.c s.c,aE q.b s.b,aS q.t s.t.V]
section
variable{w0 w:World}{l:List aC}{t p:Nat}{r:aP}{s:cG}
theorem St.run:St w0 (bH t r::l) w↔∃q:gX,St w0 (aM t r q::iC q.one r.one::aB q.s.a4 q.s.c4 r.slot.aQ::aI q.s.a5 q.s.c5 r.slot.chunks::aB q.n.a4 q.n.c4 r.next.aQ::aI q.n.a5 q.n.c5 r.next.chunks::aI q.pa q.pc r.x.parts::aB q.ta q.tc r.x.tail::aB q.ga q.gc r.got::aB q.ra q.rc r.res.list::l) w:=by
 unfold bH;rw[St.ex];exact⟨fun⟨q,h⟩=>⟨q,h.join⟩,fun⟨q,h⟩=>⟨q,St.fold (_::r.rows q) h⟩⟩
theorem St.lJ:St w0 (aU p s::l) w↔∃q:Hu,St w0 (bV p q::bF q.d s.d::aK q.c s.c::aE q.b s.b::aS q.t s.t.V::l) w:=by
 unfold aU;rw[St.ex];exact⟨fun⟨q,h⟩=>⟨q,h.join⟩,fun⟨q,h⟩=>⟨q,St.fold [_,_,_,_,_] h⟩⟩
theorem St.Ek{dp:Option Addr}:St w0 (iC dp none::l) w↔dp=none∧St w0 l w:=St.lift
theorem St.FJ{dp:Option Addr}{x:Tk}:St w0 (iC dp (some x)::l) w↔∃t,dp=some ⟨t,0,none⟩∧St w0 (gW t x::l) w:=by
 unfold iC;rw[St.ex];constructor
 ·rintro⟨t,h⟩;obtain⟨h1,h2⟩:=St.lift.1 h.join;exact⟨t,h1,h2⟩
 ·rintro⟨t,h1,h2⟩;exact⟨t,St.fold [_,_] (St.lift.2 ⟨h1,h2⟩)⟩
end
end
section
def jW(any:Bool)(last:Int)(L:List bZ)(s:bZ):Bool×Int×List bZ×Int:=if any=true∧s.T<=last then(any,last,L,1) else(true,s.T,L++[s],0)
theorem aG.add_eq(x:aG)(s:bZ):x.add s={ x with any:=(jW x.any x.last x.aQ s).1,last:=(jW x.any x.last x.aQ s).2.1,aQ:=(jW x.any x.last x.aQ s).2.2.1 }:=by
 unfold aG.add jW;split <;> rfl
theorem PK{P:Program}{φ:Value->World->Prop}{e:Env}{w:World}{a b:Tmp}{t:TypeId}{z:List Value}{bytes:Nat}[hi:cM P t z true bytes]{p o:Nat}{l:List Value}(hx:e b=.pointer (some ⟨p,o,none⟩))(hz:Nat.beq z.length l.length=true)(hl:At w p o l)(h:φ (.tuple [e a,.agg l.toArray].toArray) w):
  bq P [.tmp a,.cell b t] φ .ret e w:=
 ⟨_,j8 hx (Vg hz) hl,h⟩
section
variable{w0 w:World}{l:List aC}
theorem ep{any:Bool}{last:Int}{a:Option Addr}{n c:Nat}(h:St w0 l w):bP prog 130 [.agg (hY any last a n c).toArray] w fun v w'=>v=.bool (decide ((n:Int) ≥ 8))∧St w0 l w':=by
 refine en func130 results130 ntmps130 ?_;refine Y1 ?_;refine aF rfl (jk h (show _=Value.agg (hY any last a n c).toArray from rfl) fun b1 w h=>?_);refine Ya ?_;refine qK ?_;refine aD (qq (v:=.slice a n c) rfl (h.b 0 rfl) rfl) rfl ?_;refine rJ ?_;refine tX ?_;refine Y3 ?_;exact qv (qk (bQ ⟨rfl,h.drop⟩))
theorem mb{any:Bool}{last:Int}{a:Option Addr}{n c:Nat}(h:St w0 l w):bP prog 132 [.agg (hY any last a n c).toArray] w fun v w'=>v=.iz (wI (16*(n:Int)))∧St w0 l w':=by
 refine en func132 results132 ntmps132 ?_;refine Y1 ?_;refine aF rfl (jk h (show _=Value.agg (hY any last a n c).toArray from rfl) fun b1 w h=>?_);refine Y5 ?_;refine qK ?_;refine aD (qq (v:=.slice a n c) rfl (h.b 0 rfl) rfl) rfl ?_;refine rJ ?_;refine LF ?_;refine Y4 ?_;exact qv (qk (bQ ⟨rfl,h.drop⟩))
theorem th(hT:Tz w0){any:Bool}{last:Int}{a4:Option Addr}{c4:Nat}{L:List bZ}(hw:∀s∈L,s.Wf)(hn:L.length<=1073741824)(hr:Reads w0 l 2 a4 L.length (aW L))(h:St w0 l w):
  bP prog 144 [.agg (hY any last a4 L.length c4).toArray] w fun v w'=>∃a c,v=.tuple [.slice a ((dG 1 L).getD []).length c,.agg (hY any last none 0 0).toArray].toArray∧St w0 (gI a c ((dG 1 L).getD [])::l) w':=by
 refine en func144 results144 ntmps144 ?_;refine Y1 ?_;refine aF rfl (jk h (show _=Value.agg (hY any last a4 L.length c4).toArray from rfl) fun b1 w h=>?_);refine Yo ?_;refine aF rfl (qn h fun b3 w h=>?_);replace h:St w0 (pt b3 (.cells sF.toArray 82 (0,0))::pt b1 (.cells (hY any last a4 L.length c4).toArray 82 (0,0))::l) w:=h;refine Cv ?_;refine aD (qq (v:=.slice a4 L.length c4) rfl (h.b 1 rfl) rfl) rfl ?_;refine aF rfl (qg rfl (dl hT H9 hw hn (hr.more [_,_]) h) ?_);clear h;rintro _ w ⟨a,c,rfl,h⟩;refine Ck ?_;refine qK ?_;refine aF rfl (qb 2 h rfl (show _=Value.slice none 0 0 from rfl) rfl rfl rfl rfl fun w h=>?_);replace h:St w0 (gI a c ((dG 1 L).getD [])::pt b3 (.cells sF.toArray 82 (0,0))::pt b1 (.cells (hY any last none 0 0).toArray 82 (0,0))::l) w:=h;refine yX ?_;refine vr [0,2,1,3] (some 3) (fun w=>St w0 (gI a c ((dG 1 L).getD [])::pt b3 (.cells sF.toArray 82 (0,0))::pt b1 (.cells (hY any last none 0 0).toArray 82 (0,0))::l) w) O1 O1 h.drew fun w h=>?_;refine AR ?_;refine qj rfl rfl rfl rfl h (fun _ h=>qh rfl (qx (l:=hY any last none 0 0) rfl rfl (qw (h.b 2 rfl) rfl))) ?_;refine zW ?_;refine Ym ?_;refine jv 3 rfl rfl rfl ?_;refine qy (vs:=hY any last none 0 0) 1 h rfl rfl rfl rfl rfl rfl rfl fun w h=>?_;replace h:St w0 (gI a c ((dG 1 L).getD [])::pt b3 (.cells (hY any last none 0 0).toArray 82 (0,0))::pt b1 (.cells (hY any last none 0 0).toArray 82 (0,0))::l) w:=h;exact qk (PK (l:=hY any last none 0 0) rfl rfl (qw (h.b 1 rfl) rfl) ⟨a,c,rfl,h.x [1,2]⟩)
theorem TW{any:Bool}{last:Int}{a4:Option Addr}{c4:Nat}{L:List bZ}{s:bZ}(hn:L.length<=1048576)(hr:Reads w0 l 2 a4 L.length (aW L))(h:St w0 l w):
  bP prog 128 [.agg (hY any last a4 L.length c4).toArray,.agg s.cells.toArray] w fun v w'=>∃a c,v=.tuple [.agg (hY (jW any last L s).1 (jW any last L s).2.1 a (jW any last L s).2.2.1.length c).toArray,.iz (jW any last L s).2.2.2].toArray∧St w0 (aB a c (jW any last L s).2.2.1::l) w':=by
 refine en func128 results128 ntmps128 ?_;refine Y1 ?_;refine aF rfl (jk h (show _=Value.agg (hY any last a4 L.length c4).toArray from rfl) fun b2 w h=>?_);refine aF rfl (jk h (show _=Value.agg s.cells.toArray from rfl) fun b3 w h=>?_);refine aF rfl (qn h fun b4 w h=>?_);replace h:St w0 (pt b4 (.cells sF.toArray 82 (0,0))::pt b3 (.cells s.cells.toArray 57 (0,0))::pt b2 (.cells (hY any last a4 L.length c4).toArray 82 (0,0))::l) w:=h;refine Y5 ?_;by_cases hc:any=true∧s.T<=last
 ·have e:jW any last L s=(any,last,L,1):=if_pos hc;rw[e];obtain⟨rfl,hle⟩:=hc;refine GW ?_;refine aD (qq (v:=.bool true) rfl (h.b 2 rfl) rfl) rfl ?_;refine pV ?_;refine aD (qq (v:=.iz s.T) rfl (h.b 1 rfl) rfl) rfl ?_;refine Dk ?_;refine aD (qq (v:=.iz last) rfl (h.b 2 rfl) rfl) rfl ?_;refine Yf ?_;refine EF ?_;refine qz (.bool true) (by congr 1;rw[decide_eq_true_eq];exact hle) ?_
  refine Ye ?_;refine Yy ?_;refine aD (qx (l:=hY true last a4 L.length c4) rfl rfl (qw (h.b 2 rfl) rfl)) rfl ?_;refine aF rfl (qg rfl (zf O0 (hr.more [_,_,_]) h) ?_);clear h;rintro _ w ⟨a,rfl,h⟩;refine aF rfl (qy (vs:=hY true last a L.length L.length) 1 h rfl rfl rfl rfl rfl rfl rfl fun w h=>?_);replace h:St w0 (aB a L.length L::pt b4 (.cells (hY true last a L.length L.length).toArray 82 (0,0))::pt b3 (.cells s.cells.toArray 57 (0,0))::pt b2 (.cells (hY true last a4 L.length c4).toArray 82 (0,0))::l) w:=h;refine Y4 ?_;exact qv (qk (uR (l:=hY true last a L.length L.length) rfl rfl (qw (h.b 1 rfl) rfl) ⟨a,L.length,rfl,h.x [1,2,3]⟩))
 ·have e:jW any last L s=(true,s.T,L++[s],0):=if_neg hc;rw[e];refine qf (Γ:=Unit) (fun _=>[(2,.pz b2),(3,.pz b3),(4,.pz b4)]) (fun _ w=>St w0 (pt b4 (.cells sF.toArray 82 (0,0))::pt b3 (.cells s.cells.toArray 57 (0,0))::pt b2 (.cells (hY any last a4 L.length c4).toArray 82 (0,0))::l) w) ?_ ?_
  ·refine qK ?_;refine aD (qq (v:=.bool any) rfl (h.b 2 rfl) rfl) rfl ?_;cases any with
   |false=>
    refine zX ?_;refine EE ?_;refine Y9 ?_;exact qv (qt rfl (qa ⟨(),kK,h⟩))
   |true=>
    refine pV ?_;refine aD (qq (v:=.iz s.T) rfl (h.b 1 rfl) rfl) rfl ?_;refine Dk ?_;refine aD (qq (v:=.iz last) rfl (h.b 2 rfl) rfl) rfl ?_;refine Yf ?_;refine EF ?_;refine qz (.bool false) (by congr 1;rw[decide_eq_false_iff_not];exact fun hh=>hc ⟨rfl,hh⟩) ?_
    refine Ye ?_;exact qv (qt rfl (qa ⟨(),kK,h⟩))
  clear h;rintro _ w e h;refine Y1 ?_;refine aD (qx (l:=hY any last a4 L.length c4) rfl rfl (qw (h.b 2 rfl) rfl)) rfl ?_;refine aF rfl (qg rfl (zf O0 (hr.more [_,_,_]) h) ?_);clear h;rintro _ w ⟨a,rfl,h⟩;refine aF rfl (qy (vs:=hY any last a L.length L.length) 3 h rfl rfl rfl rfl rfl rfl rfl fun w h=>?_);replace h:St w0 (aB a L.length L::pt b4 (.cells sF.toArray 82 (0,0))::pt b3 (.cells s.cells.toArray 57 (0,0))::pt b2 (.cells (hY any last a L.length L.length).toArray 82 (0,0))::l) w:=h;refine yX ?_;refine jb [0,1,2,3,4,5,6,7,8,9] (some 8) (fun w=>St w0 (pt b4 (.cells sF.toArray 82 (0,0))::pt b3 (.cells s.cells.toArray 57 (0,0))::pt b2 (.cells (hY any last a L.length L.length).toArray 82 (0,0))::l) w) O1 O1 ?_;have hs:=h.drew;clear h;generalize w.drew=w1 at hs ⊢;have h:=hs.drop;refine Yj ?_;refine qj rfl rfl rfl rfl h (fun _ h=>qh rfl (qq (v:=.iz s.T) rfl (h.b 1 rfl) rfl)) ?_;refine Yj ?_;refine qj rfl rfl rfl rfl h (fun _ h=>qh rfl (qq (v:=.slice a L.length L.length) rfl (h.b 2 rfl) rfl)) ?_;refine qj rfl rfl rfl rfl h (fun _ h=>qh rfl (qx (l:=s.cells) rfl rfl (qw (h.b 1 rfl) rfl))) ?_;refine Cu ?_;refine qd 5 rfl rfl rfl rfl ?_;refine jq (r:=aW [s]) hs rfl rfl rfl fun b5 w hs=>?_;clear h;have h:=hs.drop.drop;refine⟨fun _=>h,?_⟩;refine nJ ?_;refine qd 6 rfl rfl rfl rfl ?_;refine ql (ys:=aW [s]) (zs:=aW (L++[s])) (m3:=(L++[s]).length) (hs.f 1) rfl rfl ⟨rfl,.inr ⟨b5,0,rfl,qw (hs.b 0 rfl) rfl⟩⟩ (jm _) O7 (by simp[aW]) O5 O5 rfl fun a2 c2 w _ hs=>?_
  clear h;have h:=hs.drop.drop;refine⟨fun _=>h,?_⟩;refine cD rfl rfl rfl rfl h rfl (qc (r:=hY true s.T a2 (L++[s]).length c2) rfl) ?_;refine Yn ?_;refine jx 8 none rfl rfl rfl rfl ?_;refine qy (vs:=hY true s.T a2 (L++[s]).length c2) 2 hs rfl rfl rfl rfl rfl rfl rfl fun w h=>?_;replace h:St w0 (aB a2 c2 (L++[s])::pt b5 (.cells (aW [s]).toArray 57 (0,0))::pt b4 (.cells (hY true s.T a2 (L++[s]).length c2).toArray 82 (0,0))::pt b3 (.cells s.cells.toArray 57 (0,0))::pt b2 (.cells (hY any last a L.length L.length).toArray 82 (0,0))::l) w:=h;refine jh h ?_;refine AS ?_;exact qm (qk (uR (l:=hY true s.T a2 (L++[s]).length c2) rfl rfl (qw (h.b 2 rfl) rfl) ⟨a2,c2,rfl,h.x [1,2,3,4]⟩))
end
end
section
section
variable{w0 w:World}{l:List aC}{t p:Nat}{r:aP}{s:cG}{q:gX}
theorem St.run':St w0 (bH t r::l) w↔∃q:gX,St w0 (aM t r q::(r.rows q++l)) w:=by
 unfold bH;rw[St.ex];exact⟨fun⟨q,h⟩=>⟨q,h.join⟩,fun⟨q,h⟩=>⟨q,St.fold (_::r.rows q) h⟩⟩
def cG.new(n b:Int):cG:=⟨List.replicate 16 ⟨aG.zero,false,0⟩,eC.new n,⟨min (max b 0) 1073741824,0,0,0,[]⟩,⟨0,[]⟩⟩
theorem yh(n b:Int)(h:St w0 l w):bP prog 11 [.iz n,.iz b] w fun v w'=>∃p,v=.pz p∧St w0 (aU p (cG.new n b)::l) w':=by
 refine en func11 results11 ntmps11 ?_;refine Y1 ?_;refine tW ?_;refine Yl ?_;refine aF rfl (qg rfl (TV h) ?_);clear h;rintro _ w ⟨d,rfl,h⟩;refine Y0 ?_;refine aF rfl (qg rfl (TI n h) ?_);clear h;rintro _ w ⟨c,rfl,h⟩;refine Y0 ?_;refine aF rfl (qg rfl (SX b h) ?_);clear h;rintro _ w ⟨b',rfl,h⟩;refine aF rfl (qg rfl (SZ h) ?_);clear h;rintro _ w ⟨i,rfl,h⟩;refine aD (qc (r:=[.pz d,.pz c,.pz b',.pz i]) rfl) rfl ?_;refine aF rfl (jk h (show _=Value.agg [.pz d,.pz c,.pz b',.pz i].toArray from rfl) fun p w h=>?_);refine tW ?_;exact qv (qk (bQ ⟨p,rfl,St.lJ.2 ⟨⟨d,c,b',i⟩,h.o [0,4,3,2,1]⟩⟩))
theorem TX(h:St w0 (aU p s::l) w):bP prog 35 [.pz p] w fun v w'=>∃q:Hu,v=.pointer (some ⟨q.d,0,none⟩)∧St w0 (bV p q::bF q.d s.d::aK q.c s.c::aE q.b s.b::aS q.t s.t.V::l) w':=by
 obtain⟨q,h⟩:=St.lJ.1 h;refine en func35 results35 ntmps35 ?_;refine Gi ?_;refine Y7 ?_;refine aD (qq (v:=.pointer (some ⟨q.d,0,none⟩)) rfl (h.b 0 rfl) rfl) rfl ?_;refine tW ?_;exact qv (qk (bQ ⟨q,rfl,h⟩))
theorem ms(h:St w0 (aU p s::l) w):bP prog 23 [.pz p] w fun v w'=>∃q:Hu,v=.pointer (some ⟨q.c,0,none⟩)∧St w0 (bV p q::bF q.d s.d::aK q.c s.c::aE q.b s.b::aS q.t s.t.V::l) w':=by
 obtain⟨q,h⟩:=St.lJ.1 h;refine en func23 results23 ntmps23 ?_;refine Gi ?_;refine Y7 ?_;refine aD (qq (v:=.pointer (some ⟨q.c,0,none⟩)) rfl (h.b 0 rfl) rfl) rfl ?_;refine tW ?_;exact qv (qk (bQ ⟨q,rfl,h⟩))
theorem mn(h:St w0 (aU p s::l) w):bP prog 17 [.pz p] w fun v w'=>∃q:Hu,v=.pointer (some ⟨q.b,0,none⟩)∧St w0 (bV p q::bF q.d s.d::aK q.c s.c::aE q.b s.b::aS q.t s.t.V::l) w':=by
 obtain⟨q,h⟩:=St.lJ.1 h;refine en func17 results17 ntmps17 ?_;refine Gi ?_;refine Y7 ?_;refine aD (qq (v:=.pointer (some ⟨q.b,0,none⟩)) rfl (h.b 0 rfl) rfl) rfl ?_;refine tW ?_;exact qv (qk (bQ ⟨q,rfl,h⟩))
theorem ef(h:St w0 (aU p s::l) w):bP prog 20 [.pz p] w fun v w'=>∃q:Hu,v=.pointer (some ⟨q.t,0,none⟩)∧St w0 (bV p q::bF q.d s.d::aK q.c s.c::aE q.b s.b::aS q.t s.t.V::l) w':=by
 obtain⟨q,h⟩:=St.lJ.1 h;refine en func20 results20 ntmps20 ?_;refine Gi ?_;refine Y7 ?_;refine aD (qq (v:=.pointer (some ⟨q.t,0,none⟩)) rfl (h.b 0 rfl) rfl) rfl ?_;refine tW ?_;exact qv (qk (bQ ⟨q,rfl,h⟩))
abbrev DF:gX:=⟨⟨none,0,none,0⟩,⟨none,0,none,0⟩,none,0,none,0,none,none,0,none,0⟩
theorem fv(who:Int)(o:gR)(h:St w0 l w):bP prog 14 [.iz who,.agg o.C.toArray] w fun v w'=>∃t,v=.pz t∧St w0 (bH t (aP.new who o)::l) w':=by
 refine en func14 results14 ntmps14 ?_;refine Y1 ?_;refine aF rfl (jk h (show _=Value.agg o.C.toArray from rfl) fun b1 w h=>?_);refine DU ?_;refine Yb ?_;refine aD (qx (l:=o.C) rfl rfl (qw (h.b 0 rfl) rfl)) rfl ?_;refine aD (qc (r:=(aP.new who o).C DF) rfl) rfl ?_;refine aF rfl (jk h (show _=Value.agg ((aP.new who o).C DF).toArray from rfl) fun t w h=>?_);replace h:St w0 (aM t (aP.new who o) DF::pt b1 (.cells o.C.toArray 33 (0,0))::l) w:=h;refine tW ?_;refine qv (qk (bQ ⟨t,rfl,St.run.2 ⟨DF,?_⟩⟩));have h:=((((((((h.x [1]).aZ 57 2).aZ 57 2).aZ 57 2).aZ 168 5).aZ 168 5).aZ 57 2).aZ 168 5).aZ 57 2;exact(St.Ek.2 ⟨rfl,h⟩).f 9
theorem gf{res:iS}{a:Option Addr}{c:Nat}(Gy:Int)(h:St w0 (bH t r::aB a c res.list::l) w):
  bP prog 55 [.pz t,.agg (res.C a c).toArray,.iz Gy] w fun v w'=>v=.iz Gy∧St w0 (bH t { r with over:=true,res:=res }::l) w':=by
 obtain⟨q,h⟩:=St.run.1 h;refine en func55 results55 ntmps55 ?_;refine Y1 ?_;refine aF rfl (jk h (show _=Value.agg (res.C a c).toArray from rfl) fun b4 w h=>?_);refine Y5 ?_;refine qi ?_;generalize hN:(iC q.one r.one::aB q.s.a4 q.s.c4 r.slot.aQ::aI q.s.a5 q.s.c5 r.slot.chunks::aB q.n.a4 q.n.c4 r.next.aQ::aI q.n.a5 q.n.c5 r.next.chunks::aI q.pa q.pc r.x.parts::aB q.ta q.tc r.x.tail::aB q.ga q.gc r.got::aB q.ra q.rc r.res.list::aB a c res.list::l)=N at h
 replace h:St w0 (pt b4 (.cells (res.C a c).toArray 28 (0,0))::aM t r q::N) w:=h;refine jb [0,4,5,1,2,3,6,7,8] (some 8) (fun w=>∃M,St w0 (pt b4 (.cells (res.C a c).toArray 28 (0,0))::M) w) O1 O1 ?_;have hs:=h.drew;clear h;generalize w.drew=w1 at hs ⊢;have h:∃M,St w0 (pt b4 (.cells (res.C a c).toArray 28 (0,0))::M) w1:=⟨_,hs⟩;refine tY ?_;refine tY ?_;refine qj rfl rfl rfl rfl h (fun _ h=>qh rfl (qx (l:=res.C a c) rfl rfl (qw (h.choose_spec.b 0 rfl) rfl))) ?_;refine Cg ?_;refine nJ ?_;refine qd 5 rfl rfl rfl rfl ?_;refine qb 1 hs rfl (show _=Value.bool true from rfl) rfl rfl rfl rfl fun w hs=>?_;replace hs:St w0 (pt b4 (.cells (res.C a c).toArray 28 (0,0))::aM t { r with over:=true } q::N) w:=hs
 clear h;have h:∃M,St w0 (pt b4 (.cells (res.C a c).toArray 28 (0,0))::M) w:=⟨_,hs⟩;refine⟨fun _=>h,?_⟩;refine Cg ?_;refine Ym ?_;refine jv 8 rfl rfl rfl ?_;refine qy (vs:=res.C a c) 1 hs rfl rfl rfl rfl rfl rfl rfl fun w h=>?_;replace h:St w0 (pt b4 (.cells (res.C a c).toArray 28 (0,0))::aM t { r with over:=true,res:=res } { q with ra:=a,rc:=c }::N) w:=h
 subst hN;refine GX ?_;exact qv (qk (bQ ⟨rfl,St.run.2 ⟨{ q with ra:=a,rc:=c },h.x [0,10]⟩⟩))
theorem vu(e:Int)(h:St w0 (bH t r::l) w):
  bP prog 37 [.pz t,.iz e] w fun v w'=>v=.iz 2∧St w0 (bH t { r with over:=true,res:=⟨e,0,[]⟩ }::l) w':=by
 refine en func37 results37 ntmps37 ?_;refine Yr ?_;refine GV ?_;refine aD (qc (r:=(⟨e,0,[]⟩:iS).C none 0) rfl) rfl ?_;refine aF rfl (qg rfl (gf (res:=⟨e,0,[]⟩) 2 ((h.aZ 57 2).f 1)) ?_);clear h;rintro _ w ⟨rfl,h⟩;refine Y4 ?_;exact qv (qk (bQ ⟨rfl,h⟩))
theorem kf{sl:aG}{a4 a5:Option Addr}{c4 c5:Nat}(AZ:sl.aQ.length<=1073741824)(Dy:sl.chunks.length<=1073741824)(CE:Reads w0 l 2 a4 sl.aQ.length (aW sl.aQ))(Gr:Reads w0 l 5 a5 sl.chunks.length (dP sl.chunks))(h:St w0 (aM t r q::aU p s::l) w):
  bP prog 76 [.pz t,.pz p,.agg (sl.cells a4 c4 a5 c5).toArray] w fun v w'=>v=.tuple #[]∧St w0 (aM t (r.cF s sl).1 q::aU p (r.cF s sl).2::l) w':=by
 obtain⟨k,h⟩:=St.lJ.1 (h.f 1);refine en func76 results76 ntmps76 ?_;refine Y1 ?_;refine aF rfl (jk h (show _=Value.agg (sl.cells a4 c4 a5 c5).toArray from rfl) fun b5 w h=>?_);replace h:St w0 (pt b5 (.cells (sl.cells a4 c4 a5 c5).toArray 85 (0,0))::bV p k::bF k.d s.d::aK k.c s.c::aE k.b s.b::aS k.t s.t.V::aM t r q::l) w:=h;refine yX ?_;refine jb [0,1,2,3,4,5,6,7,8,9,10,11,12,13,14] none (fun w=>St w0 (pt b5 (.cells (sl.cells a4 c4 a5 c5).toArray 85 (0,0))::bV p k::aK k.c s.c::aE k.b s.b::aS k.t s.t.V::aM t r q::l) w) O1 O1 ?_;have hs:=h.drew;clear h;generalize w.drew=w1 at hs ⊢;have h:=hs.x [2];refine Y6 ?_;refine qj rfl rfl rfl rfl h (fun _ h=>qh rfl (qq (v:=.pointer (some ⟨k.d,0,none⟩)) rfl (h.b 1 rfl) rfl)) ?_;refine uA ?_;refine qj rfl rfl rfl rfl h (fun _ h=>qh rfl (qq (v:=.iz r.o.aA) rfl (h.b 5 rfl) rfl)) ?_;refine Y6 ?_;refine qj rfl rfl rfl rfl h (fun _ h=>qh rfl (qq (v:=.iz r.who) rfl (h.b 5 rfl) rfl)) ?_;refine qj rfl rfl rfl rfl h (fun _ h=>qh rfl (qx (l:=sl.cells a4 c4 a5 c5) rfl rfl (qw (h.b 0 rfl) rfl))) ?_;refine Ym ?_;refine qd 14 rfl rfl rfl rfl ?_;refine qg rfl (tw r.o.aA r.who AZ Dy (CE.more [_,_,_,_,_,_]) (Gr.more [_,_,_,_,_,_]) (hs.f 2)) ?_;clear h hs;rintro _ w ⟨rfl,h1⟩;have h:=h1.drop;refine⟨fun _=>h,?_⟩;refine qm ?_;refine AV ?_;refine aF rfl (qb 6 h1 rfl (show _=Value.bool false from rfl) rfl rfl rfl rfl fun w h=>?_);replace h:St w0 (bF k.d ((dM.leave s.d r.o.aA r.who sl).getD s.d)::pt b5 (.cells (sl.cells a4 c4 a5 c5).toArray 85 (0,0))::bV p k::aK k.c s.c::aE k.b s.b::aS k.t s.t.V::aM t { r with flag:=false } q::l) w:=h
 refine qv (uN ⟨rfl,?_⟩);exact((St.lJ (s:=(r.cF s sl).2)).2 ⟨k,(h.x [1]).o [1,0,2,3,4]⟩).f 1
end
end
section
def dM.Fits(D:List iU):Prop:=∀p∈D,p.s.aQ.length<=1048576∧p.s.chunks.length<=1048576
section
variable{w0 w:World}{l:List aC}{t p:Nat}{r:aP}{s:cG}{q:gX}
theorem dM.Fits.big{D:List iU}(h:dM.Fits D):∀p∈D,p.s.aQ.length<=1073741824∧p.s.chunks.length<=1073741824:=fun p hp=>⟨by have:=(h p hp).1;omega,by have:=(h p hp).2;omega⟩
theorem mp(hD:dM.Fits s.d)(h:St w0 (bH t r::aU p s::l) w):
  bP prog 74 [.pz t,.pz p] w fun v w'=>v=.bool (r.take s).2.2∧St w0 (bH t (r.take s).1::aU p (r.take s).2.1::l) w':=by
 obtain⟨q,h⟩:=St.run.1 h;generalize hN:(iC q.one r.one::aB q.s.a4 q.s.c4 r.slot.aQ::aI q.s.a5 q.s.c5 r.slot.chunks::aB q.n.a4 q.n.c4 r.next.aQ::aI q.n.a5 q.n.c5 r.next.chunks::aI q.pa q.pc r.x.parts::aB q.ta q.tc r.x.tail::aB q.ga q.gc r.got::aB q.ra q.rc r.res.list::aU p s::l)=N at h
 subst hN;replace h:St w0 (aU p s::aM t r q::iC q.one r.one::aB q.s.a4 q.s.c4 r.slot.aQ::aI q.s.a5 q.s.c5 r.slot.chunks::aB q.n.a4 q.n.c4 r.next.aQ::aI q.n.a5 q.n.c5 r.next.chunks::aI q.pa q.pc r.x.parts::aB q.ta q.tc r.x.tail::aB q.ga q.gc r.got::aB q.ra q.rc r.res.list::l) w:=h.f 10
 obtain⟨k,h⟩:=St.lJ.1 h;generalize hN:(iC q.one r.one::aB q.s.a4 q.s.c4 r.slot.aQ::aI q.s.a5 q.s.c5 r.slot.chunks::aB q.n.a4 q.n.c4 r.next.aQ::aI q.n.a5 q.n.c5 r.next.chunks::aI q.pa q.pc r.x.parts::aB q.ta q.tc r.x.tail::aB q.ga q.gc r.got::aB q.ra q.rc r.res.list::l)=N at h
 replace h:St w0 (bF k.d s.d::bV p k::aM t r q::aK k.c s.c::aE k.b s.b::aS k.t s.t.V::N) w:=h.o [1,0,5]
 have DG:∀{w:World} {M:List aC},St w0 (bF k.d s.d::M) w->bP prog 61 [.pointer (some ⟨k.d,0,none⟩),.iz r.o.aA] w fun v w'=>∃(q4:Q4),v=.tuple [.agg (q4.cells ((dM.look s.d r.o.aA).getD aG.zero)).toArray,.bool (dM.look s.d r.o.aA).isSome].toArray∧St w0 (aB q4.a4 q4.c4 ((dM.look s.d r.o.aA).getD aG.zero).aQ::aI q4.a5 q4.c5 ((dM.look s.d r.o.aA).getD aG.zero).chunks::bF k.d s.d::M) w':=by
  intro w M h;have h1:=mw r.o.aA hD.big h;cases hl:dM.look s.d r.o.aA with
  |none=>
   rw[hl] at h1;refine h1.mono ?_;rintro v w ⟨rfl,h⟩;exact⟨⟨none,0,none,0⟩,rfl,(h.aZ 168 5).aZ 57 2⟩
  |some sl=>
   rw[hl] at h1;refine h1.mono ?_;rintro v w ⟨a,b,rfl,h⟩;exact⟨⟨a,sl.aQ.length,b,sl.chunks.length⟩,rfl,h⟩
 refine en func74 results74 ntmps74 ?_;refine pL ?_;obtain⟨X,hX⟩:∃X,(dM.look s.d r.o.aA).getD aG.zero=X:=⟨_,rfl⟩
 refine qf (Γ:=Q4×Nat) (fun g=>[(0,.pz t),(1,.pz p),(5,.pointer (some ⟨g.2,0,none⟩)),(6,.bool (dM.look s.d r.o.aA).isSome)])
  (fun g w=>St w0 (aB g.1.a4 g.1.c4 X.aQ::aI g.1.a5 g.1.c5 X.chunks::pt g.2 (.cells (g.1.cells X).toArray 85 (0,0))::bF k.d s.d::bV p k::aM t r q::aK k.c s.c::aE k.b s.b::aS k.t s.t.V::N) w) ?_ ?_
 ·refine vr [0,1,2,3,4,5,6,7,8,9,10,11,14,12,13,15] (some 14) (fun w=>St w0 (bF k.d s.d::bV p k::aM t r q::aK k.c s.c::aE k.b s.b::aS k.t s.t.V::N) w) O1 O1 h.drew fun w h=>?_;refine Y6 ?_;refine qj rfl rfl rfl rfl h (fun _ h=>qh rfl (qq (v:=.pointer (some ⟨k.d,0,none⟩)) rfl (h.b 1 rfl) rfl)) ?_;refine uA ?_;refine qj rfl rfl rfl rfl h (fun _ h=>qh rfl (qq (v:=.iz r.o.aA) rfl (h.b 2 rfl) rfl)) ?_;refine Fa ?_;refine j5 9 13 rfl rfl rfl rfl rfl rfl ?_ ?_
  ·refine qg rfl (DG h) ?_;clear h;rintro _ w ⟨g,rfl,h1⟩;rw[hX] at h1 ⊢;have h:=h1.drop.drop;refine⟨fun _=>h,?_⟩;refine xX ?_;refine Ys ?_;refine qd 13 rfl rfl rfl rfl ?_;refine qn h1 fun b5 w h1=>?_;clear h;have h:=h1.drop.drop.drop;refine⟨fun _=>h,?_⟩;refine Yn ?_;refine jx 14 none rfl rfl rfl rfl ?_;refine qy (vs:=g.cells X) 0 h1 rfl rfl rfl rfl rfl rfl rfl fun w h=>?_;refine jh h ?_;refine rK ?_;exact qm ⟨(g,b5),iA,h.o [1,2,0]⟩
  ·refine qn h fun b5 w h1=>?_;clear h;have h:=h1.drop;refine⟨fun _=>h,?_⟩;refine xO ?_;refine qd 9 rfl rfl rfl rfl ?_;refine qg rfl (DG (h1.f 1)) ?_;clear h h1;rintro _ w ⟨g,rfl,h1⟩;rw[hX] at h1 ⊢;have h:=(h1.x [3]).drop.drop;refine⟨fun _=>h,?_⟩;refine xX ?_;refine Yn ?_;refine jx 14 none rfl rfl rfl rfl ?_;refine qy (vs:=g.cells X) 3 h1 rfl rfl rfl rfl rfl rfl rfl fun w h=>?_;refine jh h ?_;refine rK ?_;exact qm ⟨(g,b5),iA,h.o [0,1,3,2]⟩
 clear h;rintro⟨g,b5⟩ w e h;dsimp only at h
 have key:(r.take s)=match dM.look s.d r.o.aA with
  |none=>(r,s,false)
  |some sl=>match dM.take s.d r.o.aA r.who with
   |none=>(r,s,false)
   |some D=>({ r with slot:=sl,flag:=true,ph:=1 },{ s with d:=D },true):=rfl
 have back:∀{w:World},St w0 (aB g.a4 g.c4 X.aQ::aI g.a5 g.c5 X.chunks::pt b5 (.cells (g.cells X).toArray 85 (0,0))::bF k.d s.d::bV p k::aM t r q::aK k.c s.c::aE k.b s.b::aS k.t s.t.V::N) w->St w0 (bH t r::aU p s::l) w:=by
  intro w h;have h1:St w0 (bV p k::bF k.d s.d::aK k.c s.c::aE k.b s.b::aS k.t s.t.V::aM t r q::N) w:=(h.x [0,1,2]).o [1,0,3,4,5];have h2:St w0 (aM t r q::aU p s::N) w:=((St.lJ (s:=s)).2 ⟨k,h1⟩).f 1;subst hN;have h3:St w0 (aM t r q::iC q.one r.one::aB q.s.a4 q.s.c4 r.slot.aQ::aI q.s.a5 q.s.c5 r.slot.chunks::aB q.n.a4 q.n.c4 r.next.aQ::aI q.n.a5 q.n.c5 r.next.chunks::aI q.pa q.pc r.x.parts::aB q.ta q.tc r.x.tail::aB q.ga q.gc r.got::aB q.ra q.rc r.res.list::aU p s::l) w:=h2.o [0,2,3,4,5,6,7,8,9,10]
  exact(St.run (r:=r)).2 ⟨q,h3⟩
 cases hl:dM.look s.d r.o.aA with
 |none=>
  replace key:r.take s=(r,s,false):=by rw[key,hl]
  rw[key];refine qi (qi ?_);refine jz none (fun w=>St w0 (aB g.a4 g.c4 X.aQ::aI g.a5 g.c5 X.chunks::pt b5 (.cells (g.cells X).toArray 85 (0,0))::bF k.d s.d::bV p k::aM t r q::aK k.c s.c::aE k.b s.b::aS k.t s.t.V::N) w) O1 O1 h.drew fun w h=>?_;refine Yx ?_;refine cD rfl rfl rfl rfl h rfl (zh rfl) ?_;refine Yx ?_;refine qu rfl rfl rfl rfl (fun _=>h) (fun _=>qp rfl rfl) (qu rfl rfl rfl rfl (fun _=>h) (fun _=>qp rfl rfl) (qu rfl rfl rfl rfl (fun _=>h) (fun _=>qp rfl rfl) (qu rfl rfl rfl rfl (fun _=>h) (fun _=>qp rfl rfl) (qu rfl rfl rfl rfl (fun _=>h) (fun _=>qp rfl rfl) (qu rfl rfl rfl rfl (fun _=>h) (fun _=>qp rfl rfl) ?_)))));refine qu rfl rfl rfl rfl (fun _=>h) (fun _=>qp rfl rfl) (qu rfl rfl rfl rfl (fun _=>h) (fun _=>qp rfl rfl) (qu rfl rfl rfl rfl (fun _=>h) (fun _=>qp rfl rfl) (qu rfl rfl rfl rfl (fun _=>h) (fun _=>qp rfl rfl) (qu rfl rfl rfl rfl (fun _=>h) (fun _=>qp rfl rfl) (qu rfl rfl rfl rfl (fun _=>h) (fun _=>qp rfl rfl) ?_)))));refine qu rfl rfl rfl rfl (fun _=>h) (fun _=>qp rfl rfl) (qu rfl rfl rfl rfl (fun _=>h) (fun _=>qp rfl rfl) (qu rfl rfl rfl rfl (fun _=>h) (fun _=>qp rfl rfl) (cD rfl rfl rfl rfl h rfl (jp rfl rfl rfl) ?_)));refine qm ?_;refine vB ?_;refine Y1 ?_;refine Y3 ?_;exact qv (qk (bQ ⟨rfl,back h⟩))
 |some sl=>
  rw[hl] at hX key;obtain rfl:sl=X:=hX;cases ht:dM.take s.d r.o.aA r.who with
  |none=>
   replace key:r.take s=(r,s,false):=by rw[key,ht]
   rw[key];refine qi (qi ?_);refine jz none (fun w=>St w0 (aB g.a4 g.c4 sl.aQ::aI g.a5 g.c5 sl.chunks::pt b5 (.cells (g.cells sl).toArray 85 (0,0))::bF k.d s.d::bV p k::aM t r q::aK k.c s.c::aE k.b s.b::aS k.t s.t.V::N) w) O1 O1 h.drew fun w h=>?_;refine Yx ?_;refine cD rfl rfl rfl rfl h rfl (zh rfl) ?_;refine Yx ?_;refine qu rfl rfl rfl rfl (fun _=>h) (fun _=>qe rfl rfl (j1 rfl)) (qu rfl rfl rfl rfl (fun _=>h) (fun _=>qe rfl rfl (uj rfl)) (qu rfl rfl rfl rfl (fun _=>h) (fun _=>qe rfl rfl (vj rfl)) ?_));refine qj rfl rfl rfl rfl h (fun _ h=>qe rfl rfl (qq (v:=.pointer (some ⟨k.d,0,none⟩)) rfl (h.b 4 rfl) rfl)) ?_;refine qu rfl rfl rfl rfl (fun _=>h) (fun _=>qe rfl rfl (j1 rfl)) (qu rfl rfl rfl rfl (fun _=>h) (fun _=>qe rfl rfl (uj rfl)) (qu rfl rfl rfl rfl (fun _=>h) (fun _=>qe rfl rfl (vj rfl)) (qu rfl rfl rfl rfl (fun _=>h) (fun _=>qe rfl rfl (vj rfl)) ?_)));refine qj rfl rfl rfl rfl h (fun _ h=>qe rfl rfl (qq (v:=.iz r.o.aA) rfl (h.b 5 rfl) rfl)) ?_;refine qu rfl rfl rfl rfl (fun _=>h) (fun _=>qe rfl rfl (j1 rfl)) (qu rfl rfl rfl rfl (fun _=>h) (fun _=>qe rfl rfl (uj rfl)) (qu rfl rfl rfl rfl (fun _=>h) (fun _=>qe rfl rfl (vj rfl)) ?_));refine qj rfl rfl rfl rfl h (fun _ h=>qe rfl rfl (qq (v:=.iz r.who) rfl (h.b 5 rfl) rfl)) ?_;refine Ys ?_;refine qd 16 rfl rfl rfl (vt rfl rfl rfl) ?_;have yL:=mh r.o.aA r.who (h.f 3);rw[ht] at yL;refine qg rfl yL ?_;clear h yL;rintro _ w ⟨rfl,h⟩;replace h:St w0 (aB g.a4 g.c4 sl.aQ::aI g.a5 g.c5 sl.chunks::pt b5 (.cells (g.cells sl).toArray 85 (0,0))::bF k.d s.d::bV p k::aM t r q::aK k.c s.c::aE k.b s.b::aS k.t s.t.V::N) w:=h.o [1,2,3]
   refine⟨fun _=>h,?_⟩;refine qu rfl rfl rfl rfl (fun _=>h) (fun _=>qe rfl rfl (zh rfl)) (cD rfl rfl rfl rfl h rfl (jc rfl rfl rfl) ?_);refine qm ?_;refine vB ?_;refine Y1 ?_;refine Y3 ?_;exact qv (qk (bQ ⟨rfl,back h⟩))
  |some D=>
   replace key:r.take s=({ r with slot:=sl,flag:=true,ph:=1 },{ s with d:=D },true):=by rw[key,ht]
   rw[key];refine qi (qi ?_);refine jb [0,1,2,3,4,5,6,7,8,9,10,11,12,13,14,15,16,17,18] none (fun w=>St w0 (aB g.a4 g.c4 sl.aQ::aI g.a5 g.c5 sl.chunks::pt b5 (.cells (g.cells sl).toArray 85 (0,0))::bV p k::aM t r q::aK k.c s.c::aE k.b s.b::aS k.t s.t.V::N) w) O1 O1 ?_;have hs:=h.drew;clear h;generalize w.drew=w1 at hs ⊢;have h:=hs.x [3];refine Yx ?_;refine cD rfl rfl rfl rfl h rfl (zh rfl) ?_;refine Yx ?_;refine qu rfl rfl rfl rfl (fun _=>h) (fun _=>qe rfl rfl (j1 rfl)) (qu rfl rfl rfl rfl (fun _=>h) (fun _=>qe rfl rfl (uj rfl)) (qu rfl rfl rfl rfl (fun _=>h) (fun _=>qe rfl rfl (vj rfl)) ?_));refine qj rfl rfl rfl rfl h (fun _ h=>qe rfl rfl (qq (v:=.pointer (some ⟨k.d,0,none⟩)) rfl (h.b 3 rfl) rfl)) ?_;refine qu rfl rfl rfl rfl (fun _=>h) (fun _=>qe rfl rfl (j1 rfl)) (qu rfl rfl rfl rfl (fun _=>h) (fun _=>qe rfl rfl (uj rfl)) (qu rfl rfl rfl rfl (fun _=>h) (fun _=>qe rfl rfl (vj rfl)) (qu rfl rfl rfl rfl (fun _=>h) (fun _=>qe rfl rfl (vj rfl)) ?_)));refine qj rfl rfl rfl rfl h (fun _ h=>qe rfl rfl (qq (v:=.iz r.o.aA) rfl (h.b 4 rfl) rfl)) ?_;refine qu rfl rfl rfl rfl (fun _=>h) (fun _=>qe rfl rfl (j1 rfl)) (qu rfl rfl rfl rfl (fun _=>h) (fun _=>qe rfl rfl (uj rfl)) (qu rfl rfl rfl rfl (fun _=>h) (fun _=>qe rfl rfl (vj rfl)) ?_));refine qj rfl rfl rfl rfl h (fun _ h=>qe rfl rfl (qq (v:=.iz r.who) rfl (h.b 4 rfl) rfl)) ?_;refine Ys ?_;refine qd 16 rfl rfl rfl (vt rfl rfl rfl) ?_;have yL:=mh r.o.aA r.who (hs.f 3);rw[ht] at yL;refine qg rfl yL ?_;clear h hs yL;rintro _ w ⟨rfl,hs⟩;replace hs:St w0 (bF k.d D::aB g.a4 g.c4 sl.aQ::aI g.a5 g.c5 sl.chunks::pt b5 (.cells (g.cells sl).toArray 85 (0,0))::bV p k::aM t r q::aK k.c s.c::aE k.b s.b::aS k.t s.t.V::N) w:=hs
   have h:=hs.drop;refine⟨fun _=>h,?_⟩;refine qu rfl rfl rfl rfl (fun _=>h) (fun _=>qe rfl rfl (zh rfl)) (cD rfl rfl rfl rfl h rfl (jc rfl rfl rfl) ?_);refine qm ?_;refine xU ?_;clear h;have h:=hs;clear hs;refine oE ?_;refine AO ?_;refine aD (qx (l:=g.cells sl) rfl rfl (qw (h.b 3 rfl) rfl)) rfl ?_;refine Yk ?_;refine aF rfl (qy (vs:=g.cells sl) 5 h rfl rfl rfl rfl rfl rfl rfl fun w h=>?_);replace h:St w0 (bF k.d D::aB g.a4 g.c4 sl.aQ::aI g.a5 g.c5 sl.chunks::pt b5 (.cells (g.cells sl).toArray 85 (0,0))::bV p k::aM t { r with slot:=sl } { q with s:=g }::aK k.c s.c::aE k.b s.b::aS k.t s.t.V::N) w:=h
   refine Yk ?_;refine aF rfl (qb 5 h rfl (show _=Value.bool true from rfl) rfl rfl rfl rfl fun w h=>?_);replace h:St w0 (bF k.d D::aB g.a4 g.c4 sl.aQ::aI g.a5 g.c5 sl.chunks::pt b5 (.cells (g.cells sl).toArray 85 (0,0))::bV p k::aM t { r with slot:=sl,flag:=true } { q with s:=g }::aK k.c s.c::aE k.b s.b::aS k.t s.t.V::N) w:=h
   refine Yk ?_;refine aF rfl (qb 5 h rfl (show _=Value.iz 1 from rfl) rfl rfl rfl rfl fun w h=>?_);replace h:St w0 (bF k.d D::aB g.a4 g.c4 sl.aQ::aI g.a5 g.c5 sl.chunks::pt b5 (.cells (g.cells sl).toArray 85 (0,0))::bV p k::aM t { r with slot:=sl,flag:=true,ph:=1 } { q with s:=g }::aK k.c s.c::aE k.b s.b::aS k.t s.t.V::N) w:=h
   refine Yl ?_;refine Y3 ?_;have h1:St w0 (bV p k::bF k.d D::aK k.c s.c::aE k.b s.b::aS k.t s.t.V::aB g.a4 g.c4 sl.aQ::aI g.a5 g.c5 sl.chunks::aM t { r with slot:=sl,flag:=true,ph:=1 } { q with s:=g }::N) w:=(h.x [3]).o [3,0,5,6,7]
   have h2:St w0 (aU p { s with d:=D }::aB g.a4 g.c4 sl.aQ::aI g.a5 g.c5 sl.chunks::aM t { r with slot:=sl,flag:=true,ph:=1 } { q with s:=g }::N) w:=(St.lJ (s:={ s with d:=D })).2 ⟨k,h1⟩
   subst hN;have h3:St w0 (aM t { r with slot:=sl,flag:=true,ph:=1 } { q with s:=g }::iC q.one r.one::aB g.a4 g.c4 sl.aQ::aI g.a5 g.c5 sl.chunks::aB q.n.a4 q.n.c4 r.next.aQ::aI q.n.a5 q.n.c5 r.next.chunks::aI q.pa q.pc r.x.parts::aB q.ta q.tc r.x.tail::aB q.ga q.gc r.got::aB q.ra q.rc r.res.list::aU p { s with d:=D }::l) w:=(h2.x [5,6]).o [3,4,1,2,5,6,7,8,9,10]
   have h4:St w0 (bH t { r with slot:=sl,flag:=true,ph:=1 }::aU p { s with d:=D }::l) w:=(St.run (r:={ r with slot:=sl,flag:=true,ph:=1 })).2 ⟨{ q with s:=g },h3⟩
   exact qv (qk (bQ ⟨rfl,h4⟩))
theorem td(h:St w0 (aM t r q::l) w):bP prog 75 [.pz t] w fun v w'=>v=.iz r.wrong∧St w0 (aM t r q::l) w':=by
 obtain⟨who,⟨kind,aA,iter,T,V,F,To,N⟩,ph,⟨there,closed,bN,cW,any,last,aQ,chunks⟩,next,flag,us,held,x,told,one,i,got,dH,over,res⟩:=r
 obtain⟨r,hr⟩:∃r,r=(⟨who,⟨kind,aA,iter,T,V,F,To,N⟩,ph,⟨there,closed,bN,cW,any,last,aQ,chunks⟩,next,flag,us,held,x,told,one,i,got,dH,over,res⟩:aP):=⟨_,rfl⟩
 have key:r.wrong=if kind≠1∧there=false then 3 else if kind≠4∧there=true∧closed=true then 2 else if kind=1∧there=true∧any=true∧T<=last then 1 else 0:=by rw[hr];rfl
 rw[<- hr] at h ⊢;obtain⟨S,hS⟩:∃S,S=q.s.cells ⟨there,closed,bN,cW,any,last,aQ,chunks⟩:=⟨_,rfl⟩;have hk:(r.C q)[1]?=some (.iz kind):=by rw[hr];rfl
 have hT:(r.C q)[4]?=some (.iz T):=by rw[hr];rfl
 have s0:S[0]?=some (.bool there):=by rw[hS];rfl
 have s1:S[1]?=some (.bool closed):=by rw[hS];rfl
 have s4:S[4]?=some (.bool any):=by rw[hS];rfl
 have s5:S[5]?=some (.iz last):=by rw[hS];rfl
 refine en func75 results75 ntmps75 ?_;refine Yr ?_;refine Y7 ?_;refine aD (qx (l:=S) rfl (by rw[hS];rfl) (qw (h.b 0 rfl) (by rw[hS,hr];rfl))) rfl ?_
 refine aF rfl (qn h fun b3 w h=>?_);refine aF rfl (qy (vs:=S) 0 h rfl rfl rfl (by rw[hS];rfl) (by rw[hS];rfl) rfl (by rw[hS];rfl) fun w h=>?_)
 replace h:St w0 (pt b3 (.cells S.toArray 85 (0,0))::aM t r q::l) w:=by rw[hS] at h ⊢;exact h
 refine Y2 ?_;refine qf (Γ:=Unit) (fun _=>[]) (fun _ w=>r.wrong=0∧St w0 (aM t r q::l) w) ?_ ?_;rotate_left
 ·rintro _ w e ⟨hz,h⟩;refine rC ?_;exact qv (qk (bQ ⟨by rw[hz];rfl,h⟩))
 refine Yg ?_;refine qf (Γ:=Unit) (fun _=>[(0,.pz t),(3,.pz b3),(8,.bool (!(kind==1)&&!there))]) (fun _ w=>St w0 (pt b3 (.cells S.toArray 85 (0,0))::aM t r q::l) w) ?_ ?_
 ·refine AV ?_;refine Yc ?_;refine aD (qq (v:=.iz kind) rfl (h.b 1 rfl) hk) rfl ?_;refine Bi ?_;by_cases h1:kind=1
  ·refine qz (.bool false) (by rw[h1];rfl) ?_
   refine DZ ?_;refine xM ?_;exact qv ⟨(),⟨rfl,rfl,by rw[h1];rfl,trivial⟩,h⟩
  ·have e1:(kind==1)=false:=by rw[beq_eq_false_iff_ne];exact h1
   refine qz (.bool true) Ns ?_;refine pV ?_;refine aD (qq (v:=.bool there) rfl (h.b 0 rfl) s0) rfl ?_;refine NC ?_;refine Dh ?_;exact qv ⟨(),⟨rfl,rfl,by rw[e1];rfl,trivial⟩,h⟩
 clear h;rintro _ w e h;refine qo (!(kind==1)&&!there) rfl (fun hb=>?_) (fun hb=>?_)
 ·rw[Ur,Wi,Wi,beq_eq_false_iff_ne] at hb;refine rC ?_;exact qv (qk (bQ ⟨by rw[key,if_pos hb];rfl,h.drop⟩))
 have n1:¬(kind≠1∧there=false):=fun hh=>by
  rw[Bool.and_eq_false_iff] at hb;rcases hb with hb|hb
  ·exact hh.1 (by simpa using hb)
  ·rw[hh.2] at hb;cases hb
 refine qf (Γ:=Unit) (fun _=>[(0,.pz t),(3,.pz b3),(20,.bool (!(kind==4)&&there&&closed))]) (fun _ w=>St w0 (pt b3 (.cells S.toArray 85 (0,0))::aM t r q::l) w) ?_ ?_
 ·refine AV ?_;refine Yc ?_;refine aD (qq (v:=.iz kind) rfl (h.b 1 rfl) hk) rfl ?_;refine Bi ?_;by_cases h1:kind=4
  ·refine qz (.bool false) (by rw[h1];rfl) ?_
   refine yY ?_;refine Y9 ?_;refine yY ?_;refine xM ?_;exact qv ⟨(),⟨rfl,rfl,by rw[h1];rfl,trivial⟩,h⟩
  ·have e1:(kind==4)=false:=by rw[beq_eq_false_iff_ne];exact h1
   refine qz (.bool true) Ns ?_;refine pV ?_;refine aD (qq (v:=.bool there) rfl (h.b 0 rfl) s0) rfl ?_;cases there with
   |false=>
    refine Ye ?_;refine yY ?_;refine xM ?_;exact qv ⟨(),⟨rfl,rfl,by rw[e1];rfl,trivial⟩,h⟩
   |true=>
    refine Ye ?_;refine pV ?_;refine aD (qq (v:=.bool closed) rfl (h.b 0 rfl) s1) rfl ?_;refine Dh ?_;exact qv ⟨(),⟨rfl,rfl,by rw[e1];rfl,trivial⟩,h⟩
 clear h;rintro _ w e h;refine qo (!(kind==4)&&there&&closed) rfl (fun hb=>?_) (fun hb=>?_)
 ·rw[Ur,Ur,Wi,beq_eq_false_iff_ne] at hb;refine rC ?_;exact qv (qk (bQ ⟨by rw[key,if_neg n1,if_pos ⟨hb.1.1,hb.1.2,hb.2⟩];rfl,h.drop⟩))
 have n2:¬(kind≠4∧there=true∧closed=true):=fun hh=>by
  rw[hh.2.1,hh.2.2,show(kind==4)=false by rw[beq_eq_false_iff_ne];exact hh.1] at hb
  cases hb
 refine qf (Γ:=Unit) (fun _=>[(0,.pz t),(3,.pz b3),(35,.bool ((kind==1)&&there&&any&&decide (T<=last)))]) (fun _ w=>St w0 (pt b3 (.cells S.toArray 85 (0,0))::aM t r q::l) w) ?_ ?_
 ·refine jz none (fun w=>St w0 (pt b3 (.cells S.toArray 85 (0,0))::aM t r q::l) w) O1 O1 h.drew fun w h=>?_;refine uA ?_;refine qj rfl rfl rfl rfl h (fun _ h=>qh rfl (qq (v:=.iz kind) rfl (h.b 1 rfl) hk)) ?_;by_cases h1:kind=1
  ·have e1:(kind==1)=true:=by rw[beq_iff_eq];exact h1
   refine cD rfl rfl rfl rfl h rfl (q9 (v':=.bool true) (gk rfl rfl) (congrArg Value.bool e1)) ?_;refine Yx ?_;refine qu rfl rfl rfl rfl (fun _=>h) (fun _=>qe rfl rfl (vj rfl)) ?_;refine qj rfl rfl rfl rfl h (fun _ h=>qe rfl rfl (qq (v:=.bool there) rfl (h.b 0 rfl) s0)) ?_;cases there with
   |false=>
    refine cD rfl rfl rfl rfl h rfl (jp rfl rfl rfl) ?_;refine Yx ?_;refine qu rfl rfl rfl rfl (fun _=>h) (fun _=>qp rfl rfl) (qu rfl rfl rfl rfl (fun _=>h) (fun _=>qp rfl rfl) (qu rfl rfl rfl rfl (fun _=>h) (fun _=>qp rfl rfl) (cD rfl rfl rfl rfl h rfl (jc rfl rfl rfl) ?_)));refine Yx ?_;refine qu rfl rfl rfl rfl (fun _=>h) (fun _=>qp rfl rfl) (qu rfl rfl rfl rfl (fun _=>h) (fun _=>qp rfl rfl) (qu rfl rfl rfl rfl (fun _=>h) (fun _=>qp rfl rfl) (qu rfl rfl rfl rfl (fun _=>h) (fun _=>qp rfl rfl) (qu rfl rfl rfl rfl (fun _=>h) (fun _=>qp rfl rfl) (qu rfl rfl rfl rfl (fun _=>h) (fun _=>qp rfl rfl) ?_)))));refine qu rfl rfl rfl rfl (fun _=>h) (fun _=>qp rfl rfl) (qu rfl rfl rfl rfl (fun _=>h) (fun _=>qp rfl rfl) (qu rfl rfl rfl rfl (fun _=>h) (fun _=>qp rfl rfl) (cD rfl rfl rfl rfl h rfl (jc rfl rfl rfl) ?_)));refine rK ?_;exact qm ⟨(),⟨rfl,rfl,by rw[e1];rfl,trivial⟩,h⟩
   |true=>
    refine cD rfl rfl rfl rfl h rfl (jp rfl rfl rfl) ?_;refine Yx ?_;refine qu rfl rfl rfl rfl (fun _=>h) (fun _=>qe rfl rfl (vj rfl)) (qu rfl rfl rfl rfl (fun _=>h) (fun _=>qe rfl rfl (vj rfl)) ?_);refine qj rfl rfl rfl rfl h (fun _ h=>qe rfl rfl (qq (v:=.bool any) rfl (h.b 0 rfl) s4)) ?_;cases any with
    |false=>
     refine cD rfl rfl rfl rfl h rfl (jp rfl rfl rfl) ?_;refine Yx ?_;refine qu rfl rfl rfl rfl (fun _=>h) (fun _=>qp rfl rfl) (qu rfl rfl rfl rfl (fun _=>h) (fun _=>qp rfl rfl) (qu rfl rfl rfl rfl (fun _=>h) (fun _=>qp rfl rfl) (qu rfl rfl rfl rfl (fun _=>h) (fun _=>qp rfl rfl) (qu rfl rfl rfl rfl (fun _=>h) (fun _=>qp rfl rfl) (qu rfl rfl rfl rfl (fun _=>h) (fun _=>qp rfl rfl) ?_)))));refine qu rfl rfl rfl rfl (fun _=>h) (fun _=>qp rfl rfl) (qu rfl rfl rfl rfl (fun _=>h) (fun _=>qp rfl rfl) (qu rfl rfl rfl rfl (fun _=>h) (fun _=>qp rfl rfl) (cD rfl rfl rfl rfl h rfl (jc rfl rfl rfl) ?_)));refine rK ?_;exact qm ⟨(),⟨rfl,rfl,by rw[e1];rfl,trivial⟩,h⟩
    |true=>
     refine cD rfl rfl rfl rfl h rfl (jp rfl rfl rfl) ?_;refine Yx ?_;refine qu rfl rfl rfl rfl (fun _=>h) (fun _=>qe rfl rfl (j1 rfl)) (qu rfl rfl rfl rfl (fun _=>h) (fun _=>qe rfl rfl (uj rfl)) (qu rfl rfl rfl rfl (fun _=>h) (fun _=>qe rfl rfl (vj rfl)) (qu rfl rfl rfl rfl (fun _=>h) (fun _=>qe rfl rfl (vj rfl)) ?_)));refine qj rfl rfl rfl rfl h (fun _ h=>qe rfl rfl (qq (v:=.iz T) rfl (h.b 1 rfl) hT)) ?_;refine qu rfl rfl rfl rfl (fun _=>h) (fun _=>qe rfl rfl (vj rfl)) (qu rfl rfl rfl rfl (fun _=>h) (fun _=>qe rfl rfl (vj rfl)) ?_);refine qj rfl rfl rfl rfl h (fun _ h=>qe rfl rfl (qq (v:=.iz last) rfl (h.b 0 rfl) s5)) ?_;refine qu rfl rfl rfl rfl (fun _=>h) (fun _=>qe rfl rfl (wt rfl rfl)) ?_;refine cD rfl rfl rfl rfl h rfl (jp rfl rfl rfl) ?_;refine rK ?_;exact qm ⟨(),⟨rfl,rfl,by rw[e1];rfl,trivial⟩,h⟩
  ·have e1:(kind==1)=false:=by rw[beq_eq_false_iff_ne];exact h1
   refine cD rfl rfl rfl rfl h rfl (q9 (v':=.bool false) (gk rfl rfl) (congrArg Value.bool e1)) ?_;refine Yx ?_;refine qu rfl rfl rfl rfl (fun _=>h) (fun _=>qp rfl rfl) (qu rfl rfl rfl rfl (fun _=>h) (fun _=>qp rfl rfl) (cD rfl rfl rfl rfl h rfl (jc rfl rfl rfl) ?_));refine Yx ?_;refine qu rfl rfl rfl rfl (fun _=>h) (fun _=>qp rfl rfl) (qu rfl rfl rfl rfl (fun _=>h) (fun _=>qp rfl rfl) (qu rfl rfl rfl rfl (fun _=>h) (fun _=>qp rfl rfl) (cD rfl rfl rfl rfl h rfl (jc rfl rfl rfl) ?_)));refine Yx ?_;refine qu rfl rfl rfl rfl (fun _=>h) (fun _=>qp rfl rfl) (qu rfl rfl rfl rfl (fun _=>h) (fun _=>qp rfl rfl) (qu rfl rfl rfl rfl (fun _=>h) (fun _=>qp rfl rfl) (qu rfl rfl rfl rfl (fun _=>h) (fun _=>qp rfl rfl) (qu rfl rfl rfl rfl (fun _=>h) (fun _=>qp rfl rfl) (qu rfl rfl rfl rfl (fun _=>h) (fun _=>qp rfl rfl) ?_)))));refine qu rfl rfl rfl rfl (fun _=>h) (fun _=>qp rfl rfl) (qu rfl rfl rfl rfl (fun _=>h) (fun _=>qp rfl rfl) (qu rfl rfl rfl rfl (fun _=>h) (fun _=>qp rfl rfl) (cD rfl rfl rfl rfl h rfl (jc rfl rfl rfl) ?_)));refine rK ?_;exact qm ⟨(),⟨rfl,rfl,by rw[e1];rfl,trivial⟩,h⟩
 clear h;rintro _ w e h;refine qo ((kind==1)&&there&&any&&decide (T<=last)) rfl (fun hb=>?_) (fun hb=>?_)
 ·rw[Ur,Ur,Ur,beq_iff_eq,decide_eq_true_eq] at hb;refine rC ?_;exact qv (qk (bQ ⟨by rw[key,if_neg n1,if_neg n2,if_pos ⟨hb.1.1.1,hb.1.1.2,hb.1.2,hb.2⟩];rfl,h.drop⟩))
 have n3:¬(kind=1∧there=true∧any=true∧T<=last):=fun hh=>by
  rw[hh.2.1,hh.2.2.1,show(kind==1)=true by rw[beq_iff_eq];exact hh.1,decide_eq_true hh.2.2.2] at hb
  cases hb
 exact qa ⟨(),trivial,by rw[key,if_neg n1,if_neg n2,if_neg n3],h.drop⟩
end
end
section
theorem nX{L:List bZ}{c:List UInt8}(h:dG 1 L=some c):c.length<=70+20*L.length:=by
 obtain⟨x,hx,_,he⟩:=mC h;have hb:=nV 1 L x;rw[he,Ua,mD];unfold cU at hx;split at hx
 ·have h1:cQ 1 (cK L)=some (pack (eA (cK L))):=by unfold cQ;rw[if_pos rfl]
  rw[h1] at hx;have hx':dY L (pack (eA (cK L)))=x:=Uk hx;have h2:=jM (bG L);have h3:=j9 (bX (bG L));have h4:=jd (pack (bX (bG L))).length;have h5:(bG L).length=L.length:=by simp[bG]
  have h6:=jT (cK L);have h7:=j9 (eA (cK L));have h8:(cK L).length=L.length:=by simp[cK]
  have h9:x.length<=30+20*L.length:=by
   rw[<- hx'];unfold dY;rw[Ua,Ua];omega
  omega
 ·cases hx
theorem BW{L:List bZ}{c:List UInt8}(hn:L.length<=60)(h:dG 1 L=some c):c.length<=2000:=by
 have:=nX h;omega
end
section
section
variable{w0 w:World}{l:List aC}{t p:Nat}{r:aP}{s:cG}{q:gX}
def Hv(r:aP)(q:gX)(k:Hu)(s:cG)(l:List aC):List aC:=
 iC q.one r.one::aB q.s.a4 q.s.c4 r.slot.aQ::aI q.s.a5 q.s.c5 r.slot.chunks::aI q.pa q.pc r.x.parts::aB q.ta q.tc r.x.tail::aB q.ga q.gc r.got::aB q.ra q.rc r.res.list::bF k.d s.d::aK k.c s.c::aS k.t s.t.V::l
theorem St.nx:St w0 (bH t r::aU p s::l) w↔∃q k,St w0 (aM t r q::aB q.n.a4 q.n.c4 r.next.aQ::aI q.n.a5 q.n.c5 r.next.chunks::bV p k::aE k.b s.b::Hv r q k s l) w:=by
 constructor
 ·intro h;obtain⟨q,h⟩:=(St.run (r:=r)).1 h;obtain⟨k,h⟩:=(St.lJ (s:=s)).1 (h.f 10);exact⟨q,k,h.o [5,9,10,0,3,6,7,8,11,12,13,14,1,2,4]⟩
 ·rintro⟨q,k,h⟩;have h1:St w0 (bV p k::bF k.d s.d::aK k.c s.c::aE k.b s.b::aS k.t s.t.V::aM t r q::iC q.one r.one::aB q.s.a4 q.s.c4 r.slot.aQ::aI q.s.a5 q.s.c5 r.slot.chunks::aB q.n.a4 q.n.c4 r.next.aQ::aI q.n.a5 q.n.c5 r.next.chunks::aI q.pa q.pc r.x.parts::aB q.ta q.tc r.x.tail::aB q.ga q.gc r.got::aB q.ra q.rc r.res.list::l) w:=h.o [3,12,13,4,14,0,5,6,7,1,2,8,9,10,11]
  have h2:St w0 (aU p s::aM t r q::iC q.one r.one::aB q.s.a4 q.s.c4 r.slot.aQ::aI q.s.a5 q.s.c5 r.slot.chunks::aB q.n.a4 q.n.c4 r.next.aQ::aI q.n.a5 q.n.c5 r.next.chunks::aI q.pa q.pc r.x.parts::aB q.ta q.tc r.x.tail::aB q.ga q.gc r.got::aB q.ra q.rc r.res.list::l) w:=(St.lJ (s:=s)).2 ⟨k,h1⟩
  exact(St.run (r:=r)).2 ⟨q,h2.o [1,2,3,4,5,6,7,8,9,10]⟩
theorem yd{b:Nat}{S:eR}(n:Int)(h:St w0 (aE b S::l) w):bP prog 129 [.pz b,.iz n] w fun v w'=>v=.bool (S.jD n).1∧St w0 (aE b (S.jD n).2::l) w':=by
 refine(cq n h).mono fun v w hh=>?_;by_cases hc:n>0∧n>IntKind.i64.wrap (S.bA-IntKind.i64.wrap (S.bytes+S.aR))
 ·have e:S.jD n=(false,S):=if_pos hc;rw[if_pos hc] at hh;rw[e];exact hh
 ·have e:S.jD n=(true,S.nQ n):=if_neg hc;rw[if_neg hc] at hh;rw[e];exact hh
theorem eo{b:Nat}{S:eR}{sl:Option Addr}{c:Nat}{bs:List UInt8}(h:St w0 (aE b S::l) w)(hr:∀w',St w0 l w'->Rd w' 1 sl bs.length (aY bs))(hn:bs.length<=140737488355328)(hfree:aH (wI (S.last+1)) S.l=none):
  bP prog 145 [.pz b,.slice sl bs.length c] w fun v w'=>v=.tuple [.iz (((S.add bs).map (·.2)).getD 0),.bool (S.add bs).isSome].toArray∧St w0 (aE b (((S.add bs).map (·.1)).getD S)::l) w':=by
 refine(SY (n:=bs.length) (c:=c) h hr hn hfree).mono fun v w hh=>?_;by_cases hc:IntKind.i64.wrap (S.bA-IntKind.i64.wrap (S.bytes+S.aR))<bs.length
 ·have e:S.add bs=none:=if_pos hc;rw[if_pos hc] at hh;rw[e];exact hh
 ·have e:S.add bs=some (⟨S.bA,wI (S.last+1),wI (S.bytes+bs.length),S.aR,aX (wI (S.last+1)) ⟨bs,1⟩ S.l⟩,wI (S.last+1)):=if_neg hc;rw[if_neg hc] at hh;rw[e];exact hh
theorem mc{S:eR}(n:Int):(S.jD n).2.last=S.last∧(S.jD n).2.l=S.l∧(S.jD n).2.bA=S.bA∧(S.jD n).2.bytes=S.bytes:=by
 unfold eR.jD;split <;> exact⟨rfl,rfl,rfl,rfl⟩
structure aP.AD(r:aP)(s:cG):Prop where
 wf:∀x∈r.next.aQ,x.Wf
 gQ:r.next.aQ.length<=60
 chunks:r.next.chunks.length<=1048576
 free:aH (wI (s.b.last+1)) s.b.l=none
theorem d8(hT:Tz w0)(hok:r.AD s)(h:St w0 (bH t r::aU p s::l) w):
  bP prog 131 [.pz t,.pz p] w fun v w'=>v=.bool (r.close s).2.2∧St w0 (bH t (r.close s).1::aU p (r.close s).2.1::l) w':=by
 obtain⟨hwf,xA,xR,hfree⟩:=hok;obtain⟨q,k,h⟩:=St.nx.1 h;obtain⟨bs,Mm⟩:∃bs,(dG 1 r.next.aQ).getD []=bs:=⟨_,rfl⟩
 have Gu:bs.length<=2000:=by
  rw[<- Mm];cases hm:dG 1 r.next.aQ with
  |none=>exact Uf _
  |some c=>exact BW xA hm
 obtain⟨size,hsize⟩:∃x,wI (16*(r.next.aQ.length:Int))=x:=⟨_,rfl⟩
 obtain⟨b1,EY⟩:∃b1,(s.b.jD (wI (0-size))).2=b1:=⟨_,rfl⟩;have hkeep:=mc (S:=s.b) (wI (0-size));rw[EY] at hkeep;have JV:aH (wI (b1.last+1)) b1.l=none:=by rw[hkeep.1,hkeep.2.1];exact hfree
 obtain⟨hd,Rp⟩:∃hd:Hd,((fO bs).map (fun q=>q.1)).getD ⟨0,0,0,0⟩=hd:=⟨_,rfl⟩
 have key:r.close s=match b1.add bs with
  |none=>(r,{ s with b:=(b1.jD size).2 },false)
  |some (b2,id)=>({ r with next:={ r.next with chunks:=r.next.chunks++[⟨id,hd.tag,hd.count,hd.f,hd.t⟩],aQ:=[] } },{ s with b:=b2 },true):=by
  unfold aP.close aG.size;dsimp only;rw[hsize,Mm,EY,Rp]
  all_goals
   cases b1.add bs with
   |none=>rfl
   |some g=>rfl
 obtain⟨R,hR⟩:∃R,Hv r q k s l=R:=⟨_,rfl⟩;rw[hR] at h;refine en func131 results131 ntmps131 ?_;refine pL ?_;refine EK ?_;refine aD (qx (l:=hY r.next.any r.next.last q.n.a4 r.next.aQ.length q.n.c4) rfl rfl (qw (h.b 0 rfl) rfl)) rfl ?_
 refine aF rfl (qg rfl (mb h) ?_);clear h;rintro _ w ⟨rfl,h⟩;rw[hsize];refine Y5 ?_;refine EK ?_;refine aD (qx (l:=hY r.next.any r.next.last q.n.a4 r.next.aQ.length q.n.c4) rfl rfl (qw (h.b 0 rfl) rfl)) rfl ?_
 refine aF rfl (qg rfl (th hT hwf O0 (Reads.own.more [_]) h) ?_);clear h;rintro _ w ⟨ba,bc,rfl,h⟩;rw[Mm] at h ⊢;refine Ct ?_;refine aF rfl (qn h fun b7 w h=>?_);refine Yo ?_;refine aF rfl (qy (vs:=hY r.next.any r.next.last none 0 0) 0 h rfl rfl rfl rfl rfl rfl rfl fun w h=>?_)
 replace h:St w0 (pt b7 (.cells (hY r.next.any r.next.last none 0 0).toArray 82 (0,0))::gI ba bc bs::aM t r q::aB q.n.a4 q.n.c4 r.next.aQ::aI q.n.a5 q.n.c5 r.next.chunks::bV p k::aE k.b s.b::R) w:=h
 refine Y2 ?_;refine Y7 ?_;refine aD (qq (v:=.pointer (some ⟨k.b,0,none⟩)) rfl (h.b 5 rfl) rfl) rfl ?_;refine Y0 ?_;refine aD (sx rfl) rfl ?_;refine qz (.iz (wI (0-size))) (by congr 1) ?_
 refine aF rfl (qg rfl (yd (wI (0-size)) (h.f 6)) ?_);clear h;rintro _ w ⟨rfl,h⟩;rw[EY] at h;refine Y2 ?_;refine Y7 ?_;refine aD (qq (v:=.pointer (some ⟨k.b,0,none⟩)) rfl (h.b 6 rfl) rfl) rfl ?_;refine Yp ?_;refine aF rfl (qg rfl (eo (bs:=bs) h (fun w' h'=>(h'.f 1).bU) O0 JV) ?_);clear h;rintro _ w ⟨rfl,h⟩;cases uY:b1.add bs with
 |none=>
  rw[uY] at h key;replace key:r.close s=(r,{ s with b:=(b1.jD size).2 },false):=key
  rw[key];replace h:St w0 (aE k.b b1::pt b7 (.cells (hY r.next.any r.next.last none 0 0).toArray 82 (0,0))::gI ba bc bs::aM t r q::aB q.n.a4 q.n.c4 r.next.aQ::aI q.n.a5 q.n.c5 r.next.chunks::bV p k::R) w:=h
  refine K6 ?_;refine vU ?_;refine Yh ?_;refine Y7 ?_;refine aD (qq (v:=.pointer (some ⟨k.b,0,none⟩)) rfl (h.b 6 rfl) rfl) rfl ?_;refine Y0 ?_;refine aF rfl (qg rfl (yd size h) ?_);clear h;rintro _ w ⟨rfl,h⟩;refine Yl ?_;refine Y3 ?_;have h1:St w0 (aM t r q::aB q.n.a4 q.n.c4 r.next.aQ::aI q.n.a5 q.n.c5 r.next.chunks::bV p k::aE k.b (b1.jD size).2::R) w:=(h.x [1,2]).o [1,2,3,4,0]
  rw[<- hR] at h1;have h2:St w0 (bH t r::aU p { s with b:=(b1.jD size).2 }::l) w:=(St.nx (s:={ s with b:=(b1.jD size).2 })).2 ⟨q,k,h1⟩
  exact qv (qk (bQ ⟨rfl,h2⟩))
 |some g=>
  obtain⟨b2,id⟩:=g;rw[uY] at h key;obtain⟨P,hP⟩:∃P:gP,P=⟨id,hd.tag,hd.count,hd.f,hd.t⟩:=⟨_,rfl⟩;replace key:r.close s=({ r with next:={ r.next with chunks:=r.next.chunks++[P],aQ:=[] } },{ s with b:=b2 },true):=by rw[key,hP]
  rw[key];replace h:St w0 (aE k.b b2::pt b7 (.cells (hY r.next.any r.next.last none 0 0).toArray 82 (0,0))::gI ba bc bs::aM t r q::aB q.n.a4 q.n.c4 r.next.aQ::aI q.n.a5 q.n.c5 r.next.chunks::bV p k::R) w:=h
  refine K6 ?_;refine vU ?_;refine Y8 ?_;refine Yd ?_;have hcap:=(h.f 2).bT.2.1;have FK:=ey (bs:=bs) (c:=bc) O0 hcap (Reads.own.more [_,_]) h
  have TY:((fO bs).map fun q=>qH q.1).getD iR=qH hd:=by
   rw[<- Rp];cases fO bs <;> rfl
  rw[TY] at FK;refine aF rfl (qg rfl FK ?_);clear h FK;rintro _ w ⟨rfl,h⟩;refine Ct ?_;refine aF rfl (qn h fun mX w h=>?_);refine aF rfl (qy (vs:=qH hd) 0 h rfl rfl rfl rfl rfl rfl rfl fun w h=>?_);replace h:St w0 (pt mX (.cells (qH hd).toArray 229 (0,0))::aE k.b b2::pt b7 (.cells (hY r.next.any r.next.last none 0 0).toArray 82 (0,0))::gI ba bc bs::aM t r q::aB q.n.a4 q.n.c4 r.next.aQ::aI q.n.a5 q.n.c5 r.next.chunks::bV p k::R) w:=h
  refine Ya ?_
  refine qf (Γ:=Option Addr×Nat) (fun _=>[(0,.pz t),(7,.pz b7)])
   (fun g w=>St w0 (aI g.1 g.2 (r.next.chunks++[P])::aM t { r with next:={ r.next with chunks:=r.next.chunks++[P] } } { q with n:={ q.n with a5:=g.1,c5:=g.2 } }::aE k.b b2::pt b7 (.cells (hY r.next.any r.next.last none 0 0).toArray 82 (0,0))::bV p k::R) w) ?_ ?_
  ·refine jb [0,1,2,3,4,5,6,7,8,9,10,11,12,13,14,15,16,17,18,19,20,21,22] (some 22) (fun w=>St w0 (pt mX (.cells (qH hd).toArray 229 (0,0))::aM t r q::aE k.b b2::pt b7 (.cells (hY r.next.any r.next.last none 0 0).toArray 82 (0,0))::bV p k::R) w) O1 O1 ?_
   have hs:St w0 (aI q.n.a5 q.n.c5 r.next.chunks::pt mX (.cells (qH hd).toArray 229 (0,0))::aM t r q::aE k.b b2::pt b7 (.cells (hY r.next.any r.next.last none 0 0).toArray 82 (0,0))::bV p k::R) w.drew:=(h.drew.x [3,5]).o [4,0,3]
   clear h;generalize w.drew=w1 at hs ⊢;have h:=hs.drop;refine tY ?_;refine uA ?_;refine qj rfl rfl rfl rfl h (fun _ h=>qh rfl (qq (v:=.slice q.n.a5 r.next.chunks.length q.n.c5) rfl (h.b 1 rfl) rfl)) ?_
   refine Ym ?_;refine Yt ?_;refine Yj ?_;refine qj rfl rfl rfl rfl h (fun _ h=>qh rfl (qq (v:=.iz hd.tag) rfl (h.b 0 rfl) rfl)) ?_;refine Yj ?_;refine qj rfl rfl rfl rfl h (fun _ h=>qh rfl (qq (v:=.iz hd.count) rfl (h.b 0 rfl) rfl)) ?_;refine Yj ?_;refine qj rfl rfl rfl rfl h (fun _ h=>qh rfl (qq (v:=.iz hd.f) rfl (h.b 0 rfl) rfl)) ?_;refine Yj ?_;refine qj rfl rfl rfl rfl h (fun _ h=>qh rfl (qq (v:=.iz hd.t) rfl (h.b 0 rfl) rfl)) ?_;refine cD rfl rfl rfl rfl h rfl (qc (r:=P.cells) (by rw[hP];rfl)) ?_
   refine xO ?_;refine j5 6 17 rfl rfl rfl rfl rfl rfl ?_ ?_
   ·refine qg rfl (xo hs) ?_;clear h hs;rintro _ w ⟨rfl,hs⟩;have h:=hs.drop;refine⟨fun _=>h,?_⟩;refine xO ?_;refine qd 17 rfl rfl rfl rfl ?_;refine jq (r:=dP [P]) hs rfl rfl rfl fun b5 w hs=>?_;clear h;have h:=hs.drop.drop;refine⟨fun _=>h,?_⟩;refine Cu ?_;refine qd 18 rfl rfl rfl rfl ?_;refine ql (ys:=dP [P]) (zs:=dP (r.next.chunks++[P])) (m3:=(r.next.chunks++[P]).length) (hs.f 1) rfl rfl ⟨rfl,.inr ⟨b5,0,rfl,qw (hs.b 0 rfl) rfl⟩⟩ (uu _) O7 (by simp[dP]) O5 O5 rfl fun a2 c2 w _ hs=>?_
    clear h;have h:=hs.drop.drop;refine⟨fun _=>h,?_⟩;refine Cg ?_;refine Di ?_;refine jv 22 rfl rfl rfl ?_;refine qb 3 hs rfl (show _=Value.slice a2 (r.next.chunks++[P]).length c2 from rfl) rfl rfl rfl rfl fun w h=>?_
    exact⟨(a2,c2),gS,h.x [1,2]⟩
   ·refine jq (r:=dP [P]) hs rfl rfl rfl fun b5 w hs=>?_;clear h;have h:=hs.drop.drop;refine⟨fun _=>h,?_⟩;refine xO ?_;refine qd 6 rfl rfl rfl rfl ?_;refine qg rfl (xo (hs.f 1)) ?_;clear h hs;rintro _ w ⟨rfl,hs⟩;have h:=hs.drop.drop;refine⟨fun _=>h,?_⟩;refine Cu ?_;refine qd 18 rfl rfl rfl rfl ?_;refine ql (ys:=dP [P]) (zs:=dP (r.next.chunks++[P])) (m3:=(r.next.chunks++[P]).length) hs rfl rfl ⟨rfl,.inr ⟨b5,0,rfl,qw (hs.b 1 rfl) rfl⟩⟩ (uu _) O7 (by simp[dP]) O5 O5 rfl fun a2 c2 w _ hs=>?_
    clear h;have h:=hs.drop.drop;refine⟨fun _=>h,?_⟩;refine Cg ?_;refine Di ?_;refine jv 22 rfl rfl rfl ?_;refine qb 3 hs rfl (show _=Value.slice a2 (r.next.chunks++[P]).length c2 from rfl) rfl rfl rfl rfl fun w h=>?_
    exact⟨(a2,c2),gS,h.x [1,2]⟩
  clear h;rintro⟨a2,c2⟩ w e h;dsimp only at h;refine Yq ?_;refine aD (qx (l:=hY r.next.any r.next.last none 0 0) rfl rfl (qw (h.b 3 rfl) rfl)) rfl ?_
  refine Yk ?_;refine Yc ?_;refine aF rfl (qy (vs:=hY r.next.any r.next.last none 0 0) 1 h rfl rfl rfl rfl rfl rfl rfl fun w h=>?_)
  replace h:St w0 (aI a2 c2 (r.next.chunks++[P])::aM t { r with next:={ r.next with chunks:=r.next.chunks++[P],aQ:=[] } } { q with n:=⟨none,0,a2,c2⟩ }::aE k.b b2::pt b7 (.cells (hY r.next.any r.next.last none 0 0).toArray 82 (0,0))::bV p k::R) w:=h
  refine Yl ?_;refine Y3 ?_;have h1:St w0 (aM t { r with next:={ r.next with chunks:=r.next.chunks++[P],aQ:=[] } } { q with n:=⟨none,0,a2,c2⟩ }::aB none 0 []::aI a2 c2 (r.next.chunks++[P])::bV p k::aE k.b b2::R) w:=((h.x [3]).aZ 57 2).o [2,0,1,4,3]
  rw[<- hR] at h1;have h2:St w0 (bH t { r with next:={ r.next with chunks:=r.next.chunks++[P],aQ:=[] } }::aU p { s with b:=b2 }::l) w:=(St.nx (r:={ r with next:={ r.next with chunks:=r.next.chunks++[P],aQ:=[] } }) (s:={ s with b:=b2 })).2 ⟨{ q with n:=⟨none,0,a2,c2⟩ },k,h1⟩
  exact qv (qk (bQ ⟨rfl,h2⟩))
end
end
section
section
variable{w0 w:World}{l:List aC}{t p:Nat}{r:aP}{s:cG}{q:gX}
theorem JW{S:eR}{n:Int}(h:(S.jD n).1=false):S.jD n=(false,S):=by
 unfold eR.jD at h ⊢;split
 ·rfl
 ·rename_i hc;rw[if_neg hc] at h;cases h
structure aP.MD(r:aP)(s:cG):Prop where
 wf:∀x∈r.next.aQ,x.Wf
 op:r.o.Wf
 gQ:r.next.aQ.length<=50
 chunks:r.next.chunks.length<=1048576
 free:aH (wI (s.b.last+1)) s.b.l=none
def aP.n0(r:aP):aG:=if r.next.there then r.next else { aG.zero with there:=true,bN:=r.slot.bN }
theorem TZ(hT:Tz w0)(hok:r.MD s)(h:St w0 (bH t r::aU p s::l) w):
  bP prog 107 [.pz t,.pz p] w fun v w'=>v=.bool (r.add s).2.2∧St w0 (bH t (r.add s).1::aU p (r.add s).2.1::l) w':=by
 obtain⟨hwf,hop,xA,xR,hfree⟩:=hok;obtain⟨q,k,h⟩:=St.nx.1 h;obtain⟨n0,hn0⟩:∃n0,r.n0=n0:=⟨_,rfl⟩
 have ME:∀x∈n0.aQ,x.Wf:=by
  rw[<- hn0];unfold aP.n0;split
  ·exact hwf
  ·intro x hx;cases hx
 have MF:n0.aQ.length<=50∧n0.chunks.length<=1048576:=by
  rw[<- hn0];unfold aP.n0;split
  ·exact⟨xA,xR⟩
  ·exact⟨Uf _,Uf _⟩
 obtain⟨x,hx⟩:∃x:bZ,x=⟨r.o.T,(r.o.V:Int)⟩:=⟨_,rfl⟩;have MG:x.Wf:=by rw[hx];exact⟨hop.2.2.2.1,⟨gH,by have:=hop.2.2.2.2.1;dsimp only;omega⟩⟩
 obtain⟨n1,hn1⟩:∃n1,n0.add x=n1:=⟨_,rfl⟩;have PL:n1={ n0 with any:=(jW n0.any n0.last n0.aQ x).1,last:=(jW n0.any n0.last n0.aQ x).2.1,aQ:=(jW n0.any n0.last n0.aQ x).2.2.1 }:=by rw[<- hn1];exact aG.add_eq n0 x
 have Io:n1.aQ.length<=51∧n1.chunks=n0.chunks∧∀y∈n1.aQ,y.Wf:=by
  rw[<- hn1];unfold aG.add;split
  ·exact⟨cI,rfl,ME⟩
  ·refine⟨by dsimp only;simp;omega,rfl,fun y hy=>?_⟩
   rcases Vc.1 hy with hy|hy
   ·exact ME y hy
   ·rw[Vi.1 hy];exact MG
 obtain⟨r1,iX⟩:∃r1,r1={ r with next:=n1 }:=⟨_,rfl⟩
 have key:r.add s=match s.b.jD 16 with
   |(false,_)=>(r1,s,false)
   |(true,b)=>if n1.aQ.length<8 then(r1,{ s with b:=b },true) else match r1.close { s with b:=b } with
    |(r,s,true)=>(r,s,true)
    |(r,s,false)=>(r,{ s with b:=(s.b.jD (-16)).2 },false):=by
  unfold aP.add;dsimp only;rw[show(if r.next.there=true then r.next else { aG.zero with there:=true,bN:=r.slot.bN })=n0 from hn0,<- hx,hn1,iX]
  all_goals
   cases s.b.jD 16 with
   |mk g b=>
    cases g with
    |false=>rfl
    |true=>
     dsimp only;by_cases h8:n1.aQ.length<8
     ·rw[if_pos h8,if_pos h8]
     ·rw[if_neg h8,if_neg h8];cases aP.close { r with next:=n1 } { s with b:=b } with
      |mk a c=>obtain⟨c,d⟩:=c;cases d <;> rfl
 obtain⟨R,hR⟩:∃R,Hv r q k s l=R:=⟨_,rfl⟩;rw[hR] at h;refine en func107 results107 ntmps107 ?_;refine pL ?_
 refine qf (Γ:=Q4) (fun _=>[(0,.pz t),(1,.pz p)])
  (fun g w=>St w0 (aM t { r with next:=n0 } { q with n:=g }::aB g.a4 g.c4 n0.aQ::aI g.a5 g.c5 n0.chunks::bV p k::aE k.b s.b::R) w) ?_ ?_
 ·refine EK ?_;refine aD (qq (v:=.bool r.next.there) rfl (h.b 0 rfl) rfl) rfl ?_
  cases ht:r.next.there with
  |true=>
   refine oO ?_;have e0:n0=r.next:=by rw[<- hn0];exact if_pos ht
   refine qv (qt rfl (qa ⟨q.n,gS,?_⟩));rw[e0];exact h
  |false=>
   refine oO ?_;have e0:n0={ aG.zero with there:=true,bN:=r.slot.bN }:=by rw[<- hn0];exact if_neg (by rw[ht];decide)
   refine E8 ?_;refine vE ?_;refine Yc ?_;refine aD (qq (v:=.iz r.slot.bN) rfl (h.b 0 rfl) rfl) rfl ?_;refine aD (qc (r:=({ aG.zero with there:=true,bN:=r.slot.bN }:aG).cells none 0 none 0) rfl) rfl ?_
   refine Yk ?_;refine aF rfl (qy (vs:=({ aG.zero with there:=true,bN:=r.slot.bN }:aG).cells none 0 none 0) 0 h rfl rfl rfl rfl rfl rfl rfl fun w h=>?_)
   refine qv ⟨⟨none,0,none,0⟩,gS,?_⟩;rw[e0];exact(((h.x [1,2]).aZ 168 5).aZ 57 2).o [2]
 clear h;rintro g w e h
 refine qf (Γ:=Option Addr×Nat) (fun _=>[(0,.pz t),(1,.pz p)])
  (fun u w=>St w0 (aM t r1 { q with n:=⟨u.1,u.2,g.a5,g.c5⟩ }::aB u.1 u.2 n1.aQ::aI g.a5 g.c5 n1.chunks::bV p k::aE k.b s.b::R) w) ?_ ?_
 ·refine vr [0,1,2,3,4,5,6,7,8,9,10,11,12,13,14,15,16,17,18,19,24,20,21,22,23] (some 24) (fun w=>St w0 (aM t { r with next:=n0 } { q with n:=g }::aB g.a4 g.c4 n0.aQ::aI g.a5 g.c5 n0.chunks::bV p k::aE k.b s.b::R) w) O1 O1 h.drew fun w h=>?_
  refine tY ?_;refine uA ?_;refine qj rfl rfl rfl rfl h (fun _ h=>qh rfl (qx (l:=hY n0.any n0.last g.a4 n0.aQ.length g.c4) rfl rfl (qw (h.b 0 rfl) rfl))) ?_;refine uA ?_;refine qj rfl rfl rfl rfl h (fun _ h=>qh rfl (qq (v:=.iz r.o.T) rfl (h.b 0 rfl) rfl)) ?_;refine uA ?_;refine qj rfl rfl rfl rfl h (fun _ h=>qh rfl (qq (v:=.int .u64 (r.o.V:Int)) rfl (h.b 0 rfl) rfl)) ?_;refine cD rfl rfl rfl rfl h rfl (qc (r:=x.cells) (by rw[hx];rfl)) ?_
  refine nJ ?_;refine nJ ?_;refine qd 17 rfl rfl rfl rfl ?_;refine qg rfl (TW (s:=x) O0 (Reads.own.more [_]) h) ?_;clear h;rintro _ w ⟨ua,uc,rfl,h1⟩;have h:=h1.drop;refine⟨fun _=>h,?_⟩;refine xX ?_;refine Cg ?_;refine Di ?_;refine jv 24 rfl rfl rfl ?_;refine qy (vs:=hY (jW n0.any n0.last n0.aQ x).1 (jW n0.any n0.last n0.aQ x).2.1 ua (jW n0.any n0.last n0.aQ x).2.2.1.length uc) 1 h1 rfl rfl rfl rfl rfl rfl rfl fun w h=>?_;refine⟨(ua,uc),gS,?_⟩;rw[iX,PL];exact(h.x [2]).o [1,0]
 clear h;rintro⟨ua,uc⟩ w e h;dsimp only at h;obtain⟨Q,hQ⟩:∃Q:gX,{ q with n:=⟨ua,uc,g.a5,g.c5⟩ }=Q:=⟨_,rfl⟩
 have T0:∀b,Hv r1 Q k { s with b:=b } l=R:=fun b=>by rw[<- hQ,iX,<- hR];rfl
 have wG:∀{w:World} {b:eR},St w0 (aM t r1 Q::aB ua uc n1.aQ::aI g.a5 g.c5 n1.chunks::bV p k::aE k.b b::R) w->St w0 (bH t r1::aU p { s with b:=b }::l) w:=by
  intro w b h;rw[<- T0 b] at h;refine(St.nx (r:=r1) (s:={ s with b:=b })).2 ⟨Q,k,?_⟩
  rw[<- hQ] at h ⊢;rw[iX] at h ⊢;exact h
 rw[hQ] at h;refine Bm ?_;refine aD (qq (v:=.pointer (some ⟨k.b,0,none⟩)) rfl (h.b 3 rfl) rfl) rfl ?_;refine aF rfl (qg rfl (yd 16 (h.f 4)) ?_);clear h;rintro _ w ⟨rfl,h⟩;replace h:St w0 (aM t r1 Q::aB ua uc n1.aQ::aI g.a5 g.c5 n1.chunks::bV p k::aE k.b (s.b.jD 16).2::R) w:=h.o [1,2,3,4];cases hc:s.b.jD 16 with
 |mk ok b=>
 cases ok with
 |false=>
  rw[hc] at key h;have hs:b=s.b:=by have:=JW (S:=s.b) (n:=16) (by rw[hc]);rw[hc] at this;exact(Prod.mk.inj this).2
  subst hs;refine oO ?_;refine GS ?_;rw[key];exact qv (qk (bQ ⟨rfl,wG h⟩))
 |true=>
  rw[hc] at key h;dsimp only at key h;refine Gl ?_;refine Bm ?_;refine Yc ?_;refine aD (qx (l:=hY n1.any n1.last ua n1.aQ.length uc) rfl rfl (qw (h.b 0 rfl) (by rw[<- hQ,iX];rfl))) rfl ?_
  refine aF rfl (qg rfl (ep h) ?_);clear h;rintro _ w ⟨rfl,h⟩;by_cases hf:n1.aQ.length<8
  ·rw[if_pos hf] at key;refine qz (.bool false) O4 ?_;refine oO ?_;refine yY ?_;refine Cs ?_;refine GS ?_;rw[key];exact qv (qk (bQ ⟨rfl,wG h⟩))
  ·rw[if_neg hf] at key;refine qz (.bool true) O3 ?_;refine oO ?_;refine DY ?_;refine NB ?_
   have xP:=d8 (r:=r1) (s:={ s with b:=b }) hT ⟨by rw[iX];exact Io.2.2,by rw[iX];dsimp only;omega,by rw[iX];dsimp only;rw[Io.2.1];exact MF.2,by
    have hk:=mc (S:=s.b) 16;rw[hc] at hk;dsimp only at hk ⊢
    rw[hk.1,hk.2.1];exact hfree⟩ (wG h)
   refine aF rfl (qg rfl xP ?_);clear h xP;rintro _ w ⟨rfl,h⟩;cases PM:r1.close { s with b:=b } with
   |mk r2 c=>
   obtain⟨s2,ok⟩:=c;rw[PM] at key h;dsimp only at h;cases ok with
   |true=>
    replace key:r.add s=(r2,s2,true):=key;rw[key];refine Y9 ?_;refine GS ?_;exact qv (qk (bQ ⟨rfl,h⟩))
   |false=>
    replace key:r.add s=(r2,{ s2 with b:=(s2.b.jD (-16)).2 },false):=key
    rw[key];refine Y9 ?_;refine Y8 ?_;obtain⟨k2,h⟩:=(St.lJ (s:=s2)).1 (h.f 1);refine Y7 ?_;refine aD (qq (v:=.pointer (some ⟨k2.b,0,none⟩)) rfl (h.b 0 rfl) rfl) rfl ?_;refine aF rfl (qg rfl (yd (-16) (h.f 3)) ?_);clear h;rintro _ w ⟨rfl,h⟩;refine Yl ?_;refine Y3 ?_;have h1:St w0 (bV p k2::bF k2.d s2.d::aK k2.c s2.c::aE k2.b (s2.b.jD (-16)).2::aS k2.t s2.t.V::bH t r2::l) w:=h.o [1,2,3];exact qv (qk (bQ ⟨rfl,((St.lJ (s:={ s2 with b:=(s2.b.jD (-16)).2 })).2 ⟨k2,h1⟩).f 1⟩))
theorem ei(hT:Tz w0)(hok:r.AD s)(h:St w0 (bH t r::aU p s::l) w):
  bP prog 108 [.pz t,.pz p] w fun v w'=>v=.bool (r.uG s).2.2∧St w0 (bH t (r.uG s).1::aU p (r.uG s).2.1::l) w':=by
 obtain⟨r1,iX⟩:∃r1,r1={ r with next:={ r.next with closed:=true } }:=⟨_,rfl⟩
 have key:r.uG s=if r.next.aQ.length=0 then(r1,s,true) else r1.close s:=by rw[iX];rfl
 have PN:r1.AD s:=by rw[iX];exact⟨hok.wf,hok.gQ,hok.chunks,hok.free⟩
 obtain⟨q,h⟩:=(St.run' (r:=r)).1 h;refine en func108 results108 ntmps108 ?_;refine pL ?_;refine EK ?_;refine aF rfl (qb 0 h rfl (show _=Value.bool true from rfl) rfl rfl rfl rfl fun w h=>?_);replace h:St w0 (aM t r1 q::(r1.rows q++(aU p s::l))) w:=by rw[iX];exact h
 refine Y2 ?_;refine EK ?_;refine Yc ?_;refine aD (qq (v:=.slice q.n.a4 r.next.aQ.length q.n.c4) rfl (h.b 0 rfl) (by rw[iX];rfl)) rfl ?_
 refine rJ ?_;refine Yi ?_;have hf:St w0 (bH t r1::aU p s::l) w:=(St.run' (r:=r1)).2 ⟨q,h⟩;by_cases h0:r.next.aQ.length=0
 ·rw[if_pos h0] at key;refine qz (.bool true) HH ?_;refine yY ?_;refine Cs ?_;refine Y3 ?_;rw[key];exact qv (qk (bQ ⟨rfl,hf⟩))
 ·rw[if_neg h0] at key;refine qz (.bool false) O6 ?_;refine DY ?_;refine NB ?_;refine aF rfl (qg rfl (d8 hT PN hf) ?_);clear h hf;rintro _ w ⟨rfl,h⟩;refine xM ?_;rw[key];exact qv (qk (bQ ⟨rfl,h⟩))
end
end
section
section
variable{w0 w:World}{l:List aC}{t p:Nat}{r:aP}{s:cG}{q:gX}
def JX(r:aP)(q:gX)(k:Hu)(s:cG)(l:List aC):List aC:=
 iC q.one r.one::aI q.pa q.pc r.x.parts::aB q.ta q.tc r.x.tail::aB q.ga q.gc r.got::aB q.ra q.rc r.res.list::bF k.d s.d::aK k.c s.c::aS k.t s.t.V::l
theorem St.sl:St w0 (bH t r::aU p s::l) w↔∃q k,St w0 (aM t r q::aB q.s.a4 q.s.c4 r.slot.aQ::aI q.s.a5 q.s.c5 r.slot.chunks::aB q.n.a4 q.n.c4 r.next.aQ::aI q.n.a5 q.n.c5 r.next.chunks::bV p k::aE k.b s.b::JX r q k s l) w:=by
 rw[St.nx];constructor
 ·rintro⟨q,k,h⟩;exact⟨q,k,h.o [0,6,7,1,2,3,4]⟩
 ·rintro⟨q,k,h⟩;exact⟨q,k,h.o [0,3,4,5,6,7,1,2]⟩
theorem ee(xR:r.slot.chunks.length<=1048576)(h:St w0 (bH t r::aU p s::l) w):
  bP prog 109 [.pz t,.pz p] w fun v w'=>v=.bool (r.drop s).2.2∧St w0 (bH t (r.drop s).1::aU p (r.drop s).2.1::l) w':=by
 obtain⟨q,k,h⟩:=St.sl.1 h;obtain⟨R,hR⟩:∃R,JX r q k s l=R:=⟨_,rfl⟩;rw[hR] at h;obtain⟨b1,EY⟩:∃b1,(s.b.jD (wI (0-r.slot.size))).2=b1:=⟨_,rfl⟩;have key:r.drop s=({ r with next:={ aG.zero with bN:=wI (r.slot.bN+1) } },{ s with b:=b1.leave r.slot.chunks },true):=by rw[<- EY];rfl
 rw[key];refine en func109 results109 ntmps109 ?_;refine pL ?_;refine qi ?_;refine jb [0,1,2,3,4,5,6,7,8,9,10,11] none (fun w=>St w0 (aM t r q::aB q.s.a4 q.s.c4 r.slot.aQ::aI q.s.a5 q.s.c5 r.slot.chunks::aB q.n.a4 q.n.c4 r.next.aQ::aI q.n.a5 q.n.c5 r.next.chunks::bV p k::R) w) O1 O1 ?_
 have hs:=h.drew;clear h;generalize w.drew=w1 at hs ⊢;have h:=hs.x [6];refine Y6 ?_;refine qj rfl rfl rfl rfl h (fun _ h=>qh rfl (qq (v:=.pointer (some ⟨k.b,0,none⟩)) rfl (h.b 5 rfl) rfl)) ?_;refine uA ?_;refine qj rfl rfl rfl rfl h (fun _ h=>qh rfl (qx (l:=hY r.slot.any r.slot.last q.s.a4 r.slot.aQ.length q.s.c4) rfl rfl (qw (h.b 0 rfl) rfl))) ?_;refine Ys ?_;refine qd 9 rfl rfl rfl rfl ?_;refine qg rfl (mb hs) ?_;clear h hs;rintro _ w ⟨rfl,hs⟩;have h:=hs.x [6];refine⟨fun _=>h,?_⟩;refine cD rfl rfl rfl rfl h rfl (q9 (v':=.iz (wI (0-r.slot.size))) (sx rfl) (by congr 1)) ?_
 refine Ym ?_;refine qd 11 rfl rfl rfl rfl ?_;refine qg rfl (yd (wI (0-r.slot.size)) (hs.f 6)) ?_;clear h hs;rintro _ w ⟨rfl,hs⟩;rw[EY] at hs;have h:=hs.drop;refine⟨fun _=>h,?_⟩;refine qm ?_;clear h;have h:St w0 (aE k.b b1::aM t r q::aB q.s.a4 q.s.c4 r.slot.aQ::aI q.s.a5 q.s.c5 r.slot.chunks::aB q.n.a4 q.n.c4 r.next.aQ::aI q.n.a5 q.n.c5 r.next.chunks::bV p k::R) w:=hs
 clear hs
 refine qf (Γ:=Unit) (fun _=>[(0,.pz t)])
  (fun _ w=>St w0 (aE k.b (b1.leave r.slot.chunks)::aM t r q::aB q.s.a4 q.s.c4 r.slot.aQ::aI q.s.a5 q.s.c5 r.slot.chunks::aB q.n.a4 q.n.c4 r.next.aQ::aI q.n.a5 q.n.c5 r.next.chunks::bV p k::R) w) ?_ ?_
 ·refine EK ?_;refine aD (qq (v:=.slice q.s.a5 r.slot.chunks.length q.s.c5) rfl (h.b 1 rfl) rfl) rfl ?_;refine rJ ?_;refine DX ?_
  refine jy (Γ:=Nat) (fun i=>[(0,.pz t),(1,.pz p),(23,.slice q.s.a5 r.slot.chunks.length q.s.c5),(24,.iz (r.slot.chunks.length:Int)),(25,.iz (i:Int))])
   (fun i w=>i<=r.slot.chunks.length∧St w0 (aE k.b (b1.leave (r.slot.chunks.take i))::aM t r q::aB q.s.a4 q.s.c4 r.slot.aQ::aI q.s.a5 q.s.c5 r.slot.chunks::aB q.n.a4 q.n.c4 r.next.aQ::aI q.n.a5 q.n.c5 r.next.chunks::bV p k::R) w) (fun i=>r.slot.chunks.length-i) 0 pS ⟨Uf _,h⟩ ?_
  clear h;rintro i w e ⟨hi,h⟩;refine E5 ?_;by_cases hlt:i<r.slot.chunks.length
  ·refine qz (.bool true) O3 ?_;refine Gj ?_;refine Yu ?_;obtain⟨g,hg⟩:=(h.f 3).dF O0;obtain⟨y,hy⟩:∃y,r.slot.chunks[i]?=some y:=⟨_,Ub hlt⟩
   have hel:At w g (0+i*5) y.cells:=by
    have:=(h.f 3).bU;rw[hg] at this;exact this.elem v8 hy
   refine Ch ?_;refine Y1 ?_;refine aD (jj (b:=g) (o:=0) (m:=r.slot.chunks.length) (c:=q.s.c5) (j:=i) (o':=0+i*5) (by rw[<- hg];rfl) rfl rfl hlt rfl) rfl ?_
   refine aD (qx (l:=y.cells) rfl rfl hel) rfl ?_;refine aF rfl (qn h fun b6 w h=>?_);refine aF rfl (qy (vs:=y.cells) 0 h rfl rfl rfl rfl rfl rfl rfl fun w h=>?_);replace h:St w0 (pt b6 (.cells y.cells.toArray 168 (0,0))::aE k.b (b1.leave (r.slot.chunks.take i))::aM t r q::aB q.s.a4 q.s.c4 r.slot.aQ::aI q.s.a5 q.s.c5 r.slot.chunks::aB q.n.a4 q.n.c4 r.next.aQ::aI q.n.a5 q.n.c5 r.next.chunks::bV p k::R) w:=h
   refine Y2 ?_;refine jb [0,1,2,3,4,5,6] none (fun w=>St w0 (pt b6 (.cells y.cells.toArray 168 (0,0))::aM t r q::aB q.s.a4 q.s.c4 r.slot.aQ::aI q.s.a5 q.s.c5 r.slot.chunks::aB q.n.a4 q.n.c4 r.next.aQ::aI q.n.a5 q.n.c5 r.next.chunks::bV p k::R) w) O1 O1 ?_
   have hs:=h.drew;clear h hel;generalize w.drew=w1 at hs ⊢;have h:=hs.x [1];refine Y6 ?_;refine qj rfl rfl rfl rfl h (fun _ h=>qh rfl (qq (v:=.pointer (some ⟨k.b,0,none⟩)) rfl (h.b 6 rfl) rfl)) ?_;refine Yj ?_;refine qj rfl rfl rfl rfl h (fun _ h=>qh rfl (qq (v:=.iz y.bB) rfl (h.b 0 rfl) rfl)) ?_;refine Ym ?_;refine qd 6 rfl rfl rfl rfl ?_;refine qg rfl (zd y.bB (hs.f 1)) ?_;clear h hs;intro _ w hs;have h:=hs.drop;refine⟨fun _=>h,?_⟩;refine qm ?_;refine Yw ?_;refine qz (.iz ((i+1:Nat):Int)) O8 ?_;refine Y0 ?_;refine qv ⟨i+1,pS,⟨cI,?_⟩,cI⟩
   have e1:b1.leave (r.slot.chunks.take (i+1))=(match aH y.bB (b1.leave (r.slot.chunks.take i)).l with|none=>b1.leave (r.slot.chunks.take i)|some x=>(b1.leave (r.slot.chunks.take i)).left y.bB x):=by
    rw[Vk,hy,eR.rY];rfl
   rw[e1];exact hs.x [1]
  ·refine qz (.bool false) O4 ?_;refine qv (qi (qt rfl (ju ?_)));rw[Uu O0] at h;exact Eq.mpr (if_pos rfl) ⟨(),⟨rfl,trivial⟩,h⟩
 clear h;rintro _ w e h;refine AW ?_;refine Yc ?_;refine aD (qq (v:=.iz r.slot.bN) rfl (h.b 1 rfl) rfl) rfl ?_;refine tC ?_;refine aD (qc (r:=({ aG.zero with bN:=wI (r.slot.bN+1) }:aG).cells none 0 none 0) rfl) rfl ?_
 refine Yk ?_;refine aF rfl (qy (vs:=({ aG.zero with bN:=wI (r.slot.bN+1) }:aG).cells none 0 none 0) 1 h rfl rfl rfl rfl rfl rfl rfl fun w h=>?_)
 replace h:St w0 (aE k.b (b1.leave r.slot.chunks)::aM t { r with next:={ aG.zero with bN:=wI (r.slot.bN+1) } } { q with n:=⟨none,0,none,0⟩ }::aB q.s.a4 q.s.c4 r.slot.aQ::aI q.s.a5 q.s.c5 r.slot.chunks::aB q.n.a4 q.n.c4 r.next.aQ::aI q.n.a5 q.n.c5 r.next.chunks::bV p k::R) w:=h
 refine Yl ?_;refine Y3 ?_;have h1:St w0 (aM t { r with next:={ aG.zero with bN:=wI (r.slot.bN+1) } } { q with n:=⟨none,0,none,0⟩ }::aB q.s.a4 q.s.c4 r.slot.aQ::aI q.s.a5 q.s.c5 r.slot.chunks::aB none 0 []::aI none 0 []::bV p k::aE k.b (b1.leave r.slot.chunks)::R) w:=(((h.x [4,5]).aZ 168 5).aZ 57 2).o [3,4,5,0,1,6,2]
 rw[<- hR] at h1;exact qv (qk (bQ ⟨rfl,(St.sl (r:={ r with next:={ aG.zero with bN:=wI (r.slot.bN+1) } }) (s:={ s with b:=b1.leave r.slot.chunks })).2 ⟨{ q with n:=⟨none,0,none,0⟩ },k,h1⟩⟩))
structure aP.FL(r:aP)(s:cG):Prop where
 wf:∀x∈r.slot.aQ,x.Wf
 op:r.o.Wf
 gQ:r.slot.aQ.length<=50
 chunks:r.slot.chunks.length<=1048576
 free:aH (wI (s.b.last+1)) s.b.l=none
theorem er(hT:Tz w0)(hok:r.FL s)(h:St w0 (bH t r::aU p s::l) w):
  bP prog 77 [.pz t,.pz p] w fun v w'=>v=.bool (r.make s).2.2∧St w0 (bH t (r.make s).1::aU p (r.make s).2.1::l) w':=by
 obtain⟨hwf,hop,xA,xR,hfree⟩:=hok;obtain⟨r1,iX⟩:∃r1,r1={ r with next:=r.slot }:=⟨_,rfl⟩
 have key:r.make s=if r.o.kind=1 then r1.add s else if r.o.kind=3 then r1.uG s else r1.drop s:=by rw[iX];rfl
 obtain⟨q,k,h⟩:=St.sl.1 h;obtain⟨R,hR⟩:∃R,JX r q k s l=R:=⟨_,rfl⟩;rw[hR] at h;refine en func77 results77 ntmps77 ?_;refine pL ?_;refine AW ?_;refine aD (qx (l:=q.s.cells r.slot) rfl rfl (qw (h.b 0 rfl) rfl)) rfl ?_;refine aF rfl (qg rfl (zo (s:=r.slot) O0 O0 (Reads.own.more [_]) (Reads.own.more [_,_]) h) ?_);clear h;rintro _ w ⟨a,b,rfl,h⟩;refine Yk ?_;refine aF rfl (qy (vs:=r.slot.cells a r.slot.aQ.length b r.slot.chunks.length) 2 h rfl rfl rfl rfl rfl rfl rfl fun w h=>?_);replace h:St w0 (aB a r.slot.aQ.length r.slot.aQ::aI b r.slot.chunks.length r.slot.chunks::aM t r1 { q with n:=⟨a,r.slot.aQ.length,b,r.slot.chunks.length⟩ }::aB q.s.a4 q.s.c4 r.slot.aQ::aI q.s.a5 q.s.c5 r.slot.chunks::aB q.n.a4 q.n.c4 r.next.aQ::aI q.n.a5 q.n.c5 r.next.chunks::bV p k::aE k.b s.b::R) w:=by rw[iX];exact h
 have hk:(r1.C { q with n:=⟨a,r.slot.aQ.length,b,r.slot.chunks.length⟩ })[1]?=some (.iz r.o.kind):=by rw[iX];rfl
 refine yX ?_;refine EK ?_;refine aD (qq (v:=.iz r.o.kind) rfl (h.b 2 rfl) hk) rfl ?_
 have hf:St w0 (bH t r1::aU p s::l) w:=by
  have h1:St w0 (aM t r1 { q with n:=⟨a,r.slot.aQ.length,b,r.slot.chunks.length⟩ }::aB q.s.a4 q.s.c4 r.slot.aQ::aI q.s.a5 q.s.c5 r.slot.chunks::aB a r.slot.aQ.length r.slot.aQ::aI b r.slot.chunks.length r.slot.chunks::bV p k::aE k.b s.b::R) w:=(h.x [5,6]).o [2,3,4,0,1]
  rw[<- hR] at h1;refine(St.sl (r:=r1)).2 ⟨{ q with n:=⟨a,r.slot.aQ.length,b,r.slot.chunks.length⟩ },k,?_⟩
  rw[iX] at h1 ⊢;exact h1
 clear h;refine Y2 ?_;by_cases k1:r.o.kind=1
 ·rw[if_pos k1] at key;refine Yg ?_;refine GN ?_;refine qz (.bool true) (by congr 1;rw[beq_iff_eq];exact k1) ?_
  refine Gn ?_;refine aF rfl (qg rfl (TZ (r:=r1) hT (by rw[iX];exact⟨hwf,hop,xA,xR,hfree⟩) hf) ?_)
  clear hf;rintro _ w ⟨rfl,h⟩;refine Y3 ?_;rw[key];exact qv (qk (bQ ⟨rfl,h⟩))
 rw[if_neg k1] at key;by_cases k3:r.o.kind=3
 ·rw[if_pos k3] at key;refine Yg ?_;refine GN ?_;refine qz (.bool false) (by congr 1;rw[beq_eq_false_iff_ne];exact k1) ?_
  refine xN ?_;refine qz (.bool true) (by congr 1;rw[beq_iff_eq];exact k3) ?_
  refine Gn ?_;refine aF rfl (qg rfl (ei (r:=r1) hT (by rw[iX];exact⟨hwf,gH,xR,hfree⟩) hf) ?_)
  clear hf;rintro _ w ⟨rfl,h⟩;refine Y3 ?_;rw[key];exact qv (qk (bQ ⟨rfl,h⟩))
 rw[if_neg k3] at key;refine Yg ?_;refine GN ?_;refine qz (.bool false) (by congr 1;rw[beq_eq_false_iff_ne];exact k1) ?_
 refine xN ?_;refine qz (.bool false) (by congr 1;rw[beq_eq_false_iff_ne];exact k3) ?_
 refine Ya ?_;refine xU ?_;refine oE ?_;refine aF rfl (qg rfl (ee (r:=r1) (by rw[iX];exact xR) hf) ?_)
 clear hf;rintro _ w ⟨rfl,h⟩;refine Y3 ?_;rw[key];exact qv (qk (bQ ⟨rfl,h⟩))
end
end
section
section
variable{w0 w:World}{l:List aC}{t p:Nat}{r:aP}{s:cG}{q:gX}
abbrev kE(t:Nat)(r:aP)(q:gX)(l:List aC):List aC:=aM t r q::iC q.one r.one::aB q.s.a4 q.s.c4 r.slot.aQ::aI q.s.a5 q.s.c5 r.slot.chunks::aB q.n.a4 q.n.c4 r.next.aQ::aI q.n.a5 q.n.c5 r.next.chunks::aI q.pa q.pc r.x.parts::aB q.ta q.tc r.x.tail::aB q.ga q.gc r.got::aB q.ra q.rc r.res.list::l
theorem mf(h4:r.slot.aQ.length<=1048576)(h5:r.slot.chunks.length<=1048576)(h:St w0 (kE t r q (aU p s::l)) w):
  bP prog 76 [.pz t,.pz p,.agg (q.s.cells r.slot).toArray] w fun v w'=>v=.tuple #[]∧St w0 (bH t (r.cF s r.slot).1::aU p (r.cF s r.slot).2::l) w':=by
 have h1:St w0 (aM t r q::aU p s::iC q.one r.one::aB q.s.a4 q.s.c4 r.slot.aQ::aI q.s.a5 q.s.c5 r.slot.chunks::aB q.n.a4 q.n.c4 r.next.aQ::aI q.n.a5 q.n.c5 r.next.chunks::aI q.pa q.pc r.x.parts::aB q.ta q.tc r.x.tail::aB q.ga q.gc r.got::aB q.ra q.rc r.res.list::l) w:=h.o [0,10]
 refine(kf (sl:=r.slot) O0 O0 (Reads.own.more [_]) (Reads.own.more [_,_]) h1).mono ?_;rintro v w ⟨rfl,h⟩;refine⟨rfl,(St.run (r:=(r.cF s r.slot).1)).2 ⟨q,?_⟩⟩;exact h.o [0,2,3,4,5,6,7,8,9,10]
theorem aq(h4:r.next.aQ.length<=1048576)(h5:r.next.chunks.length<=1048576)(h:St w0 (kE t r q (aU p s::l)) w):
  bP prog 76 [.pz t,.pz p,.agg (q.n.cells r.next).toArray] w fun v w'=>v=.tuple #[]∧St w0 (bH t (r.cF s r.next).1::aU p (r.cF s r.next).2::l) w':=by
 have h1:St w0 (aM t r q::aU p s::iC q.one r.one::aB q.s.a4 q.s.c4 r.slot.aQ::aI q.s.a5 q.s.c5 r.slot.chunks::aB q.n.a4 q.n.c4 r.next.aQ::aI q.n.a5 q.n.c5 r.next.chunks::aI q.pa q.pc r.x.parts::aB q.ta q.tc r.x.tail::aB q.ga q.gc r.got::aB q.ra q.rc r.res.list::l) w:=h.o [0,10]
 refine(kf (sl:=r.next) O0 O0 (Reads.own.more [_,_,_]) (Reads.own.more [_,_,_,_]) h1).mono ?_
 rintro v w ⟨rfl,h⟩;refine⟨rfl,(St.run (r:=(r.cF s r.next).1)).2 ⟨q,?_⟩⟩
 exact h.o [0,2,3,4,5,6,7,8,9,10]
structure aP.AE(r:aP)(s:cG):Prop where
 fits:dM.Fits s.d
 make:r.ph=1->r.wrong=0->r.FL s
 s4:r.slot.aQ.length<=1048576
 s5:r.slot.chunks.length<=1048576
 n4:r.next.aQ.length<=1048576
 n5:r.next.chunks.length<=1048576
theorem d9(r:aP)(s:cG):(r.close s).1.slot=r.slot:=by
 unfold aP.close;dsimp only;split <;> rfl
theorem T3(r:aP)(s:cG):(r.add s).1.slot=r.slot:=by
 unfold aP.add;dsimp only;generalize (if r.next.there=true then r.next else { aG.zero with there:=true,bN:=r.slot.bN })=n0
 cases s.b.jD 16 with
 |mk g b=>
  cases g with
  |false=>rfl
  |true=>
   dsimp only;by_cases h8:(n0.add ⟨r.o.T,(r.o.V:Int)⟩).aQ.length<8
   ·rw[if_pos h8]
   ·rw[if_neg h8];generalize hz:aP.close _ _=z;have hs:z.1.slot=r.slot:=by rw[<- hz];exact d9 _ _
    obtain⟨a,b,c⟩:=z;cases c <;> exact hs
theorem aj(r:aP)(s:cG):(r.make s).1.slot=r.slot:=by
 unfold aP.make;dsimp only;split
 ·exact T3 _ _
 ·split
  ·unfold aP.uG;dsimp only;split
   ·rfl
   ·exact d9 _ _
  ·rfl
theorem tm(hT:Tz w0)(hok:r.AE s)(h:St w0 (bH t r::aU p s::l) w):
  bP prog 42 [.pz t,.pz p] w fun v w'=>v=.iz (r.write s).2.2∧St w0 (bH t (r.write s).1::aU p (r.write s).2.1::l) w':=by
 obtain⟨nF,MH,JY,Ip,AZ,Dy⟩:=hok
 have key:r.write s=if r.ph=0 then match r.take s with
  |(r,s,true)=>(r,s,1)
  |(r,s,false)=>(r,s,0)
  else if r.ph=1 then if r.wrong≠0 then(r.cF s r.slot).1.refuse (r.cF s r.slot).2 r.wrong else match r.make s with
   |(r,s,false)=>(r.cF s r.slot).1.stop (r.cF s r.slot).2 ⟨9,0,[]⟩ 3
   |(r,s,true)=>({ r with ph:=3 },s,1)
  else(r.cF s r.next).1.stop (r.cF s r.next).2 ⟨0,0,[]⟩ 2:=by
  unfold aP.write;split
  ·cases r.take s with|mk a b=>obtain⟨b,c⟩:=b;cases c <;> rfl
  ·split
   ·split
    ·rfl
    ·cases r.make s with|mk a b=>obtain⟨b,c⟩:=b;cases c <;> rfl
   ·rfl
 obtain⟨q,h⟩:=(St.run (r:=r)).1 h;refine en func42 results42 ntmps42 ?_;refine Yr ?_;refine Bm ?_;refine aD (qq (v:=.iz r.ph) rfl (h.b 0 rfl) rfl) rfl ?_;refine I1 ?_;by_cases p0:r.ph=0
 ·rw[if_pos p0] at key;refine qz (.bool true) (by congr 1;rw[beq_iff_eq];exact p0) ?_
  refine vD ?_;refine qi ?_;refine oE ?_;have h1:St w0 (bH t r::aU p s::l) w:=(St.run (r:=r)).2 ⟨q,h⟩;refine aF rfl (qg rfl (mp nF h1) ?_);clear h h1;rintro _ w ⟨rfl,h⟩;cases yL:r.take s with
  |mk a b=>
  obtain⟨b,c⟩:=b;rw[yL] at key h;dsimp only at h;cases c with
  |true=>
   replace key:r.write s=(a,b,1):=key;rw[key];refine Gl ?_;refine rC ?_;exact qv (qk (bQ ⟨rfl,h⟩))
  |false=>
   replace key:r.write s=(a,b,0):=key;rw[key];refine oO ?_;refine Yy ?_;refine Y4 ?_;exact qv (qk (bQ ⟨rfl,h⟩))
 rw[if_neg p0] at key;refine qz (.bool false) (by congr 1;rw[beq_eq_false_iff_ne];exact p0) ?_
 refine xN ?_;by_cases p1:r.ph=1
 ·rw[if_pos p1] at key;refine qz (.bool true) (by congr 1;rw[beq_iff_eq];exact p1) ?_
  refine vD ?_;refine GY ?_;refine aF rfl (qg rfl (td h) ?_);clear h;rintro _ w ⟨rfl,h⟩;refine HT ?_;refine Bi ?_;by_cases hw:r.wrong=0
  ·rw[if_neg (fun hh=>hh hw)] at key;refine qz (.bool false) (by rw[hw];rfl) ?_
   refine Y8 ?_;refine qi ?_;refine oE ?_;have h1:St w0 (bH t r::aU p s::l) w:=(St.run (r:=r)).2 ⟨q,h⟩;refine aF rfl (qg rfl (er hT (MH p1 hw) h1) ?_);clear h h1;rintro _ w ⟨rfl,h⟩;have mW:=aj r s;cases hmk:r.make s with
   |mk a b=>
   obtain⟨b,c⟩:=b;rw[hmk] at key h mW;dsimp only at h mW;cases c with
   |true=>
    replace key:r.write s=({ a with ph:=3 },b,1):=key
    rw[key];refine Gl ?_;obtain⟨q2,h⟩:=(St.run' (r:=a)).1 h;refine Y7 ?_;refine aF rfl (qb 0 h rfl (show _=Value.iz 3 from rfl) rfl rfl rfl rfl fun w h=>?_);refine Yl ?_;refine Y4 ?_;exact qv (qk (bQ ⟨rfl,(St.run' (r:={ a with ph:=3 })).2 ⟨q2,h⟩⟩))
   |false=>
    replace key:r.write s=(a.cF b a.slot).1.stop (a.cF b a.slot).2 ⟨9,0,[]⟩ 3:=key;rw[key];refine oO ?_;refine Yh ?_;obtain⟨q2,h⟩:=(St.run (r:=a)).1 h;refine oE ?_;refine vE ?_;refine aD (qx (l:=q2.s.cells a.slot) rfl rfl (qw (h.b 0 rfl) rfl)) rfl ?_;refine aF rfl (qg rfl (mf (by rw[mW];exact JY) (by rw[mW];exact Ip) h) ?_)
    clear h;rintro _ w ⟨rfl,h⟩;refine rL ?_;refine aD (qc (r:=(⟨9,0,[]⟩:iS).C none 0) rfl) rfl ?_;refine aF rfl (qg rfl (gf (res:=⟨9,0,[]⟩) 3 ((h.aZ 57 2).f 1)) ?_);clear h;rintro _ w ⟨rfl,h⟩;refine Y4 ?_;exact qv (qk (bQ ⟨rfl,h⟩))
  ·rw[if_pos hw] at key;rw[key];refine qz (.bool true) (by congr 1;rw[bne_iff_ne];exact hw) ?_
   refine Yh ?_;refine oE ?_;refine vE ?_;refine aD (qx (l:=q.s.cells r.slot) rfl rfl (qw (h.b 0 rfl) rfl)) rfl ?_;refine aF rfl (qg rfl (mf JY Ip h) ?_);clear h;rintro _ w ⟨rfl,h⟩;refine rL ?_;refine Y0 ?_;refine aF rfl (qg rfl (vu r.wrong h) ?_);clear h;rintro _ w ⟨rfl,h⟩;refine Y4 ?_;exact qv (qk (bQ ⟨rfl,h⟩))
 rw[if_neg p1] at key;rw[key];refine qz (.bool false) (by congr 1;rw[beq_eq_false_iff_ne];exact p1) ?_
 refine Ya ?_;refine xU ?_;refine oE ?_;refine vE ?_;refine aD (qx (l:=q.n.cells r.next) rfl rfl (qw (h.b 0 rfl) rfl)) rfl ?_
 refine aF rfl (qg rfl (aq AZ Dy h) ?_);clear h;rintro _ w ⟨rfl,h⟩;refine rL ?_;refine aD (qc (r:=(⟨0,0,[]⟩:iS).C none 0) rfl) rfl ?_;refine aF rfl (qg rfl (gf (res:=⟨0,0,[]⟩) 2 ((h.aZ 57 2).f 1)) ?_);clear h;rintro _ w ⟨rfl,h⟩;refine Y4 ?_;exact qv (qk (bQ ⟨rfl,h⟩))
end
end
section
section
variable{w0 w:World}{l:List aC}{t p:Nat}{r:aP}{s:cG}{q:gX}
structure aP.pR(r:aP)(s:cG):Prop where
 oL:s.c.Ok
 parts:r.x.parts.length<=1048576
 s4:r.slot.aQ.length<=1048576
 s5:r.slot.chunks.length<=1048576
abbrev jX(r:aP)(q:gX)(l:List aC):List aC:=aB q.s.a4 q.s.c4 r.slot.aQ::aI q.s.a5 q.s.c5 r.slot.chunks::aB q.n.a4 q.n.c4 r.next.aQ::aI q.n.a5 q.n.c5 r.next.chunks::aI q.pa q.pc r.x.parts::aB q.ta q.tc r.x.tail::aB q.ga q.gc r.got::aB q.ra q.rc r.res.list::l
theorem uz(hok:r.pR s)(h:St w0 (bH t r::aU p s::l) w):
  bP prog 59 [.pz t,.pz p] w fun v w'=>v=.tuple #[]∧St w0 (bH t (r.leave s).1::aU p (r.leave s).2::l) w':=by
 obtain⟨PO,PR,JY,Ip⟩:=hok;obtain⟨C,hC⟩:∃C,(match r.one with|none=>s.c|some x=>(x.leave s.c).2)=C:=⟨_,rfl⟩
 obtain⟨s1,hs1⟩:∃s1:cG,s1={ s with c:=C }:=⟨_,rfl⟩
 obtain⟨s2,mP⟩:∃s2:cG,s2=if r.held then { s1 with b:=s1.b.leave r.x.parts } else s1:=⟨_,rfl⟩
 obtain⟨r1,iX⟩:∃r1:aP,r1={ r with held:=false }:=⟨_,rfl⟩
 have key:r.leave s=({ (if r.flag then r1.cF s2 r.slot else(r1,s2)).1 with one:=none,i:=0,got:=[] },(if r.flag then r1.cF s2 r.slot else(r1,s2)).2):=by
  rw[iX,mP,hs1,<- hC];rfl
 obtain⟨q,h⟩:=(St.run (r:=r)).1 h;refine en func59 results59 ntmps59 ?_;refine qf (Γ:=Unit) (fun _=>[(0,.pz t),(1,.pz p)]) (fun _ w=>St w0 (aM t r q::aU p s1::jX r q l) w) ?_ ?_
 ·refine Y7 ?_;refine aD (qq (v:=.pointer q.one) rfl (h.b 0 rfl) rfl) rfl ?_;cases ho:r.one with
  |none=>
   rw[ho] at h hC;obtain⟨h1,h⟩:=St.Ek.1 (h.f 1);rw[h1];refine aD (v6 rfl rfl) rfl ?_;refine qv (qt rfl (qa ⟨(),gS,?_⟩));have e:s1=s:=by rw[hs1,<- hC]
   rw[e];exact h.o [0,9]
  |some x=>
   rw[ho] at h hC;obtain⟨tk,h1,h⟩:=St.FJ.1 (h.f 1);have hone:(r.C q)[36]?=some (.pz tk):=congrArg (fun o=>some (Value.pointer o)) h1;rw[h1];refine aD (v6 rfl rfl) rfl ?_;refine Yh ?_;obtain⟨k,h⟩:=(St.lJ (s:=s)).1 (h.f 10);replace h:St w0 (gW tk x::aK k.c s.c::aM t r q::bV p k::bF k.d s.d::aE k.b s.b::aS k.t s.t.V::jX r q l) w:=h.o [5,2,6,0,1,3,4];refine jb [0,1,2,3,4,5,6,7,8] none (fun w=>St w0 (aM t r q::bV p k::bF k.d s.d::aE k.b s.b::aS k.t s.t.V::jX r q l) w) O1 O1 ?_;have hs:=h.drew;clear h;generalize w.drew=w1 at hs ⊢;have h:=hs.drop.drop;refine Y6 ?_;refine qj rfl rfl rfl rfl h (fun _ h=>qh rfl (qq (v:=.pz tk) rfl (h.b 0 rfl) hone)) ?_;refine Y6 ?_;refine qj rfl rfl rfl rfl h (fun _ h=>qh rfl (qq (v:=.pointer (some ⟨k.c,0,none⟩)) rfl (h.b 1 rfl) rfl)) ?_;refine Ym ?_;refine qd 8 rfl rfl rfl rfl ?_;refine qg rfl (dr PO hs) ?_;clear h hs;intro _ w hs;have h:=hs.drop.drop;refine⟨fun _=>h,?_⟩;refine qm ⟨(),gS,?_⟩
   have h1:St w0 (bV p k::bF k.d s1.d::aK k.c s1.c::aE k.b s1.b::aS k.t s1.t.V::aM t r q::jX r q l) w:=by
    rw[hs1,<- hC];exact(hs.drop).o [2,3,0,4,5,1]
   exact((St.lJ (s:=s1)).2 ⟨k,h1⟩).f 1
 clear h;rintro _ w e h;refine qf (Γ:=Unit) (fun _=>[(0,.pz t),(1,.pz p)]) (fun _ w=>St w0 (aM t r1 q::aU p s2::jX r q l) w) ?_ ?_
 ·refine Y7 ?_;refine aD (qq (v:=.bool r.held) rfl (h.b 0 rfl) rfl) rfl ?_;cases hh:r.held with
  |false=>
   refine qv (qt rfl (qa ⟨(),gS,?_⟩));have e:s2=s1:=by rw[mP,hh];rfl
   have e1:r1=r:=by
    rw[iX];obtain⟨_,_,_,_,_,_,_,held,_,_,_,_,_,_,_,_⟩:=r;dsimp only at hh;subst hh;rfl
   rw[e,e1];exact h
  |true=>
   refine Yh ?_;obtain⟨k,h⟩:=(St.lJ (s:=s1)).1 (h.f 1);replace h:St w0 (aE k.b s1.b::aI q.pa q.pc r.x.parts::aM t r q::bV p k::bF k.d s1.d::aK k.c s1.c::aS k.t s1.t.V::aB q.s.a4 q.s.c4 r.slot.aQ::aI q.s.a5 q.s.c5 r.slot.chunks::aB q.n.a4 q.n.c4 r.next.aQ::aI q.n.a5 q.n.c5 r.next.chunks::aB q.ta q.tc r.x.tail::aB q.ga q.gc r.got::aB q.ra q.rc r.res.list::l) w:=h.o [3,10,5,0,1,2,4]
   refine qi ?_;refine jb [0,1,2,3,4,5,6,7,8] none (fun w=>St w0 (aI q.pa q.pc r.x.parts::aM t r q::bV p k::bF k.d s1.d::aK k.c s1.c::aS k.t s1.t.V::aB q.s.a4 q.s.c4 r.slot.aQ::aI q.s.a5 q.s.c5 r.slot.chunks::aB q.n.a4 q.n.c4 r.next.aQ::aI q.n.a5 q.n.c5 r.next.chunks::aB q.ta q.tc r.x.tail::aB q.ga q.gc r.got::aB q.ra q.rc r.res.list::l) w) O1 O1 ?_
   have hs:=h.drew;clear h;generalize w.drew=w1 at hs ⊢;have h:=hs.drop;refine Y6 ?_;refine qj rfl rfl rfl rfl h (fun _ h=>qh rfl (qq (v:=.pointer (some ⟨k.b,0,none⟩)) rfl (h.b 2 rfl) rfl)) ?_;refine Y6 ?_;refine qj rfl rfl rfl rfl h (fun _ h=>qh rfl (qx (l:=r.x.V.cells q.pa q.pc q.ta q.tc) rfl rfl (qw (h.b 1 rfl) rfl))) ?_;refine Ym ?_;refine qd 8 rfl rfl rfl rfl ?_;refine qg rfl (dx (x:=r.x.V) (Ps:=r.x.parts) rfl (by show r.x.parts.length<_;omega) hs (fun w' h'=>h'.bU)) ?_
   clear h hs;rintro _ w ⟨rfl,hs⟩;have h:=hs.drop;refine⟨fun _=>h,?_⟩;refine qm ?_;clear h;refine AV ?_;refine aF rfl (qb 2 hs rfl (show _=Value.bool false from rfl) rfl rfl rfl rfl fun w h=>?_);refine qv ⟨(),gS,?_⟩
   have h1:St w0 (bV p k::bF k.d s2.d::aK k.c s2.c::aE k.b s2.b::aS k.t s2.t.V::aM t r1 q::jX r q l) w:=by
    rw[mP,if_pos hh,iX];exact h.o [3,4,5,0,6,2,7,8,9,10,1]
   exact((St.lJ (s:=s2)).2 ⟨k,h1⟩).f 1
 clear h;rintro _ w e h;have T4:r1.flag=r.flag:=by rw[iX]
 have hrow:jX r q l=jX r1 q l:=by rw[iX]
 refine qf (Γ:=Unit) (fun _=>[(0,.pz t)]) (fun _ w=>St w0 (aM t (if r.flag then r1.cF s2 r.slot else(r1,s2)).1 q::aU p (if r.flag then r1.cF s2 r.slot else(r1,s2)).2::jX r q l) w) ?_ ?_
 ·refine Y7 ?_;refine aD (qq (v:=.bool r.flag) rfl (h.b 0 rfl) (by rw[iX];rfl)) rfl ?_
  cases hfl:r.flag with
  |false=>
   exact qv (qt rfl (qa ⟨(),⟨rfl,trivial⟩,h⟩))
  |true=>
   refine E8 ?_;refine AO ?_;refine vE ?_;refine aD (qx (l:=q.s.cells r.slot) rfl rfl (qw (h.b 0 rfl) (by rw[iX];rfl))) rfl ?_
   refine aF rfl (qg rfl (kf (sl:=r.slot) O0 O0 Reads.own (Reads.own.more [_]) h) ?_);clear h;rintro _ w ⟨rfl,h⟩;exact qv ⟨(),⟨rfl,trivial⟩,h⟩
 clear h;rintro _ w e h;rw[key];obtain⟨z,hz⟩:∃z,(if r.flag then r1.cF s2 r.slot else(r1,s2))=z:=⟨_,rfl⟩
 have Hi:z.1.slot=r.slot∧z.1.next=r.next∧z.1.x=r.x∧z.1.res=r.res:=by
  rw[<- hz,iX];split <;> exact⟨rfl,rfl,rfl,rfl⟩
 rw[hz] at h ⊢;obtain⟨r2,s3⟩:=z;dsimp only at h Hi ⊢;refine Ci ?_;refine AO ?_;refine vE ?_;refine aF rfl (qb 0 h rfl (show _=Value.pointer none from rfl) rfl rfl rfl rfl fun w h=>?_);replace h:St w0 (aM t { r2 with one:=none } { q with one:=none }::aU p s3::jX r q l) w:=h
 refine Yk ?_;refine aF rfl (qb 0 h rfl (show _=Value.iz 0 from rfl) rfl rfl rfl rfl fun w h=>?_);replace h:St w0 (aM t { r2 with one:=none,i:=0 } { q with one:=none }::aU p s3::jX r q l) w:=h
 refine Yk ?_;refine aF rfl (qb 0 h rfl (show _=Value.slice none 0 0 from rfl) rfl rfl rfl rfl fun w h=>?_);replace h:St w0 (aM t { r2 with one:=none,i:=0,got:=[] } { q with one:=none,ga:=none,gc:=0 }::aU p s3::jX r q l) w:=h
 refine qv (uN ⟨rfl,(St.run (r:={ r2 with one:=none,i:=0,got:=[] })).2 ⟨{ q with one:=none,ga:=none,gc:=0 },?_⟩⟩)
 obtain⟨z1,z2,z3,z4⟩:=Hi;show St w0 (aM t { r2 with one:=none,i:=0,got:=[] } { q with one:=none,ga:=none,gc:=0 }::iC none none::aB q.s.a4 q.s.c4 r2.slot.aQ::aI q.s.a5 q.s.c5 r2.slot.chunks::aB q.n.a4 q.n.c4 r2.next.aQ::aI q.n.a5 q.n.c5 r2.next.chunks::aI q.pa q.pc r2.x.parts::aB q.ta q.tc r2.x.tail::aB none 0 []::aB q.ra q.rc r2.res.list::aU p s3::l) w
 have h1:=(St.Ek.2 ⟨rfl,(h.x [8]).aZ 57 2⟩:St w0 (iC none none::aB none 0 []::aM t { r2 with one:=none,i:=0,got:=[] } { q with one:=none,ga:=none,gc:=0 }::aU p s3::aB q.s.a4 q.s.c4 r.slot.aQ::aI q.s.a5 q.s.c5 r.slot.chunks::aB q.n.a4 q.n.c4 r.next.aQ::aI q.n.a5 q.n.c5 r.next.chunks::aI q.pa q.pc r.x.parts::aB q.ta q.tc r.x.tail::aB q.ra q.rc r.res.list::l) w)
 rw[<- z1,<- z2,<- z3,<- z4] at h1;exact h1.o [2,0,4,5,6,7,8,9,1,10,3]
end
end
section
section
variable{w0 w:World}{l:List aC}{t p:Nat}{r:aP}{s:cG}{q:gX}
structure aP.sG(r:aP)(s:cG)(sl:aG):Prop where
 leave:r.pR s
 l4:sl.aQ.length<=1048576
 l5:sl.chunks.length<=1048576
theorem bj{sl:aG}{a4 a5:Option Addr}{c4 c5:Nat}(hok:r.sG s sl)(CE:Reads w0 (kE t r q (aU p s::l)) 2 a4 sl.aQ.length (aW sl.aQ))(Gr:Reads w0 (kE t r q (aU p s::l)) 5 a5 sl.chunks.length (dP sl.chunks))(h:St w0 (kE t r q (aU p s::l)) w):
  bP prog 57 [.pz t,.pz p,.agg (sl.cells a4 c4 a5 c5).toArray] w fun v w'=>v=.iz (r.cP s sl).2.2∧St w0 (bH t (r.cP s sl).1::aU p (r.cP s sl).2.1::l) w':=by
 obtain⟨hlv,h4,h5⟩:=hok;obtain⟨X,hX⟩:∃X,sl.snap r.o.F r.o.To=X:=⟨_,rfl⟩;have PS:X.parts.length<=1048576:=by rw[<- hX];exact Uw (lH _ _ _) h5
 obtain⟨r1,iX⟩:∃r1:aP,r1={ r with x:=X }:=⟨_,rfl⟩
 have key:r.cP s sl=if sl.there=false then(r.leave s).1.refuse (r.leave s).2 3 else match s.b.hold [] X.parts with
  |(false,b)=>(r1.leave { s with b:=b }).1.stop (r1.leave { s with b:=b }).2 ⟨7,0,[]⟩ 3
  |(true,b)=>({ r1 with held:=true,ph:=if X.parts.length=0 then 3 else 2 },{ s with b:=b },1):=by
  unfold aP.cP;dsimp only;rw[hX,iX]
  all_goals
   by_cases ht:sl.there=false
   ·rw[if_pos ht,if_pos ht]
   ·rw[if_neg ht,if_neg ht];cases s.b.hold [] X.parts with|mk g b=>cases g <;> rfl
 refine en func57 results57 ntmps57 ?_;refine Y1 ?_;refine aF rfl (jk h (show _=Value.agg (sl.cells a4 c4 a5 c5).toArray from rfl) fun b5 w h=>?_);replace h:St w0 (pt b5 (.cells (sl.cells a4 c4 a5 c5).toArray 85 (0,0))::kE t r q (aU p s::l)) w:=h;refine Y5 ?_;refine GW ?_;refine aD (qq (v:=.bool sl.there) rfl (h.b 0 rfl) rfl) rfl ?_;cases ht:sl.there with
 |false=>
  rw[if_pos ht] at key;rw[key];refine oO ?_;refine Yh ?_;refine oE ?_;have h1:St w0 (bH t r::aU p s::l) w:=(St.run (r:=r)).2 ⟨q,h.drop⟩;refine aF rfl (qg rfl (uz hlv h1) ?_);clear h h1;rintro _ w ⟨rfl,h⟩;refine rL ?_;refine aF rfl (qg rfl (vu 3 h) ?_);clear h;rintro _ w ⟨rfl,h⟩;refine Y4 ?_;exact qv (qk (bQ ⟨rfl,h⟩))
 |true=>
  rw[if_neg (by rw[ht];decide)] at key
  refine Gl ?_
  refine qf (Γ:=Option Addr×Option Addr) (fun _=>[(0,.pz t),(1,.pz p)])
   (fun g w=>St w0 (kE t r1 { q with pa:=g.1,pc:=X.parts.length,ta:=g.2,tc:=X.tail.length } (aU p s::l)) w) ?_ ?_
  ·refine jz (some 15) (fun w=>St w0 (pt b5 (.cells (sl.cells a4 c4 a5 c5).toArray 85 (0,0))::kE t r q (aU p s::l)) w) O1 O1 h.drew fun w h=>?_;refine tY ?_;refine qj rfl rfl rfl rfl h (fun _ h=>qh rfl (qx (l:=sl.cells a4 c4 a5 c5) rfl rfl (qw (h.b 0 rfl) rfl))) ?_;refine uA ?_;refine qj rfl rfl rfl rfl h (fun _ h=>qh rfl (qq (v:=.iz r.o.F) rfl (h.b 1 rfl) rfl)) ?_;refine uA ?_;refine qj rfl rfl rfl rfl h (fun _ h=>qh rfl (qq (v:=.iz r.o.To) rfl (h.b 1 rfl) rfl)) ?_;refine nJ ?_;refine qd 12 rfl rfl rfl rfl ?_;refine qg rfl (il r.o.F r.o.To h (fun w' h'=>(CE.more [_]).rd w' h') (fun w' h'=>(Gr.more [_]).rd w' h') O0 O0) ?_;clear h;rintro _ w ⟨a1,a2,rfl,h1⟩;have h:=h1.drop.drop;refine⟨fun _=>h,?_⟩;refine Cg ?_;refine Ym ?_;refine jv 15 rfl rfl rfl ?_;refine qy (vs:=(AY sl r.o.F r.o.To (fN r.o.F r.o.To sl.chunks) (iN r.o.F r.o.To sl.aQ)).cells a1 (fN r.o.F r.o.To sl.chunks).length a2 (iN r.o.F r.o.To sl.aQ).length) 3 h1 rfl rfl rfl rfl rfl rfl rfl fun w h=>?_;refine⟨(a1,a2),gS,?_⟩;rw[iX,<- hX];exact(h.x [2,9,10]).o [2,3,4,5,6,7,0,1]
  clear h;rintro⟨a1,a2⟩ w e h;dsimp only at h;obtain⟨Q,hQ⟩:∃Q:gX,{ q with pa:=a1,pc:=X.parts.length,ta:=a2,tc:=X.tail.length }=Q:=⟨_,rfl⟩
  have T5:X.parts.length=Q.pc:=by rw[<- hQ]
  have FM:r1.x=X:=by rw[iX]
  rw[hQ] at h;have wG:∀{w:World} {s:cG},St w0 (kE t r1 Q (aU p s::l)) w->St w0 (bH t r1::aU p s::l) w:=fun h=>(St.run (r:=r1)).2 ⟨Q,h⟩;obtain⟨k,h⟩:=(St.lJ (s:=s)).1 (h.f 10);replace h:St w0 (aE k.b s.b::bV p k::bF k.d s.d::aK k.c s.c::aS k.t s.t.V::kE t r1 Q l) w:=h.o [3,0,1,2,4]
  have oZ:∀{w:World} {b:eR},St w0 (aE k.b b::bV p k::bF k.d s.d::aK k.c s.c::aS k.t s.t.V::kE t r1 Q l) w->St w0 (kE t r1 Q (aU p { s with b:=b }::l)) w:=by
   intro w b h;have h1:St w0 (aU p { s with b:=b }::kE t r1 Q l) w:=(St.lJ (s:={ s with b:=b })).2 ⟨k,h.o [1,2,3,0,4]⟩
   exact h1.o [1,2,3,4,5,6,7,8,9,10]
  refine qi (qi ?_);refine jb [0,1,2,3,4,5,6,7,8,9] none (fun w=>St w0 (bV p k::bF k.d s.d::aK k.c s.c::aS k.t s.t.V::kE t r1 Q l) w) O1 O1 ?_;have hs:=h.drew;clear h;generalize w.drew=w1 at hs ⊢;have h:=hs.drop;refine Y6 ?_;refine qj rfl rfl rfl rfl h (fun _ h=>qh rfl (qq (v:=.pointer (some ⟨k.b,0,none⟩)) rfl (h.b 0 rfl) rfl)) ?_;refine Y6 ?_;refine qj rfl rfl rfl rfl h (fun _ h=>qh rfl (qx (l:=r1.x.V.cells Q.pa Q.pc Q.ta Q.tc) rfl rfl (qw (h.b 4 rfl) rfl))) ?_;refine Yn ?_;refine qd 8 rfl rfl rfl rfl ?_;refine qg rfl (mq (x:=r1.x.V) (Ps:=r1.x.parts) rfl (by show r1.x.parts.length<_;rw[FM];omega) (by show r1.x.parts.length<=_;rw[FM,T5];exact Ug _) hs (fun w' h'=>(h'.f 10).bU)) ?_
  clear h hs;rw[FM];rintro _ w ⟨rfl,hs⟩;have h:=hs.drop;refine⟨fun _=>h,?_⟩;cases hh:s.b.hold [] X.parts with
  |mk g b=>
  rw[hh] at key hs;dsimp only at hs;cases g with
  |false=>
   replace key:r.cP s sl=(r1.leave { s with b:=b }).1.stop (r1.leave { s with b:=b }).2 ⟨7,0,[]⟩ 3:=key
   rw[key];refine cD rfl rfl rfl rfl h rfl (zh rfl) ?_;refine qm ?_;clear h;have h:=wG (oZ hs);clear hs;refine vB ?_;refine oE ?_;refine aF rfl (qg rfl (uz (s:={ s with b:=b }) ⟨hlv.oL,by rw[FM];exact PS,by rw[iX];exact hlv.s4,by rw[iX];exact hlv.s5⟩ h) ?_)
   clear h;rintro _ w ⟨rfl,h⟩;refine rL ?_;refine aD (qc (r:=(⟨7,0,[]⟩:iS).C none 0) rfl) rfl ?_;refine aF rfl (qg rfl (gf (res:=⟨7,0,[]⟩) 3 ((h.aZ 57 2).f 1)) ?_);clear h;rintro _ w ⟨rfl,h⟩;refine Y4 ?_;exact qv (qk (bQ ⟨rfl,h⟩))
  |true=>
   replace key:r.cP s sl=({ r1 with held:=true,ph:=if X.parts.length=0 then 3 else 2 },{ s with b:=b },1):=key
   rw[key];refine cD rfl rfl rfl rfl h rfl (zh rfl) ?_;refine qm ?_;clear h;have h:=oZ hs;clear hs;refine xU ?_;refine AW ?_;refine aF rfl (qb 0 h rfl (show _=Value.bool true from rfl) rfl rfl rfl rfl fun w h=>?_);replace h:St w0 (kE t { r1 with held:=true } Q (aU p { s with b:=b }::l)) w:=h
   refine Yk ?_;refine aF rfl (qb 0 h rfl (show _=Value.iz 2 from rfl) rfl rfl rfl rfl fun w h=>?_);replace h:St w0 (kE t { r1 with held:=true,ph:=2 } Q (aU p { s with b:=b }::l)) w:=h
   refine Y2 ?_;refine qf (Γ:=Unit) (fun _=>[]) (fun _ w=>St w0 (kE t { r1 with held:=true,ph:=if X.parts.length=0 then 3 else 2 } Q (aU p { s with b:=b }::l)) w) ?_ ?_
   ·refine EK ?_;refine aD (qq (v:=.slice Q.pa X.parts.length Q.pc) rfl (h.b 0 rfl) (by rw[<- FM];rfl)) rfl ?_
    refine rJ ?_;refine Yi ?_;by_cases h0:X.parts.length=0
    ·refine qz (.bool true) HH ?_;refine Yh ?_;refine AV ?_;refine aF rfl (qb 0 h rfl (show _=Value.iz 3 from rfl) rfl rfl rfl rfl fun w h=>?_);refine qv ⟨(),trivial,?_⟩;rw[if_pos h0];exact h
    ·refine qz (.bool false) O6 ?_;refine qv (qt rfl (qa ⟨(),trivial,?_⟩));rw[if_neg h0];exact h
   clear h;rintro _ w e h;refine rC ?_;exact qv (qk (bQ ⟨rfl,(St.run (r:={ r1 with held:=true,ph:=if X.parts.length=0 then 3 else 2 })).2 ⟨Q,h⟩⟩))
end
end
end Go.Proofs.YtngdfdangkdgcaaGreatDoor
namespace Go.Hw
section
section
variable{P:Program}{e:Env}{w w0:World}{K:Env->World->Prop}{l:List aC}
variable{ty:TypeId}{pos:String}{af:Array Edge}{g:Option (Nat×Bool)}
theorem ag{c:Nat}{t T it:TypeId}[ht:eV P t (.slice T)][hit:eV P it (.int .i64)]{z:List Value}{agg:Bool}{bytes:Nat}[hi:cM P T z agg bytes]{x y:Operand}{n:Nat}
  (h:St w0 l w) (hx:ev e x=.slice none 0 0) (hy:ev e y=.iz (n:Int)) (hn:0<n) (hz:0<z.length) (hb:n*bytes<=140737488355328) (h63:n<=9223372036854775807)
  (k:∀a' c' w',n<=c'->St w0 (eW T z.length a' 0 c' []::l) w'->K (upd e c (.slice a' n c')) w'):
  Ex P ⟨some c,.call ⟨.builtin .append,[x,y].toArray,[t,it].toArray⟩,ty,pos,af,g⟩ e w K:=by
 obtain⟨i,h1,h2,h3,h4⟩:=hi.get;subst h4;have hge:n<=grownCap w n 0 T:=by simp[grownCap,Question.cut]
 have hfit:=growslice_fits (need:=n) (old:=0) hn hb;have ED:=hi.cells
 have hw1:IntKind.i64.wrap (n:Int)=n:=by
  unfold IntKind.wrap;simp[IntKind.signed,IntKind.bits];omega
 have hrun:∃cells:List Value,cells.length=grownCap w n 0 T*z.length∧(Builtin.append_ #[t,it] ty #[.slice none 0 0,.iz (n:Int)]).run P w=.ok (.slice (some ⟨w.heap.size,0,none⟩) n (grownCap w n 0 T)) (w.drew.alloc (.cells cells.toArray T)):=by
  have Bc:¬(281474976710656<Builtin.nextslicecap n 0*i.bytes):=by omega
  have hn0:¬((n:Int)<0):=by omega
  have AZ:¬(281474976710656<(n:Int)*(i.bytes:Int)):=by
   rw[<- Int.natCast_mul];omega
  have Dy:¬((9223372036854775807:Int)<(n:Int)):=by omega
  have Rq:¬(n<=0):=by omega
  have Rr:n≠0:=by omega
  have T6:¬(n=0∨z=[]):=by
   rintro(h|h)
   ·omega
   ·rw[h] at hz;cases hz
  refine⟨((Builtin.zeroCells z.toArray n).toList++(Builtin.zeroCells z.toArray (grownCap w n 0 T-n)).toList),?_,?_⟩
  ·rw[Ua,gA,gA,<- Vj];simp only[Xd];rw[Nat.add_sub_cancel' hge]
  ·generalize (if agg then Value.agg z.toArray else z.getD 0 undef)=zz at h2 ED
   simp[Builtin.append_,run_underlying ht.h,run_underlying hit.h,sizeOf,typeInfo,zeroValue,h1,h2,h3,asInt,asIntOf,hw1,hn0,Bc,AZ,Dy,Rq,Rr,T6,Builtin.firstCells,Question.forced,newRow,grownCap,ED];rw[if_neg (Nat.mul_ne_zero Rr O0)];congr 3;apply Array.ext';simp
 obtain⟨cells,hc,hrun⟩:=hrun;refine EC (v:=.slice (some ⟨w.heap.size,0,none⟩) n (grownCap w n 0 T)) (w':=w.drew.alloc (.cells cells.toArray T)) ?_ (k _ _ _ hge ?_)
 ·simp[execOp,resolve,hx,hy,invoke,builtin,hrun]
 ·refine St.iH (cur:=cells) ((h.drew).alloc _) hc O7 (Uf _)
end
end
end Go.Hw
namespace Go.Proofs.YtngdfdangkdgcaaGreatDoor
open Go.Hw _root_.Go.Proofs.Tryz
section
section
variable{w0 w:World}{l:List aC}
theorem av(n:Nat)(hn:n<=1073741824)(h:St w0 l w):bP prog 103 [.slice none 0 0,.iz (n:Int)] w fun v w'=>∃a c,v=.slice a 0 c∧n<=c∧St w0 (aB a c []::l) w':=by
 refine en func103 results103 ntmps103 ?_;refine GP ?_;refine Cl ?_;refine qz (.bool false) KM ?_;refine Y8 ?_;refine qf (Γ:=Option Addr×Nat) (fun g=>[(0,.slice g.1 0 g.2)]) (fun g w=>n<=g.2∧St w0 (aB g.1 g.2 []::l) w) ?_ ?_
 ·refine Yb ?_;refine Yp ?_;refine aD (Pm rfl) rfl ?_;refine sV ?_;refine AQ ?_;refine AQ ?_;refine qz (.iz (n:Int)) (by rw[wrap64 (x:=((0:Nat):Int)-((0:Nat):Int)) O0 O0,wrap64 O0 O0] <;> (congr 1 <;> omega)) ?_
  refine HT ?_;refine Cr ?_;by_cases h0:0<n
  ·refine qz (.bool true) O3 ?_;refine Yh ?_;refine IZ ?_;refine Yp ?_;refine aD (Pm rfl) rfl ?_;refine aD (vh (h:=0) rfl rfl (Ug _)) rfl ?_;refine Y0 ?_;refine aF rfl (ag (n:=n) h rfl rfl h0 O2 O0 O0 fun a c w hc h=>?_);refine sV ?_;refine aD (vh (h:=0) rfl rfl (Uf _)) rfl ?_;refine Yo ?_;exact qv ⟨(a,c),⟨rfl,trivial⟩,hc,h⟩
  ·refine qz (.bool false) KM ?_;exact qv (qt rfl (qa ⟨(none,0),⟨rfl,trivial⟩,cI,h.aZ 57 2⟩))
 clear h;rintro⟨a,c⟩ w e ⟨hc,h⟩;refine Yd ?_;refine Yo ?_;exact qv (qk (bQ ⟨a,c,rfl,hc,h⟩))
theorem wu{A B:List bZ}{a b:Option Addr}{ca cb:Nat}{p:Nat}(hA:A.length<=268435456)(hB:B.length<=268435456)(PT:Reads w0 l 2 a A.length (aW A))(hrb:Reads w0 l 2 b B.length (aW B))(h:St w0 (pt p (.cells [.slice a A.length ca,.slice b B.length cb].toArray 26 (0,0))::l) w):
  bP prog 70 [.slice (sQ p) 2 2] w fun v w'=>∃o c,v=.slice o (A++B).length c∧St w0 (aB o c (A++B)::l) w':=by
 obtain⟨X,hX⟩:∃X:aC,X=pt p (.cells [.slice a A.length ca,.slice b B.length cb].toArray 26 (0,0)):=⟨_,rfl⟩
 have hcell:∀{M:List aC} {w:World},St w0 (X::M) w->∀i,i<2->w.cell? ⟨p,i,none⟩=some (if i=0 then .slice a A.length ca else .slice b B.length cb):=by
  intro M w h i hi;rw[hX] at h;have MI:i=0∨i=1:=by omega
  rcases MI with rfl|rfl
  ·exact yi (h.b 0 rfl) rfl
  ·exact yi (h.b 0 rfl) rfl
 obtain⟨P,hP⟩:∃P:Nat->List bZ,P=fun i=>if i=0 then[] else if i=1 then A else A++B:=⟨_,rfl⟩
 have p0:P 0=[]:=by rw[hP];rfl
 have p1:P 1=A:=by rw[hP];rfl
 have p2:P 2=A++B:=by rw[hP];rfl
 rw[<- hX] at h;refine en func70 results70 ntmps70 ?_;refine xV ?_;refine Yl ?_;refine Y5 ?_;refine qf (Γ:=Unit) (fun _=>[(0,.slice (sQ p) 2 2),(3,.iz ((A++B).length:Int))]) (fun _ w=>St w0 (X::l) w) ?_ ?_
 ·refine I3 ?_;refine jy (Γ:=Nat) (fun i=>[(0,.slice (sQ p) 2 2),(3,.iz ((P i).length:Int)),(9,.slice (sQ p) 2 2),(10,.iz 2),(11,.iz (i:Int))]) (fun i w=>i<=2∧St w0 (X::l) w) (fun i=>2-i) 0 ⟨rfl,by rw[p0];rfl,rfl,rfl,rfl,trivial⟩ ⟨Uf _,h⟩ ?_
  clear h;rintro i w e ⟨hi,h⟩;refine E5 ?_;by_cases hlt:i<2
  ·refine qz (.bool true) O3 ?_;refine Gj ?_;refine K4 ?_;refine aD (jj (j:=i) (o':=i) rfl rfl rfl hlt O7) rfl ?_;have hc:=hcell h i hlt;have MI:i=0∨i=1:=by omega
   rcases MI with rfl|rfl
   ·refine aD (qr (v:=.slice a A.length ca) rfl hc) rfl ?_;refine Yz ?_;refine Yb ?_;refine sV ?_;refine tC ?_;refine qz (.iz ((P 1).length:Int)) (by rw[p0,p1,wrap64 (by simp <;> omega) (by simp <;> omega)];simp) ?_
    refine Y5 ?_;refine Cl ?_;refine qz (.bool false) KM ?_;refine Y8 ?_;refine Yw ?_;refine qz (.iz ((1:Nat):Int)) rfl ?_;refine Y0 ?_;exact qv ⟨1,pS,⟨cI,h⟩,cI⟩
   ·refine aD (qr (v:=.slice b B.length cb) rfl hc) rfl ?_;refine Yz ?_;refine Yb ?_;refine sV ?_;refine tC ?_;refine qz (.iz ((P 2).length:Int)) (by rw[p1,p2,wrap64 O0 O0];simp) ?_
    refine Y5 ?_;refine Cl ?_;refine qz (.bool false) KM ?_;refine Y8 ?_;refine Yw ?_;refine qz (.iz ((2:Nat):Int)) rfl ?_;refine Y0 ?_;exact qv ⟨2,pS,⟨cI,h⟩,cI⟩
  ·refine qz (.bool false) KM ?_;refine qv (qi (qt rfl (ju ?_)));obtain rfl:i=2:=by omega
   refine Eq.mpr (if_pos rfl) ⟨(),⟨rfl,?_,trivial⟩,h⟩;show Value.iz ((P 2).length:Int)=_;rw[p2]
 clear h;rintro _ w e h;refine Yb ?_;refine aF rfl (qg rfl (av (A++B).length Lu h) ?_);clear h;rintro _ w ⟨oa,oc,rfl,X5,h⟩;refine Yz ?_;refine qf (Γ:=Option Addr×Nat) (fun g=>[(6,.slice g.1 (A++B).length g.2)]) (fun g w=>St w0 (aB g.1 g.2 (A++B)::X::l) w) ?_ ?_
 ·refine I3 ?_;refine jy (Γ:=Nat×Option Addr×Nat) (fun g=>[(6,.slice g.2.1 (P g.1).length g.2.2),(25,.slice (sQ p) 2 2),(26,.iz 2),(27,.iz (g.1:Int))]) (fun g w=>g.1<=2∧St w0 (aB g.2.1 g.2.2 (P g.1)::X::l) w) (fun g=>2-g.1) (0,oa,oc) ⟨by rw[p0];rfl,rfl,rfl,rfl,trivial⟩ ⟨Uf _,by rw[p0];exact h⟩ ?_
  clear h;rintro⟨i,ga,gc⟩ w e ⟨hi,h⟩;dsimp only at hi h;refine E5 ?_;by_cases hlt:i<2
  ·refine qz (.bool true) O3 ?_;refine Gj ?_;refine K4 ?_;refine aD (jj (j:=i) (o':=i) rfl rfl rfl hlt O7) rfl ?_;have hc:=hcell (h.f 1) i hlt;have MI:i=0∨i=1:=by omega
   rcases MI with rfl|rfl
   ·refine aD (qr (v:=.slice a A.length ca) rfl hc) rfl ?_;refine Yz ?_;refine IZ ?_;refine Yp ?_;refine aF rfl (ql (ys:=aW A) (zs:=aW (P 1)) (m3:=(P 1).length) h rfl rfl ((PT.more [_,_]).at_ h) (jm _) (by rw[p0,p1];simp) (by rw[p0,p1];simp[aW]) (by rw[p1];omega) (by rw[p1];omega) rfl fun a2 c2 w _ h=>?_)
    refine Yz ?_;refine Yw ?_;refine qz (.iz ((1:Nat):Int)) rfl ?_;refine Y0 ?_;exact qv ⟨(1,a2,c2),iA,⟨gH,h⟩,gH⟩
   ·refine aD (qr (v:=.slice b B.length cb) rfl hc) rfl ?_;refine Yz ?_;refine IZ ?_;refine Yp ?_;refine aF rfl (ql (ys:=aW B) (zs:=aW (P 2)) (m3:=(P 2).length) h rfl rfl ((hrb.more [_,_]).at_ h) (jm _) (by rw[p1,p2];simp) (by rw[p1,p2];simp[aW]) (by rw[p2];simp;omega) (by rw[p2];simp;omega) rfl fun a2 c2 w _ h=>?_)
    refine Yz ?_;refine Yw ?_;refine qz (.iz ((2:Nat):Int)) rfl ?_;refine Y0 ?_;exact qv ⟨(2,a2,c2),iA,⟨gH,h⟩,gH⟩
  ·refine qz (.bool false) KM ?_;refine qv (qi (qt rfl (ju ?_)));obtain rfl:i=2:=by omega
   rw[p2] at h;refine Eq.mpr (if_pos rfl) ⟨(ga,gc),⟨?_,trivial⟩,h⟩;show Value.slice ga (P 2).length gc=_;rw[p2]
 clear h;rintro⟨ga,gc⟩ w e h;refine Yd ?_;refine Yo ?_;exact qv (qk (bQ ⟨ga,gc,rfl,h.x [1]⟩))
end
end
end Go.Proofs.YtngdfdangkdgcaaGreatDoor
namespace Go.Hw
section
section
variable{κ β:Type}[DecidableEq κ]
theorem vz{k:κ}{v:β}:∀{m:List (κ×β)},(keys m).Nodup->(aH k m=some v↔(k,v)∈m)
 |[],_=>by simp[aH]
 |(k',v')::m,hn=>by
  have hn':k'∉keys m∧(keys m).Nodup:=by simpa[keys] using hn
  unfold aH;by_cases h:k'=k
  ·subst h;simp only[if_true,Up,Prod.mk.injEq,true_and,Vr];refine⟨fun h=>.inl h.symm,fun h=>h.elim Eq.symm fun h=>?_⟩;exact absurd (Va.2 ⟨_,h,rfl⟩) hn'.1
  ·rw[if_neg h,vz hn'.2];simp only[Up,Prod.mk.injEq];exact⟨.inr,fun h'=>h'.elim (fun e=>absurd e.1.symm h) id⟩
theorem xt{m m':List (κ×β)}(hp:m.Perm m')(hn:(keys m).Nodup)(k:κ):aH k m'=aH k m:=by
 have hn':(keys m').Nodup:=(hp.map _).nodup_iff.1 hn;apply Option.ext;intro v;rw[vz hn',vz hn,hp.mem_iff]
end
theorem i5{α κ:Type}{f:α->κ}:∀{l:List α} {a b:α},(l.map f).Nodup->a∈l->b∈l->f a=f b->a=b
 |[],_,_,_,h,_,_=>by cases h
 |x::l,a,b,hn,ha,hb,he=>by
  have hn':f x∉l.map f∧(l.map f).Nodup:=by simpa using hn
  rcases Up.1 ha with e1|h1 <;> rcases Up.1 hb with e2|h2
  ·rw[e1,e2]
  ·exact absurd (Va.2 ⟨b,h2,he.symm.trans (congrArg f e1)⟩) hn'.1
  ·exact absurd (Va.2 ⟨a,h1,he.trans (congrArg f e2)⟩) hn'.1
  ·exact i5 hn'.2 h1 h2 he
namespace aT
structure Good(q:aT):Prop where
 wf:q.Wf
 res:(q.res.length:Int)<=q.most
 tests:(q.count Pg.test:Int)<=q.most
 nodup:q.keys.Nodup
theorem xu(q:aT):List.Sublist (Go.Hw.keys q.res) q.keys:=by
 unfold res Go.Hw.keys keys;rw[List.map_map];exact(List.filter_sublist (l:=q.pages)).map _
theorem Good.gY{q:aT}(h:q.Good):(Go.Hw.keys q.res).Nodup:=h.nodup.sublist (xu q)
theorem xB(n:Int):(new n).Good:=⟨⟨by unfold new;dsimp only;omega,by unfold new;dsimp only;omega,fun p hp=>(by cases hp),by simp[new],by simp[new],by simp[new]⟩,by simp[new,res];omega,by simp[new,count];omega,by simp[new,keys]⟩
theorem au{l:List Pg}(h:∀p∈l,p.Ok):l.length=l.countP Pg.aJ+l.countP Pg.test:=by
 induction l with
 |nil=>rfl
 |cons p l ih=>
  have h1:=ih fun x hx=>h x (Uh _ hx);rw[Uj,Wr,Wr,h1];rcases(h p (Ud ..)).1 with e|e|e
  ·simp[Pg.aJ,Pg.test,e];omega
  ·simp[Pg.aJ,Pg.test,e];omega
  ·simp[Pg.aJ,Pg.test,e];omega
theorem Good.len{q:aT}(h:q.Good):q.pages.length<=2000:=by
 have h1:=au h.wf.kinds;have h2:=h.res;have h3:=h.tests;have h4:=h.wf.most;rw[hH] at h2;unfold count at h2 h3;omega
theorem Good.count{q:aT}(h:q.Good):(q.count Pg.aJ:Int)<=q.most:=by rw[<- hH];exact h.res
theorem ux{q:aT}{k:bL}{i:Nat}(h:q.find k=some i):∃p,q.pages[i]?=some p∧p.key=k:=by
 unfold find at h;obtain⟨h1,h2,_⟩:=Zj.1 h;exact⟨_,Ub h1,by simpa using h2⟩
theorem i6{q:aT}{k:bL}(h:q.find k=none):k∉q.keys:=by
 unfold find at h;rw[List.findIdx?_eq_none_iff] at h;intro hk;obtain⟨p,hp,rfl⟩:=Va.1 hk;have:=h p hp;simp at this
theorem vM{q:aT}{k:bL}{n:Int}:(k,n)∈q.res↔∃p∈q.pages,p.aJ=true∧p.key=k∧p.pins=n:=by
 unfold res;simp only[Va,Xy,Prod.mk.injEq];exact⟨fun⟨p,⟨a,b⟩,c,d⟩=>⟨p,a,b,c,d⟩,fun⟨p,a,b,c,d⟩=>⟨p,⟨a,b⟩,c,d⟩⟩
theorem u9{q:aT}(h:q.Good){k:bL}{i:Nat}{p:Pg}(hf:q.find k=some i)(hp:q.pages[i]?=some p):aH k q.res=if p.aJ then some p.pins else none:=by
 obtain⟨p',hp',hk⟩:=ux hf;rw[hp] at hp';cases hp'
 have hm:p∈q.pages:=Ue hp;by_cases hr:p.aJ=true
 ·rw[if_pos hr,vz h.gY,vM];exact⟨p,hm,hr,hk,rfl⟩
 ·rw[if_neg hr,dD];intro hx;obtain⟨⟨k',n⟩,hy,e⟩:=Va.1 hx;dsimp only at e;subst e;obtain⟨p2,h2,h3,h4,_⟩:=vM.1 hy;have:=i5 h.nodup h2 hm (h4.trans hk.symm);subst this;exact hr h3
theorem uw{q:aT}{k:bL}(hf:q.find k=none):aH k q.res=none:=by
 rw[dD];exact fun hx=>i6 hf ((xu q).subset hx)
theorem Good.cT{q:aT}(h:q.Good){i:Nat}{p p':Pg}(hp:q.pages[i]?=some p)(hk:p'.key=p.key)(hr:p'.aJ=p.aJ)(ht:p'.test=p.test)(ho:p'.Ok):(q.cT i p').Good:=by
 refine⟨h.wf.cT ho,?_,?_,?_⟩
 ·rw[hH];have h1:=j0 Pg.aJ hp p';have h2:=h.count;rw[hr] at h1;unfold aT.cT aT.count at *;dsimp only at *;omega
 ·have h1:=j0 Pg.test hp p';have h2:=h.tests;rw[ht] at h1;unfold aT.cT aT.count at *;dsimp only at *;omega
 ·show((q.pages.set i p').map (·.key)).Nodup;rw[nD hp hk];exact h.nodup
theorem qW{q:aT}(h:q.Good)(k:bL):(q.cH k).1.Good∧(q.cH k).1.res=q.res∧(q.cH k).2=(aH k q.res).isSome∧(q.cH k).1.most=q.most:=by
 unfold cH;cases hf:q.find k with
 |none=>exact⟨h,rfl,by rw[uw hf];rfl,rfl⟩
 |some i=>
  obtain⟨p,hp,hk⟩:=ux hf;have hg:=u9 h hf hp;dsimp only;rw[hp];dsimp only;by_cases hr:p.aJ=true
  ·rw[if_pos hr] at hg ⊢;have Li:=h.wf.kinds p (Ue hp);refine⟨h.cT hp rfl rfl rfl Li,?_,by rw[hg];rfl,rfl⟩
   exact ie hp rfl rfl rfl
  ·rw[if_neg hr] at hg ⊢;exact⟨h,rfl,by rw[hg];rfl,rfl⟩
theorem T7{l:List Pg}{i:Nat}{p:Pg}(n:Int)(hn:(l.map (·.key)).Nodup)(hp:l[i]?=some p)(hr:p.aJ=true):
  ((l.set i { p with pins:=n }).filter Pg.aJ).map (fun p=>(p.key,p.pins))=aX p.key n ((l.filter Pg.aJ).map fun p=>(p.key,p.pins)):=by
 induction l generalizing i with
 |nil=>cases hp
 |cons a l ih=>
  have hn':a.key∉l.map (·.key)∧(l.map (·.key)).Nodup:=by simpa using hn
  cases i with
  |zero=>
   cases hp
   have hr':Pg.aJ { p with pins:=n }=true:=hr
   rw[Vh,Vz,if_pos hr',Vz,if_pos hr,Uy,Uy,aX,if_pos rfl]
  |succ i=>
   have hp':l[i]?=some p:=by simpa using hp
   have:=ih hn'.2 hp';have hne:¬a.key=p.key:=fun e=>hn'.1 (Va.2 ⟨p,Ue hp',e.symm⟩);rw[Vs,Vz,Vz];by_cases ha:a.aJ=true
   ·rw[if_pos ha,if_pos ha,Uy,Uy,this,aX,if_neg hne]
   ·rw[if_neg ha,if_neg ha,this]
theorem FN{q:aT}(h:q.Good)(k:bL)(n:Int):(q.fS k n).1.Good∧(q.fS k n).1.most=q.most∧(q.fS k n).2=(aH k q.res).isSome∧
  (q.fS k n).1.res=match aH k q.res with|some a=>aX k (max (a+n) 0) q.res|none=>q.res:=by
 unfold fS;cases hf:q.find k with
 |none=>exact⟨h,rfl,by rw[uw hf];rfl,by rw[uw hf]⟩
 |some i=>
  obtain⟨p,hp,hk⟩:=ux hf;have hg:=u9 h hf hp;dsimp only;rw[hp];dsimp only;by_cases hr:p.aJ=true
  ·rw[if_pos hr] at hg ⊢;have Li:=h.wf.kinds p (Ue hp)
   have ho:Pg.Ok { p with pins:=max (p.pins+n) 0 }:=⟨Li.1,gH,fun h3=>by
    dsimp only at h3;unfold Pg.aJ at hr;rw[h3] at hr
    cases hr⟩
   refine⟨h.cT hp rfl rfl rfl ho,rfl,by rw[hg];rfl,?_⟩
   rw[hg];dsimp only;rw[<- hk];exact T7 _ h.nodup hp hr
  ·rw[if_neg hr] at hg ⊢;exact⟨h,rfl,by rw[hg];rfl,by rw[hg]⟩
theorem El{q:aT}(h:q.Good)(k:bL):(∀a,aH k q.res=some a->∃i p,q.find k=some i∧q.pages[i]?=some p∧p.pins=a)∧(∀i p,q.find k=some i->q.pages[i]?=some p->aH k q.res=none->p.pins=0):=by
 constructor
 ·intro a ha;cases hf:q.find k with
  |none=>rw[uw hf] at ha;cases ha
  |some i=>
   obtain⟨p,hp,hk⟩:=ux hf;have hg:=u9 h hf hp;rw[ha] at hg;refine⟨i,p,rfl,hp,?_⟩;split at hg
   ·exact(Uk hg).symm
   ·cases hg
 ·intro i p hf hp hn;have hg:=u9 h hf hp;have Li:=h.wf.kinds p (Ue hp);rw[hn] at hg;split at hg
  ·cases hg
  ·rename_i hr
   refine Li.2.2 ?_;rcases Li.1 with e|e|e
   ·exact absurd (by simp[Pg.aJ,e]) hr
   ·exact absurd (by simp[Pg.aJ,e]) hr
   ·exact e
theorem Good.goes{q:aT}(h:q.Good){i:Nat}{p:Pg}(hp:q.pages[i]?=some p):(q.goes i).Good:=by
 have hlt:=(Uc.1 hp).1;refine⟨h.wf.goes hlt,?_,?_,?_⟩
 ·rw[hH];have h1:=gd Pg.aJ hp;have h2:=h.count;unfold aT.goes aT.count at *;dsimp only at *;omega
 ·have h1:=gd Pg.test hp;have h2:=h.tests;unfold aT.goes aT.count at *;dsimp only at *;omega
 ·exact h.nodup.sublist ((Zh ..).map _)
theorem T8{q:aT}(h:q.Good){k:bL}{i:Nat}(hf:q.find k=some i)(j:bL):aH j (q.goes i).res=if j=k then none else aH j q.res:=by
 obtain⟨p,hp,hk⟩:=ux hf;have hg:=u9 h hf hp;by_cases hr:p.aJ=true
 ·have h1:=(mR hp hr).1;have h2:=xt h1 h.gY;have hn:=h.gY;have hn2:(Go.Hw.keys ((p.key,p.pins)::(q.goes i).res)).Nodup:=(h1.map _).nodup_iff.1 hn;have Bc:p.key∉Go.Hw.keys (q.goes i).res:=(Wa.1 hn2).1;have h3:=h2 j;show aH j (q.goes i).res=_;rw[hk] at Bc;by_cases hj:j=k
  ·subst hj;rw[if_pos rfl];exact dD.2 Bc
  ·rw[if_neg hj];have h4:aH j ((p.key,p.pins)::(q.goes i).res)=aH j (q.goes i).res:=by rw[aH,if_neg (by rw[hk];exact fun e=>hj e.symm)]
   rw[<- h4];exact h3
 ·have h1:(q.goes i).res=q.res:=xm hp (by simpa using hr)
  rw[h1];rw[if_neg hr] at hg;by_cases hj:j=k
  ·subst hj;rw[if_pos rfl];exact hg
  ·rw[if_neg hj]
theorem Em{q:aT}(h:q.Good)(k:bL):(q.drop k).1.Good∧(q.drop k).1.most=q.most∧∀j,aH j (q.drop k).1.res=if j=k then none else aH j q.res:=by
 unfold aT.drop;cases hf:q.find k with
 |none=>
  refine⟨h,rfl,fun j=>?_⟩;by_cases hj:j=k
  ·subst hj;rw[if_pos rfl];exact uw hf
  ·rw[if_neg hj]
 |some i=>
  obtain⟨p,hp,hk⟩:=ux hf;exact⟨h.goes hp,rfl,T8 h hf⟩
theorem zt{q:aT}(p:Pg):(q.comes p).pages.Perm (p::q.pages):=by
 unfold comes;split
 ·rename_i h;rw[h]
 ·have:(q.pages.take q.bK++p::q.pages.drop q.bK).Perm (p::(q.pages.take q.bK++q.pages.drop q.bK)):=List.perm_middle
  rwa [Xs] at this
theorem ay{q:aT}{p:Pg}(hr:p.aJ=true):(q.comes p).res.Perm ((p.key,p.pins)::q.res):=by
 have h1:=((zt (q:=q) p).filter Pg.aJ).map fun p=>(p.key,p.pins);rw[Vz,if_pos hr,Uy] at h1;exact h1
theorem tp(q:aT)(p:Pg):(q.comes p).most=q.most:=by unfold comes;split <;> rfl
structure JZ(q:aT)(k:bL)(q':aT)(out:List bL):Prop where
 good:q'.Good
 most:q'.most=q.most
 here:aH k q'.res=some 0
 others:((q.res.length:Int)<q.most∧out=[]∧∀j,j≠k->aH j q'.res=aH j q.res)∨(q.most<=(q.res.length:Int)∧∃k0,out=[k0]∧k0≠k∧aH k0 q.res=some 0∧∀j,j≠k->aH j q'.res=if j=k0 then none else aH j q.res)
theorem az{l:List Pg}{i:Nat}{p:Pg}(hn:(l.map (·.key)).Nodup)(hp:l[i]?=some p):p.key∉(l.eraseIdx i).map (·.key):=by
 induction l generalizing i with
 |nil=>cases hp
 |cons a l ih=>
  have hn':a.key∉l.map (·.key)∧(l.map (·.key)).Nodup:=by simpa using hn
  cases i with
  |zero=>cases hp;exact hn'.1
  |succ i=>
   have hp':l[i]?=some p:=by simpa using hp
   have:=ih hn'.2 hp';rw[Xm,Uy,Up];rintro(e|e)
   ·exact hn'.1 (e▸Va.2 ⟨p,Ue hp',rfl⟩)
   ·exact this e
theorem T9{q:aT}(h:q.Good):q.count Pg.free=0↔∀j a,aH j q.res=some a->a≠0:=by
 rw[<- yx,List.countP_eq_zero];constructor
 ·intro hx j a hj e;have:=hx _ ((vz h.gY).1 hj);simp[e] at this
 ·rintro hx ⟨j,a⟩ hj;have:=hx j a ((vz h.gY).2 hj);simpa using this
theorem i7{q1:aT}{k:bL}(h:q1.Good)(hk:k∉q1.keys)(hf:¬((q1.count Pg.aJ:Int) ≥ q1.most∧q1.count Pg.free=0)){p:Pg}(hpk:p.key=k)(Ie:p.aJ=true)(UA:p.pins=0)(Iq:p.Ok):
  JZ q1 k ((q1.room.1.comes p).kQ) q1.room.2:=by
 have A2:p.test=false:=by
  unfold Pg.aJ at Ie;unfold Pg.test;rcases Iq.1 with e|e|e <;> simp[e] at Ie ⊢
 have gen:∀q2:aT,q2.Wf->q2.most=q1.most->(q2.res.length:Int)+1<=q2.most->(q2.count Pg.test:Int)<=q2.most->List.Sublist q2.keys q1.keys->
   ((q2.comes p).kQ).Good∧((q2.comes p).kQ).most=q1.most∧aH k ((q2.comes p).kQ).res=some 0∧∀j,j≠k->aH j ((q2.comes p).kQ).res=aH j q2.res:=by
  intro q2 hw hm hl ht hs;obtain⟨UB,_⟩:=BL hw Iq;obtain⟨UC,hle,_⟩:=nn UB;have Ir:=tp q2 p;have zM:=ay (q:=q2) Ie;rw[hpk,UA] at zM
  have hkp:(q2.comes p).keys.Perm (k::q2.keys):=by
   have:=(zt (q:=q2) p).map (·.key);rw[Uy,hpk] at this;exact this
  have hn2:q2.keys.Nodup:=h.nodup.sublist hs;have hk2:k∉q2.keys:=fun hx=>hk (hs.subset hx);have Bc:(q2.comes p).keys.Nodup:=hkp.nodup_iff.2 (Wa.2 ⟨hk2,hn2⟩);have AZ:=Bc.sublist hle.keys;have CE:((q2.comes p).kQ).res=(q2.comes p).res:=hle.res
  have X6:(q2.comes p).count Pg.test=q2.count Pg.test:=by
   unfold aT.count;rw[(zt (q:=q2) p).countP_eq,Wr,A2];rfl
  have hg:((q2.comes p).kQ).Good:=by
   refine⟨UC,?_,?_,AZ⟩
   ·rw[CE,zM.length_eq,hle.most,Ir,Uj];omega
   ·have:=hle.tests;rw[hle.most,Ir];omega
  have NS:(Go.Hw.keys ((k,(0:Int))::q2.res)).Nodup:=Wa.2 ⟨fun hx=>hk2 ((xu q2).subset hx),hn2.sublist (xu q2)⟩;have Rs:=xt zM.symm NS;refine⟨hg,by rw[hle.most,Ir,hm],?_,fun j hj=>?_⟩
  ·rw[CE,Rs,aH,if_pos rfl]
  ·rw[CE,Rs,aH,if_neg (fun e=>hj e.symm)]
 have hlen:q1.count Pg.aJ=q1.res.length:=(hH q1).symm;unfold room;by_cases hfull:(q1.count Pg.aJ:Int) ≥ q1.most
 ·rw[if_pos hfull];have hfr:1<=q1.count Pg.free:=Nat.one_le_iff_ne_zero.2 fun e=>hf ⟨hfull,e⟩;obtain⟨k0,Rt,hw,ho⟩:=sE h.wf hfr;rw[Rt];have hl:=ho.res.length_eq;rw[Uj] at hl;have hres:=h.res;obtain⟨g1,g2,g3,g4⟩:=gen _ hw ho.most (by rw[ho.most];omega) (by have:=ho.tests;omega) ho.keys
  have hn1:=h.gY;have hn2:(Go.Hw.keys ((k0,(0:Int))::q1.dS.1.res)).Nodup:=(ho.res.map _).nodup_iff.1 hn1;have hm:=xt ho.res.symm hn2;have J0:aH k0 q1.res=some 0:=by rw[hm,aH,if_pos rfl]
  have hnk:k0≠k:=by
   rintro rfl;have:aH k0 q1.res=none:=dD.2 fun hx=>hk ((xu q1).subset hx);rw[this] at J0;cases J0
  refine⟨g1,g2,g3,.inr ⟨by rw[<- hlen];exact hfull,k0,rfl,hnk,J0,fun j hj=>?_⟩⟩
  rw[g4 j hj,hm,aH];by_cases e:j=k0
  ·rw[if_pos e,e];exact dD.2 (Wa.1 hn2).1
  ·rw[if_neg e,if_neg (fun e'=>e e'.symm)]
 ·rw[if_neg hfull];obtain⟨g1,g2,g3,g4⟩:=gen q1 h.wf rfl O0 h.tests (List.Sublist.refl _);exact⟨g1,g2,g3,.inl ⟨cI,rfl,g4⟩⟩
theorem pE{q:aT}(h:q.Good)(k:bL):
  ((aH k q.res).isSome=true∧q.lets k=((q.cH k).1,[],true))∨
  (aH k q.res=none∧q.most<=(q.res.length:Int)∧(∀j a,aH j q.res=some a->a≠0)∧q.lets k=(q,[],false))∨
  (aH k q.res=none∧¬(q.most<=(q.res.length:Int)∧∀j a,aH j q.res=some a->a≠0)∧(q.lets k).2.2=true∧JZ q k (q.lets k).1 (q.lets k).2.1):=by
 obtain⟨t1,t2,t3,t4⟩:=qW h k;by_cases ht:(q.cH k).2=true
 ·refine .inl ⟨by rw[<- t3];exact ht,?_⟩
  unfold lets;rw[if_pos ht]
 ·have hno:aH k q.res=none:=by
   rw[t3] at ht;cases hg:aH k q.res with
   |none=>rfl
   |some a=>rw[hg] at ht;exact absurd rfl ht
  right;have hlen:q.count Pg.aJ=q.res.length:=(hH q).symm;have Lc:=T9 h;by_cases hc:(q.count Pg.aJ:Int) ≥ q.most∧q.count Pg.free=0
  ·refine .inl ⟨hno,by rw[<- hlen];exact hc.1,Lc.1 hc.2,?_⟩
   unfold lets;rw[if_neg ht,if_pos hc]
  ·refine .inr ⟨hno,fun hh=>hc ⟨by rw[hlen];exact hh.1,Lc.2 hh.2⟩,?_⟩
   unfold lets;rw[if_neg ht,if_neg hc];refine⟨rfl,?_⟩;dsimp only;cases hf:q.find k with
   |none=>exact i7 h (i6 hf) hc (p:=⟨k,2,false,true,0⟩) rfl rfl rfl ⟨.inr (.inl rfl),Ut 0,fun e=>by cases e⟩
   |some i=>
    obtain⟨p,hp,hk⟩:=ux hf;have hg:=u9 h hf hp;rw[hno] at hg
    have hr:p.aJ=false:=by
     cases hr:p.aJ with
     |false=>rfl
     |true=>rw[hr] at hg;cases hg
    have Is:=h.goes hp;have hres:((q.goes i).qS 1).res=q.res:=xm hp hr;have Gt:((q.goes i).qS 1).Good:=⟨Is.wf.qS 1,Is.res,Is.tests,Is.nodup⟩;have hfr:((q.goes i).qS 1).count Pg.free=q.count Pg.free:=by rw[<- yx,<- yx,hres]
    have Lb:((q.goes i).qS 1).count Pg.aJ=q.count Pg.aJ:=by rw[<- hH,<- hH,hres]
    have Ir:=i7 Gt (k:=k) (by rw[<- hk];exact az h.nodup hp) (by rw[hfr,Lb];exact hc) (p:=⟨k,1,false,false,0⟩) rfl rfl rfl ⟨.inl rfl,Ut 0,fun e=>by cases e⟩
    have ho:=Ir.others;rw[hres] at ho;exact⟨Ir.good,Ir.most,Ir.here,ho⟩
end aT
end
section
theorem mS{α:Type}[DecidableEq α]:∀{l m:List α},l.Nodup->(∀x∈l,x∈m)->l.length<=m.length
 |[],_,_,_=>Uf _
 |a::l,m,hn,hs=>by
  have hn':=Wa.1 hn;have ha:=hs a (Ud ..);have:=mS (m:=m.erase a) hn'.2 fun x hx=>(List.mem_erase_of_ne (by rintro rfl;exact hn'.1 hx)).2 (hs x (Uh _ hx))
  rw[Xf ha] at this;have hp:=List.length_pos_of_mem ha;rw[Uj];omega
namespace eC
abbrev pins(C:eC)(k:bL):Option Int:=aH k C.bE.res
structure Good(C:eC)(N:Int):Prop where
 bE:C.bE.Good
 big:∀k a,C.pins k=some a->a<=N
 nodup:(keys C.rows).Nodup
 same:∀k,(aH k C.rows).isSome=(C.pins k).isSome
 rows:∀k L,aH k C.rows=some L->L.length<=1073741824
variable{C:eC}{N:Int}
theorem Good.ge(h:C.Good N){k:bL}{a:Int}(hk:C.pins k=some a):0<=a:=by
 obtain⟨p,hp,_,_,rfl⟩:=aT.vM.1 ((vz h.bE.gY).1 hk);exact(h.bE.wf.kinds p hp).2.1
theorem Good.mono(h:C.Good N){M:Int}(hM:N<=M):C.Good M:=⟨h.bE,fun k a hk=>by have:=h.big k a hk;omega,h.nodup,h.same,h.rows⟩
theorem Good.ok(h:C.Good N)(hN:N<=1099511627776):C.Ok:=by
 refine⟨h.bE.wf,by have:=h.bE.len;omega,h.bE.count,fun p hp=>?_,h.rows⟩
 have ho:=h.bE.wf.kinds p hp;refine⟨ho.2.1,?_⟩;by_cases hr:p.aJ=true
 ·have:=h.big p.key p.pins ((vz h.bE.gY).2 (aT.vM.2 ⟨p,hp,hr,rfl,rfl⟩));omega
 ·have h3:p.kind=3:=by
   rcases ho.1 with e|e|e
   ·exact absurd (by simp[Pg.aJ,e]) hr
   ·exact absurd (by simp[Pg.aJ,e]) hr
   ·exact e
  rw[ho.2.2 h3];decide
theorem Good.row(h:C.Good N){k:bL}{a:Int}(hk:C.pins k=some a):∃L,aH k C.rows=some L:=by
 have:=h.same k;rw[hk] at this;exact Wj.1 this
theorem Good.It(h:C.Good N){k:bL}(hk:C.pins k=none):aH k C.rows=none:=by
 have:=h.same k;rw[hk] at this;simpa using this
theorem Good.frames(h:C.Good N):C.rows.length=C.bE.res.length:=by
 have key:∀k,k∈keys C.rows↔k∈keys C.bE.res:=fun k=>by
  have:=h.same k;have h1:=dD (k:=k) (m:=C.rows);have h2:=dD (k:=k) (m:=C.bE.res);cases ha:aH k C.rows with
  |none=>
   rw[ha] at this;have hb:C.pins k=none:=by simpa using this.symm
   exact⟨fun hx=>absurd hx (h1.1 ha),fun hx=>absurd hx (h2.1 hb)⟩
  |some L=>
   rw[ha] at this;have hb:aH k C.bE.res≠none:=fun e=>by rw[show C.pins k=none from e] at this;cases this
   refine⟨fun _=>?_,fun _=>?_⟩
   ·by_cases hx:k∈keys C.bE.res
    ·exact hx
    ·exact absurd (h2.2 hx) hb
   ·by_cases hx:k∈keys C.rows
    ·exact hx
    ·rw[h1.2 hx] at ha;cases ha
 have e1:=mS h.nodup fun k hk=>(key k).1 hk;have e2:=mS h.bE.gY fun k hk=>(key k).2 hk;unfold keys at e1 e2;simp only[Vf] at e1 e2;omega
theorem Good.FO(h:C.Good N):(C.rows.length:Int)<=C.bE.most:=by rw[h.frames];exact h.bE.res
theorem xB(n:Int):(eC.new n).Good 0:=⟨aT.xB n,fun k a h=>(by cases h),Ki,fun k=>rfl,fun k L h=>(by cases h)⟩
theorem pF(h:C.Good N)(k:bL):(C.get k).1.Good N∧(C.get k).1.bE.res=C.bE.res∧(C.get k).1.rows=C.rows∧(C.get k).2=aH k C.rows∧(C.get k).1.bE.most=C.bE.most:=by
 obtain⟨t1,t2,t3,t4⟩:=aT.qW h.bE k;unfold get;by_cases ht:(C.bE.cH k).2=true
 ·rw[if_pos ht];rw[t3] at ht;obtain⟨a,ha⟩:=Wj.1 ht;obtain⟨L,hL⟩:=h.row ha;refine⟨⟨t1,fun j b hj=>h.big j b (by unfold pins at hj ⊢;rw[<- t2];exact hj),h.nodup,fun j=>by show _=(aH j (C.bE.cH k).1.res).isSome;rw[t2];exact h.same j,h.rows⟩,t2,rfl,by dsimp only;rw[hL];rfl,t4⟩
 ·rw[if_neg ht];rw[t3] at ht;refine⟨h,rfl,rfl,?_,rfl⟩;exact(h.It (by cases hx:C.pins k with|none=>rfl|some a=>exact absurd (by unfold pins at hx;rw[hx];rfl) ht)).symm
theorem BX(h:C.Good N)(k j:bL):(C.get k).1.pins j=C.pins j:=by unfold pins;rw[(pF h k).2.1]
theorem pG(h:C.Good N){k:bL}{a:Int}(n:Int)(hk:C.pins k=some a):(C.eN k n).2=true∧(C.eN k n).1.rows=C.rows∧(C.eN k n).1.bE.most=C.bE.most∧(C.eN k n).1.bE.res=aX k (max (a+n) 0) C.bE.res∧(C.eN k n).1.Good (max N (a+n)):=by
 obtain⟨p1,p2,p3,p4⟩:=aT.FN h.bE k n;have hk':aH k C.bE.res=some a:=hk;rw[hk'] at p3 p4;have e:C.eN k n=(⟨(C.bE.fS k n).1,C.rows⟩,true):=by unfold eN;rw[p3];rfl
 rw[e];have hge:=h.ge hk;have hle:=h.big k a hk;refine⟨rfl,rfl,p2,p4,p1,fun j b hj=>?_,h.nodup,fun j=>?_,h.rows⟩
 ·have hj':aH j (C.bE.fS k n).1.res=some b:=hj;rw[p4] at hj';dsimp only at hj';rw[jg] at hj';split at hj'
  ·have:=Uk hj';omega
  ·have:=h.big j b hj';omega
 ·show _=(aH j (C.bE.fS k n).1.res).isSome;rw[p4];dsimp only;rw[jg];split
  ·rename_i hj;subst hj;rw[h.same j];unfold pins;rw[hk'];rfl
  ·exact h.same j
theorem AF(h:C.Good N){k:bL}{a:Int}(n:Int)(hk:C.pins k=some a)(j:bL):(C.eN k n).1.pins j=if j=k then some (max (a+n) 0) else C.pins j:=by
 unfold pins;rw[(pG h n hk).2.2.2.1,jg]
theorem mt(h:C.Good N){k:bL}{a:Int}(hk:C.pins k=some a):∃p,C.bE.wY k=some p∧p.pins=a:=by
 obtain⟨i,p,h1,h2,h3⟩:=(aT.El h.bE k).1 a hk;exact⟨p,by unfold aT.wY;rw[h1];exact h2,h3⟩
theorem zP(h:C.Good N){k:bL}{a:Int}(hk:C.pins k=some a)(ha:0<a):C.gD k=C.eN k (-1):=by
 obtain⟨p,hp,he⟩:=mt h hk;unfold gD;rw[hp];dsimp only;rw[if_pos O0]
theorem drop_zero(h:C.Good N){k:bL}(hk:C.pins k=some 0):(C.drop k).2=true∧(C.drop k).1.bE.most=C.bE.most∧(C.drop k).1.rows=bY k C.rows∧(∀j,(C.drop k).1.pins j=if j=k then none else C.pins j)∧(C.drop k).1.Good N:=by
 obtain⟨p,hp,he⟩:=mt h hk;obtain⟨d1,d2,d3⟩:=aT.Em h.bE k;have e:C.drop k=(⟨(C.bE.drop k).1,bY k C.rows⟩,true):=by unfold drop;rw[hp];dsimp only;rw[if_neg O0]
 rw[e];refine⟨rfl,d2,rfl,d3,d1,fun j b hj=>?_,kb h.nodup,fun j=>?_,fun j L hj=>?_⟩
 ·have hj':=d3 j;rw[show aH j (C.bE.drop k).1.res=some b from hj] at hj';split at hj'
  ·cases hj'
  ·exact h.big j b hj'.symm
 ·show(aH j (bY k C.rows)).isSome=(aH j (C.bE.drop k).1.res).isSome;rw[d3,j7 _ _ _ h.nodup];split
  ·rfl
  ·exact h.same j
 ·dsimp only at hj;rw[j7 _ _ _ h.nodup] at hj;split at hj
  ·cases hj
  ·exact h.rows j L hj
theorem BY(h:C.Good N){k:bL}{a:Int}{L:List bZ}(hL:L.length<=1073741824)(hk:C.pins k=some a):(C.put k L).2=true∧(C.put k L).1.bE.res=C.bE.res∧(C.put k L).1.rows=aX k L C.rows∧(C.put k L).1.bE.most=C.bE.most∧(C.put k L).1.Good N:=by
 obtain⟨t1,t2,t3,t4⟩:=aT.qW h.bE k;have hk':aH k C.bE.res=some a:=hk
 have ha:C.bE.lets k=((C.bE.cH k).1,[],true):=by
  rcases aT.pE h.bE k with⟨_,e⟩|⟨e,_⟩|⟨e,_⟩
  ·exact e
  ·rw[hk'] at e;cases e
  ·rw[hk'] at e;cases e
 have e:C.put k L=(⟨(C.bE.cH k).1,aX k L C.rows⟩,true):=by unfold put;rw[ha];rfl
 rw[e];refine⟨rfl,t2,rfl,t4,t1,fun j b hj=>h.big j b (by unfold pins at hj ⊢;rw[<- t2];exact hj),vg h.nodup,fun j=>?_,fun j M hj=>?_⟩
 ·show(aH j (aX k L C.rows)).isSome=(aH j (C.bE.cH k).1.res).isSome;rw[t2,jg];split
  ·rename_i hj;subst hj;rw[hk'];rfl
  ·exact h.same j
 ·dsimp only at hj;rw[jg] at hj;split at hj
  ·cases hj;exact hL
  ·exact h.rows j M hj
theorem xC(h:C.Good N){k:bL}{L:List bZ}(hk:C.pins k=none)(h1:C.bE.most<=(C.bE.res.length:Int))(h2:∀j a,C.pins j=some a->a≠0):C.put k L=(C,false):=by
 have ha:C.bE.lets k=(C.bE,[],false):=by
  rcases aT.pE h.bE k with⟨e,_⟩|⟨_,_,_,e⟩|⟨_,e,_⟩
  ·rw[show aH k C.bE.res=none from hk] at e;cases e
  ·exact e
  ·exact absurd ⟨h1,h2⟩ e
 unfold put;rw[ha];rfl
structure sH(C:eC)(k:bL)(L:List bZ)(C':eC)(N:Int):Prop where
 good:C'.Good N
 most:C'.bE.most=C.bE.most
 here:C'.pins k=some 0
 row:aH k C'.rows=some L
 others:((C.bE.res.length:Int)<C.bE.most∧C'.rows=aX k L C.rows∧∀j,j≠k->C'.pins j=C.pins j)∨(C.bE.most<=(C.bE.res.length:Int)∧∃k0,k0≠k∧C.pins k0=some 0∧C'.rows=aX k L (bY k0 C.rows)∧∀j,j≠k->C'.pins j=if j=k0 then none else C.pins j)
theorem sH.pinned{k:bL}{L:List bZ}{C':eC}(h:sH C k L C' N){j:bL}{a:Int}(hj:j≠k)(hp:C.pins j=some a)(ha:a≠0):C'.pins j=some a:=by
 rcases h.others with⟨_,_,h1⟩|⟨_,k0,h0,h2,_,h1⟩
 ·rw[h1 j hj,hp]
 ·rw[h1 j hj];split
  ·rename_i e;subst e;rw[hp] at h2;exact absurd (Uk h2) ha
  ·exact hp
theorem sH.from_{k:bL}{L:List bZ}{C':eC}(h:sH C k L C' N){j:bL}{a:Int}(hj:j≠k)(hp:C'.pins j=some a):C.pins j=some a:=by
 rcases h.others with⟨_,_,h1⟩|⟨_,k0,h0,h2,_,h1⟩
 ·rw[<- h1 j hj,hp]
 ·rw[h1 j hj] at hp;split at hp
  ·cases hp
  ·exact hp
theorem sH.rowOf{k:bL}{L:List bZ}{C':eC}(hC:C.Good N)(h:sH C k L C' N){j:bL}{a:Int}(hj:j≠k)(hp:C'.pins j=some a):aH j C'.rows=aH j C.rows:=by
 rcases h.others with⟨_,e,h1⟩|⟨_,k0,h0,h2,e,h1⟩
 ·rw[e,jg,if_neg hj]
 ·rw[e,jg,if_neg hj,j7 _ _ _ hC.nodup,if_neg];rintro rfl;rw[h1 j hj,if_pos rfl] at hp;cases hp
theorem CJ(h:C.Good N)(hN:0<=N){k:bL}{L:List bZ}(hL:L.length<=1073741824)(hk:C.pins k=none)(h1:¬(C.bE.most<=(C.bE.res.length:Int)∧∀j a,C.pins j=some a->a≠0)):(C.put k L).2=true∧sH C k L (C.put k L).1 N:=by
 obtain⟨a2,hc⟩:(C.bE.lets k).2.2=true∧aT.JZ C.bE k (C.bE.lets k).1 (C.bE.lets k).2.1:=by
  rcases aT.pE h.bE k with⟨e,_⟩|⟨_,e1,e2,_⟩|⟨_,_,e⟩
  ·rw[show aH k C.bE.res=none from hk] at e;cases e
  ·exact absurd ⟨e1,e2⟩ h1
  ·exact e
 have e:C.put k L=(⟨(C.bE.lets k).1,aX k L (tP C.rows (C.bE.lets k).2.1)⟩,true):=by unfold put;rw[a2];rfl
 rw[e];refine⟨rfl,?_⟩;have hrow:=h.It hk
 have key:∀R:List (bL×List bZ),(keys R).Nodup->(∀j,j≠k->(aH j R).isSome=(aH j (C.bE.lets k).1.res).isSome)->(∀j M,aH j R=some M->M.length<=1073741824)->Good ⟨(C.bE.lets k).1,aX k L R⟩ N:=by
  intro R hR hs hl;refine⟨hc.good,fun j b hj=>?_,vg hR,fun j=>?_,fun j M hj=>?_⟩
  ·have hj':aH j (C.bE.lets k).1.res=some b:=hj;by_cases e:j=k
   ·subst e;rw[hc.here] at hj';cases hj';exact hN
   ·rcases hc.others with⟨_,_,ho⟩|⟨_,k0,_,_,_,ho⟩
    ·exact h.big j b ((ho j e).symm.trans hj')
    ·rw[ho j e] at hj';split at hj'
     ·cases hj'
     ·exact h.big j b hj'
  ·show(aH j (aX k L R)).isSome=(aH j (C.bE.lets k).1.res).isSome;rw[jg];split
   ·rename_i e;subst e;rw[hc.here];rfl
   ·rename_i e;exact hs j e
  ·dsimp only at hj;rw[jg] at hj;split at hj
   ·cases hj;exact hL
   ·exact hl j M hj
 rcases hc.others with⟨o1,o2,o3⟩|⟨o1,k0,o2,o3,o4,o5⟩
 ·rw[o2];refine⟨key C.rows h.nodup (fun j hj=>by rw[o3 j hj];exact h.same j) h.rows,hc.most,hc.here,?_,.inl ⟨o1,rfl,o3⟩⟩
  show aH k (aX k L C.rows)=some L;rw[jg,if_pos rfl]
 ·rw[o2];have hd:tP C.rows [k0]=bY k0 C.rows:=rfl;rw[hd];refine⟨key _ (kb h.nodup) (fun j hj=>?_) (fun j M hj=>?_),hc.most,hc.here,?_,.inr ⟨o1,k0,o3,o4,rfl,o5⟩⟩
  ·rw[o5 j hj,j7 _ _ _ h.nodup];split
   ·rfl
   ·exact h.same j
  ·rw[j7 _ _ _ h.nodup] at hj;split at hj
   ·cases hj
   ·exact h.rows j M hj
  ·show aH k (aX k L (bY k0 C.rows))=some L;rw[jg,if_pos rfl]
theorem FP(h:C.Good N)(hN:0<=N){k:bL}{L:List bZ}(hL:L.length<=1073741824):(C.put k L).1.Good N:=by
 cases hk:C.pins k with
 |some a=>exact(BY h hL hk).2.2.2.2
 |none=>
  by_cases hc:C.bE.most<=(C.bE.res.length:Int)∧∀j a,C.pins j=some a->a≠0
  ·rw[xC h hk hc.1 hc.2];exact h
  ·exact(CJ h hN hL hk hc).2.good
end eC
end
end Go.Hw
namespace Go.Proofs.YtngdfdangkdgcaaGreatDoor
open Go.Hw _root_.Go.Proofs.Tryz
section
def m4(n:Nat):Nat:=max 1 ((n+3) / 4)
theorem FQ(n:Nat)(h:n<=4):m4 n=1:=by unfold m4;omega
theorem DH(n:Nat)(h:4<n):m4 n=m4 (n-4)+1:=by unfold m4;omega
namespace Tk
structure Lj(x:Tk):Prop where
 d:x.d=none
 dec:x.dec=false
 fS:x.fS=false
 done:x.done=false
 row:x.row=[]
 out:x.out=[]
structure MJ(c:List UInt8)(r:Nat)(bad:Bool)(x:Tk):Prop where
 d:∃d,x.d=some d∧d.bs=c∧d.on=⟨true,false,r,bad⟩
 dec:x.dec=false
 fS:x.fS=false
 done:x.done=false
 row:x.row=[]
 out:x.out=[]
structure NT(o:Option (List bZ))(x:Tk):Prop where
 d:∃d,x.d=some d∧d.told=o
 dec:x.dec=true
 fS:x.fS=false
 done:x.done=false
 row:x.row=[]
 out:x.out=[]
structure ML(w:List bZ)(x:Tk):Prop where
 fS:x.fS=true
 done:x.done=false
 row:x.row=w
 out:x.out=w.take x.i
 i:x.i<=w.length
structure MM(w:List bZ)(x:Tk):Prop where
 fS:x.fS=false
 done:x.done=true
 row:x.row=w
 out:x.out=w
variable{x:Tk}{S:eR}{C:eC}
theorem MN(s f b fr to:Int):(Tk.new s f b fr to).Lj:=⟨rfl,rfl,rfl,rfl,rfl,rfl⟩
theorem UD{k:bL}(h:(C.get k).2=none):(C.get k).1=C:=by
 unfold eC.get at h ⊢;split at h
 ·cases h
 ·rename_i h1;rw[if_neg h1]
theorem Iu(h:x.Lj):x.step S C=x.cP S C:=by unfold step;rw[h.done,h.fS,h.d];rfl
theorem sI(L:List bZ)(hd:x.done=false)(ho:x.out=[]):(x.pinned L).ML (within L x.fr x.to):=⟨rfl,hd,rfl,by show x.out=(within L x.fr x.to).take 0;rw[ho];rfl,Uf _⟩
theorem zQ(h:x.Lj){L:List bZ}(hg:(C.get x.key).2=some L):x.step S C=(x.pinned L,((C.get x.key).1.eN x.key 1).1,0):=by rw[Iu h];unfold cP;rw[hg]
theorem xD(h:x.Lj)(hg:(C.get x.key).2=none){e:Kept}(hb:aH x.key.bB S.l=some e):x.step S C=({ x with d:=some (lI.new e.bs) },C,0)∧Tk.MJ e.bs (jV e.bs).length (!(eJ e.bs).isSome) { x with d:=some (lI.new e.bs) }:=by
 refine⟨?_,⟨_,rfl,rfl,rfl⟩,h.dec,h.fS,h.done,h.row,h.out⟩;rw[Iu h];unfold cP;rw[hg];dsimp only;rw[hb,UD hg]
theorem Iv{c:List UInt8}{r:Nat}{bad:Bool}(h:x.MJ c r bad):∃x',x.step S C=(x',C,0)∧x'.key=x.key∧x'.fr=x.fr∧x'.to=x.to∧(4<r->x'.MJ c (r-4) bad)∧(r<=4->x'.NT (if bad then none else some (jV c))):=by
 obtain⟨d,h1,h2,h3⟩:=h.d;have e:x.step S C=({ x with d:=some (d.step 4),dec:=!(d.more 4) },C,0):=by unfold step;rw[h.done,h.fS,h1];dsimp only;rw[h.dec];rfl
 have c4:gJ 4=4:=by decide
 have hs:(d.step 4).s=⟨true,decide ((r:Int)-4<=0),(r:Int)-4,bad⟩:=by unfold lI.step;rw[h3];unfold vK.step;rw[c4];rfl
 have hm:d.more 4=!decide ((r:Int)-4<=0):=by unfold lI.more;rw[h3];unfold vK.more;rw[c4];rfl
 refine⟨_,e,rfl,rfl,rfl,fun hr=>?_,fun hr=>?_⟩
 ·have hd:decide ((r:Int)-4<=0)=false:=decide_eq_false O0;rw[hd] at hs hm;refine⟨⟨_,rfl,h2,?_⟩,by rw[hm];rfl,h.fS,h.done,h.row,h.out⟩
  unfold lI.on;rw[hs];show(⟨true,false,(r:Int)-4,bad⟩:vK)=_;congr 1;omega
 ·have hd:decide ((r:Int)-4<=0)=true:=decide_eq_true O0;rw[hd] at hs hm;refine⟨⟨_,rfl,?_⟩,by rw[hm];rfl,h.fS,h.done,h.row,h.out⟩
  have hb:(d.step 4).bs=c:=h2;unfold lI.told lI.rows;rw[hs,hb];cases bad <;> rfl
def J1(x:Tk)(C:eC):Option (List bZ)->Tk×eC×Int
 |none=>(x,C,7)
 |some L=>if(C.put x.key L).2 then(x.pinned L,((C.put x.key L).1.eN x.key 1).1,0) else(x,(C.put x.key L).1,6)
theorem Iw{o:Option (List bZ)}(h:x.NT o):x.step S C=J1 x C o:=by
 obtain⟨d,h1,h2⟩:=h.d;unfold step;rw[h.done,h.fS,h1];dsimp only;rw[h.dec];show x.put d C=_;unfold put;rw[h2];cases o <;> rfl
theorem Ix{w:List bZ}(h:x.ML w):∃x',x'.key=x.key∧x'.fr=x.fr∧x'.to=x.to∧x'.d=x.d∧(4<w.length-x.i->x'.ML w∧x'.i=x.i+4∧x.step S C=(x',C,0))∧(w.length-x.i<=4->x'.MM w∧x.step S C=(x',(C.gD x.key).1,0)):=by
 have e0:x.step S C=if x.kH.rest.length=0 then({ x.kH with fS:=false,done:=true },(C.gD x.key).1,0) else(x.kH,C,0):=by unfold step;rw[h.done,h.fS];rfl
 have hrl:x.rest.length=w.length-x.i:=by unfold rest;rw[Um,h.row]
 have hi:=h.i;have Cf:x.kH.i=x.i+min 4 x.rest.length:=rfl;have Am:x.kH.rest.length=w.length-(x.i+min 4 x.rest.length):=by show(x.row.drop (x.i+min 4 x.rest.length)).length=_;rw[Um,h.row]
 have hto:x.kH.out=w.take (x.i+min 4 x.rest.length):=by
  show x.out++x.rest.take (min 4 x.rest.length)=_;rw[h.out,List.take_add];unfold rest;rw[h.row]
 by_cases hc:4<w.length-x.i
 ·rw[if_neg O0] at e0;have hmin:min 4 x.rest.length=4:=by omega
  rw[hmin] at Cf hto;refine⟨x.kH,rfl,rfl,rfl,rfl,fun _=>⟨⟨h.fS,h.done,h.row,by rw[hto,Cf],by rw[Cf];omega⟩,Cf,e0⟩,fun hh=>by omega⟩
 ·rw[if_pos O0] at e0;refine⟨{ x.kH with fS:=false,done:=true },rfl,rfl,rfl,rfl,fun hh=>absurd hh hc,fun _=>⟨⟨rfl,rfl,h.row,?_⟩,e0⟩⟩
  show x.kH.out=w;rw[hto,Uu O0]
theorem MO{w:List bZ}(h:x.MM w):x.step S C=(x,C,0):=by unfold step;rw[h.done];rfl
end Tk
structure CK where
 key:bL
 fr:Int
 to:Int
 c:List UInt8
 L:List bZ
 C0:eC
namespace CK
def hit(R:CK):Bool:=(R.C0.get R.key).2.isSome
def land(R:CK):eC:=if R.hit then((R.C0.get R.key).1.eN R.key 1).1 else((R.C0.put R.key R.L).1.eN R.key 1).1
def fin(R:CK):eC:=(R.land.gD R.key).1
def w(R:CK):List bZ:=within R.L R.fr R.to
structure Ok(R:CK)(S:eR):Prop where
 opens:(eJ R.c).map Prod.fst=some R.L
 bB:∃e,aH R.key.bB S.l=some e∧e.bs=R.c
 was:∀M,(R.C0.get R.key).2=some M->M=R.L
 room:R.hit=false->(R.C0.put R.key R.L).2=true
 len:R.L.length<=65535
def Ph(R:CK)(k:Nat)(x:Tk)(C:eC):Prop:=x.key=R.key∧x.fr=R.fr∧x.to=R.to∧
 ((x.Lj∧C=R.C0∧k=if R.hit then 1+m4 R.w.length else 1+m4 R.L.length+1+m4 R.w.length)∨
  (∃r,x.MJ R.c r false∧C=R.C0∧R.hit=false∧k=m4 r+1+m4 R.w.length)∨
  (x.NT (some R.L)∧C=R.C0∧R.hit=false∧k=1+m4 R.w.length)∨
  (x.ML R.w∧C=R.land∧k=m4 (R.w.length-x.i))∨
  (x.MM R.w∧C=R.fin∧k=0))
variable{R:CK}{S:eR}{x:Tk}{C:eC}
theorem CL(n:Nat):1<=m4 n:=by unfold m4;omega
theorem Ph.zero{k:Nat}(h:R.Ph k x C):(k=0↔x.done=true)∧(k=0->x.MM R.w∧C=R.fin):=by
 have h1:=CL R.w.length;have h2:=CL (R.w.length-x.i);rcases h.2.2.2 with⟨a,b,c⟩|⟨r,a,b,c,d⟩|⟨a,b,c,d⟩|⟨a,b,c⟩|⟨a,b,c⟩
 ·have hk:k≠0:=by split at c <;> omega
  exact⟨⟨fun e=>absurd e hk,fun e=>by rw[a.done] at e;cases e⟩,fun e=>absurd e hk⟩
 ·have hk:k≠0:=by omega
  exact⟨⟨fun e=>absurd e hk,fun e=>by rw[a.done] at e;cases e⟩,fun e=>absurd e hk⟩
 ·have hk:k≠0:=by omega
  exact⟨⟨fun e=>absurd e hk,fun e=>by rw[a.done] at e;cases e⟩,fun e=>absurd e hk⟩
 ·have hk:k≠0:=by omega
  exact⟨⟨fun e=>absurd e hk,fun e=>by rw[a.done] at e;cases e⟩,fun e=>absurd e hk⟩
 ·exact⟨⟨fun _=>a.done,fun _=>c⟩,fun _=>⟨a,b⟩⟩
theorem Ph.step{k:Nat}(hR:R.Ok S)(h:R.Ph k x C):(x.step S C).2.2=0∧R.Ph (k-1) (x.step S C).1 (x.step S C).2.1:=by
 obtain⟨k1,k2,k3,h⟩:=h;obtain⟨e,he,Ru⟩:=hR.bB;have J2:jV R.c=R.L:=by unfold jV;rw[hR.opens];rfl
 have hsome:(eJ R.c).isSome=true:=by have:=hR.opens;cases hx:eJ R.c with|none=>rw[hx] at this;cases this|some y=>rfl
 rcases h with⟨a,b,c⟩|⟨r,a,b,c,d⟩|⟨a,b,c,d⟩|⟨a,b,c⟩|⟨a,b,c⟩
 ·subst b;cases hg:(R.C0.get R.key).2 with
  |some M=>
   obtain rfl:=hR.was M hg;have hh:R.hit=true:=by unfold hit;rw[hg];rfl
   rw[if_pos hh] at c;rw[Tk.zQ a (by rw[k1];exact hg)]
   refine⟨rfl,k1,k2,k3,.inr (.inr (.inr (.inl ⟨?_,?_,?_⟩)))⟩
   ·have:=Tk.sI (x:=x) R.L a.done a.out;rw[k2,k3] at this;exact this
   ·show _=R.land;unfold land;rw[if_pos hh,k1]
   ·show _=m4 (R.w.length-0);rw[Nat.sub_zero];omega
  |none=>
   have hh:R.hit=false:=by unfold hit;rw[hg];rfl
   rw[hh,if_neg O7] at c;obtain⟨e1,e2⟩:=Tk.xD (S:=S) a (by rw[k1];exact hg) (by rw[k1];exact he)
   rw[e1];rw[Ru,J2,hsome] at e2;refine⟨rfl,k1,k2,k3,.inr (.inl ⟨R.L.length,?_,rfl,hh,cI⟩)⟩;rw[Ru];exact e2
 ·subst b;obtain⟨x',e1,e2,e3,e4,e5,e6⟩:=Tk.Iv (S:=S) (C:=R.C0) a;rw[e1];refine⟨rfl,e2.trans k1,e3.trans k2,e4.trans k3,?_⟩;by_cases hr:4<r
  ·have:=DH r hr;exact .inr (.inl ⟨r-4,e5 hr,rfl,c,cI⟩)
  ·have:=FQ r O0;have h6:=e6 O0;rw[J2] at h6;exact .inr (.inr (.inl ⟨h6,rfl,c,cI⟩))
 ·subst b;have hp:=hR.room c;have e1:x.step S R.C0=if(R.C0.put x.key R.L).2 then(x.pinned R.L,((R.C0.put x.key R.L).1.eN x.key 1).1,0) else(x,(R.C0.put x.key R.L).1,6):=Tk.Iw a
  rw[k1,if_pos hp] at e1;rw[e1];refine⟨rfl,k1,k2,k3,.inr (.inr (.inr (.inl ⟨?_,?_,?_⟩)))⟩
  ·have:=Tk.sI (x:=x) R.L a.done a.out;rw[k2,k3] at this;exact this
  ·show _=R.land;unfold land;rw[c];rfl
  ·show _=m4 (R.w.length-0);rw[Nat.sub_zero];omega
 ·subst b;obtain⟨x',e1,e2,e3,_,e4,e5⟩:=Tk.Ix (S:=S) (C:=R.land) a;by_cases hr:4<R.w.length-x.i
  ·obtain⟨f1,f2,f3⟩:=e4 hr;have:=DH _ hr;rw[f3];exact⟨rfl,e1.trans k1,e2.trans k2,e3.trans k3,.inr (.inr (.inr (.inl ⟨f1,rfl,by show _=m4 (R.w.length-x'.i);rw[f2,show R.w.length-(x.i+4)=R.w.length-x.i-4 by omega];omega⟩)))⟩
  ·obtain⟨f1,f3⟩:=e5 O0;have:=FQ _ (show R.w.length-x.i<=4 by omega)
   rw[f3];exact⟨rfl,e1.trans k1,e2.trans k2,e3.trans k3,.inr (.inr (.inr (.inr ⟨f1,by show _=R.fin;unfold fin;rw[k1],cI⟩)))⟩
 ·rw[Tk.MO a];exact⟨rfl,k1,k2,k3,.inr (.inr (.inr (.inr ⟨a,b,cI⟩)))⟩
theorem MP:R.w.length<=R.L.length:=Wl _ _
theorem Ph.size{k:Nat}(hR:R.Ok S)(h:R.Ph k x C):x.row.length+x.out.length<=200000:=by
 have h1:=hR.len;have h2:R.w.length<=R.L.length:=MP;rcases h.2.2.2 with⟨a,_⟩|⟨r,a,_⟩|⟨a,_⟩|⟨a,_⟩|⟨a,_⟩
 ·rw[a.row,a.out];exact Uf _
 ·rw[a.row,a.out];exact Uf _
 ·rw[a.row,a.out];exact Uf _
 ·rw[a.row,a.out,Ul];omega
 ·rw[a.row,a.out];omega
end CK
end
end Go.Proofs.YtngdfdangkdgcaaGreatDoor
namespace Go.Hw.eC
variable{C:eC}{N:Int}
theorem Good.tight{M:Int}(h:C.Good M)(hb:∀k a,C.pins k=some a->a<=N):C.Good N:=⟨h.bE,hb,h.nodup,h.same,h.rows⟩
theorem En(h:C.Good N){k:bL}{a:Int}(hk:C.pins k=some a):(C.eN k 1).1.Good (N+1)∧(C.eN k 1).1.pins k=some (a+1)∧(C.eN k 1).1.rows=C.rows∧(C.eN k 1).1.bE.most=C.bE.most∧(∀j,j≠k->(C.eN k 1).1.pins j=C.pins j)∧
  ((C.eN k 1).1.gD k).1.Good N∧((C.eN k 1).1.gD k).1.rows=C.rows∧((C.eN k 1).1.gD k).1.bE.most=C.bE.most∧∀j,((C.eN k 1).1.gD k).1.pins j=C.pins j:=by
 have hge:=h.ge hk;have hle:=h.big k a hk;obtain⟨p1,p2,p3,p4,p5⟩:=pG h 1 hk;have g1:(C.eN k 1).1.Good (N+1):=p5.mono O0;have e1:=AF h 1 hk;have NU:(C.eN k 1).1.pins k=some (a+1):=by rw[e1,if_pos rfl];congr 1;omega
 have hu:=zP g1 NU O0;obtain⟨u1,u2,u3,u4,u5⟩:=pG g1 (-1) NU;have e2:=AF g1 (-1) NU;rw[hu]
 have hall:∀j,((C.eN k 1).1.eN k (-1)).1.pins j=C.pins j:=by
  intro j;rw[e2];split
  ·rename_i hj;subst hj;rw[hk];congr 1;omega
  ·rename_i hj;rw[e1,if_neg hj]
 refine⟨g1,NU,p2,p3,fun j hj=>by rw[e1,if_neg hj],u5.tight fun j b hj=>?_,by rw[u2,p2],by rw[u3,p3],hall⟩
 rw[hall] at hj;exact h.big j b hj
end Go.Hw.eC
namespace Go.Proofs.YtngdfdangkdgcaaGreatDoor
open Go.Hw _root_.Go.Proofs.Tryz
section
namespace CK
def base(R:CK):eC:=if R.hit then(R.C0.get R.key).1 else(R.C0.put R.key R.L).1
variable{R:CK}{S:eR}{x:Tk}{C:eC}{N:Int}
theorem UE(hG:R.C0.Good N):R.hit=(R.C0.pins R.key).isSome:=by unfold hit;rw[(eC.pF hG _).2.2.2.1];exact hG.same _
theorem ax(hG:R.C0.Good N)(hN:0<=N)(hR:R.Ok S):R.base.Good N∧(∃a,R.base.pins R.key=some a)∧(R.hit=true->R.base.rows=R.C0.rows∧R.base.bE.most=R.C0.bE.most∧∀j,R.base.pins j=R.C0.pins j)∧(R.hit=false->eC.sH R.C0 R.key R.L R.base N):=by
 have hi:=UE hG;have hl:=hR.len;unfold base;cases hh:R.hit with
 |true=>
  rw[hh] at hi;obtain⟨g1,g2,g3,g4,g5⟩:=eC.pF hG R.key;have gp:=eC.BX hG R.key;obtain⟨a,ha⟩:=Wj.1 hi.symm;exact⟨g1,⟨a,by rw[if_pos rfl,gp];exact ha⟩,fun _=>⟨g3,g5,fun j=>gp j⟩,fun h=>by cases h⟩
 |false=>
  rw[hh] at hi;have hno:R.C0.pins R.key=none:=by simpa using hi.symm
  have hroom:=hR.room hh
  have hp:(R.C0.put R.key R.L).2=true∧eC.sH R.C0 R.key R.L (R.C0.put R.key R.L).1 N:=by
   refine eC.CJ hG hN O0 hno fun hc=>?_;rw[eC.xC hG hno hc.1 hc.2] at hroom;cases hroom
  exact⟨hp.2.good,⟨0,hp.2.here⟩,fun h=>(by cases h),fun _=>hp.2⟩
theorem UF:R.land=(R.base.eN R.key 1).1:=by
 unfold land base;cases R.hit <;> rfl
structure Fin(R:CK)(N:Int):Prop where
 good:R.fin.Good N
 J3:R.land.Good (N+1)
 rows:R.fin.rows=R.base.rows
 most:R.fin.bE.most=R.base.bE.most
 pins:∀j,R.fin.pins j=R.base.pins j
theorem J4(hG:R.C0.Good N)(hN:0<=N)(hR:R.Ok S):R.Fin N:=by
 obtain⟨b1,⟨a,b2⟩,_,_⟩:=ax hG hN hR;have h:=eC.En b1 b2;have he:=UF (R:=R);have hf:R.fin=((R.base.eN R.key 1).1.gD R.key).1:=by unfold fin;rw[he]
 exact⟨by rw[hf];exact h.2.2.2.2.2.1,by rw[he];exact h.1,by rw[hf];exact h.2.2.2.2.2.2.1,by rw[hf];exact h.2.2.2.2.2.2.2.1,fun j=>by rw[hf];exact h.2.2.2.2.2.2.2.2 j⟩
theorem Ph.good{k:Nat}(hG:R.C0.Good N)(hN:0<=N)(hR:R.Ok S)(h:R.Ph k x C):C.Good (N+1):=by
 have hf:=J4 hG hN hR;rcases h.2.2.2 with⟨_,b,_⟩|⟨r,_,b,_⟩|⟨_,b,_⟩|⟨_,b,_⟩|⟨_,b,_⟩
 ·rw[b];exact hG.mono O0
 ·rw[b];exact hG.mono O0
 ·rw[b];exact hG.mono O0
 ·rw[b];exact hf.J3
 ·rw[b];exact hf.good.mono O0
end CK
section
variable{w0 w:World}{l:List aC}{t p b:Nat}{x:Tk}{C:eC}{S:eR}{N:Int}
theorem tf(hT:Tz w0)(hV:∀d,x.d=some d->x.fS=false->x.dec=false->wW d.bs)(hx:x.row.length+x.out.length<=200000)(hC:C.Good N)(hN:0<=N∧N<=1099511627776)(hS:∀id e,aH id S.l=some e->e.bs.length<=140737488355328)(h:St w0 (gW t x::aE b S::aK p C::l) w):
  bP prog 91 [.pz t,.pz b,.pz p] w fun v w'=>v=.iz (x.step S C).2.2∧St w0 (gW t (x.step S C).1::aE b S::aK p (x.step S C).2.1::l) w':=
 tu hT hV O0 (hC.ok hN.2) ((eC.pF hC _).1.ok hN.2) (fun L hL=>(eC.FP hC hN.1 O0).ok hN.2) hS h
end
end
section
section
variable{w0 w:World}{l:List aC}{t p:Nat}{r:aP}{s:cG}{q:gX}
structure aP.xE(r:aP)(s:cG):Prop where
 leave:r.pR s
 got:r.got.length<=67108864
 tail:r.x.tail.length<=67108864
theorem wk(hok:r.xE s)(h:St w0 (bH t r::aU p s::l) w):
  bP prog 60 [.pz t,.pz p] w fun v w'=>v=.iz (r.answer s).2.2∧St w0 (bH t (r.answer s).1::aU p (r.answer s).2.1::l) w':=by
 obtain⟨hlv,MQ,MR⟩:=hok;have Rv:=hlv.parts;obtain⟨L,hL⟩:∃L,r.got++r.x.tail=L:=⟨_,rfl⟩;have key:r.answer s=(r.leave s).1.stop (r.leave s).2 ⟨0,0,L⟩ 2:=by rw[<- hL];rfl
 rw[key];have hwf:r.x.V.Wf:=⟨uu _,jm _,by show r.x.parts.length*40<=_;omega,by show r.x.tail.length*16<=_;omega⟩
 obtain⟨q,h⟩:=(St.run (r:=r)).1 h;refine en func60 results60 ntmps60 ?_;refine Yr ?_;refine qf (Γ:=Option Addr×Nat) (fun g=>[(0,.pz t),(1,.pz p),(5,.slice g.1 L.length g.2)]) (fun g w=>St w0 (bH t r::aU p s::aB g.1 g.2 L::l) w) ?_ ?_
 ·refine jz none (fun w=>St w0 (kE t r q (aU p s::l)) w) O1 O1 h.drew fun w h=>?_;refine Y6 ?_;refine qj rfl rfl rfl rfl h (fun _ h=>qh rfl (qq (v:=.slice q.ga r.got.length q.gc) rfl (h.b 0 rfl) rfl)) ?_;refine Y6 ?_;refine qj rfl rfl rfl rfl h (fun _ h=>qh rfl (qx (l:=r.x.V.cells q.pa q.pc q.ta q.tc) rfl rfl (qw (h.b 0 rfl) rfl))) ?_;refine nJ ?_;refine qd 8 rfl rfl rfl rfl ?_;refine qg rfl (s9 hwf h (fun w' h'=>(h'.f 7).bU)) ?_;clear h;rintro _ w ⟨a,c,rfl,h1⟩;replace h1:St w0 (aB a c r.x.tail::kE t r q (aU p s::l)) w:=h1;have h:=h1.drop;refine⟨fun _=>h,?_⟩;refine Ys ?_;refine qd 9 rfl rfl rfl rfl ?_;refine jq (r:=[.slice q.ga r.got.length q.gc,.slice a r.x.tail.length c]) h1 rfl rfl rfl fun b w h1=>?_;clear h;have h:=h1.drop.drop;refine⟨fun _=>h,?_⟩;refine Yn ?_;refine qd 10 rfl rfl rfl rfl ?_;refine qg rfl (wu (A:=r.got) (B:=r.x.tail) O0 O0 (Reads.own.more [_,_,_,_,_,_,_,_,_]) Reads.own h1) ?_;clear h h1;rintro _ w ⟨o,oc,rfl,h1⟩;rw[hL] at h1 ⊢;have h:=h1.drop.drop;refine⟨fun _=>h,?_⟩;refine zW ?_;refine qm ⟨(o,oc),kK,?_⟩;exact(St.run (r:=r)).2 ⟨q,(h1.x [1]).o [1,2,3,4,5,6,7,8,9,10,11]⟩
 clear h;rintro⟨o,oc⟩ w e h;refine oE ?_;refine aF rfl (qg rfl (uz hlv h) ?_);clear h;rintro _ w ⟨rfl,h⟩;refine rL ?_;refine Yp ?_;refine aD (qc (r:=(⟨0,0,L⟩:iS).C o oc) rfl) rfl ?_;refine aF rfl (qg rfl (gf (res:=⟨0,0,L⟩) 2 (h.o [0,2,1])) ?_);clear h;rintro _ w ⟨rfl,h⟩;refine Y4 ?_;exact qv (qk (bQ ⟨rfl,h⟩))
def aP.cur(r:aP)(aA:Int):Tk:=match r.one with
 |some x=>x
 |none=>Tk.new aA r.x.bN (r.x.parts.getD r.i.toNat ⟨0,0,0,0,0⟩).bB r.x.lX r.x.upto
theorem aP.part_eq(r:aP)(s:cG)(aA:Int):r.part s aA=if((r.cur aA).step s.b s.c).2.2≠0 then({ r with one:=some ((r.cur aA).step s.b s.c).1 },{ s with c:=((r.cur aA).step s.b s.c).2.1 },((r.cur aA).step s.b s.c).2.2)
  else if((r.cur aA).step s.b s.c).1.done then({ r with one:=none,got:=r.got++((r.cur aA).step s.b s.c).1.out,i:=wI (r.i+1) },{ s with c:=((r.cur aA).step s.b s.c).2.1 },0) else({ r with one:=some ((r.cur aA).step s.b s.c).1 },{ s with c:=((r.cur aA).step s.b s.c).2.1 },0):=by
 unfold aP.part aP.cur;cases r.one <;> rfl
structure aP.AG(r:aP)(s:cG)(aA:Int):Prop where
 oL:∃N,s.c.Good N∧0<=N∧N<=1099511627776
 oM:∀id e,aH id s.b.l=some e->e.bs.length<=140737488355328
 idx:r.one=none->0<=r.i∧r.i<(r.x.parts.length:Int)
 size:(r.cur aA).row.length+(r.cur aA).out.length<=200000
 after:((r.cur aA).step s.b s.c).1.out.length<=400000
 got:r.got.length<=1000000
 dec:∀d,(r.cur aA).d=some d->(r.cur aA).fS=false->(r.cur aA).dec=false->wW d.bs
theorem mi(hT:Tz w0)(aA:Int)(hok:r.AG s aA)(h:St w0 (bH t r::aU p s::l) w):
  bP prog 58 [.pz t,.pz p,.iz aA] w fun v w'=>v=.iz (r.part s aA).2.2∧St w0 (bH t (r.part s aA).1::aU p (r.part s aA).2.1::l) w':=by
 obtain⟨⟨N,hG,hN⟩,PU,hidx,hsize,CM,MQ,MS⟩:=hok;obtain⟨x,hx⟩:∃x,r.cur aA=x:=⟨_,rfl⟩;rw[hx] at hsize CM MS;obtain⟨⟨x',C',e'⟩,hst⟩:∃z,x.step s.b s.c=z:=⟨_,rfl⟩;rw[hst] at CM;dsimp only at CM;obtain⟨s1,hs1⟩:∃s1:cG,s1={ s with c:=C' }:=⟨_,rfl⟩
 have key:r.part s aA=if e'≠0 then({ r with one:=some x' },s1,e') else if x'.done then({ r with one:=none,got:=r.got++x'.out,i:=wI (r.i+1) },s1,0) else({ r with one:=some x' },s1,0):=by
  rw[aP.part_eq,hx,hst,hs1]
 obtain⟨q,h⟩:=(St.run (r:=r)).1 h;refine en func58 results58 ntmps58 ?_;refine Yr ?_;refine qf (Γ:=Nat) (fun _=>[(0,.pz t),(1,.pz p)]) (fun k w=>St w0 (aM t r { q with one:=some ⟨k,0,none⟩ }::gW k x::jX r q (aU p s::l)) w) ?_ ?_
 ·refine Y7 ?_;refine aD (qq (v:=.pointer q.one) rfl (h.b 0 rfl) rfl) rfl ?_;cases ho:r.one with
  |some y=>
   rw[ho] at h;obtain⟨k,h1,h⟩:=St.FJ.1 (h.f 1);have hxy:x=y:=by rw[<- hx];unfold aP.cur;rw[ho]
   rw[h1];refine aD (ze rfl rfl) rfl ?_;refine qv (qt rfl (qa ⟨k,gS,?_⟩));have e:({ q with one:=some ⟨k,0,none⟩ }:gX)=q:=by rw[<- h1]
   rw[e,hxy];exact h.f 1
  |none=>
   rw[ho] at h;obtain⟨h1,h⟩:=St.Ek.1 (h.f 1);obtain⟨uU,hi1⟩:=hidx ho;obtain⟨g,hg⟩:=(h.f 5).dF O0;obtain⟨y,hy⟩:∃y,r.x.parts[r.i.toNat]?=some y:=⟨_,Ub O0⟩;have hxy:x=Tk.new aA r.x.bN y.bB r.x.lX r.x.upto:=by rw[<- hx];unfold aP.cur;rw[ho];dsimp only;rw[Kc,hy];rfl
   have hel:∀{w},St w0 (aM t r q::jX r q (aU p s::l)) w->At w g (0+r.i.toNat*5) y.cells:=fun h=>by
    have:=(h.f 5).bU;rw[hg] at this;exact this.elem v8 hy
   rw[h1];refine aD (ze rfl rfl) rfl ?_;refine Yh ?_;refine jz (some 31) (fun w=>St w0 (aM t r q::jX r q (aU p s::l)) w) O1 O1 h.drew fun w h=>?_;refine tY ?_;refine Yt ?_;refine uA ?_;refine qj rfl rfl rfl rfl h (fun _ h=>qh rfl (qq (v:=.iz r.x.bN) rfl (h.b 0 rfl) rfl)) ?_;refine uA ?_;refine qj rfl rfl rfl rfl h (fun _ h=>qh rfl (qq (v:=.slice q.pa r.x.parts.length q.pc) rfl (h.b 0 rfl) rfl)) ?_;refine Y6 ?_;refine qj rfl rfl rfl rfl h (fun _ h=>qh rfl (qq (v:=.iz r.i) rfl (h.b 0 rfl) rfl)) ?_;refine cD rfl rfl rfl rfl h rfl (jj (b:=g) (o:=0) (m:=r.x.parts.length) (c:=q.pc) (j:=r.i.toNat) (o':=0+r.i.toNat*5) (by rw[<- hg];rfl) rfl O0 O0 rfl) ?_
   refine qj rfl rfl rfl rfl h (fun _ h=>qh rfl (qx (l:=y.cells) rfl rfl (hel h))) ?_;refine uA ?_;refine qj rfl rfl rfl rfl h (fun _ h=>qh rfl (qq (v:=.iz r.x.lX) rfl (h.b 0 rfl) rfl)) ?_;refine uA ?_;refine qj rfl rfl rfl rfl h (fun _ h=>qh rfl (qq (v:=.iz r.x.upto) rfl (h.b 0 rfl) rfl)) ?_;refine nJ ?_;refine qd 28 rfl rfl rfl rfl ?_;refine qg rfl (TS aA r.x.bN y r.x.lX r.x.upto h) ?_;clear h;rintro _ w ⟨k,rfl,hs⟩;have h:=hs.drop;refine⟨fun _=>h,?_⟩;refine Cg ?_;refine Ym ?_;refine jv 31 rfl rfl rfl ?_;refine qb 1 hs rfl (show _=Value.pz k from rfl) rfl rfl rfl rfl fun w h=>?_;refine⟨k,gS,?_⟩;rw[hxy];exact h.f 1
 clear h;rintro k w e h;obtain⟨u,h⟩:=(St.lJ (s:=s)).1 (h.f 10);replace h:St w0 (gW k x::aE u.b s.b::aK u.c s.c::aM t r { q with one:=some ⟨k,0,none⟩ }::bV p u::bF u.d s.d::aS u.t s.t.V::jX r q l) w:=h.o [6,3,2,5,0,1,4]
 refine qi ?_;refine qf (Γ:=Unit) (fun _=>[(0,.pz t),(7,.iz e')]) (fun _ w=>St w0 (gW k x'::aM t r { q with one:=some ⟨k,0,none⟩ }::jX r q (aU p s1::l)) w) ?_ ?_
 ·refine jb [0,1,2,3,4,5,6,7,8,9,10,11,12,13] none (fun w=>St w0 (aM t r { q with one:=some ⟨k,0,none⟩ }::bV p u::bF u.d s.d::aS u.t s.t.V::jX r q l) w) O1 O1 ?_
  have hs:=h.drew;clear h;generalize w.drew=w1 at hs ⊢;have h:=hs.drop.drop.drop;refine Y6 ?_;refine qj rfl rfl rfl rfl h (fun _ h=>qh rfl (qq (v:=.pz k) rfl (h.b 0 rfl) rfl)) ?_;refine Y6 ?_;refine qj rfl rfl rfl rfl h (fun _ h=>qh rfl (qq (v:=.pointer (some ⟨u.b,0,none⟩)) rfl (h.b 1 rfl) rfl)) ?_;refine Y6 ?_;refine qj rfl rfl rfl rfl h (fun _ h=>qh rfl (qq (v:=.pointer (some ⟨u.c,0,none⟩)) rfl (h.b 1 rfl) rfl)) ?_;refine Yn ?_;refine qd 12 rfl rfl rfl rfl ?_;have hstep:=tf (x:=x) hT MS hsize hG hN PU hs;rw[hst] at hstep;refine qg rfl hstep ?_;clear h hs hstep;rintro _ w ⟨rfl,hs⟩;dsimp only at hs;have h:=hs.drop.drop.drop;refine⟨fun _=>h,?_⟩;refine AS ?_;refine qm ⟨(),gS,?_⟩
  have h1:St w0 (bV p u::bF u.d s1.d::aK u.c s1.c::aE u.b s1.b::aS u.t s1.t.V::gW k x'::aM t r { q with one:=some ⟨k,0,none⟩ }::jX r q l) w:=by
   rw[hs1];exact hs.o [4,5,2,1,6,0,3]
  exact((St.lJ (s:=s1)).2 ⟨u,h1⟩).o [1,2,3,4,5,6,7,8,9,10]
 clear h;rintro _ w e h
 have oZ:∀{w:World},St w0 (gW k x'::aM t r { q with one:=some ⟨k,0,none⟩ }::jX r q (aU p s1::l)) w->St w0 (bH t { r with one:=some x' }::aU p s1::l) w:=by
  intro w h;have h1:St w0 (iC (sQ k) (some x')::aM t r { q with one:=some ⟨k,0,none⟩ }::jX r q (aU p s1::l)) w:=St.FJ.2 ⟨k,rfl,h⟩
  exact(St.run (r:={ r with one:=some x' })).2 ⟨{ q with one:=some ⟨k,0,none⟩ },h1.f 1⟩
 refine Yb ?_;refine Bi ?_;by_cases he:e'=0
 ·rw[if_neg (fun hh=>hh he)] at key;refine qz (.bool false) (by rw[he];rfl) ?_
  refine Y8 ?_;refine Bm ?_;refine aD (qq (v:=.pz k) rfl (h.b 1 rfl) rfl) rfl ?_;have hd:=eb (x:=x') O0 h;refine aF rfl (qg rfl hd ?_);clear h hd;rintro _ w ⟨da,dc,rfl,h⟩;cases hdn:x'.done with
  |true=>
   rw[hdn] at key h;rw[if_pos rfl] at key h;rw[key];refine Ck ?_;refine EI ?_;refine Yh ?_;refine AW ?_;refine aD (qq (v:=.slice q.ga r.got.length q.gc) rfl (h.b 2 rfl) rfl) rfl ?_;refine Yp ?_;refine aF rfl (ql (ys:=aW x'.out) (zs:=aW (r.got++x'.out)) (m3:=(r.got++x'.out).length) (h.f 9) rfl rfl (h.bU) (jm _) O7 (by simp[aW]) O5 O5 rfl fun a2 c2 w _ h=>?_)
   refine Yk ?_;refine aF rfl (qb 3 h rfl (show _=Value.slice a2 (r.got++x'.out).length c2 from rfl) rfl rfl rfl rfl fun w h=>?_);replace h:St w0 (aB a2 c2 (r.got++x'.out)::aB da dc x'.out::gW k x'::aM t { r with got:=r.got++x'.out } { q with one:=some ⟨k,0,none⟩,ga:=a2,gc:=c2 }::aB q.s.a4 q.s.c4 r.slot.aQ::aI q.s.a5 q.s.c5 r.slot.chunks::aB q.n.a4 q.n.c4 r.next.aQ::aI q.n.a5 q.n.c5 r.next.chunks::aI q.pa q.pc r.x.parts::aB q.ta q.tc r.x.tail::aB q.ra q.rc r.res.list::aU p s1::l) w:=h
   refine GO ?_;refine AO ?_;refine vE ?_;refine aD (qq (v:=.iz r.i) rfl (h.b 3 rfl) rfl) rfl ?_;refine tC ?_;refine Yk ?_;refine aF rfl (qb 3 h rfl (show _=Value.pointer none from rfl) rfl rfl rfl rfl fun w h=>?_);replace h:St w0 (aB a2 c2 (r.got++x'.out)::aB da dc x'.out::gW k x'::aM t { r with got:=r.got++x'.out } { q with one:=none,ga:=a2,gc:=c2 }::aB q.s.a4 q.s.c4 r.slot.aQ::aI q.s.a5 q.s.c5 r.slot.chunks::aB q.n.a4 q.n.c4 r.next.aQ::aI q.n.a5 q.n.c5 r.next.chunks::aI q.pa q.pc r.x.parts::aB q.ta q.tc r.x.tail::aB q.ra q.rc r.res.list::aU p s1::l) w:=h
   refine Yk ?_;refine aF rfl (qb 3 h rfl (show _=Value.iz (wI (r.i+1)) from rfl) rfl rfl rfl rfl fun w h=>?_);replace h:St w0 (aB a2 c2 (r.got++x'.out)::aB da dc x'.out::gW k x'::aM t { r with one:=none,got:=r.got++x'.out,i:=wI (r.i+1) } { q with one:=none,ga:=a2,gc:=c2 }::aB q.s.a4 q.s.c4 r.slot.aQ::aI q.s.a5 q.s.c5 r.slot.chunks::aB q.n.a4 q.n.c4 r.next.aQ::aI q.n.a5 q.n.c5 r.next.chunks::aI q.pa q.pc r.x.parts::aB q.ta q.tc r.x.tail::aB q.ra q.rc r.res.list::aU p s1::l) w:=h
   refine Y2 ?_;have h1:St w0 (iC none none::aB a2 c2 (r.got++x'.out)::aM t { r with one:=none,got:=r.got++x'.out,i:=wI (r.i+1) } { q with one:=none,ga:=a2,gc:=c2 }::aB q.s.a4 q.s.c4 r.slot.aQ::aI q.s.a5 q.s.c5 r.slot.chunks::aB q.n.a4 q.n.c4 r.next.aQ::aI q.n.a5 q.n.c5 r.next.chunks::aI q.pa q.pc r.x.parts::aB q.ta q.tc r.x.tail::aB q.ra q.rc r.res.list::aU p s1::l) w:=St.Ek.2 ⟨rfl,h.x [1,2]⟩
   have h2:St w0 (bH t { r with one:=none,got:=r.got++x'.out,i:=wI (r.i+1) }::aU p s1::l) w:=(St.run (r:={ r with one:=none,got:=r.got++x'.out,i:=wI (r.i+1) })).2 ⟨{ q with one:=none,ga:=a2,gc:=c2 },h1.o [2,0,3,4,5,6,7,8,1]⟩
   refine rC ?_;exact qv (qk (bQ ⟨rfl,h2⟩))
  |false=>
   rw[hdn] at key h;rw[if_neg O2] at key h;rw[key];refine Ck ?_;refine EI ?_;refine Y8 ?_;refine rC ?_;exact qv (qk (bQ ⟨rfl,oZ h.drop⟩))
 ·rw[if_pos he] at key;rw[key];refine qz (.bool true) (by congr 1;rw[bne_iff_ne];exact he) ?_
  refine Yh ?_;refine GX ?_;exact qv (qk (bQ ⟨rfl,oZ h⟩))
end
end
section
section
variable{w0 w:World}{l:List aC}{t p:Nat}{r:aP}{s:cG}{q:gX}
theorem vp{d:Nat}{D:List iU}(hD:dM.Fits D)(id:Int)(h:St w0 (bF d D::l) w):bP prog 61 [.pz d,.iz id] w fun v w'=>∃q4:Q4,v=.tuple [.agg (q4.cells ((dM.look D id).getD aG.zero)).toArray,.bool (dM.look D id).isSome].toArray∧St w0 (aB q4.a4 q4.c4 ((dM.look D id).getD aG.zero).aQ::aI q4.a5 q4.c5 ((dM.look D id).getD aG.zero).chunks::bF d D::l) w':=by
 have h1:=mw id hD.big h;cases hl:dM.look D id with
 |none=>
  rw[hl] at h1;refine h1.mono ?_;rintro v w ⟨rfl,h⟩;exact⟨⟨none,0,none,0⟩,rfl,(h.aZ 168 5).aZ 57 2⟩
 |some sl=>
  rw[hl] at h1;refine h1.mono ?_;rintro v w ⟨a,b,rfl,h⟩;exact⟨⟨a,sl.aQ.length,b,sl.chunks.length⟩,rfl,h⟩
theorem aw(nF:dM.Fits s.d)(PV:∀sl,dM.look s.d r.o.aA=some sl->r.sG s sl)(h:St w0 (bH t r::aU p s::l) w):
  bP prog 56 [.pz t,.pz p] w fun v w'=>v=.iz (r.look s).2.2∧St w0 (bH t (r.look s).1::aU p (r.look s).2.1::l) w':=by
 have key:r.look s=if r.dH ≥ 3 then((r.take s).1,(r.take s).2.1,if(r.take s).2.2 then 1 else 0) else match dM.look s.d r.o.aA with
  |none=>(r,s,0)
  |some sl=>r.cP s sl:=by
  unfold aP.look;by_cases hf:r.dH ≥ 3
  ·rw[if_pos hf,if_pos hf];generalize r.take s=z;obtain⟨a,b,c⟩:=z;cases c <;> rfl
  ·refine(if_neg hf).trans (Eq.trans ?_ (if_neg hf).symm);cases dM.look s.d r.o.aA <;> rfl
 obtain⟨q,h⟩:=(St.run (r:=r)).1 h;refine en func56 results56 ntmps56 ?_;refine Yr ?_;refine Bm ?_;refine aD (qq (v:=.iz r.dH) rfl (h.b 0 rfl) rfl) rfl ?_;refine tX ?_;by_cases hf:r.dH ≥ 3
 ·rw[if_pos hf] at key;refine qz (.bool true) (by congr 1;rw[decide_eq_true_eq];exact hf) ?_
  refine Yh ?_;refine qi ?_;refine oE ?_;have h1:St w0 (bH t r::aU p s::l) w:=(St.run (r:=r)).2 ⟨q,h⟩;refine aF rfl (qg rfl (mp nF h1) ?_);clear h h1;rintro _ w ⟨rfl,h⟩;rw[key];dsimp only;cases yL:(r.take s).2.2 with
  |true=>
   refine Gl ?_;refine rC ?_;exact qv (qk (bQ ⟨rfl,h⟩))
  |false=>
   refine oO ?_;refine Yy ?_;refine Y4 ?_;exact qv (qk (bQ ⟨rfl,h⟩))
 rw[if_neg hf] at key;refine qz (.bool false) (by congr 1;rw[decide_eq_false_iff_not];exact hf) ?_
 refine Y8 ?_;obtain⟨k,h⟩:=(St.lJ (s:=s)).1 (h.f 10);obtain⟨N,hN⟩:∃N,(iC q.one r.one::aB q.s.a4 q.s.c4 r.slot.aQ::aI q.s.a5 q.s.c5 r.slot.chunks::aB q.n.a4 q.n.c4 r.next.aQ::aI q.n.a5 q.n.c5 r.next.chunks::aI q.pa q.pc r.x.parts::aB q.ta q.tc r.x.tail::aB q.ga q.gc r.got::aB q.ra q.rc r.res.list::l)=N:=⟨_,rfl⟩
 replace h:St w0 (bF k.d s.d::bV p k::aM t r q::aK k.c s.c::aE k.b s.b::aS k.t s.t.V::N) w:=by rw[<- hN];exact h.o [1,0,5,2,3,4]
 obtain⟨X,hX⟩:∃X,(dM.look s.d r.o.aA).getD aG.zero=X:=⟨_,rfl⟩
 refine qf (Γ:=Q4×Nat) (fun g=>[(0,.pz t),(1,.pz p),(5,.pointer (some ⟨g.2,0,none⟩)),(6,.bool (dM.look s.d r.o.aA).isSome)])
  (fun g w=>St w0 (aB g.1.a4 g.1.c4 X.aQ::aI g.1.a5 g.1.c5 X.chunks::pt g.2 (.cells (g.1.cells X).toArray 85 (0,0))::bF k.d s.d::bV p k::aM t r q::aK k.c s.c::aE k.b s.b::aS k.t s.t.V::N) w) ?_ ?_
 ·refine vr [0,1,2,3,4,5,6,7,8,9,10,11,14,12,13,15] (some 14) (fun w=>St w0 (bF k.d s.d::bV p k::aM t r q::aK k.c s.c::aE k.b s.b::aS k.t s.t.V::N) w) O1 O1 h.drew fun w h=>?_;refine Y6 ?_;refine qj rfl rfl rfl rfl h (fun _ h=>qh rfl (qq (v:=.pointer (some ⟨k.d,0,none⟩)) rfl (h.b 1 rfl) rfl)) ?_;refine uA ?_;refine qj rfl rfl rfl rfl h (fun _ h=>qh rfl (qq (v:=.iz r.o.aA) rfl (h.b 2 rfl) rfl)) ?_;refine Fa ?_;refine j5 9 13 rfl rfl rfl rfl rfl rfl ?_ ?_
  ·refine qg rfl (vp nF r.o.aA h) ?_;clear h;rintro _ w ⟨g,rfl,h1⟩;rw[hX] at h1 ⊢;have h:=h1.drop.drop;refine⟨fun _=>h,?_⟩;refine xX ?_;refine Ys ?_;refine qd 13 rfl rfl rfl rfl ?_;refine qn h1 fun b5 w h1=>?_;clear h;have h:=h1.drop.drop.drop;refine⟨fun _=>h,?_⟩;refine Yn ?_;refine jx 14 none rfl rfl rfl rfl ?_;refine qy (vs:=g.cells X) 0 h1 rfl rfl rfl rfl rfl rfl rfl fun w h=>?_;refine jh h ?_;refine rK ?_;exact qm ⟨(g,b5),iA,h.o [1,2,0]⟩
  ·refine qn h fun b5 w h1=>?_;clear h;have h:=h1.drop;refine⟨fun _=>h,?_⟩;refine xO ?_;refine qd 9 rfl rfl rfl rfl ?_;refine qg rfl (vp nF r.o.aA (h1.f 1)) ?_;clear h h1;rintro _ w ⟨g,rfl,h1⟩;rw[hX] at h1 ⊢;have h:=(h1.x [3]).drop.drop;refine⟨fun _=>h,?_⟩;refine xX ?_;refine Yn ?_;refine jx 14 none rfl rfl rfl rfl ?_;refine qy (vs:=g.cells X) 3 h1 rfl rfl rfl rfl rfl rfl rfl fun w h=>?_;refine jh h ?_;refine rK ?_;exact qm ⟨(g,b5),iA,h.o [0,1,3,2]⟩
 clear h;rintro⟨g,b5⟩ w e h;dsimp only at h
 replace h:St w0 (kE t r q (aU p s::aB g.a4 g.c4 X.aQ::aI g.a5 g.c5 X.chunks::pt b5 (.cells (g.cells X).toArray 85 (0,0))::l)) w:=by
  have h1:St w0 (bV p k::bF k.d s.d::aK k.c s.c::aE k.b s.b::aS k.t s.t.V::aB g.a4 g.c4 X.aQ::aI g.a5 g.c5 X.chunks::pt b5 (.cells (g.cells X).toArray 85 (0,0))::aM t r q::N) w:=h.o [4,3,6,7,8];have h2:St w0 (aU p s::aB g.a4 g.c4 X.aQ::aI g.a5 g.c5 X.chunks::pt b5 (.cells (g.cells X).toArray 85 (0,0))::aM t r q::N) w:=(St.lJ (s:=s)).2 ⟨k,h1⟩;rw[<- hN] at h2;exact h2.o [4,5,6,7,8,9,10,11,12,13]
 refine E4 ?_;cases hl:dM.look s.d r.o.aA with
 |none=>
  rw[hl] at key;replace key:r.look s=(r,s,0):=key;rw[key];refine vC ?_;refine Yy ?_;refine Y4 ?_;have h1:St w0 (bH t r::aU p s::aB g.a4 g.c4 X.aQ::aI g.a5 g.c5 X.chunks::pt b5 (.cells (g.cells X).toArray 85 (0,0))::l) w:=(St.run (r:=r)).2 ⟨q,h⟩;exact qv (qk (bQ ⟨rfl,h1.x [2,3,4]⟩))
 |some sl=>
  rw[hl] at key hX;replace key:r.look s=r.cP s sl:=key;obtain rfl:sl=X:=hX;rw[key];refine vC ?_;refine Y8 ?_;refine oE ?_;refine aD (qx (l:=g.cells sl) rfl rfl (qw (h.b 13 rfl) rfl)) rfl ?_;refine aF rfl (qg rfl (bj (PV sl hl) (Reads.own.more [_,_,_,_,_,_,_,_,_,_,_]) (Reads.own.more [_,_,_,_,_,_,_,_,_,_,_,_]) h) ?_);clear h;rintro _ w ⟨rfl,h⟩;refine Y4 ?_;exact qv (qk (bQ ⟨rfl,h.x [2,3,4]⟩))
structure aP.nW(r:aP)(s:cG):Prop where
 fits:dM.Fits s.d
 look:r.ph=0->∀sl,dM.look s.d r.o.aA=some sl->r.sG s sl
 NV:r.ph=1->r.sG s r.slot
 part:r.ph=2->r.AG s r.o.aA∧(r.part s r.o.aA).1.pR (r.part s r.o.aA).2.1
 last:r.ph≠0->r.ph≠1->r.ph≠2->r.xE s
theorem i8(r:aP)(s:cG)(aA:Int):(r.part s aA).1.ph=r.ph:=by
 rw[aP.part_eq];split
 ·rfl
 ·split <;> rfl
theorem ah(hT:Tz w0)(hok:r.nW s)(h:St w0 (bH t r::aU p s::l) w):
  bP prog 38 [.pz t,.pz p] w fun v w'=>v=.iz (r.read s).2.2∧St w0 (bH t (r.read s).1::aU p (r.read s).2.1::l) w':=by
 obtain⟨nF,DG,DI,hpart,jE⟩:=hok;obtain⟨z,hz⟩:∃z,r.part s r.o.aA=z:=⟨_,rfl⟩;obtain⟨v,hv⟩:∃v,r.leave s=v:=⟨_,rfl⟩
 have key:r.read s=if r.ph=0 then r.look s else if r.ph=1 then r.cP s r.slot else if r.ph=2 then
   if z.2.2≠0 then(z.1.leave z.2.1).1.stop (z.1.leave z.2.1).2 ⟨z.2.2,0,[]⟩ 3 else({ z.1 with ph:=if z.1.i=(z.1.x.parts.length:Int) then 3 else 2 },z.2.1,1)
  else if r.flag then r.answer s else match dM.look s.d r.o.aA with
   |some sl=>if sl.bN=r.x.bN∧sl.cW=r.x.cW then r.answer s else({ v.1 with dH:=wI (v.1.dH+1),ph:=0 },v.2,1)
   |none=>({ v.1 with dH:=wI (v.1.dH+1),ph:=0 },v.2,1):=by
  rw[<- hz,<- hv];unfold aP.read;by_cases p0:r.ph=0
  ·exact(if_pos p0).trans (if_pos p0).symm
  refine(if_neg p0).trans (Eq.trans ?_ (if_neg p0).symm);by_cases p1:r.ph=1
  ·exact(if_pos p1).trans (if_pos p1).symm
  refine(if_neg p1).trans (Eq.trans ?_ (if_neg p1).symm);by_cases p2:r.ph=2
  ·exact(if_pos p2).trans (if_pos p2).symm
  refine(if_neg p2).trans (Eq.trans ?_ (if_neg p2).symm);cases r.flag with
  |true=>rfl
  |false=>
   cases dM.look s.d r.o.aA <;> rfl
 obtain⟨q,h⟩:=(St.run (r:=r)).1 h;refine en func38 results38 ntmps38 ?_;refine Yr ?_;refine Bm ?_;refine aD (qq (v:=.iz r.ph) rfl (h.b 0 rfl) rfl) rfl ?_;refine I1 ?_;by_cases p0:r.ph=0
 ·rw[if_pos p0] at key;rw[key];refine qz (.bool true) (by congr 1;rw[beq_iff_eq];exact p0) ?_
  refine Gn ?_;have h1:St w0 (bH t r::aU p s::l) w:=(St.run (r:=r)).2 ⟨q,h⟩;refine aF rfl (qg rfl (aw nF (DG p0) h1) ?_);clear h h1;rintro _ w ⟨rfl,h⟩;refine Y4 ?_;exact qv (qk (bQ ⟨rfl,h⟩))
 rw[if_neg p0] at key;refine qz (.bool false) (by congr 1;rw[beq_eq_false_iff_ne];exact p0) ?_
 refine xN ?_;by_cases p1:r.ph=1
 ·rw[if_pos p1] at key;rw[key];refine qz (.bool true) (by congr 1;rw[beq_iff_eq];exact p1) ?_
  refine Gn ?_;refine vE ?_;refine aD (qx (l:=q.s.cells r.slot) rfl rfl (qw (h.b 0 rfl) rfl)) rfl ?_;refine aF rfl (qg rfl (bj (DI p1) (Reads.own.more [_,_]) (Reads.own.more [_,_,_]) h) ?_);clear h;rintro _ w ⟨rfl,h⟩;refine Y4 ?_;exact qv (qk (bQ ⟨rfl,h⟩))
 rw[if_neg p1] at key;refine qz (.bool false) (by congr 1;rw[beq_eq_false_iff_ne];exact p1) ?_
 refine xN ?_;by_cases p2:r.ph=2
 ·rw[if_pos p2] at key;obtain⟨A0,A1⟩:=hpart p2;have xQ:=i8 r s r.o.aA;rw[hz] at A1 xQ;refine qz (.bool true) (by congr 1;rw[beq_iff_eq];exact p2) ?_
  refine vD ?_;refine qi ?_;refine oE ?_;refine vE ?_;refine Yc ?_;refine aD (qq (v:=.iz r.o.aA) rfl (h.b 0 rfl) rfl) rfl ?_;have h1:St w0 (bH t r::aU p s::l) w:=(St.run (r:=r)).2 ⟨q,h⟩;refine aF rfl (qg rfl (mi hT r.o.aA A0 h1) ?_);clear h h1;rintro _ w ⟨rfl,h⟩;rw[hz] at h ⊢;obtain⟨r2,s2,e2⟩:=z;dsimp only at h A1 xQ key ⊢;refine HT ?_;refine Bi ?_;by_cases he:e2=0
  ·rw[if_neg (fun hh=>hh he)] at key;rw[key];refine qz (.bool false) (by rw[he];rfl) ?_
   refine Y8 ?_;obtain⟨q2,h⟩:=(St.run (r:=r2)).1 h;refine qf (Γ:=Unit) (fun _=>[]) (fun _ w=>St w0 (kE t { r2 with ph:=if r2.i=(r2.x.parts.length:Int) then 3 else 2 } q2 (aU p s2::l)) w) ?_ ?_
   ·refine qi ?_;refine jz none (fun w=>St w0 (kE t r2 q2 (aU p s2::l)) w) O1 O1 h.drew fun w h=>?_;refine Y6 ?_;refine qj rfl rfl rfl rfl h (fun _ h=>qh rfl (qq (v:=.iz r2.i) rfl (h.b 0 rfl) rfl)) ?_;refine uA ?_;refine qj rfl rfl rfl rfl h (fun _ h=>qh rfl (qq (v:=.slice q2.pa r2.x.parts.length q2.pc) rfl (h.b 0 rfl) rfl)) ?_;refine De ?_;by_cases hi:r2.i=(r2.x.parts.length:Int)
    ·refine cD rfl rfl rfl rfl h rfl (q9 (v':=.bool true) (gk rfl rfl) (by congr 1;rw[beq_iff_eq];exact hi)) ?_
     refine qm ?_;refine vB ?_;refine AV ?_;refine aF rfl (qb 0 h rfl (show _=Value.iz 3 from rfl) rfl rfl rfl rfl fun w h=>?_);refine qv ⟨(),trivial,?_⟩;rw[if_pos hi];exact h
    ·refine cD rfl rfl rfl rfl h rfl (q9 (v':=.bool false) (gk rfl rfl) (by congr 1;rw[beq_eq_false_iff_ne];exact hi)) ?_
     refine qm ?_;refine qt rfl (qa ⟨(),trivial,?_⟩);rw[if_neg hi]
     have e2:({ r2 with ph:=2 }:aP)=r2:=by
      rw[p2] at xQ;obtain⟨_,_,ph,_,_,_,_,_,_,_,_,_,_,_,_,_⟩:=r2;dsimp only at xQ;subst xQ;rfl
     rw[e2];exact h
   clear h;rintro _ w e h;refine rC ?_;exact qv (qk (bQ ⟨rfl,(St.run (r:={ r2 with ph:=if r2.i=(r2.x.parts.length:Int) then 3 else 2 })).2 ⟨q2,h⟩⟩))
  ·rw[if_pos he] at key;rw[key];refine qz (.bool true) (by congr 1;rw[bne_iff_ne];exact he) ?_
   refine Yh ?_;refine oE ?_;refine aF rfl (qg rfl (uz A1 h) ?_);clear h;rintro _ w ⟨rfl,h⟩;refine rL ?_;refine Y0 ?_;refine aD (qc (r:=(⟨e2,0,[]⟩:iS).C none 0) rfl) rfl ?_;refine aF rfl (qg rfl (gf (res:=⟨e2,0,[]⟩) 3 ((h.aZ 57 2).f 1)) ?_);clear h;rintro _ w ⟨rfl,h⟩;refine Y4 ?_;exact qv (qk (bQ ⟨rfl,h⟩))
 rw[if_neg p2] at key;have FR:=jE p0 p1 p2;refine qz (.bool false) (by congr 1;rw[beq_eq_false_iff_ne];exact p2) ?_
 refine Ya ?_;refine xU ?_;refine Bm ?_;refine aD (qq (v:=.bool r.flag) rfl (h.b 0 rfl) rfl) rfl ?_;cases hfl:r.flag with
 |true=>
  rw[hfl] at key;replace key:r.read s=r.answer s:=key;rw[key];refine Yh ?_;refine oE ?_;have h1:St w0 (bH t r::aU p s::l) w:=(St.run (r:=r)).2 ⟨q,h⟩;refine aF rfl (qg rfl (wk FR h1) ?_);clear h h1;rintro _ w ⟨rfl,h⟩;refine Y4 ?_;exact qv (qk (bQ ⟨rfl,h⟩))
 |false=>
 rw[hfl] at key;refine Y8 ?_;obtain⟨same,hsame⟩:∃same:Bool,(match dM.look s.d r.o.aA with|some sl=>decide (sl.bN=r.x.bN∧sl.cW=r.x.cW)|none=>false)=same:=⟨_,rfl⟩
 replace key:r.read s=if same then r.answer s else({ v.1 with dH:=wI (v.1.dH+1),ph:=0 },v.2,1):=by
  rw[key,<- hsame];cases dM.look s.d r.o.aA with
  |none=>rfl
  |some sl=>
   dsimp only;by_cases hc:sl.bN=r.x.bN∧sl.cW=r.x.cW
   ·simp[hc]
   ·simp[hc]
 obtain⟨k,h⟩:=(St.lJ (s:=s)).1 (h.f 10);obtain⟨N,hN⟩:∃N,(iC q.one r.one::aB q.s.a4 q.s.c4 r.slot.aQ::aI q.s.a5 q.s.c5 r.slot.chunks::aB q.n.a4 q.n.c4 r.next.aQ::aI q.n.a5 q.n.c5 r.next.chunks::aI q.pa q.pc r.x.parts::aB q.ta q.tc r.x.tail::aB q.ga q.gc r.got::aB q.ra q.rc r.res.list::l)=N:=⟨_,rfl⟩
 replace h:St w0 (bF k.d s.d::bV p k::aM t r q::aK k.c s.c::aE k.b s.b::aS k.t s.t.V::N) w:=by rw[<- hN];exact h.o [1,0,5,2,3,4]
 obtain⟨X,hX⟩:∃X,(dM.look s.d r.o.aA).getD aG.zero=X:=⟨_,rfl⟩;refine qi ?_
 refine qf (Γ:=Q4×Nat) (fun g=>[(0,.pz t),(1,.pz p),(6,.pointer (some ⟨g.2,0,none⟩)),(7,.bool (dM.look s.d r.o.aA).isSome)])
  (fun g w=>St w0 (aB g.1.a4 g.1.c4 X.aQ::aI g.1.a5 g.1.c5 X.chunks::pt g.2 (.cells (g.1.cells X).toArray 85 (0,0))::bF k.d s.d::bV p k::aM t r q::aK k.c s.c::aE k.b s.b::aS k.t s.t.V::N) w) ?_ ?_
 ·refine vr [0,1,2,3,4,5,6,7,8,9,10,11,14,12,13,15] (some 14) (fun w=>St w0 (bF k.d s.d::bV p k::aM t r q::aK k.c s.c::aE k.b s.b::aS k.t s.t.V::N) w) O1 O1 h.drew fun w h=>?_;refine Y6 ?_;refine qj rfl rfl rfl rfl h (fun _ h=>qh rfl (qq (v:=.pointer (some ⟨k.d,0,none⟩)) rfl (h.b 1 rfl) rfl)) ?_;refine uA ?_;refine qj rfl rfl rfl rfl h (fun _ h=>qh rfl (qq (v:=.iz r.o.aA) rfl (h.b 2 rfl) rfl)) ?_;refine Fa ?_;refine j5 9 13 rfl rfl rfl rfl rfl rfl ?_ ?_
  ·refine qg rfl (vp nF r.o.aA h) ?_;clear h;rintro _ w ⟨g,rfl,h1⟩;rw[hX] at h1 ⊢;have h:=h1.drop.drop;refine⟨fun _=>h,?_⟩;refine xX ?_;refine Ys ?_;refine qd 13 rfl rfl rfl rfl ?_;refine qn h1 fun b5 w h1=>?_;clear h;have h:=h1.drop.drop.drop;refine⟨fun _=>h,?_⟩;refine Yn ?_;refine jx 14 none rfl rfl rfl rfl ?_;refine qy (vs:=g.cells X) 0 h1 rfl rfl rfl rfl rfl rfl rfl fun w h=>?_;refine jh h ?_;refine rK ?_;exact qm ⟨(g,b5),iA,h.o [1,2,0]⟩
  ·refine qn h fun b5 w h1=>?_;clear h;have h:=h1.drop;refine⟨fun _=>h,?_⟩;refine xO ?_;refine qd 9 rfl rfl rfl rfl ?_;refine qg rfl (vp nF r.o.aA (h1.f 1)) ?_;clear h h1;rintro _ w ⟨g,rfl,h1⟩;rw[hX] at h1 ⊢;have h:=(h1.x [3]).drop.drop;refine⟨fun _=>h,?_⟩;refine xX ?_;refine Yn ?_;refine jx 14 none rfl rfl rfl rfl ?_;refine qy (vs:=g.cells X) 3 h1 rfl rfl rfl rfl rfl rfl rfl fun w h=>?_;refine jh h ?_;refine rK ?_;exact qm ⟨(g,b5),iA,h.o [0,1,3,2]⟩
 clear h;rintro⟨g,b5⟩ w e h;dsimp only at h
 replace h:St w0 (kE t r q (aU p s::aB g.a4 g.c4 X.aQ::aI g.a5 g.c5 X.chunks::pt b5 (.cells (g.cells X).toArray 85 (0,0))::l)) w:=by
  have h1:St w0 (bV p k::bF k.d s.d::aK k.c s.c::aE k.b s.b::aS k.t s.t.V::aB g.a4 g.c4 X.aQ::aI g.a5 g.c5 X.chunks::pt b5 (.cells (g.cells X).toArray 85 (0,0))::aM t r q::N) w:=h.o [4,3,6,7,8];have h2:St w0 (aU p s::aB g.a4 g.c4 X.aQ::aI g.a5 g.c5 X.chunks::pt b5 (.cells (g.cells X).toArray 85 (0,0))::aM t r q::N) w:=(St.lJ (s:=s)).2 ⟨k,h1⟩;rw[<- hN] at h2;exact h2.o [4,5,6,7,8,9,10,11,12,13]
 refine qf (Γ:=Unit) (fun _=>[(0,.pz t),(1,.pz p),(99,.bool same)]) (fun _ w=>St w0 (kE t r q (aU p s::aB g.a4 g.c4 X.aQ::aI g.a5 g.c5 X.chunks::pt b5 (.cells (g.cells X).toArray 85 (0,0))::l)) w) ?_ ?_
 ·refine jz none (fun w=>St w0 (kE t r q (aU p s::aB g.a4 g.c4 X.aQ::aI g.a5 g.c5 X.chunks::pt b5 (.cells (g.cells X).toArray 85 (0,0))::l)) w) O1 O1 h.drew fun w h=>?_;cases hl:dM.look s.d r.o.aA with
  |none=>
   rw[hl] at hsame;replace hsame:same=false:=hsame.symm;subst hsame;refine Yx ?_;refine Yx ?_;refine qu rfl rfl rfl rfl (fun _=>h) (fun _=>qp rfl rfl) (qu rfl rfl rfl rfl (fun _=>h) (fun _=>qp rfl rfl) (qu rfl rfl rfl rfl (fun _=>h) (fun _=>qp rfl rfl) (qu rfl rfl rfl rfl (fun _=>h) (fun _=>qp rfl rfl) (qu rfl rfl rfl rfl (fun _=>h) (fun _=>qp rfl rfl) (qu rfl rfl rfl rfl (fun _=>h) (fun _=>qp rfl rfl) ?_)))));refine qu rfl rfl rfl rfl (fun _=>h) (fun _=>qp rfl rfl) (qu rfl rfl rfl rfl (fun _=>h) (fun _=>qp rfl rfl) (cD rfl rfl rfl rfl h rfl (jc rfl rfl rfl) ?_));refine Yx ?_;refine qu rfl rfl rfl rfl (fun _=>h) (fun _=>qp rfl rfl) (qu rfl rfl rfl rfl (fun _=>h) (fun _=>qp rfl rfl) (qu rfl rfl rfl rfl (fun _=>h) (fun _=>qp rfl rfl) (qu rfl rfl rfl rfl (fun _=>h) (fun _=>qp rfl rfl) (qu rfl rfl rfl rfl (fun _=>h) (fun _=>qp rfl rfl) (qu rfl rfl rfl rfl (fun _=>h) (fun _=>qp rfl rfl) ?_)))));refine qu rfl rfl rfl rfl (fun _=>h) (fun _=>qp rfl rfl) (qu rfl rfl rfl rfl (fun _=>h) (fun _=>qp rfl rfl) (cD rfl rfl rfl rfl h rfl (jc rfl rfl rfl) ?_));exact qm ⟨(),kK,h⟩
  |some sl=>
   rw[hl] at hsame hX;replace hsame:decide (sl.bN=r.x.bN∧sl.cW=r.x.cW)=same:=hsame;obtain rfl:sl=X:=hX;refine Yx ?_;refine Yx ?_;refine qu rfl rfl rfl rfl (fun _=>h) (fun _=>qe rfl rfl (vj rfl)) ?_;refine qj rfl rfl rfl rfl h (fun _ h=>qe rfl rfl (qq (v:=.iz sl.bN) rfl (h.b 13 rfl) rfl)) ?_;refine qu rfl rfl rfl rfl (fun _=>h) (fun _=>qe rfl rfl (j1 rfl)) (qu rfl rfl rfl rfl (fun _=>h) (fun _=>qe rfl rfl (uj rfl)) (qu rfl rfl rfl rfl (fun _=>h) (fun _=>qe rfl rfl (vj rfl)) (qu rfl rfl rfl rfl (fun _=>h) (fun _=>qe rfl rfl (vj rfl)) ?_)));refine qj rfl rfl rfl rfl h (fun _ h=>qe rfl rfl (qq (v:=.iz r.x.bN) rfl (h.b 0 rfl) rfl)) ?_;by_cases h1:sl.bN=r.x.bN
   ·refine qu rfl rfl rfl rfl (fun _=>h) (fun _=>qe rfl rfl (q9 (v':=.bool true) (gk rfl rfl) KR)) ?_;refine cD rfl rfl rfl rfl h rfl (jp rfl rfl rfl) ?_;refine Yx ?_;refine qu rfl rfl rfl rfl (fun _=>h) (fun _=>qe rfl rfl (vj rfl)) ?_;refine qj rfl rfl rfl rfl h (fun _ h=>qe rfl rfl (qq (v:=.iz sl.cW) rfl (h.b 13 rfl) rfl)) ?_;refine qu rfl rfl rfl rfl (fun _=>h) (fun _=>qe rfl rfl (j1 rfl)) (qu rfl rfl rfl rfl (fun _=>h) (fun _=>qe rfl rfl (uj rfl)) (qu rfl rfl rfl rfl (fun _=>h) (fun _=>qe rfl rfl (vj rfl)) (qu rfl rfl rfl rfl (fun _=>h) (fun _=>qe rfl rfl (vj rfl)) ?_)));refine qj rfl rfl rfl rfl h (fun _ h=>qe rfl rfl (qq (v:=.iz r.x.cW) rfl (h.b 0 rfl) rfl)) ?_
    have e9:(sl.cW==r.x.cW)=same:=by
     rw[<- hsame];by_cases h2:sl.cW=r.x.cW
     ·simp[h1,h2]
     ·simp[h1,h2]
    refine qu rfl rfl rfl rfl (fun _=>h) (fun _=>qe rfl rfl (q9 (v':=.bool same) (gk rfl rfl) (congrArg Value.bool e9))) ?_;refine cD rfl rfl rfl rfl h rfl (jp rfl rfl rfl) ?_;exact qm ⟨(),kK,h⟩
   ·refine qu rfl rfl rfl rfl (fun _=>h) (fun _=>qe rfl rfl (q9 (v':=.bool false) (gk rfl rfl) KO)) ?_;have e9:same=false:=by rw[<- hsame];simp[h1]
    subst e9;refine cD rfl rfl rfl rfl h rfl (jp rfl rfl rfl) ?_;refine Yx ?_;refine qu rfl rfl rfl rfl (fun _=>h) (fun _=>qp rfl rfl) (qu rfl rfl rfl rfl (fun _=>h) (fun _=>qp rfl rfl) (qu rfl rfl rfl rfl (fun _=>h) (fun _=>qp rfl rfl) (qu rfl rfl rfl rfl (fun _=>h) (fun _=>qp rfl rfl) (qu rfl rfl rfl rfl (fun _=>h) (fun _=>qp rfl rfl) (qu rfl rfl rfl rfl (fun _=>h) (fun _=>qp rfl rfl) ?_)))));refine qu rfl rfl rfl rfl (fun _=>h) (fun _=>qp rfl rfl) (qu rfl rfl rfl rfl (fun _=>h) (fun _=>qp rfl rfl) (cD rfl rfl rfl rfl h rfl (jc rfl rfl rfl) ?_));exact qm ⟨(),kK,h⟩
 clear h;rintro _ w e h;have h1:St w0 (bH t r::aU p s::aB g.a4 g.c4 X.aQ::aI g.a5 g.c5 X.chunks::pt b5 (.cells (g.cells X).toArray 85 (0,0))::l) w:=(St.run (r:=r)).2 ⟨q,h⟩;replace h:St w0 (bH t r::aU p s::l) w:=h1.x [2,3,4];refine qo same rfl (fun hs=>?_) (fun hs=>?_)
 ·rw[if_pos hs] at key;rw[key];refine oE ?_;refine aF rfl (qg rfl (wk FR h) ?_);clear h h1;rintro _ w ⟨rfl,h⟩;refine Y4 ?_;exact qv (qk (bQ ⟨rfl,h⟩))
 ·rw[if_neg (by rw[hs];decide)] at key
  rw[key];refine Yu ?_;refine oE ?_;refine aF rfl (qg rfl (uz FR.leave h) ?_);clear h h1;rintro _ w ⟨rfl,h⟩;rw[hv] at h;obtain⟨r2,s2⟩:=v;dsimp only at h ⊢;obtain⟨q2,h⟩:=(St.run' (r:=r2)).1 h;refine Y2 ?_;refine Y7 ?_;refine aD (qq (v:=.iz r2.dH) rfl (h.b 0 rfl) rfl) rfl ?_;refine tC ?_;refine Yk ?_;refine aF rfl (qb 0 h rfl (show _=Value.iz (wI (r2.dH+1)) from rfl) rfl rfl rfl rfl fun w h=>?_);replace h:St w0 (aM t { r2 with dH:=wI (r2.dH+1) } q2::(r2.rows q2++(aU p s2::l))) w:=h
  refine Y2 ?_;refine Y7 ?_;refine aF rfl (qb 0 h rfl (show _=Value.iz 0 from rfl) rfl rfl rfl rfl fun w h=>?_);refine Yl ?_;refine Y4 ?_;exact qv (qk (bQ ⟨rfl,(St.run' (r:={ r2 with dH:=wI (r2.dH+1),ph:=0 })).2 ⟨q2,h⟩⟩))
end
end
section
section
variable{w0 w:World}{l:List aC}{p t:Nat}{T:Tb}{r:aP}{s:cG}{q:gX}
def On.zero:On:=⟨0,0,mE.zero,false,0⟩
namespace Tb
def on(T:Tb)(id:Int):On:=(aH id T.l).getD ⟨0,0,mE.zero,false,0⟩
def mine(T:Tb)(id who:Int):Option On:=match aH id T.l with
 |none=>none
 |some o=>if o.used=true∧o.who=who then some o else none
def use(T:Tb)(id who:Int):Int×Tb:=match aH id T.l with
 |none=>(3,T)
 |some o=>if o.used=true∧o.who≠who then(8,T) else(0,⟨T.last,aX id { o with used:=true,who:=who } T.l⟩)
def free(T:Tb)(id who:Int):Tb:=match T.mine id who with
 |none=>T
 |some o=>⟨T.last,aX id { o with used:=false } T.l⟩
def move(T:Tb)(id who n:Int):Tb:=match T.mine id who with
 |none=>T
 |some o=>⟨T.last,aX id { o with told:=wI (o.told+max n 0) } T.l⟩
end Tb
theorem yb(id:Int):aH id T.V.l=(aH id T.l).map On.V:=gw On.V id T.l
theorem ni(id:Int)(o:On):aX id o.V T.V.l=(Tb.V ⟨T.last,aX id o T.l⟩).l:=vy On.V id o T.l
theorem Iy{id who:Int}(hm:T.mine id who=none):∀o,aH id T.V.l=some o->¬o.by who:=by
 intro o ho hb;rw[yb] at ho;unfold Tb.mine at hm;cases hg:aH id T.l with
 |none=>rw[hg] at ho;cases ho
 |some x=>
  rw[hg] at ho hm;obtain rfl:x.V=o:=Uk ho;dsimp only at hm;rw[if_pos (show x.used=true∧x.who=who from hb)] at hm;cases hm
theorem tt{id who:Int}{o:On}(hm:T.mine id who=some o):aH id T.l=some o∧aH id T.V.l=some o.V∧o.V.by who:=by
 rw[yb];unfold Tb.mine at hm;cases hg:aH id T.l with
 |none=>rw[hg] at hm;cases hm
 |some x=>
  rw[hg] at hm;dsimp only at hm;split at hm
  ·rename_i hc
   obtain rfl:x=o:=Uk hm;exact⟨rfl,rfl,hc⟩
  ·cases hm
theorem MT(id:Int)(h:St w0 (aS p T.V::l) w):bP prog 65 [.pz p,.iz id] w fun v w'=>
  ∃a1 c1 a2 c2,v=.tuple [.iz (T.on id).aA,.agg ((T.on id).x.V.cells a1 c1 a2 c2).toArray,.iz (T.on id).told,.bool (aH id T.l).isSome].toArray∧St w0 (aI a1 c1 (T.on id).x.parts::aB a2 c2 (T.on id).x.tail::aS p T.V::l) w':=by
 unfold Tb.on;cases hg:aH id T.l with
 |none=>
  refine(S0 id h (by rw[yb,hg];rfl)).mono ?_
  rintro v w ⟨rfl,h⟩;exact⟨none,0,none,0,rfl,(h.aZ 57 2).aZ 168 5⟩
 |some o=>
  refine(S4 id (o:=o.V) h (by rw[yb,hg];rfl)).mono ?_
  rintro v w ⟨a1,c1,a2,c2,rfl,h⟩;exact⟨a1,c1,a2,c2,rfl,h⟩
theorem J5(id who:Int)(h:St w0 (aS p T.V::l) w):bP prog 100 [.pz p,.iz id,.iz who] w fun v w'=>
  v=.iz (T.use id who).1∧St w0 (aS p (T.use id who).2.V::l) w':=by
 unfold Tb.use;cases hg:aH id T.l with
 |none=>exact ln id who h (by rw[yb,hg];rfl)
 |some o=>
  dsimp only;by_cases hc:o.used=true∧o.who≠who
  ·rw[if_pos hc];exact lp id who (o:=o.V) h (by rw[yb,hg];rfl) hc.1 hc.2
  ·rw[if_neg hc];refine(lo id who (o:=o.V) h (by rw[yb,hg];rfl) (fun hu=>Xc fun hw=>hc ⟨hu,hw⟩)).mono ?_
   rintro v w ⟨rfl,h⟩;have e:=ni (T:=T) id { o with used:=true,who:=who }
   refine⟨rfl,?_⟩;show St w0 (aS p ⟨T.last,(Tb.V ⟨T.last,aX id { o with used:=true,who:=who } T.l⟩).l⟩::l) w
   rw[<- e];exact h
theorem UG(id who:Int)(h:St w0 (aS p T.V::l) w):bP prog 102 [.pz p,.iz id,.iz who] w fun v w'=>
  v=.bool (T.mine id who).isSome∧St w0 (aS p (T.free id who).V::l) w':=by
 unfold Tb.free;cases hm:T.mine id who with
 |none=>exact ox id who h (Iy hm)
 |some o=>
  obtain⟨_,h1,h2⟩:=tt hm;refine(ow id who h h1 h2).mono ?_;rintro v w ⟨rfl,h⟩;have e:=ni (T:=T) id { o with used:=false }
  refine⟨rfl,?_⟩;show St w0 (aS p ⟨T.last,(Tb.V ⟨T.last,aX id { o with used:=false } T.l⟩).l⟩::l) w
  rw[<- e];exact h
theorem UH(id who n:Int)(h:St w0 (aS p T.V::l) w):bP prog 101 [.pz p,.iz id,.iz who,.iz n] w fun v w'=>
  v=.bool (T.mine id who).isSome∧St w0 (aS p (T.move id who n).V::l) w':=by
 unfold Tb.move;cases hm:T.mine id who with
 |none=>exact oh id who n h (Iy hm)
 |some o=>
  obtain⟨_,h1,h2⟩:=tt hm;refine(od id who n h h1 h2).mono ?_;rintro v w ⟨rfl,h⟩;have e:=ni (T:=T) id { o with told:=wI (o.told+max n 0) }
  refine⟨rfl,?_⟩;show St w0 (aS p ⟨T.last,(Tb.V ⟨T.last,aX id { o with told:=wI (o.told+max n 0) } T.l⟩).l⟩::l) w
  rw[<- e];exact h
theorem UI(id who:Int){o:On}(hm:T.mine id who=some o)(h:St w0 (aS p T.V::l) w):bP prog 72 [.pz p,.iz id,.iz who] w fun v w'=>
  ∃a1 c1 a2 c2,v=.tuple [.agg (o.x.V.cells a1 c1 a2 c2).toArray,.bool true].toArray∧St w0 (aI a1 c1 o.x.parts::aB a2 c2 o.x.tail::aS p (Tb.V ⟨T.last,bY id T.l⟩)::l) w':=by
 obtain⟨_,h1,h2⟩:=tt hm;refine(cg id who h h1 h2).mono ?_;rintro v w ⟨a1,c1,a2,c2,rfl,h⟩;refine⟨a1,c1,a2,c2,rfl,?_⟩;have e:(Tb.V ⟨T.last,bY id T.l⟩).l=bY id T.V.l:=(ug On.V id T.l).symm;show St w0 (_::_::aS p ⟨T.last,(Tb.V ⟨T.last,bY id T.l⟩).l⟩::l) w;rw[e];exact h
theorem UJ(h:St w0 (aS p T.V::l) w):bP prog 21 [.pz p] w fun v w'=>v=.iz (T.l.length:Int)∧St w0 (aS p T.V::l) w':=by
 refine(oy h).mono ?_;rintro v w ⟨rfl,h⟩;exact⟨by show Value.iz ((T.l.map fun p=>(p.1,p.2.V)).length:Int)=_;rw[Vf],h⟩
theorem UK{x:mE}{a1 a2:Option Addr}{c1 c2:Nat}(aA:Int)(h:St w0 (aS p T.V::l) w)(h8:T.l.length<8)(hfree:aH (T.last+1) T.l=none)(vI:0<=T.last)(rV:T.last<4611686018427387904)
  (hp:x.parts.length*40<=140737488355328) (ht:x.tail.length*16<=140737488355328) (iX:Reads w0 l 5 a1 x.parts.length (dP x.parts)) (yF:Reads w0 l 2 a2 x.tail.length (aW x.tail)):
  bP prog 64 [.pz p,.iz aA,.agg (x.V.cells a1 c1 a2 c2).toArray] w fun v w'=>
  v=.tuple [.iz (T.last+1),.bool true].toArray∧St w0 (aS p (Tb.V ⟨T.last+1,aX (T.last+1) ⟨aA,0,x,false,0⟩ T.l⟩)::l) w':=by
 have hw:x.V.Wf:=⟨uu _,jm _,hp,ht⟩;refine(oz hw aA h (by show(T.l.map fun p=>(p.1,p.2.V)).length<8;rw[Vf];exact h8) (by show aH (T.last+1) T.V.l=none;rw[yb,hfree];rfl) vI rV (fun w' h'=>iX.at_ h') (fun w' h'=>yF.at_ h')).mono ?_
 rintro v w ⟨rfl,h⟩;refine⟨rfl,?_⟩;have e:=ni (T:=T) (T.last+1) ⟨aA,0,x,false,0⟩;show St w0 (aS p ⟨T.last+1,(Tb.V ⟨T.last,aX (T.last+1) ⟨aA,0,x,false,0⟩ T.l⟩).l⟩::l) w;rw[<- e];exact h
end
end
end Go.Proofs.YtngdfdangkdgcaaGreatDoor
