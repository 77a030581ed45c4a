/- What the proof of ProgAlone needs, part 6: plain lemmas, and what each function does. -/
import Derived.Test.YtngdfdangkdgcaaGreatDoorQProgAlonee
set_option linter.unusedVariables false
set_option linter.unusedSimpArgs false
set_option linter.unnecessarySimpa false
set_option maxRecDepth 100000
set_option maxHeartbeats 4000000
namespace Go.Proofs.YtngdfdangkdgcaaGreatDoor
open Go.Hw _root_.Go.Proofs.Tryz
section
section
variable{w0 w:World}{l:List aC}{t p:Nat}{r:aP}{s:cG}{q:gX}
theorem aP.DJ(r:aP)(s:cG):r.mine s=s.t.mine r.o.iter r.who:=rfl
theorem aP.free_eq(r:aP)(s:cG):r.free s=({ r with using_:=false },{ s with t:=s.t.free r.o.iter r.who }):=by
 unfold aP.free Tb.free;rw[aP.DJ];cases s.t.mine r.o.iter r.who <;> rfl
theorem aP.J6(r:aP)(s:cG):r.use s=if(s.t.use r.o.iter r.who).1=0 then({ r with using_:=true },{ s with t:=(s.t.use r.o.iter r.who).2 },1,true)
  else if(s.t.use r.o.iter r.who).1=8 then(r,s,0,false) else((r.refuse s 3).1,(r.refuse s 3).2.1,(r.refuse s 3).2.2,false):=by
 unfold aP.use;cases hg:aH r.o.iter s.t.l with
 |none=>
  have e:s.t.use r.o.iter r.who=(3,s.t):=by unfold Tb.use;rw[hg]
  rw[e];rfl
 |some o=>
  dsimp only;by_cases hc:o.used=true∧o.who≠r.who
  ·have e:s.t.use r.o.iter r.who=(8,s.t):=by unfold Tb.use;rw[hg];dsimp only;rw[if_pos hc]
   rw[if_pos hc,e];rfl
  ·have e:s.t.use r.o.iter r.who=(0,⟨s.t.last,aX r.o.iter { o with used:=true,who:=r.who } s.t.l⟩):=by unfold Tb.use;rw[hg];dsimp only;rw[if_neg hc]
   rw[if_neg hc,e];rfl
theorem Tb.FT(T:Tb)(id who:Int):(T.use id who).1=0∨(T.use id who).2=T∧((T.use id who).1=8∨(T.use id who).1=3):=by
 unfold Tb.use;cases aH id T.l with
 |none=>exact .inr ⟨rfl,.inr rfl⟩
 |some o=>
  dsimp only;split
  ·exact .inr ⟨rfl,.inl rfl⟩
  ·exact .inl rfl
theorem vl(h:St w0 (bH t r::aU p s::l) w):∃q,St w0 (aM t r q::aU p s::(r.rows q++l)) w:=by
 obtain⟨q,h⟩:=(St.run (r:=r)).1 h;exact⟨q,h.o [0,10]⟩
theorem gq(h:St w0 (aM t r q::aU p s::(r.rows q++l)) w):St w0 (bH t r::aU p s::l) w:=(St.run (r:=r)).2 ⟨q,h.o [0,2,3,4,5,6,7,8,9,10]⟩
theorem ml(h:St w0 (aM t r q::aU p s::l) w):
  bP prog 69 [.pz t,.pz p] w fun v w'=>v=.tuple #[]∧St w0 (aM t (r.free s).1 q::aU p (r.free s).2::l) w':=by
 rw[aP.free_eq];obtain⟨k,h⟩:=(St.lJ (s:=s)).1 (h.f 1);replace h:St w0 (aS k.t s.t.V::aM t r q::bV p k::bF k.d s.d::aK k.c s.c::aE k.b s.b::l) w:=h.o [4,5];refine en func69 results69 ntmps69 ?_;refine qi ?_;refine jb [0,1,2,3,4,5,6,7,8,9,10,11,12,13] none (fun w=>St w0 (aM t r q::bV p k::bF k.d s.d::aK k.c s.c::aE k.b s.b::l) w) O1 O1 ?_;have hs:=h.drew;clear h;generalize w.drew=w1 at hs ⊢;have h:=hs.drop;refine Y6 ?_;refine qj rfl rfl rfl rfl h (fun _ h=>qh rfl (qq (v:=.pointer (some ⟨k.t,0,none⟩)) rfl (h.b 1 rfl) rfl)) ?_;refine uA ?_;refine qj rfl rfl rfl rfl h (fun _ h=>qh rfl (qq (v:=.iz r.o.iter) rfl (h.b 0 rfl) rfl)) ?_;refine Y6 ?_;refine qj rfl rfl rfl rfl h (fun _ h=>qh rfl (qq (v:=.iz r.who) rfl (h.b 0 rfl) rfl)) ?_;refine Ym ?_;refine qd 13 rfl rfl rfl rfl ?_;refine qg rfl (UG r.o.iter r.who hs) ?_;clear h hs;rintro _ w ⟨rfl,hs⟩;have h:=hs.drop;refine⟨fun _=>h,?_⟩;refine qm ?_;refine AV ?_;refine aF rfl (qb 1 hs rfl (show _=Value.bool false from rfl) rfl rfl rfl rfl fun w h=>?_);replace h:St w0 (aS k.t (s.t.free r.o.iter r.who).V::aM t { r with using_:=false } q::bV p k::bF k.d s.d::aK k.c s.c::aE k.b s.b::l) w:=h
 refine qv (uN ⟨rfl,?_⟩);exact((St.lJ (s:={ s with t:=s.t.free r.o.iter r.who })).2 ⟨k,h.o [2,3,4,5,0]⟩).f 1
theorem fk(h:St w0 (bH t r::aU p s::l) w):
  bP prog 66 [.pz t,.pz p] w fun v w'=>v=.tuple [.iz (r.use s).2.2.1,.bool (r.use s).2.2.2].toArray∧St w0 (bH t (r.use s).1::aU p (r.use s).2.1::l) w':=by
 have key:=aP.J6 r s;have hu:=Tb.FT s.t r.o.iter r.who;obtain⟨z,hz⟩:∃z,s.t.use r.o.iter r.who=z:=⟨_,rfl⟩;obtain⟨q,h⟩:=vl h;obtain⟨k,h⟩:=(St.lJ (s:=s)).1 (h.f 1);replace h:St w0 (aS k.t s.t.V::aM t r q::bV p k::bF k.d s.d::aK k.c s.c::aE k.b s.b::(r.rows q++l)) w:=h.o [4,5];refine en func66 results66 ntmps66 ?_;refine Y1 ?_;refine tZ ?_;refine qi ?_;refine qi ?_;refine jb [0,1,2,3,4,5,6,7,8,9,10,11,12,13] none (fun w=>St w0 (aM t r q::bV p k::bF k.d s.d::aK k.c s.c::aE k.b s.b::(r.rows q++l)) w) O1 O1 ?_;have hs:=h.drew;clear h;generalize w.drew=w1 at hs ⊢;have h:=hs.drop;refine Y6 ?_;refine qj rfl rfl rfl rfl h (fun _ h=>qh rfl (qq (v:=.pointer (some ⟨k.t,0,none⟩)) rfl (h.b 1 rfl) rfl)) ?_;refine uA ?_;refine qj rfl rfl rfl rfl h (fun _ h=>qh rfl (qq (v:=.iz r.o.iter) rfl (h.b 0 rfl) rfl)) ?_;refine Y6 ?_;refine qj rfl rfl rfl rfl h (fun _ h=>qh rfl (qq (v:=.iz r.who) rfl (h.b 0 rfl) rfl)) ?_;refine Ym ?_;refine qd 13 rfl rfl rfl rfl ?_;refine qg rfl (J5 r.o.iter r.who hs) ?_;clear h hs;rw[hz] at key hu ⊢;obtain⟨e,T'⟩:=z;dsimp only at key hu ⊢;rintro _ w ⟨rfl,hs⟩;have h:=hs.drop;refine⟨fun _=>h,?_⟩;refine qm ?_;refine Yg ?_;refine GN ?_;by_cases h0:e=0
 ·rw[if_pos h0] at key;rw[key];refine qz (.bool true) (by congr 1;rw[beq_iff_eq];exact h0) ?_
  refine vD ?_;refine Y7 ?_;refine aF rfl (qb 1 hs rfl (show _=Value.bool true from rfl) rfl rfl rfl rfl fun w h=>?_);replace h:St w0 (aS k.t T'.V::aM t { r with using_:=true } q::bV p k::bF k.d s.d::aK k.c s.c::aE k.b s.b::(r.rows q++l)) w:=h
  have h1:St w0 (aU p { s with t:=T' }::aM t { r with using_:=true } q::(r.rows q++l)) w:=(St.lJ (s:={ s with t:=T' })).2 ⟨k,h.o [2,3,4,5,0]⟩
  refine Yl ?_;refine Y4 ?_;refine Y3 ?_;exact qv (qk (jQ ⟨rfl,gq (r:={ r with using_:=true }) (h1.f 1)⟩))
 rw[if_neg h0] at key;obtain⟨hT,he⟩:=hu.resolve_left h0;subst hT;have h1:St w0 (aU p s::aM t r q::(r.rows q++l)) w:=(St.lJ (s:=s)).2 ⟨k,hs.o [2,3,4,5,0]⟩;have h2:=gq (h1.f 1);refine qz (.bool false) (by congr 1;rw[beq_eq_false_iff_ne];exact h0) ?_
 refine xN ?_;by_cases h8:e=8
 ·rw[if_pos h8] at key;rw[key];refine qz (.bool true) (by congr 1;rw[beq_iff_eq];exact h8) ?_
  refine vD ?_;refine rC ?_;refine Y3 ?_;exact qv (qk (jQ ⟨rfl,h2⟩))
 rw[if_neg h8] at key;rw[key];refine qz (.bool false) (by congr 1;rw[beq_eq_false_iff_ne];exact h8) ?_
 refine Ya ?_;refine xU ?_;refine Yq ?_;refine aF rfl (qg rfl (vu 3 h2) ?_);clear h h1 h2 hs;rintro _ w ⟨rfl,h⟩;refine Y4 ?_;refine Y3 ?_;exact qv (qk (jQ ⟨rfl,h⟩))
theorem aP.hand_eq(r:aP)(s:cG)(L:List bZ):r.hand s L=({ r with using_:=false,over:=true,res:=⟨0,0,L⟩ },{ s with t:=(s.t.move r.o.iter r.who (L.length:Int)).free r.o.iter r.who },2):=by
 have h1:(match r.mine s with|none=>s|some o=>{ s with t:=⟨s.t.last,aX r.o.iter { o with told:=wI (o.told+max (L.length:Int) 0) } s.t.l⟩ })={ s with t:=s.t.move r.o.iter r.who (L.length:Int) }:=by
  unfold Tb.move;rw[aP.DJ];cases s.t.mine r.o.iter r.who <;> rfl
 unfold aP.hand;dsimp only
 have h2:∀s1:cG,((r.free s1).1.stop (r.free s1).2 ⟨0,0,L⟩ 2)=({ r with using_:=false,over:=true,res:=⟨0,0,L⟩ },{ s1 with t:=s1.t.free r.o.iter r.who },2):=by
  intro s1;rw[aP.free_eq];rfl
 rw[h2];have h3:=congrArg (fun s1:cG=>(({ s1 with t:=s1.t.free r.o.iter r.who }:cG))) h1
 exact congrArg (fun s1:cG=>(({ r with using_:=false,over:=true,res:=⟨0,0,L⟩ }:aP),s1,(2:Int))) h3
theorem me{L:List bZ}{a:Option Addr}{c:Nat}(hn:L.length<=1048576)(hr:Reads w0 (r.rows q++l) 2 a L.length (aW L))(h:St w0 (aM t r q::aU p s::(r.rows q++l)) w):
  bP prog 67 [.pz t,.pz p,.slice a L.length c] w fun v w'=>v=.iz (r.hand s L).2.2∧St w0 (bH t (r.hand s L).1::aU p (r.hand s L).2.1::l) w':=by
 rw[aP.hand_eq];obtain⟨k,h⟩:=(St.lJ (s:=s)).1 (h.f 1);replace h:St w0 (aS k.t s.t.V::aM t r q::bV p k::bF k.d s.d::aK k.c s.c::aE k.b s.b::(r.rows q++l)) w:=h.o [4,5];refine en func67 results67 ntmps67 ?_;refine Yr ?_;refine qi ?_;refine jb [0,1,2,3,4,5,6,7,8,9,10,11,12,13,14,15] none (fun w=>St w0 (aM t r q::bV p k::bF k.d s.d::aK k.c s.c::aE k.b s.b::(r.rows q++l)) w) O1 O1 ?_;have hs:=h.drew;clear h;generalize w.drew=w1 at hs ⊢;have h:=hs.drop;refine Y6 ?_;refine qj rfl rfl rfl rfl h (fun _ h=>qh rfl (qq (v:=.pointer (some ⟨k.t,0,none⟩)) rfl (h.b 1 rfl) rfl)) ?_;refine uA ?_;refine qj rfl rfl rfl rfl h (fun _ h=>qh rfl (qq (v:=.iz r.o.iter) rfl (h.b 0 rfl) rfl)) ?_;refine Y6 ?_;refine qj rfl rfl rfl rfl h (fun _ h=>qh rfl (qq (v:=.iz r.who) rfl (h.b 0 rfl) rfl)) ?_;refine AR ?_;refine De ?_;refine Ym ?_;refine qd 15 rfl rfl rfl rfl ?_;refine qg rfl (UH r.o.iter r.who (L.length:Int) hs) ?_;clear h hs;rintro _ w ⟨rfl,hs⟩;have h:=hs.drop;refine⟨fun _=>h,?_⟩;refine qm ?_;clear h;obtain⟨s1,hs1⟩:∃s1:cG,s1={ s with t:=s.t.move r.o.iter r.who (L.length:Int) }:=⟨_,rfl⟩
 have h:St w0 (aM t r q::aU p s1::(r.rows q++l)) w:=by
  rw[hs1];exact((St.lJ (s:={ s with t:=s.t.move r.o.iter r.who (L.length:Int) })).2 ⟨k,hs.o [2,3,4,5,0]⟩).f 1
 clear hs;refine oE ?_;refine aF rfl (qg rfl (ml h) ?_);clear h;rw[aP.free_eq];rintro _ w ⟨rfl,h⟩;dsimp only at h;refine rL ?_;refine Yp ?_;refine aF rfl (qg rfl (uk (xs:=aW L) h (fun w' h'=>((hr.cons).cons).at_ h') (jm _) O0) ?_)
 clear h;rintro _ w ⟨o,oc,rfl,_,h⟩;refine aD (qc (r:=(⟨0,0,L⟩:iS).C o oc) rfl) rfl ?_;have h1:St w0 (bH t { r with using_:=false }::aB o oc L::aU p { s1 with t:=s1.t.free r.o.iter r.who }::l) w:=(gq (r:={ r with using_:=false }) (l:=aB o oc L::l) (h.o [1,2,3,4,5,6,7,8,9,10,11])).o [0,2]
 refine aF rfl (qg rfl (gf (res:=⟨0,0,L⟩) 2 h1) ?_);clear h h1;rintro _ w ⟨rfl,h⟩;refine Y4 ?_;rw[hs1] at h;exact qv (qk (bQ ⟨rfl,h⟩))
end
end
section
section
variable{w0 w:World}{l:List aC}{t p:Nat}{r:aP}{s:cG}{q:gX}
structure aP.CN(r:aP)(s:cG):Prop where
 fits:dM.Fits s.d
 free:aH (s.t.last+1) s.t.l=none
 sJ:0<=s.t.last
 uI:s.t.last<4611686018427387904
theorem UL{D:List iU}{id:Int}{sl:aG}(h:dM.look D id=some sl):∃p∈D,p.s=sl:=by
 unfold dM.look at h;cases ha:dM.at_ D id with
 |none=>rw[ha] at h;cases h
 |some x=>
  rw[ha] at h;dsimp only at h;split at h
  ·cases h
  ·refine⟨x,?_,Uk h⟩;unfold dM.at_ at ha
   split at ha
   ·exact Ue ha
   ·cases ha
theorem am(hok:r.CN s)(h:St w0 (bH t r::aU p s::l) w):
  bP prog 39 [.pz t,.pz p] w fun v w'=>v=.iz (r.open_ s).2.2∧St w0 (bH t (r.open_ s).1::aU p (r.open_ s).2.1::l) w':=by
 obtain⟨nF,hfree,vI,rV⟩:=hok
 have key:r.open_ s=match dM.look s.d r.o.aA with
  |none=>(r,s,0)
  |some sl=>if sl.there=false then r.refuse s 3 else if s.t.l.length ≥ 8 then r.refuse s 5 else match s.b.hold [] (sl.snap r.o.F r.o.To).parts with
   |(false,b)=>r.stop { s with b:=b } ⟨7,0,[]⟩ 3
   |(true,b)=>r.stop { s with b:=b,t:=⟨s.t.last+1,aX (s.t.last+1) ⟨r.o.aA,0,sl.snap r.o.F r.o.To,false,0⟩ s.t.l⟩ } ⟨0,s.t.last+1,[]⟩ 2:=by
  unfold aP.open_;cases dM.look s.d r.o.aA with
  |none=>rfl
  |some sl=>
   dsimp only;split
   ·rfl
   ·split
    ·rfl
    ·cases s.b.hold [] (sl.snap r.o.F r.o.To).parts with|mk g b=>cases g <;> rfl
 obtain⟨q,h⟩:=vl h;obtain⟨k,h⟩:=(St.lJ (s:=s)).1 (h.f 1)
 have oZ:∀{w:World} {b:eR} {T:Tb},St w0 (bV p k::bF k.d s.d::aK k.c s.c::aE k.b b::aS k.t T.V::aM t r q::(r.rows q++l)) w->St w0 (bH t r::aU p { s with b:=b,t:=T }::l) w:=by
  intro w b T h;exact gq (((St.lJ (s:={ s with b:=b,t:=T })).2 ⟨k,h⟩).f 1)
 replace h:St w0 (bF k.d s.d::bV p k::aM t r q::aK k.c s.c::aE k.b s.b::aS k.t s.t.V::(r.rows q++l)) w:=h.o [1,0,5,2,3,4];obtain⟨X,hX⟩:∃X,(dM.look s.d r.o.aA).getD aG.zero=X:=⟨_,rfl⟩;refine en func39 results39 ntmps39 ?_;refine Yr ?_
 refine qf (Γ:=Q4×Nat) (fun g=>[(0,.pz t),(1,.pz p),(5,.pointer (some ⟨g.2,0,none⟩)),(6,.bool (dM.look s.d r.o.aA).isSome)])
  (fun g w=>St w0 (aB g.1.a4 g.1.c4 X.aQ::aI g.1.a5 g.1.c5 X.chunks::pt g.2 (.cells (g.1.cells X).toArray 85 (0,0))::bF k.d s.d::bV p k::aM t r q::aK k.c s.c::aE k.b s.b::aS k.t s.t.V::(r.rows q++l)) w) ?_ ?_
 ·refine vr [0,1,2,3,4,5,6,7,8,9,10,11,14,12,13,15] (some 14) (fun w=>St w0 (bF k.d s.d::bV p k::aM t r q::aK k.c s.c::aE k.b s.b::aS k.t s.t.V::(r.rows q++l)) w) O1 O1 h.drew fun w h=>?_;refine Y6 ?_;refine qj rfl rfl rfl rfl h (fun _ h=>qh rfl (qq (v:=.pointer (some ⟨k.d,0,none⟩)) rfl (h.b 1 rfl) rfl)) ?_;refine uA ?_;refine qj rfl rfl rfl rfl h (fun _ h=>qh rfl (qq (v:=.iz r.o.aA) rfl (h.b 2 rfl) rfl)) ?_;refine Fa ?_;refine j5 9 13 rfl rfl rfl rfl rfl rfl ?_ ?_
  ·refine qg rfl (vp nF r.o.aA h) ?_;clear h;rintro _ w ⟨g,rfl,h1⟩;rw[hX] at h1 ⊢;have h:=h1.drop.drop;refine⟨fun _=>h,?_⟩;refine xX ?_;refine Ys ?_;refine qd 13 rfl rfl rfl rfl ?_;refine qn h1 fun b5 w h1=>?_;clear h;have h:=h1.drop.drop.drop;refine⟨fun _=>h,?_⟩;refine Yn ?_;refine jx 14 none rfl rfl rfl rfl ?_;refine qy (vs:=g.cells X) 0 h1 rfl rfl rfl rfl rfl rfl rfl fun w h=>?_;refine jh h ?_;refine rK ?_;exact qm ⟨(g,b5),iA,h.o [1,2,0]⟩
  ·refine qn h fun b5 w h1=>?_;clear h;have h:=h1.drop;refine⟨fun _=>h,?_⟩;refine xO ?_;refine qd 9 rfl rfl rfl rfl ?_;refine qg rfl (vp nF r.o.aA (h1.f 1)) ?_;clear h h1;rintro _ w ⟨g,rfl,h1⟩;rw[hX] at h1 ⊢;have h:=(h1.x [3]).drop.drop;refine⟨fun _=>h,?_⟩;refine xX ?_;refine Yn ?_;refine jx 14 none rfl rfl rfl rfl ?_;refine qy (vs:=g.cells X) 3 h1 rfl rfl rfl rfl rfl rfl rfl fun w h=>?_;refine jh h ?_;refine rK ?_;exact qm ⟨(g,b5),iA,h.o [0,1,3,2]⟩
 clear h;rintro⟨g,b5⟩ w e h;dsimp only at h;refine Ch ?_;refine Y1 ?_;cases hl:dM.look s.d r.o.aA with
 |none=>
  rw[hl] at key;replace key:r.open_ s=(r,s,0):=key;rw[key];refine vC ?_;refine vD ?_;refine rC ?_;exact qv (qk (bQ ⟨rfl,oZ (b:=s.b) (T:=s.t) ((h.x [0,1,2]).o [1,0,3,4,5,2])⟩))
 |some sl=>
 rw[hl] at key hX;replace hX:sl=X:=hX;subst hX;obtain⟨pl,H8,hps⟩:=UL hl;have hsz:=nF pl H8;rw[hps] at hsz;dsimp only at key;refine vC ?_;refine Bj ?_;refine qK ?_;refine aD (qq (v:=.bool sl.there) rfl (h.b 2 rfl) rfl) rfl ?_;by_cases ht:sl.there=false
 ·rw[if_pos ht] at key;rw[key,ht];refine oO ?_;refine vD ?_;have h1:=oZ (b:=s.b) (T:=s.t) ((h.x [0,1,2]).o [1,0,3,4,5,2]);refine Yq ?_;refine aF rfl (qg rfl (vu 3 h1) ?_);clear h h1;rintro _ w ⟨rfl,h⟩;refine Y4 ?_;exact qv (qk (bQ ⟨rfl,h⟩))
 rw[if_neg ht] at key;have ht':sl.there=true:=by simpa using ht
 rw[ht'];refine oO ?_;refine Bj ?_;refine Y7 ?_;refine aD (qq (v:=.pointer (some ⟨k.t,0,none⟩)) rfl (h.b 4 rfl) rfl) rfl ?_;refine aF rfl (qg rfl (UJ (T:=s.t) (h.f 8)) ?_);clear h;rintro _ w ⟨rfl,h⟩;replace h:St w0 (aB g.a4 g.c4 sl.aQ::aI g.a5 g.c5 sl.chunks::pt b5 (.cells (g.cells sl).toArray 85 (0,0))::bF k.d s.d::bV p k::aM t r q::aK k.c s.c::aE k.b s.b::aS k.t s.t.V::(r.rows q++l)) w:=h.o [1,2,3,4,5,6,7,8,0];refine tX ?_;by_cases h8:s.t.l.length ≥ 8
 ·rw[if_pos h8] at key;rw[key];refine qz (.bool true) O3 ?_;refine vD ?_;have h1:=oZ (b:=s.b) (T:=s.t) ((h.x [0,1,2]).o [1,0,3,4,5,2]);refine Yq ?_;refine aF rfl (qg rfl (vu 5 h1) ?_);clear h h1;rintro _ w ⟨rfl,h⟩;refine Y4 ?_;exact qv (qk (bQ ⟨rfl,h⟩))
 rw[if_neg h8] at key;refine qz (.bool false) O4 ?_;refine Ya ?_;refine xU ?_;obtain⟨x,hx⟩:∃x,sl.snap r.o.F r.o.To=x:=⟨_,rfl⟩;rw[hx] at key;have Rv:x.parts.length<=1048576:=by rw[<- hx];exact Uw (lH _ _ _) hsz.2
 have UM:x.tail.length<=1048576:=by rw[<- hx];exact Uw (zG _ _ _) hsz.1
 have PW:∀{w:World} {M:List aC},St w0 (M++aB g.a4 g.c4 sl.aQ::aI g.a5 g.c5 sl.chunks::pt b5 (.cells (g.cells sl).toArray 85 (0,0))::bF k.d s.d::bV p k::aM t r q::aK k.c s.c::aE k.b s.b::aS k.t s.t.V::(r.rows q++l)) w->
   bP prog 62 [.agg (g.cells sl).toArray,.iz r.o.F,.iz r.o.To] w fun v w'=>∃a1 a2,v=.agg (x.V.cells a1 x.parts.length a2 x.tail.length).toArray∧
    St w0 (aI a1 x.parts.length x.parts::aB a2 x.tail.length x.tail::(M++aB g.a4 g.c4 sl.aQ::aI g.a5 g.c5 sl.chunks::pt b5 (.cells (g.cells sl).toArray 85 (0,0))::bF k.d s.d::bV p k::aM t r q::aK k.c s.c::aE k.b s.b::aS k.t s.t.V::(r.rows q++l))) w':=by
  intro w M h;subst hx;exact il r.o.F r.o.To h (fun w' h'=>(Reads.own.more M).at_ h') (fun w' h'=>((Reads.own.more [_]).more M).at_ h') O0 O0
 refine qf (Γ:=(Option Addr×Option Addr)×Nat) (fun g=>[(0,.pz t),(1,.pz p),(7,.pointer (some ⟨g.2,0,none⟩))])
  (fun g w=>St w0 (aI g.1.1 x.parts.length x.parts::aB g.1.2 x.tail.length x.tail::pt g.2 (.cells (x.V.cells g.1.1 x.parts.length g.1.2 x.tail.length).toArray 87 (0,0))::bF k.d s.d::bV p k::aM t r q::aK k.c s.c::aE k.b s.b::aS k.t s.t.V::(r.rows q++l)) w) ?_ ?_
 ·refine jz (some 13) (fun w=>St w0 (aB g.a4 g.c4 sl.aQ::aI g.a5 g.c5 sl.chunks::pt b5 (.cells (g.cells sl).toArray 85 (0,0))::bF k.d s.d::bV p k::aM t r q::aK k.c s.c::aE k.b s.b::aS k.t s.t.V::(r.rows q++l)) w) O1 O1 h.drew fun w h=>?_;refine qj rfl rfl rfl rfl h (fun _ h=>qh rfl (qx (l:=g.cells sl) rfl rfl (qw (h.b 2 rfl) rfl))) ?_;refine uA ?_;refine qj rfl rfl rfl rfl h (fun _ h=>qh rfl (qq (v:=.iz r.o.F) rfl (h.b 5 rfl) rfl)) ?_;refine uA ?_;refine qj rfl rfl rfl rfl h (fun _ h=>qh rfl (qq (v:=.iz r.o.To) rfl (h.b 5 rfl) rfl)) ?_;refine Ys ?_;refine j5 11 12 rfl rfl rfl rfl rfl rfl ?_ ?_
  ·refine qg rfl (PW (M:=[]) h) ?_;clear h;rintro _ w ⟨a1,a2,rfl,h1⟩;have h:=h1.drop.drop;refine⟨fun _=>h,?_⟩;refine Yn ?_;refine qd 12 rfl rfl rfl rfl ?_;refine qn h1 fun b7 w h1=>?_;clear h;have h:=h1.drop.drop.drop;refine⟨fun _=>h,?_⟩;refine Ym ?_;refine jv 13 rfl rfl rfl ?_;refine qy (vs:=x.V.cells a1 x.parts.length a2 x.tail.length) 0 h1 rfl rfl rfl rfl rfl rfl rfl fun w h=>?_;exact⟨((a1,a2),b7),kK,(h.x [3,4,5]).o [1,2,0]⟩
  ·refine qn h fun b7 w h1=>?_;clear h;have h:=h1.drop;refine⟨fun _=>h,?_⟩;refine Yn ?_;refine qd 11 rfl rfl rfl rfl ?_;refine qg rfl (PW (M:=[_]) h1) ?_;clear h h1;rintro _ w ⟨a1,a2,rfl,h1⟩;have h:=h1.drop.drop.drop;refine⟨fun _=>h,?_⟩;refine Ym ?_;refine jv 13 rfl rfl rfl ?_;refine qy (vs:=x.V.cells a1 x.parts.length a2 x.tail.length) 2 h1 rfl rfl rfl rfl rfl rfl rfl fun w h=>?_;exact⟨((a1,a2),b7),kK,h.x [3,4,5]⟩
 clear h PW;rintro⟨⟨a1,a2⟩,b7⟩ w e h;dsimp only at h;replace h:St w0 (aE k.b s.b::aI a1 x.parts.length x.parts::aB a2 x.tail.length x.tail::pt b7 (.cells (x.V.cells a1 x.parts.length a2 x.tail.length).toArray 87 (0,0))::bF k.d s.d::bV p k::aM t r q::aK k.c s.c::aS k.t s.t.V::(r.rows q++l)) w:=h.o [7];refine qi (qi ?_);refine jb [0,1,2,3,4,5,6] none (fun w=>St w0 (aI a1 x.parts.length x.parts::aB a2 x.tail.length x.tail::pt b7 (.cells (x.V.cells a1 x.parts.length a2 x.tail.length).toArray 87 (0,0))::bF k.d s.d::bV p k::aM t r q::aK k.c s.c::aS k.t s.t.V::(r.rows q++l)) w) O1 O1 ?_;have hs:=h.drew;clear h;generalize w.drew=w1 at hs ⊢;have h:=hs.drop;refine Y6 ?_;refine qj rfl rfl rfl rfl h (fun _ h=>qh rfl (qq (v:=.pointer (some ⟨k.b,0,none⟩)) rfl (h.b 4 rfl) rfl)) ?_;refine qj rfl rfl rfl rfl h (fun _ h=>qh rfl (qx (l:=x.V.cells a1 x.parts.length a2 x.tail.length) rfl rfl (qw (h.b 2 rfl) rfl))) ?_;refine Yn ?_;refine qd 5 rfl rfl rfl rfl ?_;refine qg rfl (mq (x:=x.V) (Ps:=x.parts) rfl (by show x.parts.length<_;omega) (by show x.parts.length<=_;exact Ug _) hs (fun w' h'=>h'.bU)) ?_
 clear h hs;rintro _ w ⟨rfl,hs⟩;have h:=hs.drop;refine⟨fun _=>h,?_⟩;cases hh:s.b.hold [] x.parts with
 |mk gg b=>
 rw[hh] at key hs;dsimp only at hs;cases gg with
 |false=>
  replace key:r.open_ s=r.stop { s with b:=b } ⟨7,0,[]⟩ 3:=key
  rw[key];refine cD rfl rfl rfl rfl h rfl (zh rfl) ?_;refine qm ?_;clear h;have h:=oZ (b:=b) (T:=s.t) ((hs.x [1,2,3]).o [2,1,4,0,5,3]);clear hs;refine vB ?_;refine Yq ?_;refine aD (qc (r:=(⟨7,0,[]⟩:iS).C none 0) rfl) rfl ?_;refine aF rfl (qg rfl (gf (res:=⟨7,0,[]⟩) 3 ((h.aZ 57 2).f 1)) ?_);clear h;rintro _ w ⟨rfl,h⟩;refine Y4 ?_;exact qv (qk (bQ ⟨rfl,h⟩))
 |true=>
  replace key:r.open_ s=r.stop { s with b:=b,t:=⟨s.t.last+1,aX (s.t.last+1) ⟨r.o.aA,0,x,false,0⟩ s.t.l⟩ } ⟨0,s.t.last+1,[]⟩ 2:=key
  rw[key];refine cD rfl rfl rfl rfl h rfl (zh rfl) ?_;refine qm ?_;clear h;refine xU ?_;replace hs:St w0 (aS k.t s.t.V::aE k.b b::aI a1 x.parts.length x.parts::aB a2 x.tail.length x.tail::pt b7 (.cells (x.V.cells a1 x.parts.length a2 x.tail.length).toArray 87 (0,0))::bF k.d s.d::bV p k::aM t r q::aK k.c s.c::(r.rows q++l)) w:=hs.o [8];refine qi ?_;refine jb [0,1,2,3,4,5,6,7,8,9,10,11,12,14,13,15] none (fun w=>St w0 (aE k.b b::aI a1 x.parts.length x.parts::aB a2 x.tail.length x.tail::pt b7 (.cells (x.V.cells a1 x.parts.length a2 x.tail.length).toArray 87 (0,0))::bF k.d s.d::bV p k::aM t r q::aK k.c s.c::(r.rows q++l)) w) O1 O1 ?_;have hz:=hs.drew;clear hs;generalize w.drew=w1 at hz ⊢;have h:=hz.drop;refine Y6 ?_;refine qj rfl rfl rfl rfl h (fun _ h=>qh rfl (qq (v:=.pointer (some ⟨k.t,0,none⟩)) rfl (h.b 5 rfl) rfl)) ?_;refine uA ?_;refine qj rfl rfl rfl rfl h (fun _ h=>qh rfl (qq (v:=.iz r.o.aA) rfl (h.b 6 rfl) rfl)) ?_;refine qj rfl rfl rfl rfl h (fun _ h=>qh rfl (qx (l:=x.V.cells a1 x.parts.length a2 x.tail.length) rfl rfl (qw (h.b 3 rfl) rfl))) ?_;refine xO ?_;refine qd 10 rfl rfl rfl rfl ?_;refine qg rfl (UK (x:=x) r.o.aA hz O0 hfree vI rV O0 O0 (Reads.own.more [_]) (Reads.own.more [_,_])) ?_;clear h hz;rintro _ w ⟨rfl,hz⟩;have h:=hz.drop;refine⟨fun _=>h,?_⟩;refine xX ?_;refine AS ?_;refine rK ?_;refine qm ?_;clear h;have h:=oZ (b:=b) (T:=⟨s.t.last+1,aX (s.t.last+1) ⟨r.o.aA,0,x,false,0⟩ s.t.l⟩) ((hz.x [2,3,4]).o [3,2,5,1,0,4]);clear hz;refine GV ?_;refine aD (qc (r:=(⟨0,s.t.last+1,[]⟩:iS).C none 0) rfl) rfl ?_
  refine aF rfl (qg rfl (gf (res:=⟨0,s.t.last+1,[]⟩) 2 ((h.aZ 57 2).f 1)) ?_);clear h;rintro _ w ⟨rfl,h⟩;refine Y4 ?_;exact qv (qk (bQ ⟨rfl,h⟩))
end
end
section
section
variable{w0 w:World}{l:List aC}{t p:Nat}{r:aP}{s:cG}{q:gX}
def Tb.Fits(T:Tb):Prop:=∀id o,aH id T.l=some o->o.x.parts.length<=1048576∧o.x.tail.length<=1048576∧0<=o.told∧o.told<=1152921504606846976
theorem UN{r r2:aP}{s s2:cG}{d:Int}(hz:r.use s=(r2,s2,d,true)):∃o,aH r.o.iter s.t.l=some o∧s2.t.mine r2.o.iter r2.who=some { o with used:=true,who:=r.who }∧s2.b=s.b∧r2={ r with using_:=true }∧s2={ s with t:=⟨s.t.last,aX r.o.iter { o with used:=true,who:=r.who } s.t.l⟩ }:=by
 unfold aP.use at hz;cases hg:aH r.o.iter s.t.l with
 |none=>rw[hg] at hz;cases hz
 |some o=>
  rw[hg] at hz;dsimp only at hz;split at hz
  ·cases hz
  ·cases hz
   refine⟨o,rfl,?_,rfl,rfl,rfl⟩;unfold Tb.mine;dsimp only;rw[jg,if_pos rfl];dsimp only;rw[if_pos ⟨rfl,rfl⟩]
theorem ap(hfit:s.t.Fits)(h:St w0 (bH t r::aU p s::l) w):
  bP prog 41 [.pz t,.pz p] w fun v w'=>v=.iz (r.shut s).2.2∧St w0 (bH t (r.shut s).1::aU p (r.shut s).2.1::l) w':=by
 obtain⟨⟨r2,s2,d,ok⟩,hz⟩:∃z,r.use s=z:=⟨_,rfl⟩
 have key:r.shut s=if ok then({ r2 with using_:=false }:aP).stop { s2 with t:=⟨s2.t.last,bY r2.o.iter s2.t.l⟩,b:=s2.b.leave (((s2.t.mine r2.o.iter r2.who).map (·.x)).getD mE.zero).parts } ⟨0,0,[]⟩ 2 else(r2,s2,d):=by
  unfold aP.shut;rw[hz];cases ok <;> rfl
 rw[key];refine en func41 results41 ntmps41 ?_;refine Yr ?_;refine oE ?_;refine aF rfl (qg rfl (fk h) ?_);clear h;rintro _ w ⟨rfl,h⟩;rw[hz] at h ⊢;dsimp only at h ⊢;refine K6 ?_;refine E4 ?_;cases ok with
 |false=>
  refine vC ?_;refine Yh ?_;refine GX ?_;exact qv (qk (bQ ⟨rfl,h⟩))
 |true=>
 refine vC ?_;refine Y8 ?_;obtain⟨o,Is,hm,hb,yF,mP⟩:=UN hz;rw[if_pos rfl];rw[hm];have hpar:=(hfit _ _ Is).1;obtain⟨X,hX⟩:∃X,o.x=X:=⟨_,rfl⟩;show Cd _ _ _ _ _ _;rw[hX] at hpar;obtain⟨q,h⟩:=vl h;obtain⟨k,h⟩:=(St.lJ (s:=s2)).1 (h.f 1);replace h:St w0 (aS k.t s2.t.V::aM t r2 q::bV p k::bF k.d s2.d::aK k.c s2.c::aE k.b s2.b::(r2.rows q++l)) w:=h.o [4,5]
 have CO:∀{w:World} {M:List aC},St w0 (aS k.t s2.t.V::M) w->bP prog 72 [.pointer (some ⟨k.t,0,none⟩),.iz r2.o.iter,.iz r2.who] w fun v w'=>
   ∃a1 c1 a2 c2,v=.tuple [.agg (X.V.cells a1 c1 a2 c2).toArray,.bool true].toArray∧St w0 (aI a1 c1 X.parts::aB a2 c2 X.tail::aS k.t (Tb.V ⟨s2.t.last,bY r2.o.iter s2.t.l⟩)::M) w':=by
  intro w M h;subst hX;exact UI r2.o.iter r2.who (o:={ o with used:=true,who:=r.who }) hm h
 refine qf (Γ:=(Option Addr×Nat×Option Addr×Nat)×Nat) (fun g=>[(0,.pz t),(1,.pz p),(7,.pointer (some ⟨g.2,0,none⟩))])
  (fun g w=>St w0 (aI g.1.1 g.1.2.1 X.parts::aB g.1.2.2.1 g.1.2.2.2 X.tail::pt g.2 (.cells (X.V.cells g.1.1 g.1.2.1 g.1.2.2.1 g.1.2.2.2).toArray 87 (0,0))::aS k.t (Tb.V ⟨s2.t.last,bY r2.o.iter s2.t.l⟩)::aM t r2 q::bV p k::bF k.d s2.d::aK k.c s2.c::aE k.b s2.b::(r2.rows q++l)) w) ?_ ?_
 ·refine jb [0,1,2,3,4,5,6,7,8,9,10,11,12,13,14,15,18,16,17,19] (some 18) (fun w=>St w0 (aM t r2 q::bV p k::bF k.d s2.d::aK k.c s2.c::aE k.b s2.b::(r2.rows q++l)) w) O1 O1 ?_;have hs:=h.drew;clear h;generalize w.drew=w1 at hs ⊢;have h:=hs.drop;refine Y6 ?_;refine qj rfl rfl rfl rfl h (fun _ h=>qh rfl (qq (v:=.pointer (some ⟨k.t,0,none⟩)) rfl (h.b 1 rfl) rfl)) ?_;refine uA ?_;refine qj rfl rfl rfl rfl h (fun _ h=>qh rfl (qq (v:=.iz r2.o.iter) rfl (h.b 0 rfl) rfl)) ?_;refine Y6 ?_;refine qj rfl rfl rfl rfl h (fun _ h=>qh rfl (qq (v:=.iz r2.who) rfl (h.b 0 rfl) rfl)) ?_;refine Fa ?_;refine j5 13 17 rfl rfl rfl rfl rfl rfl ?_ ?_
  ·refine qg rfl (CO hs) ?_;clear h hs;rintro _ w ⟨a1,c1,a2,c2,rfl,h1⟩;have h:=h1.drop.drop.drop;refine⟨fun _=>h,?_⟩;refine xX ?_;refine Ys ?_;refine qd 17 rfl rfl rfl rfl ?_;refine qn h1 fun b7 w h1=>?_;clear h;have h:=h1.drop.drop.drop.drop;refine⟨fun _=>h,?_⟩;refine Yn ?_;refine jx 18 none rfl rfl rfl rfl ?_;refine qy (vs:=X.V.cells a1 c1 a2 c2) 0 h1 rfl rfl rfl rfl rfl rfl rfl fun w h=>?_;refine jh h ?_;refine rK ?_;exact qm ⟨((a1,c1,a2,c2),b7),kK,h.o [1,2,0]⟩
  ·refine qn hs fun b7 w h1=>?_;clear h hs;have h:=h1.drop.drop;refine⟨fun _=>h,?_⟩;refine xO ?_;refine qd 13 rfl rfl rfl rfl ?_;refine qg rfl (CO (h1.f 1)) ?_;clear h h1;rintro _ w ⟨a1,c1,a2,c2,rfl,h1⟩;have h:=h1.drop.drop.drop.drop;refine⟨fun _=>h,?_⟩;refine xX ?_;refine Yn ?_;refine jx 18 none rfl rfl rfl rfl ?_;refine qy (vs:=X.V.cells a1 c1 a2 c2) 3 h1 rfl rfl rfl rfl rfl rfl rfl fun w h=>?_;refine jh h ?_;refine rK ?_;exact qm ⟨((a1,c1,a2,c2),b7),kK,h.o [0,1,3]⟩
 clear h CO;rintro⟨⟨a1,c1,a2,c2⟩,b7⟩ w e h;dsimp only at h;refine Y7 ?_;refine aF rfl (qb 4 h rfl (show _=Value.bool false from rfl) rfl rfl rfl rfl fun w h=>?_);replace h:St w0 (aI a1 c1 X.parts::aB a2 c2 X.tail::pt b7 (.cells (X.V.cells a1 c1 a2 c2).toArray 87 (0,0))::aS k.t (Tb.V ⟨s2.t.last,bY r2.o.iter s2.t.l⟩)::aM t { r2 with using_:=false } q::bV p k::bF k.d s2.d::aK k.c s2.c::aE k.b s2.b::(r2.rows q++l)) w:=h
 replace h:St w0 (aE k.b s2.b::aI a1 c1 X.parts::aB a2 c2 X.tail::pt b7 (.cells (X.V.cells a1 c1 a2 c2).toArray 87 (0,0))::aS k.t (Tb.V ⟨s2.t.last,bY r2.o.iter s2.t.l⟩)::aM t { r2 with using_:=false } q::bV p k::bF k.d s2.d::aK k.c s2.c::(r2.rows q++l)) w:=h.o [8]
 refine yX ?_;refine jb [0,1,2,3,4,5] none (fun w=>St w0 (aI a1 c1 X.parts::aB a2 c2 X.tail::pt b7 (.cells (X.V.cells a1 c1 a2 c2).toArray 87 (0,0))::aS k.t (Tb.V ⟨s2.t.last,bY r2.o.iter s2.t.l⟩)::aM t { r2 with using_:=false } q::bV p k::bF k.d s2.d::aK k.c s2.c::(r2.rows q++l)) w) O1 O1 ?_
 have hs:=h.drew;clear h;generalize w.drew=w1 at hs ⊢;have h:=hs.drop;refine Y6 ?_;refine qj rfl rfl rfl rfl h (fun _ h=>qh rfl (qq (v:=.pointer (some ⟨k.b,0,none⟩)) rfl (h.b 5 rfl) rfl)) ?_;refine qj rfl rfl rfl rfl h (fun _ h=>qh rfl (qx (l:=X.V.cells a1 c1 a2 c2) rfl rfl (qw (h.b 2 rfl) rfl))) ?_;refine Ym ?_;refine qd 5 rfl rfl rfl rfl ?_;refine qg rfl (dx (x:=X.V) (Ps:=X.parts) rfl (by show X.parts.length<_;omega) hs (fun w' h'=>h'.bU)) ?_
 clear h hs;rintro _ w ⟨rfl,hs⟩;have h:=hs.drop;refine⟨fun _=>h,?_⟩;refine qm ?_;clear h;obtain⟨s3,JD⟩:∃s3:cG,s3={ s2 with t:=⟨s2.t.last,bY r2.o.iter s2.t.l⟩,b:=s2.b.leave X.parts }:=⟨_,rfl⟩
 have h1:St w0 (aU p s3::aM t { r2 with using_:=false } q::(r2.rows q++l)) w:=by
  rw[JD];exact(St.lJ (s:={ s2 with t:=⟨s2.t.last,bY r2.o.iter s2.t.l⟩,b:=s2.b.leave X.parts })).2 ⟨k,(hs.x [1,2,3]).o [3,4,5,0,1]⟩
 have h:=gq (r:={ r2 with using_:=false }) (h1.f 1)
 clear h1 hs;refine Yq ?_;refine aD (qc (r:=(⟨0,0,[]⟩:iS).C none 0) rfl) rfl ?_;refine aF rfl (qg rfl (gf (res:=⟨0,0,[]⟩) 2 ((h.aZ 57 2).f 1)) ?_);clear h;rintro _ w ⟨rfl,h⟩;refine Y4 ?_;rw[JD] at h;subst hX;exact qv (qk (bQ ⟨rfl,h⟩))
end
end
section
section
variable{w0 w:World}{l:List aC}{t p:Nat}{r:aP}{s:cG}{q:gX}
theorem Tk.J7(x:Tk)(C D:eC):(x.leave C).1=(x.leave D).1:=by
 unfold Tk.leave;split <;> rfl
theorem UO{A B C D:aC}(h:St w0 (D::A::B::C::aM t r q::(r.rows q++l)) w):St w0 (aM t r q::D::(r.rows q++(A::B::C::l))) w:=by
 have h1:St w0 (D::A::B::C::aM t r q::iC q.one r.one::aB q.s.a4 q.s.c4 r.slot.aQ::aI q.s.a5 q.s.c5 r.slot.chunks::aB q.n.a4 q.n.c4 r.next.aQ::aI q.n.a5 q.n.c5 r.next.chunks::aI q.pa q.pc r.x.parts::aB q.ta q.tc r.x.tail::aB q.ga q.gc r.got::aB q.ra q.rc r.res.list::l) w:=h
 exact h1.o [4,0,5,6,7,8,9,10,11,12,13]
theorem fy{A D:aC}(h:St w0 (A::aM t r q::D::(r.rows q++l)) w):St w0 (aM t r q::D::(r.rows q++(A::l))) w:=by
 have h1:St w0 (A::aM t r q::D::iC q.one r.one::aB q.s.a4 q.s.c4 r.slot.aQ::aI q.s.a5 q.s.c5 r.slot.chunks::aB q.n.a4 q.n.c4 r.next.aQ::aI q.n.a5 q.n.c5 r.next.chunks::aI q.pa q.pc r.x.parts::aB q.ta q.tc r.x.tail::aB q.ga q.gc r.got::aB q.ra q.rc r.res.list::l) w:=h
 exact h1.o [1,2,3,4,5,6,7,8,9,10,11]
def aP.fail(r:aP)(s:cG):aP×cG:=match r.one with
 |none=>(r,s)
 |some x=>({ r with one:=some (x.leave s.c).1 },{ s with c:=(x.leave s.c).2 })
def aP.BZ(r:aP)(X:On)(n:Int):List bZ:=
 let L:=if r.i=(X.x.parts.length:Int) then r.got++X.x.tail else r.got
 let L:=L.drop (min r.told (L.length:Int)).toNat
 L.take (min n (L.length:Int)).toNat
structure aP.CP(r:aP)(s:cG):Prop where
 fits:s.t.Fits
 part:r.ph=2->r.AG s (s.t.on r.o.iter).aA∧(r.part s (s.t.on r.o.iter).aA).2.1.c.Ok
 got:r.got.length<=1048576
 told:r.ph≠0->r.ph≠2->0<=r.told
theorem aP.DK(r:aP)(s:cG):r.tell s =
  if r.ph=0 then if(r.use s).2.2.2 then
    if min (max r.o.N 0) 1000=0 then({ (r.use s).1 with x:=(s.t.on r.o.iter).x,told:=(s.t.on r.o.iter).told,ph:=2 }:aP).hand (r.use s).2.1 []
    else({ (r.use s).1 with x:=(s.t.on r.o.iter).x,told:=(s.t.on r.o.iter).told,ph:=if(s.t.on r.o.iter).x.parts.length=0 then 3 else 2 },(r.use s).2.1,1)
   else((r.use s).1,(r.use s).2.1,(r.use s).2.2.1)
  else if r.ph=2 then
   if(r.part s (s.t.on r.o.iter).aA).2.2≠0 then
    (((r.part s (s.t.on r.o.iter).aA).1.fail (r.part s (s.t.on r.o.iter).aA).2.1).1.free ((r.part s (s.t.on r.o.iter).aA).1.fail (r.part s (s.t.on r.o.iter).aA).2.1).2).1.stop
     (((r.part s (s.t.on r.o.iter).aA).1.fail (r.part s (s.t.on r.o.iter).aA).2.1).1.free ((r.part s (s.t.on r.o.iter).aA).1.fail (r.part s (s.t.on r.o.iter).aA).2.1).2).2 ⟨(r.part s (s.t.on r.o.iter).aA).2.2,0,[]⟩ 3
   else({ (r.part s (s.t.on r.o.iter).aA).1 with ph:=if(r.part s (s.t.on r.o.iter).aA).1.i=((s.t.on r.o.iter).x.parts.length:Int)∨((r.part s (s.t.on r.o.iter).aA).1.got.length:Int) ≥ wI ((r.part s (s.t.on r.o.iter).aA).1.told+min (max r.o.N 0) 1000) then 3 else 2 },(r.part s (s.t.on r.o.iter).aA).2.1,1)
  else r.hand s (r.BZ (s.t.on r.o.iter) (min (max r.o.N 0) 1000)):=by
 unfold aP.tell;have e:(aH r.o.iter s.t.l).getD ⟨0,0,mE.zero,false,0⟩=s.t.on r.o.iter:=rfl;rw[e];generalize s.t.on r.o.iter=X;dsimp only;by_cases p0:r.ph=0
 ·rw[if_pos p0,if_pos p0];generalize r.use s=z;obtain⟨a,b,c,d⟩:=z;cases d <;> rfl
 ·rw[if_neg p0,if_neg p0];by_cases p2:r.ph=2
  ·rw[if_pos p2,if_pos p2];generalize r.part s X.aA=z;obtain⟨a,b,c⟩:=z;dsimp only;by_cases hc:c≠0
   ·rw[if_pos hc,if_pos hc];unfold aP.fail;cases ho:a.one with
    |none=>rfl
    |some x=>
     dsimp only;rw[Tk.J7 x (x.leave b.c).2 b.c]
   ·rw[if_neg hc,if_neg hc]
  ·rw[if_neg p2,if_neg p2];rfl
theorem ai(hT:Tz w0)(hok:r.CP s)(h:St w0 (bH t r::aU p s::l) w):
  bP prog 40 [.pz t,.pz p] w fun v w'=>v=.iz (r.tell s).2.2∧St w0 (bH t (r.tell s).1::aU p (r.tell s).2.1::l) w':=by
 obtain⟨hfit,hpart,MQ,htold⟩:=hok;have key:=aP.DK r s
 have UP:(s.t.on r.o.iter).x.parts.length<=1048576∧(s.t.on r.o.iter).x.tail.length<=1048576:=by
  unfold Tb.on;cases hg:aH r.o.iter s.t.l with
  |none=>exact⟨Uf _,Uf _⟩
  |some o=>exact⟨(hfit _ _ hg).1,(hfit _ _ hg).2.1⟩
 obtain⟨X,hX⟩:∃X,s.t.on r.o.iter=X:=⟨_,rfl⟩;obtain⟨n,hn⟩:∃n,min (max r.o.N 0) 1000=n:=⟨_,rfl⟩;have hn1:0<=n∧n<=1000:=by omega
 rw[hX] at key hpart UP;rw[hn] at key;obtain⟨q,h⟩:=vl h;refine en func40 results40 ntmps40 ?_;refine Yr ?_;refine EK ?_;refine aD (qq (v:=.iz r.o.N) rfl (h.b 0 rfl) rfl) rfl ?_;refine Ov ?_;refine qz (.iz n) (by rw[<- hn]) ?_
 refine Y5 ?_;obtain⟨k,h⟩:=(St.lJ (s:=s)).1 (h.f 1);replace h:St w0 (aS k.t s.t.V::aM t r q::bV p k::bF k.d s.d::aK k.c s.c::aE k.b s.b::(r.rows q++l)) w:=h.o [4,5]
 have gO:∀{w:World} {M:List aC},St w0 (aS k.t s.t.V::M) w->bP prog 65 [.pointer (some ⟨k.t,0,none⟩),.iz r.o.iter] w fun v w'=>
   ∃a1 c1 a2 c2,v=.tuple [.iz X.aA,.agg (X.x.V.cells a1 c1 a2 c2).toArray,.iz X.told,.bool (aH r.o.iter s.t.l).isSome].toArray∧St w0 (aI a1 c1 X.x.parts::aB a2 c2 X.x.tail::aS k.t s.t.V::M) w':=by
  intro w M h;subst hX;exact MT r.o.iter h
 refine qf (Γ:=(Option Addr×Nat×Option Addr×Nat)×Nat) (fun g=>[(0,.pz t),(1,.pz p),(5,.iz n),(6,.iz X.aA),(7,.pointer (some ⟨g.2,0,none⟩)),(8,.iz X.told)])
  (fun g w=>St w0 (aI g.1.1 g.1.2.1 X.x.parts::aB g.1.2.2.1 g.1.2.2.2 X.x.tail::pt g.2 (.cells (X.x.V.cells g.1.1 g.1.2.1 g.1.2.2.1 g.1.2.2.2).toArray 87 (0,0))::aS k.t s.t.V::aM t r q::bV p k::bF k.d s.d::aK k.c s.c::aE k.b s.b::(r.rows q++l)) w) ?_ ?_
 ·refine jb [0,1,2,3,4,5,6,7,8,9,10,11,14,16,18,12,13,15,17,19] (some 17) (fun w=>St w0 (aM t r q::bV p k::bF k.d s.d::aK k.c s.c::aE k.b s.b::(r.rows q++l)) w) O1 O1 ?_;have hs:=h.drew;clear h;generalize w.drew=w1 at hs ⊢;have h:=hs.drop;refine Y6 ?_;refine qj rfl rfl rfl rfl h (fun _ h=>qh rfl (qq (v:=.pointer (some ⟨k.t,0,none⟩)) rfl (h.b 1 rfl) rfl)) ?_;refine uA ?_;refine qj rfl rfl rfl rfl h (fun _ h=>qh rfl (qq (v:=.iz r.o.iter) rfl (h.b 0 rfl) rfl)) ?_;refine nJ ?_;refine Fa ?_;refine j5 9 15 rfl rfl rfl rfl rfl rfl ?_ ?_
  ·refine qg rfl (gO hs) ?_;clear h hs;rintro _ w ⟨a1,c1,a2,c2,rfl,h1⟩;have h:=h1.drop.drop.drop;refine⟨fun _=>h,?_⟩;refine xX ?_;refine Ot ?_;refine Cu ?_;refine qd 15 rfl rfl rfl rfl ?_;refine qn h1 fun b7 w h1=>?_;clear h;have h:=h1.drop.drop.drop.drop;refine⟨fun _=>h,?_⟩;refine AS ?_;refine Ys ?_;refine jx 17 none rfl rfl rfl rfl ?_;refine qy (vs:=X.x.V.cells a1 c1 a2 c2) 0 h1 rfl rfl rfl rfl rfl rfl rfl fun w h=>?_;refine jh h ?_;refine AS ?_;refine rK ?_;exact qm ⟨((a1,c1,a2,c2),b7),kX,h.o [1,2,0]⟩
  ·refine qn hs fun b7 w h1=>?_;clear h hs;have h:=h1.drop.drop;refine⟨fun _=>h,?_⟩;refine nJ ?_;refine xO ?_;refine qd 9 rfl rfl rfl rfl ?_;refine qg rfl (gO (h1.f 1)) ?_;clear h h1;rintro _ w ⟨a1,c1,a2,c2,rfl,h1⟩;have h:=h1.drop.drop.drop.drop;refine⟨fun _=>h,?_⟩;refine xX ?_;refine Ot ?_;refine AS ?_;refine Ys ?_;refine jx 17 none rfl rfl rfl rfl ?_;refine qy (vs:=X.x.V.cells a1 c1 a2 c2) 3 h1 rfl rfl rfl rfl rfl rfl rfl fun w h=>?_;refine jh h ?_;refine AS ?_;refine rK ?_;exact qm ⟨((a1,c1,a2,c2),b7),kX,h.o [0,1,3]⟩
 clear h gO;rintro⟨⟨a1,c1,a2,c2⟩,b7⟩ w e h;dsimp only at h
 have h0:St w0 (aU p s::aI a1 c1 X.x.parts::aB a2 c2 X.x.tail::pt b7 (.cells (X.x.V.cells a1 c1 a2 c2).toArray 87 (0,0))::aM t r q::(r.rows q++l)) w:=
  (St.lJ (s:=s)).2 ⟨k,h.o [5,6,7,8,3]⟩
 clear h;have h:=UO h0;clear h0;obtain⟨E,hE⟩:∃E,(aI a1 c1 X.x.parts::aB a2 c2 X.x.tail::pt b7 (.cells (X.x.V.cells a1 c1 a2 c2).toArray 87 (0,0))::l)=E:=⟨_,rfl⟩
 have D6:∀{A B:aC} {w:World},St w0 (A::B::E) w->St w0 (A::B::l) w:=by
  intro A B w h;rw[<- hE] at h;exact h.x [2,3,4]
 rw[hE] at h;refine Bm ?_;refine aD (qq (v:=.iz r.ph) rfl (h.b 0 rfl) rfl) rfl ?_;refine I1 ?_;by_cases p0:r.ph=0
 ·rw[if_pos p0] at key;refine qz (.bool true) (by congr 1;rw[beq_iff_eq];exact p0) ?_
  refine Gn ?_;refine aF rfl (qg rfl (fk (gq h)) ?_);clear h;rintro _ w ⟨rfl,h⟩;obtain⟨⟨r2,s2,d,ok⟩,hz⟩:∃z,r.use s=z:=⟨_,rfl⟩;rw[hz] at h key ⊢;dsimp only at h key ⊢;refine K6 ?_;refine E4 ?_;cases ok with
  |false=>
   rw[if_neg O2] at key;rw[key];refine vC ?_;refine Yh ?_;refine GX ?_;exact qv (qk (bQ ⟨rfl,D6 h⟩))
  |true=>
  rw[if_pos rfl] at key;refine vC ?_;refine Y8 ?_;obtain⟨q2,h⟩:=(St.run (r:=r2)).1 h;rw[<- hE] at h;refine oE ?_;refine AO ?_;refine aD (qx (l:=X.x.V.cells a1 c1 a2 c2) rfl rfl (qw (h.b 13 rfl) rfl)) rfl ?_;refine Y0 ?_;refine Yk ?_;refine aF rfl (qy (vs:=X.x.V.cells a1 c1 a2 c2) 0 h rfl rfl rfl rfl rfl rfl rfl fun w h=>?_);replace h:St w0 (aM t { r2 with x:=X.x } { q2 with pa:=a1,pc:=c1,ta:=a2,tc:=c2 }::iC q2.one r2.one::aB q2.s.a4 q2.s.c4 r2.slot.aQ::aI q2.s.a5 q2.s.c5 r2.slot.chunks::aB q2.n.a4 q2.n.c4 r2.next.aQ::aI q2.n.a5 q2.n.c5 r2.next.chunks::aI q2.pa q2.pc r2.x.parts::aB q2.ta q2.tc r2.x.tail::aB q2.ga q2.gc r2.got::aB q2.ra q2.rc r2.res.list::aU p s2::aI a1 c1 X.x.parts::aB a2 c2 X.x.tail::pt b7 (.cells (X.x.V.cells a1 c1 a2 c2).toArray 87 (0,0))::l) w:=h
  refine Yk ?_;refine aF rfl (qb 0 h rfl (show _=Value.iz X.told from rfl) rfl rfl rfl rfl fun w h=>?_);replace h:St w0 (aM t { r2 with x:=X.x,told:=X.told } { q2 with pa:=a1,pc:=c1,ta:=a2,tc:=c2 }::iC q2.one r2.one::aB q2.s.a4 q2.s.c4 r2.slot.aQ::aI q2.s.a5 q2.s.c5 r2.slot.chunks::aB q2.n.a4 q2.n.c4 r2.next.aQ::aI q2.n.a5 q2.n.c5 r2.next.chunks::aI q2.pa q2.pc r2.x.parts::aB q2.ta q2.tc r2.x.tail::aB q2.ga q2.gc r2.got::aB q2.ra q2.rc r2.res.list::aU p s2::aI a1 c1 X.x.parts::aB a2 c2 X.x.tail::pt b7 (.cells (X.x.V.cells a1 c1 a2 c2).toArray 87 (0,0))::l) w:=h
  refine Yk ?_;refine aF rfl (qb 0 h rfl (show _=Value.iz 2 from rfl) rfl rfl rfl rfl fun w h=>?_);obtain⟨R,hR⟩:∃R:aP,R={ r2 with x:=X.x,told:=X.told,ph:=2 }:=⟨_,rfl⟩
  obtain⟨Q,hQ⟩:∃Q:gX,Q={ q2 with pa:=a1,pc:=c1,ta:=a2,tc:=c2 }:=⟨_,rfl⟩
  replace h:St w0 (aM t R Q::aU p s2::(R.rows Q++(pt b7 (.cells (X.x.V.cells a1 c1 a2 c2).toArray 87 (0,0))::l))) w:=by
   rw[hR,hQ];exact(h.x [6,7]).o [0,8,1,2,3,4,5,9,10,6,7]
  refine yX ?_;refine Yb ?_;refine Yi ?_;by_cases hn0:n=0
  ·rw[if_pos hn0,<- hR] at key;rw[key];refine qz (.bool true) (by congr 1;rw[beq_iff_eq];exact hn0) ?_
   refine Yh ?_;refine oE ?_;refine aF rfl (qg rfl (me (L:=[]) (Uf _) Reads.nil h) ?_);clear h;rintro _ w ⟨rfl,h⟩;refine Y4 ?_;exact qv (qk (bQ ⟨rfl,h.x [2]⟩))
  rw[if_neg hn0] at key;replace key:r.tell s=({ R with ph:=if X.x.parts.length=0 then 3 else 2 },s2,1):=by rw[key,hR]
  rw[key];refine qz (.bool false) (by congr 1;rw[beq_eq_false_iff_ne];exact hn0) ?_
  refine Y8 ?_;refine qf (Γ:=Unit) (fun _=>[]) (fun _ w=>St w0 (bH t { R with ph:=if X.x.parts.length=0 then 3 else 2 }::aU p s2::pt b7 (.cells (X.x.V.cells a1 c1 a2 c2).toArray 87 (0,0))::l) w) ?_ ?_
  ·refine qK ?_;refine aD (qq (v:=.slice a1 X.x.parts.length c1) rfl (h.b 11 rfl) rfl) rfl ?_;refine rJ ?_;refine Yi ?_;by_cases h0:X.x.parts.length=0
   ·refine qz (.bool true) HH ?_;refine Yh ?_;refine AV ?_;refine aF rfl (qb 0 h rfl (show _=Value.iz 3 from rfl) rfl rfl rfl rfl fun w h=>?_);refine qv ⟨(),trivial,?_⟩;rw[if_pos h0];exact gq (r:={ R with ph:=3 }) h
   ·refine qz (.bool false) O6 ?_;refine qv (qt rfl (qa ⟨(),trivial,?_⟩));rw[if_neg h0];have e2:({ R with ph:=2 }:aP)=R:=by rw[hR]
    rw[e2];exact gq h
  clear h;rintro _ w e h;refine rC ?_;exact qv (qk (bQ ⟨rfl,h.x [2]⟩))
 rw[if_neg p0] at key;refine qz (.bool false) (by congr 1;rw[beq_eq_false_iff_ne];exact p0) ?_
 refine xN ?_;by_cases p2:r.ph=2
 ·rw[if_pos p2] at key;obtain⟨A0,A1⟩:=hpart p2;have xQ:=i8 r s X.aA;refine qz (.bool true) (by congr 1;rw[beq_iff_eq];exact p2) ?_
  refine vD ?_;refine qi ?_;refine oE ?_;refine Y0 ?_;refine aF rfl (qg rfl (mi hT X.aA A0 (gq h)) ?_);clear h;rintro _ w ⟨rfl,h⟩;obtain⟨⟨r2,s2,e2⟩,hz⟩:∃z,r.part s X.aA=z:=⟨_,rfl⟩;rw[hz] at h A1 xQ key ⊢;dsimp only at h A1 xQ key ⊢;refine HT ?_;refine Bi ?_;by_cases he:e2=0
  ·rw[if_neg (fun hh=>hh he)] at key;refine qz (.bool false) (by rw[he];rfl) ?_
   refine Y8 ?_;obtain⟨q2,h⟩:=vl h;rw[<- hE] at h;obtain⟨fin,fQ⟩:∃fin:Bool,decide (r2.i=(X.x.parts.length:Int)∨(r2.got.length:Int) ≥ wI (r2.told+n))=fin:=⟨_,rfl⟩
   replace key:r.tell s=({ r2 with ph:=if fin then 3 else 2 },s2,1):=by
    rw[key,<- fQ];by_cases hc:r2.i=(X.x.parts.length:Int)∨(r2.got.length:Int) ≥ wI (r2.told+n)
    ·rw[if_pos hc,if_pos KT]
    ·rw[if_neg hc,if_neg KT]
   rw[key];refine qf (Γ:=Unit) (fun _=>[]) (fun _ w=>St w0 (bH t { r2 with ph:=if fin then 3 else 2 }::aU p s2::aI a1 c1 X.x.parts::aB a2 c2 X.x.tail::pt b7 (.cells (X.x.V.cells a1 c1 a2 c2).toArray 87 (0,0))::l) w) ?_ ?_
   ·refine qf (Γ:=Unit) (fun _=>[(0,.pz t),(124,.bool fin)]) (fun _ w=>St w0 (aM t r2 q2::aU p s2::(r2.rows q2++(aI a1 c1 X.x.parts::aB a2 c2 X.x.tail::pt b7 (.cells (X.x.V.cells a1 c1 a2 c2).toArray 87 (0,0))::l))) w) ?_ ?_
    ·refine jz none (fun w=>St w0 (aM t r2 q2::aU p s2::(r2.rows q2++(aI a1 c1 X.x.parts::aB a2 c2 X.x.tail::pt b7 (.cells (X.x.V.cells a1 c1 a2 c2).toArray 87 (0,0))::l))) w) O1 O1 h.drew fun w h=>?_;refine Y6 ?_;refine qj rfl rfl rfl rfl h (fun _ h=>qh rfl (qq (v:=.iz r2.i) rfl (h.b 0 rfl) rfl)) ?_;refine Yj ?_;refine qj rfl rfl rfl rfl h (fun _ h=>qh rfl (qq (v:=.slice a1 X.x.parts.length c1) rfl (h.b 13 rfl) rfl)) ?_;refine De ?_;by_cases hi:r2.i=(X.x.parts.length:Int)
     ·refine cD rfl rfl rfl rfl h rfl (q9 (v':=.bool true) (gk rfl rfl) (by congr 1;rw[beq_iff_eq];exact hi)) ?_
      have e9:true=fin:=by rw[<- fQ];simp[hi]
      subst e9;refine Yx ?_;refine qu rfl rfl rfl rfl (fun _=>h) (fun _=>qp rfl rfl) (qu rfl rfl rfl rfl (fun _=>h) (fun _=>qp rfl rfl) (qu rfl rfl rfl rfl (fun _=>h) (fun _=>qp rfl rfl) (qu rfl rfl rfl rfl (fun _=>h) (fun _=>qp rfl rfl) (qu rfl rfl rfl rfl (fun _=>h) (fun _=>qp rfl rfl) (qu rfl rfl rfl rfl (fun _=>h) (fun _=>qp rfl rfl) ?_)))));refine qu rfl rfl rfl rfl (fun _=>h) (fun _=>qp rfl rfl) (qu rfl rfl rfl rfl (fun _=>h) (fun _=>qp rfl rfl) (qu rfl rfl rfl rfl (fun _=>h) (fun _=>qp rfl rfl) (qu rfl rfl rfl rfl (fun _=>h) (fun _=>qp rfl rfl) (qu rfl rfl rfl rfl (fun _=>h) (fun _=>qp rfl rfl) (qu rfl rfl rfl rfl (fun _=>h) (fun _=>qp rfl rfl) ?_)))));refine cD rfl rfl rfl rfl h rfl (jp rfl rfl rfl) ?_;exact qm ⟨(),gS,h⟩
     ·refine cD rfl rfl rfl rfl h rfl (q9 (v':=.bool false) (gk rfl rfl) (by congr 1;rw[beq_eq_false_iff_ne];exact hi)) ?_
      have e9:decide ((r2.got.length:Int) ≥ wI (r2.told+n))=fin:=by rw[<- fQ];simp[hi]
      refine Yx ?_;refine qu rfl rfl rfl rfl (fun _=>h) (fun _=>qe rfl rfl (j1 rfl)) (qu rfl rfl rfl rfl (fun _=>h) (fun _=>qe rfl rfl (uj rfl)) (qu rfl rfl rfl rfl (fun _=>h) (fun _=>qe rfl rfl (vj rfl)) ?_));refine qj rfl rfl rfl rfl h (fun _ h=>qe rfl rfl (qq (v:=.slice q2.ga r2.got.length q2.gc) rfl (h.b 0 rfl) rfl)) ?_;refine qu rfl rfl rfl rfl (fun _=>h) (fun _=>qe rfl rfl (iy rfl)) (qu rfl rfl rfl rfl (fun _=>h) (fun _=>qe rfl rfl (j1 rfl)) (qu rfl rfl rfl rfl (fun _=>h) (fun _=>qe rfl rfl (uj rfl)) (qu rfl rfl rfl rfl (fun _=>h) (fun _=>qe rfl rfl (vj rfl)) ?_)));refine qj rfl rfl rfl rfl h (fun _ h=>qe rfl rfl (qq (v:=.iz r2.told) rfl (h.b 0 rfl) rfl)) ?_;refine qu rfl rfl rfl rfl (fun _=>h) (fun _=>qe rfl rfl (v5 rfl)) (qu rfl rfl rfl rfl (fun _=>h) (fun _=>qe rfl rfl (vv rfl rfl)) ?_);refine qu rfl rfl rfl rfl (fun _=>h) (fun _=>qe rfl rfl (q9 (v':=.bool fin) (ka rfl rfl) (congrArg Value.bool e9))) ?_;refine cD rfl rfl rfl rfl h rfl (jc rfl rfl rfl) ?_;exact qm ⟨(),gS,h⟩
    clear h;rintro _ w e h;refine qo fin rfl (fun hs=>?_) (fun hs=>?_)
    ·refine AV ?_;refine aF rfl (qb 0 h rfl (show _=Value.iz 3 from rfl) rfl rfl rfl rfl fun w h=>?_);refine qv ⟨(),trivial,?_⟩;rw[if_pos hs];exact gq (r:={ r2 with ph:=3 }) h
    ·refine qa ⟨(),trivial,?_⟩;rw[if_neg (by rw[hs];decide)]
     have e2:({ r2 with ph:=2 }:aP)=r2:=by
      rw[p2] at xQ;obtain⟨_,_,ph,_,_,_,_,_,_,_,_,_,_,_,_,_⟩:=r2;dsimp only at xQ;subst xQ;rfl
     rw[e2];exact gq h
   clear h;rintro _ w e h;refine rC ?_;exact qv (qk (bQ ⟨rfl,h.x [2,3,4]⟩))
  ·rw[if_pos he] at key;rw[key];refine qz (.bool true) (by congr 1;rw[bne_iff_ne];exact he) ?_
   refine Yh ?_;obtain⟨z,Eo⟩:∃z,r2.fail s2=z:=⟨_,rfl⟩;refine qf (Γ:=Unit) (fun _=>[(0,.pz t),(1,.pz p),(12,.iz e2)]) (fun _ w=>St w0 (bH t z.1::aU p z.2::E) w) ?_ ?_
   ·have h0:=h;obtain⟨q2,h⟩:=(St.run (r:=r2)).1 h;refine Y7 ?_;refine aD (qq (v:=.pointer q2.one) rfl (h.b 0 rfl) rfl) rfl ?_;unfold aP.fail at Eo;cases ho:r2.one with
    |none=>
     rw[ho] at h Eo;obtain⟨h1,h⟩:=St.Ek.1 (h.f 1);rw[h1];refine aD (v6 rfl rfl) rfl ?_;refine qv (qt rfl (qa ⟨(),kK,?_⟩));rw[<- Eo];exact h0
    |some x=>
     clear h0;rw[ho] at h Eo;obtain⟨tk,h1,h⟩:=St.FJ.1 (h.f 1);have hone:(r2.C q2)[36]?=some (.pz tk):=congrArg (fun o=>some (Value.pointer o)) h1;rw[h1];refine aD (v6 rfl rfl) rfl ?_;refine Yh ?_;obtain⟨u,h⟩:=(St.lJ (s:=s2)).1 (h.f 10);replace h:St w0 (gW tk x::aK u.c s2.c::aM t r2 q2::bV p u::bF u.d s2.d::aE u.b s2.b::aS u.t s2.t.V::jX r2 q2 E) w:=h.o [5,2,6,0,1,3,4];refine jb [0,1,2,3,4,5,6,7,8] none (fun w=>St w0 (aM t r2 q2::bV p u::bF u.d s2.d::aE u.b s2.b::aS u.t s2.t.V::jX r2 q2 E) w) O1 O1 ?_;have hs:=h.drew;clear h;generalize w.drew=w1 at hs ⊢;have h:=hs.drop.drop;refine Y6 ?_;refine qj rfl rfl rfl rfl h (fun _ h=>qh rfl (qq (v:=.pz tk) rfl (h.b 0 rfl) hone)) ?_;refine Y6 ?_;refine qj rfl rfl rfl rfl h (fun _ h=>qh rfl (qq (v:=.pointer (some ⟨u.c,0,none⟩)) rfl (h.b 1 rfl) rfl)) ?_;refine Ym ?_;refine qd 8 rfl rfl rfl rfl ?_;refine qg rfl (dr A1 hs) ?_;clear h hs;intro _ w hs;have h:=hs.drop.drop;refine⟨fun _=>h,?_⟩;refine qm ⟨(),kK,?_⟩;rw[<- Eo];have h1':St w0 (bV p u::bF u.d s2.d::aK u.c (x.leave s2.c).2::aE u.b s2.b::aS u.t s2.t.V::gW tk (x.leave s2.c).1::aM t r2 q2::jX r2 q2 E) w:=hs.o [3,4,1,5,6,0,2];have h2:St w0 (aU p { s2 with c:=(x.leave s2.c).2 }::gW tk (x.leave s2.c).1::aM t r2 q2::jX r2 q2 E) w:=(St.lJ (s:={ s2 with c:=(x.leave s2.c).2 })).2 ⟨u,h1'⟩
     have h3:St w0 (iC q2.one (some (x.leave s2.c).1)::aU p { s2 with c:=(x.leave s2.c).2 }::aM t r2 q2::jX r2 q2 E) w:=St.FJ.2 ⟨tk,h1,h2.f 1⟩
     exact(St.run (r:={ r2 with one:=some (x.leave s2.c).1 })).2 ⟨q2,h3.o [2,0,3,4,5,6,7,8,9,10,1]⟩
   clear h A1 xQ;rintro _ w e h;rw[Eo];obtain⟨r3,s3⟩:=z;dsimp only at h ⊢;obtain⟨q3,h⟩:=vl h;refine oE ?_;refine aF rfl (qg rfl (ml h) ?_);clear h;rintro _ w ⟨rfl,h⟩;have h1:St w0 (bH t (r3.free s3).1::aU p (r3.free s3).2::E) w:=gq (r:=(r3.free s3).1) (q:=q3) h;clear h;refine rL ?_;refine Y0 ?_;refine aD (qc (r:=(⟨e2,0,[]⟩:iS).C none 0) rfl) rfl ?_;refine aF rfl (qg rfl (gf (res:=⟨e2,0,[]⟩) 3 ((h1.aZ 57 2).f 1)) ?_);clear h1;rintro _ w ⟨rfl,h⟩;refine Y4 ?_;exact qv (qk (bQ ⟨rfl,D6 h⟩))
 rw[if_neg p2] at key;rw[key];have Ll:=htold p0 p2;refine qz (.bool false) (by congr 1;rw[beq_eq_false_iff_ne];exact p2) ?_
 refine Ya ?_;refine xU ?_;rw[<- hE] at h;refine Y7 ?_;refine aD (qq (v:=.slice q.ga r.got.length q.gc) rfl (h.b 0 rfl) rfl) rfl ?_;refine Yz ?_;obtain⟨L,hL⟩:∃L,(if r.i=(X.x.parts.length:Int) then r.got++X.x.tail else r.got)=L:=⟨_,rfl⟩
 have Mz:L.length<=2097152:=by
  rw[<- hL];split
  ·rw[Ua];omega
  ·omega
 refine qf (Γ:=(Option Addr×Nat)×aC) (fun g=>[(0,.pz t),(1,.pz p),(5,.iz n),(13,.slice g.1.1 L.length g.1.2)])
  (fun g w=>Reads w0 (r.rows q++(g.2::aI a1 c1 X.x.parts::aB a2 c2 X.x.tail::pt b7 (.cells (X.x.V.cells a1 c1 a2 c2).toArray 87 (0,0))::l)) 2 g.1.1 L.length (aW L)∧L.length<=g.1.2∧
   St w0 (aM t r q::aU p s::(r.rows q++(g.2::aI a1 c1 X.x.parts::aB a2 c2 X.x.tail::pt b7 (.cells (X.x.V.cells a1 c1 a2 c2).toArray 87 (0,0))::l))) w) ?_ ?_
 ·refine qi ?_;refine jz none (fun w=>St w0 (aM t r q::aU p s::(r.rows q++(aI a1 c1 X.x.parts::aB a2 c2 X.x.tail::pt b7 (.cells (X.x.V.cells a1 c1 a2 c2).toArray 87 (0,0))::l))) w) O1 O1 h.drew fun w h=>?_;refine Y6 ?_;refine qj rfl rfl rfl rfl h (fun _ h=>qh rfl (qq (v:=.iz r.i) rfl (h.b 0 rfl) rfl)) ?_;refine Yj ?_;refine qj rfl rfl rfl rfl h (fun _ h=>qh rfl (qq (v:=.slice a1 X.x.parts.length c1) rfl (h.b 13 rfl) rfl)) ?_;refine De ?_;by_cases hi:r.i=(X.x.parts.length:Int)
  ·rw[if_pos hi] at hL;refine cD rfl rfl rfl rfl h rfl (q9 (v':=.bool true) (gk rfl rfl) (by congr 1;rw[beq_iff_eq];exact hi)) ?_
   refine qm ?_;refine vB ?_;refine IZ ?_;refine aD (qx (l:=X.x.V.cells a1 c1 a2 c2) rfl rfl (qw (h.b 13 rfl) rfl)) rfl ?_;have hwf:X.x.V.Wf:=⟨uu _,jm _,by show X.x.parts.length*40<=_;omega,by show X.x.tail.length*16<=_;omega⟩
   refine aF rfl (qg rfl (s9 hwf h (fun w' h'=>(h'.f 12).bU)) ?_);clear h;rintro _ w ⟨ta,tc,rfl,h⟩;replace h:St w0 (aB ta tc X.x.tail::aM t r q::aU p s::(r.rows q++(aI a1 c1 X.x.parts::aB a2 c2 X.x.tail::pt b7 (.cells (X.x.V.cells a1 c1 a2 c2).toArray 87 (0,0))::l))) w:=h;refine aF rfl (jq (r:=[.slice q.ga r.got.length q.gc,.slice ta X.x.tail.length tc]) h rfl rfl rfl fun b w h=>?_);refine aF rfl (qg rfl (wu (A:=r.got) (B:=X.x.tail) O0 O0 (Reads.own.more [_,_,_,_,_,_,_,_,_,_]) Reads.own h) ?_);clear h;rintro _ w ⟨o,oc,rfl,h⟩;rw[hL] at h ⊢;refine Yo ?_;replace h:St w0 (aB o oc L::aM t r q::aU p s::(r.rows q++(aI a1 c1 X.x.parts::aB a2 c2 X.x.tail::pt b7 (.cells (X.x.V.cells a1 c1 a2 c2).toArray 87 (0,0))::l))) w:=h.x [1];exact qv ⟨((o,oc),_),iA,Reads.own.more (r.rows q),h.bT.2.1,fy h⟩
  ·rw[if_neg hi] at hL;subst hL;refine cD rfl rfl rfl rfl h rfl (q9 (v':=.bool false) (gk rfl rfl) (by congr 1;rw[beq_eq_false_iff_ne];exact hi)) ?_
   refine qm ?_;refine xU ?_;exact⟨((q.ga,q.gc),eW 57 2 none 0 0 []),iA,Reads.own.more [_,_,_,_,_,_,_],(h.f 9).bT.2.1,fy (h.aZ 57 2)⟩
 clear h D6;rintro⟨⟨a,c⟩,D⟩ w e ⟨hrd,hcap,h⟩;dsimp only at hrd hcap h;obtain⟨i,hi⟩:∃i,(min r.told (L.length:Int)).toNat=i:=⟨_,rfl⟩;have hil:i<=L.length:=by omega
 obtain⟨j,hj⟩:∃j,(min n ((L.drop i).length:Int)).toNat=j:=⟨_,rfl⟩;have J2:(L.drop i).length=L.length-i:=Um;have hjl:j<=L.length-i:=by omega
 have UQ:j<=c-i:=by omega
 have hkey:r.BZ X n=(L.drop i).take j:=by
  unfold aP.BZ;rw[hL];dsimp only;rw[hi,hj]
 have hlen:((L.drop i).take j).length=j:=by rw[Ul];omega
 rw[hkey];refine Yd ?_;refine vE ?_;refine aD (qq (v:=.iz r.told) rfl (h.b 0 rfl) rfl) rfl ?_;refine sV ?_;refine K1 ?_;refine qz (.iz (i:Int)) (by congr 1;omega) ?_
 refine aD (gu (i:=i) rfl rfl hil) rfl ?_;refine Yz ?_;refine oE ?_;refine HO ?_;refine sV ?_;refine K1 ?_;refine qz (.iz (j:Int)) (by congr 1;omega) ?_
 refine aD (q9 (v':=.slice (nI a (i*2) (Nat.beq c i)) ((L.drop i).take j).length (c-i)) (vh (h:=j) rfl rfl UQ) (by rw[hlen];rfl)) rfl ?_
 have yF:Reads w0 (r.rows q++(D::aI a1 c1 X.x.parts::aB a2 c2 X.x.tail::pt b7 (.cells (X.x.V.cells a1 c1 a2 c2).toArray 87 (0,0))::l)) 2 (nI a (i*2) (Nat.beq c i)) ((L.drop i).take j).length (aW ((L.drop i).take j)):=by
  have:=(hrd.tail hil hcap).head hjl;rw[mz,my] at this;rw[hlen];exact this
 refine aF rfl (qg rfl (me (L:=(L.drop i).take j) O0 yF h) ?_);clear h;rintro _ w ⟨rfl,h⟩;refine Y4 ?_;exact qv (qk (bQ ⟨rfl,h.x [2,3,4,5]⟩))
end
end
section
section
variable{w0 w:World}{l:List aC}{t p:Nat}{r:aP}{s:cG}{q:gX}
theorem UR(o:gR)(h:St w0 l w):bP prog 36 [.agg o.C.toArray] w fun v w'=>v=.bool (aP.bad o)∧St w0 l w':=by
 refine en func36 results36 ntmps36 ?_;refine Y1 ?_;refine aF rfl (jk h (show _=Value.agg o.C.toArray from rfl) fun b w h=>?_);replace h:St w0 (pt b (.cells o.C.toArray 33 (0,0))::l) w:=h;refine Ya ?_;refine GW ?_;refine aD (qq (v:=.iz o.kind) rfl (h.b 0 rfl) rfl) rfl ?_;refine K2 ?_;obtain⟨Lm,Ep⟩:∃Lm:Bool,decide (1<=o.kind∧o.kind<=5)=Lm:=⟨_,rfl⟩;refine qf (Γ:=Unit) (fun _=>[(1,.pz b),(5,.bool Lm)]) (fun _ w=>St w0 (pt b (.cells o.C.toArray 33 (0,0))::l) w) ?_ ?_
 ·refine GN ?_;by_cases h1:o.kind=1
  ·refine qz (.bool true) KR ?_;refine Y3 ?_;exact qv (j6 rfl (qa ⟨(),⟨rfl,by rw[<- Ep,h1];rfl,trivial⟩,h⟩))
  refine qz (.bool false) KO ?_;refine xN ?_;by_cases h2:o.kind=2
  ·refine qz (.bool true) KQ ?_;refine Y3 ?_;exact qv (j6 rfl (qa ⟨(),⟨rfl,by rw[<- Ep,h2];rfl,trivial⟩,h⟩))
  refine qz (.bool false) KN ?_;refine xN ?_;by_cases h3:o.kind=3
  ·refine qz (.bool true) Nt ?_;refine Y3 ?_;exact qv (j6 rfl (qa ⟨(),⟨rfl,by rw[<- Ep,h3];rfl,trivial⟩,h⟩))
  refine qz (.bool false) Nq ?_;refine xN ?_;by_cases h4:o.kind=4
  ·refine qz (.bool true) (by congr 1;rw[beq_iff_eq];exact h4) ?_
   refine Y3 ?_;exact qv (j6 rfl (qa ⟨(),⟨rfl,by rw[<- Ep,h4];rfl,trivial⟩,h⟩))
  refine qz (.bool false) (by congr 1;rw[beq_eq_false_iff_ne];exact h4) ?_
  refine Bj ?_;refine je ?_;refine Yi ?_
  refine qz (.bool Lm) (by
   rw[<- Ep];by_cases h5:o.kind=5
   ·rw[h5];rfl
   ·congr 1;rw[show decide (1<=o.kind∧o.kind<=5)=false from by rw[decide_eq_false_iff_not];omega,beq_eq_false_iff_ne]
    exact h5) ?_
  refine Y3 ?_;exact qv ⟨(),gS,h⟩
 clear h;rintro _ w e h
 have fH:aP.bad o=if Lm then decide (o.aA<0)||decide (o.aA ≥ 16) else !(o.kind==6)&&!(o.kind==7):=by
  unfold aP.bad;rw[<- Ep];by_cases hc:1<=o.kind∧o.kind<=5
  ·rw[if_pos hc,if_pos KT]
  ·rw[if_neg hc,if_neg KT]
 refine qo Lm rfl (fun hk=>?_) (fun hk=>?_)
 ·rw[if_pos hk] at fH;refine qK ?_;refine aD (qq (v:=.iz o.aA) rfl (h.b 0 rfl) rfl) rfl ?_;refine yW ?_;by_cases h1:o.aA<0
  ·refine qz (.bool true) (by congr 1;rw[decide_eq_true_eq];exact h1) ?_
   have e9:aP.bad o=true:=by rw[fH,decide_eq_true h1];rfl
   refine yY ?_;refine Cs ?_;refine Y3 ?_;exact qv (qk (bQ ⟨congrArg Value.bool e9.symm,h.drop⟩))
  ·refine qz (.bool false) (by congr 1;rw[decide_eq_false_iff_not];exact h1) ?_
   have e9:aP.bad o=decide (o.aA ≥ 16):=by rw[fH,decide_eq_false h1,Bool.false_or]
   refine pV ?_;refine aD (qq (v:=.iz o.aA) rfl (h.b 0 rfl) rfl) rfl ?_;refine Yf ?_;refine tX ?_;refine xM ?_;exact qv (qk (bQ ⟨congrArg Value.bool e9.symm,h.drop⟩))
 ·rw[if_neg (by rw[hk];decide)] at fH
  refine Yu ?_;refine qK ?_;refine aD (qq (v:=.iz o.kind) rfl (h.b 0 rfl) rfl) rfl ?_;refine Bi ?_;by_cases h1:o.kind=6
  ·refine qz (.bool false) (by rw[h1];rfl) ?_
   have e9:aP.bad o=false:=by rw[fH,h1];rfl
   refine DZ ?_;refine xM ?_;exact qv (qk (bQ ⟨congrArg Value.bool e9.symm,h.drop⟩))
  ·refine qz (.bool true) Ns ?_;have e9:aP.bad o=(o.kind != 7):=by rw[fH,beq_eq_false_iff_ne.2 h1];rfl
   refine pV ?_;refine aD (qq (v:=.iz o.kind) rfl (h.b 0 rfl) rfl) rfl ?_;refine Yf ?_;refine Bi ?_;refine Dh ?_;exact qv (qk (bQ ⟨congrArg Value.bool e9.symm,h.drop⟩))
structure aP.mU(r:aP)(s:cG):Prop where
 read:r.over=false->aP.bad r.o=false->r.o.kind=2->r.nW s
 open_:r.over=false->aP.bad r.o=false->r.o.kind=5->r.CN s
 tell:r.over=false->aP.bad r.o=false->r.o.kind=6->r.CP s
 shut:r.over=false->aP.bad r.o=false->r.o.kind=7->s.t.Fits
 write:r.over=false->aP.bad r.o=false->r.o.kind≠2->r.o.kind≠5->r.o.kind≠6->r.o.kind≠7->r.AE s
theorem kq(hT:Tz w0)(hok:r.mU s)(h:St w0 (bH t r::aU p s::l) w):
  bP prog 15 [.pz t,.pz p] w fun v w'=>v=.iz (r.step s).2.2∧St w0 (bH t (r.step s).1::aU p (r.step s).2.1::l) w':=by
 obtain⟨k2,k5,k6,k7,kw⟩:=hok;have key:r.step s=if r.over then(r,s,0) else if aP.bad r.o then r.refuse s 4 else if r.o.kind=2 then r.read s else if r.o.kind=5 then r.open_ s else if r.o.kind=6 then r.tell s else if r.o.kind=7 then r.shut s else r.write s:=rfl
 have h0:=h;obtain⟨q,h⟩:=vl h;refine en func15 results15 ntmps15 ?_;refine Yr ?_;refine Ch ?_;refine Y7 ?_;refine aD (qq (v:=.bool r.over) rfl (h.b 0 rfl) rfl) rfl ?_;refine Y3 ?_;cases ho:r.over with
 |true=>
  rw[ho,if_pos rfl] at key;rw[key];refine Yy ?_;refine Y4 ?_;exact qv (qk (bQ ⟨rfl,h0⟩))
 |false=>
 rw[ho,if_neg O2] at key;refine Df ?_;refine Y7 ?_;refine aD (qx (l:=r.o.C) rfl rfl (qw (h.b 0 rfl) rfl)) rfl ?_;refine aF rfl (qg rfl (UR r.o h0) ?_);clear h h0;rintro _ w ⟨rfl,h⟩;refine Y3 ?_;cases hb:aP.bad r.o with
 |true=>
  rw[hb,if_pos rfl] at key;rw[key];refine Yh ?_;refine Yq ?_;refine aF rfl (qg rfl (vu 4 h) ?_);clear h;rintro _ w ⟨rfl,h⟩;refine Y4 ?_;exact qv (qk (bQ ⟨rfl,h⟩))
 |false=>
 rw[hb,if_neg O2] at key;refine Y8 ?_;have h0:=h;clear h;obtain⟨q,h⟩:=vl h0;refine Bm ?_;refine Yc ?_;refine aD (qq (v:=.iz r.o.kind) rfl (h.b 0 rfl) rfl) rfl ?_;clear h;refine I1 ?_;by_cases h2:r.o.kind=2
 ·rw[if_pos h2] at key;rw[key];refine qz (.bool true) KQ ?_;refine Gn ?_;refine aF rfl (qg rfl (ah hT (k2 ho hb h2) h0) ?_);clear h0;rintro _ w ⟨rfl,h⟩;refine Y4 ?_;exact qv (qk (bQ ⟨rfl,h⟩))
 rw[if_neg h2] at key;refine qz (.bool false) KN ?_;refine xN ?_;by_cases h5:r.o.kind=5
 ·rw[if_pos h5] at key;rw[key];refine qz (.bool true) (by congr 1;rw[beq_iff_eq];exact h5) ?_
  refine Gn ?_;refine aF rfl (qg rfl (am (k5 ho hb h5) h0) ?_);clear h0;rintro _ w ⟨rfl,h⟩;refine Y4 ?_;exact qv (qk (bQ ⟨rfl,h⟩))
 rw[if_neg h5] at key;refine qz (.bool false) (by congr 1;rw[beq_eq_false_iff_ne];exact h5) ?_
 refine xN ?_;by_cases h6:r.o.kind=6
 ·rw[if_pos h6] at key;rw[key];refine qz (.bool true) (by congr 1;rw[beq_iff_eq];exact h6) ?_
  refine Gn ?_;refine aF rfl (qg rfl (ai hT (k6 ho hb h6) h0) ?_);clear h0;rintro _ w ⟨rfl,h⟩;refine Y4 ?_;exact qv (qk (bQ ⟨rfl,h⟩))
 rw[if_neg h6] at key;refine qz (.bool false) (by congr 1;rw[beq_eq_false_iff_ne];exact h6) ?_
 refine xN ?_;by_cases h7:r.o.kind=7
 ·rw[if_pos h7] at key;rw[key];refine qz (.bool true) (by congr 1;rw[beq_iff_eq];exact h7) ?_
  refine Gn ?_;refine aF rfl (qg rfl (ap (k7 ho hb h7) h0) ?_);clear h0;rintro _ w ⟨rfl,h⟩;refine Y4 ?_;exact qv (qk (bQ ⟨rfl,h⟩))
 rw[if_neg h7] at key;rw[key];refine qz (.bool false) (by congr 1;rw[beq_eq_false_iff_ne];exact h7) ?_
 refine Ya ?_;refine xU ?_;refine oE ?_;refine aF rfl (qg rfl (tm hT (kw ho hb h2 h5 h6 h7) h0) ?_);clear h0;rintro _ w ⟨rfl,h⟩;refine Y4 ?_;exact qv (qk (bQ ⟨rfl,h⟩))
def aP.out(r:aP):iS:=if r.over then r.res else⟨0,0,[]⟩
theorem ym(hn:r.res.list.length<=1073741824)(h:St w0 (bH t r::l) w):
  bP prog 19 [.pz t] w fun v w'=>∃a c,v=.tuple [.agg (r.out.C a c).toArray,.bool r.over].toArray∧St w0 (aB a c r.out.list::bH t r::l) w':=by
 refine en func19 results19 ntmps19 ?_;refine Y1 ?_;refine aF rfl (qn h fun b w h=>?_);refine Ya ?_;refine E4 ?_;obtain⟨q,h⟩:=(St.run (r:=r)).1 (h.f 1);refine vE ?_;refine aD (qq (v:=.bool r.over) rfl (h.b 0 rfl) rfl) rfl ?_;cases ho:r.over with
 |false=>
  have e1:r.out=⟨0,0,[]⟩:=by unfold aP.out;rw[ho];rfl
  rw[e1];refine oO ?_;refine Yy ?_;refine aD (qc (r:=(⟨0,0,[]⟩:iS).C none 0) rfl) rfl ?_;refine aF rfl (qy (vs:=(⟨0,0,[]⟩:iS).C none 0) 10 h rfl rfl rfl rfl rfl rfl rfl fun w h=>?_);refine Y3 ?_;have h1:St w0 (bH t r::l) w:=(St.run (r:=r)).2 ⟨q,h.x [10]⟩;exact qv (qk (uR (l:=(⟨0,0,[]⟩:iS).C none 0) rfl rfl (qw (h.b 10 rfl) rfl) ⟨none,0,rfl,h1.aZ 57 2⟩))
 |true=>
  have e1:r.out=r.res:=by unfold aP.out;rw[ho];rfl
  rw[e1];refine Gl ?_;refine Y7 ?_;refine aD (qx (l:=r.res.C q.ra q.rc) rfl rfl (qw (h.b 0 rfl) rfl)) rfl ?_;refine aF rfl (qn h fun b4 w h=>?_);refine aF rfl (qy (vs:=r.res.C q.ra q.rc) 0 h rfl rfl rfl rfl rfl rfl rfl fun w h=>?_);replace h:St w0 (pt b4 (.cells (r.res.C q.ra q.rc).toArray 28 (0,0))::aM t r q::iC q.one r.one::aB q.s.a4 q.s.c4 r.slot.aQ::aI q.s.a5 q.s.c5 r.slot.chunks::aB q.n.a4 q.n.c4 r.next.aQ::aI q.n.a5 q.n.c5 r.next.chunks::aI q.pa q.pc r.x.parts::aB q.ta q.tc r.x.tail::aB q.ga q.gc r.got::aB q.ra q.rc r.res.list::pt b _::l) w:=h
  refine Cv ?_;refine aD (qq (v:=.slice q.ra r.res.list.length q.rc) rfl (h.b 0 rfl) rfl) rfl ?_;refine aF rfl (qg rfl (uk (xs:=aW r.res.list) h (fun w' h'=>(h'.f 10).bU) (jm _) O0) ?_);clear h;rintro _ w ⟨a,c,rfl,_,h⟩;refine Yc ?_;refine aF rfl (qb 1 h rfl (show _=Value.slice a r.res.list.length c from rfl) rfl rfl rfl rfl fun w h=>?_);replace h:St w0 (aB a c r.res.list::pt b4 (.cells (r.res.C a c).toArray 28 (0,0))::aM t r q::iC q.one r.one::aB q.s.a4 q.s.c4 r.slot.aQ::aI q.s.a5 q.s.c5 r.slot.chunks::aB q.n.a4 q.n.c4 r.next.aQ::aI q.n.a5 q.n.c5 r.next.chunks::aI q.pa q.pc r.x.parts::aB q.ta q.tc r.x.tail::aB q.ga q.gc r.got::aB q.ra q.rc r.res.list::pt b _::l) w:=h
  refine Yl ?_;refine aD (qx (l:=r.res.C a c) rfl rfl (qw (h.b 1 rfl) rfl)) rfl ?_;refine aF rfl (qy (vs:=r.res.C a c) 12 h rfl rfl rfl rfl rfl rfl rfl fun w h=>?_);refine Y3 ?_;have h1:St w0 (bH t r::aB a c r.res.list::l) w:=(St.run (r:=r)).2 ⟨q,(h.x [1,12]).o [1,2,3,4,5,6,7,8,9,10]⟩;exact qv (qk (uR (l:=r.res.C a c) rfl rfl (qw (h.b 12 rfl) rfl) ⟨a,c,rfl,h1.f 1⟩))
end
end
section
structure eR.Ok(S:eR):Prop where
 b1:S.bA<=1073741824
 y0:0<=S.bytes
 c0:0<=S.aR
 sum:S.bytes+S.aR<=S.bA
 l0:0<=S.last
 l1:S.last<4611686018427387904
abbrev eR.room(S:eR):Int:=S.bA-S.bytes-S.aR
section
variable{w0 w:World}{l:List aC}{p m:Nat}{S:eR}
theorem eR.Ok.used(o:S.Ok):IntKind.i64.wrap (S.bytes+S.aR)=S.bytes+S.aR:=by
 obtain⟨h1,h2,h3,h4,h5,h6⟩:=o;exact jf O0 O0
theorem eR.Ok.free(o:S.Ok):IntKind.i64.wrap (S.bA-IntKind.i64.wrap (S.bytes+S.aR))=S.room:=by
 rw[o.used];obtain⟨h1,h2,h3,h4,h5,h6⟩:=o;rw[jf O0 O0];show S.bA-(S.bytes+S.aR)=S.bA-S.bytes-S.aR;omega
theorem eR.Ok.next(o:S.Ok):IntKind.i64.wrap (S.last+1)=S.last+1:=by
 obtain⟨h1,h2,h3,h4,h5,h6⟩:=o;exact jf O0 O0
theorem eR.zR(o:S.Ok){n:Int}(hn:-4611686018427387904<=n)(hm:n<=S.room):S.nQ n={ S with aR:=S.aR+max n (-S.aR) }:=by
 obtain⟨h1,h2,h3,h4,h5,h6⟩:=o;have e0:IntKind.i64.wrap (0-S.aR)=-S.aR:=by rw[jf O0 O0];omega
 have PX:(if n < -S.aR then -S.aR else n)=max n (-S.aR):=by rw[Int.max_def];split <;> split <;> omega
 unfold eR.nQ;simp only[e0,PX];rw[jf O0 (by unfold eR.room at hm;omega)]
theorem fz(o:S.Ok)(h:St w0 (aE p S::l) w):bP prog 18 [.pz p] w fun v w'=>v=.iz (S.bytes+S.aR)∧St w0 (aE p S::l) w':=by
 have:=oq h;rw[o.used] at this;exact this
end
end
end Go.Proofs.YtngdfdangkdgcaaGreatDoor
namespace Go.Hw
section
section
variable{α κ β:Type}[DecidableEq κ]
def fC(f:α->Nat):List α->Nat
 |[]=>0
 |x::l=>f x+fC f l
theorem xF(f:α->Nat){x y:α}:∀{l:List α} {i:Nat},l[i]?=some x->fC f (l.set i y)+f x=fC f l+f y
 |[],i,h=>by simp at h
 |z::l,0,h=>by
  simp at h;subst h;simp only[Vh,fC];omega
 |z::l,i+1,h=>by
  have:=xF f (y:=y) (l:=l) (i:=i) Co;simp only[Vs,fC];omega
theorem DL(f:α->Nat){l:List α}{x:α}(h:x∈l):f x<=fC f l:=by
 induction l with
 |nil=>cases h
 |cons y l ih=>
  rcases Up.1 h with rfl|h
  ·simp only[fC];omega
  ·have:=ih h;simp only[fC];omega
def nG(f:β->Nat)(m:List (κ×β)):Nat:=fC (fun p=>f p.2) m
theorem B0(f:β->Nat){k:κ}{v:β}{m:List (κ×β)}(h:aH k m=none):nG f (aX k v m)=nG f m+f v:=by
 unfold nG;induction m with
 |nil=>simp[aX,fC]
 |cons p m ih=>
  obtain⟨j,u⟩:=p;rw[aH] at h;split at h
  ·cases h
  ·rename_i hj
   rw[aX,if_neg hj];simp only[fC];have:=ih h;omega
theorem sK(f:β->Nat){k:κ}{v x:β}{m:List (κ×β)}(h:aH k m=some x):nG f (aX k v m)+f x=nG f m+f v:=by
 unfold nG;induction m with
 |nil=>cases h
 |cons p m ih=>
  obtain⟨j,u⟩:=p;rw[aH] at h;split at h
  ·rename_i hj
   cases h
   rw[aX,if_pos hj];simp only[fC];omega
  ·rename_i hj
   rw[aX,if_neg hj];simp only[fC];have:=ih h;omega
theorem xG(f:β->Nat){k:κ}{x:β}{m:List (κ×β)}(h:aH k m=some x):nG f (bY k m)+f x=nG f m:=by
 unfold nG;induction m with
 |nil=>cases h
 |cons p m ih=>
  obtain⟨j,u⟩:=p;rw[aH] at h;split at h
  ·rename_i hj
   cases h
   rw[bY,if_pos hj];simp only[fC];omega
  ·rename_i hj
   rw[bY,if_neg hj];simp only[fC];have:=ih h;omega
theorem i9(f:β->Nat){k:κ}{x:β}{m:List (κ×β)}(h:aH k m=some x):f x<=nG f m:=by
 have:=xG f h;omega
theorem yn{k:κ}{x:β}{m:List (κ×β)}(h:aH k m=some x):k∈keys m:=by
 refine Xc fun hk=>?_;rw[dD.2 hk] at h;cases h
end
def rc(id:Int)(ps:List gP):Nat:=(ps.map (·.bB)).count id
theorem uh(id:Int):rc id []=0:=rfl
theorem zk(id:Int)(p:gP)(ps:List gP):rc id (p::ps)=rc id ps+if p.bB=id then 1 else 0:=by
 unfold rc;rw[Uy,List.count_cons];congr 1;by_cases h:p.bB=id
 ·simp[h]
 ·simp[h]
theorem ma(id:Int)(ps qs:List gP):rc id (ps++qs)=rc id ps+rc id qs:=by
 unfold rc;rw[Vo,List.count_append]
theorem ti{p:gP}{ps:List gP}(h:p∈ps):0<rc p.bB ps:=by
 unfold rc;rw[List.count_pos_iff];exact Va.2 ⟨p,h,rfl⟩
theorem mr(id:Int)(ps:List gP):rc id ps<=ps.length:=by
 unfold rc;have:=List.count_le_length (a:=id) (l:=ps.map (·.bB))
 rwa [Vf] at this
end
end Go.Hw
namespace Go.Proofs.YtngdfdangkdgcaaGreatDoor
open Go.Hw _root_.Go.Proofs.Tryz
section
structure fZ where
 tag:Int
 L:List bZ
structure fZ.Ok(b:fZ)(bs:List UInt8):Prop where
 make:dG b.tag b.L=some bs
 ne:b.L≠[]
 wf:∀x∈b.L,x.Wf
 xH:lF b.L=true
 len:b.L.length<=65535
 t1:1<=b.tag
 t6:b.tag<=6
theorem fZ.Ok.gQ{b:fZ}{bs:List UInt8}(h:b.Ok bs):bs.length<=4000000:=BV h.wf h.make
theorem fZ.Ok.opens{b:fZ}{bs:List UInt8}(h:b.Ok bs):eJ bs=some (b.L,b.tag.toNat):=BQ h.wf (by have:=h.gQ;omega) h.make
abbrev Er:Nat:=1099511627776
structure cV(S:eR)(cnt:Int->Nat)(ch:Nat)(G:Int->fZ):Prop where
 nd:(keys S.l).Nodup
 Gz:∀id,id∈keys S.l->1<=id∧id<=S.last
 has:∀id e,aH id S.l=some e->e.holds=(cnt id:Int)∧(G id).Ok e.bs
 pos:∀id,0<cnt id↔(aH id S.l).isSome=true
 big:∀id,cnt id<=Er
 sum:S.bytes=(nG (fun e:Kept=>e.bs.length) S.l:Nat)
 jD:S.aR=16*(ch:Int)
 ok:S.Ok
variable{S:eR}{cnt iD:Int->Nat}{ch:Nat}{G:Int->fZ}
theorem cV.alive(h:cV S cnt ch G){id:Int}(hp:0<cnt id):∃e,aH id S.l=some e∧(G id).Ok e.bs∧1<=id∧id<=S.last:=by
 obtain⟨e,he⟩:=Wj.1 ((h.pos id).1 hp);exact⟨e,he,(h.has id e he).2,h.Gz id (yn he)⟩
theorem cV.eqv(h:cV S cnt ch G)(hc:∀id,iD id=cnt id):cV S iD ch G:=by
 have:iD=cnt:=funext hc;rw[this];exact h
theorem cV.MU(h:cV S cnt ch G){id:Int}{e:Kept}(he:aH id S.l=some e)(hc:∀j,iD j=cnt j+if id=j then 1 else 0)(hb:∀j,iD j<=Er):cV (S.put id ⟨e.bs,IntKind.i64.wrap (e.holds+1)⟩) iD ch G:=by
 obtain⟨h1,h2⟩:=h.has id e he;have hk:id∈keys S.l:=yn he;have FU:=hb id;rw[hc,if_pos rfl] at FU;have hw:IntKind.i64.wrap (e.holds+1)=((cnt id+1:Nat):Int):=by rw[h1,jf O0 (by unfold Er at FU;omega)];omega
 refine⟨vg h.nd,fun j hj=>?_,fun j x hx=>?_,fun j=>?_,hb,?_,h.jD,⟨h.ok.b1,h.ok.y0,h.ok.c0,h.ok.sum,h.ok.l0,h.ok.l1⟩⟩
 ·have hj':j∈keys (aX id (⟨e.bs,IntKind.i64.wrap (e.holds+1)⟩:Kept) S.l):=hj;rw[vx,if_pos hk] at hj';exact h.Gz j hj'
 ·have hx':aH j (aX id (⟨e.bs,IntKind.i64.wrap (e.holds+1)⟩:Kept) S.l)=some x:=hx;rw[jg] at hx';split at hx'
  ·rename_i hj
   subst hj;obtain rfl:=Uk hx';rw[hc,if_pos rfl];exact⟨hw,h2⟩
  ·rename_i hj
   rw[hc,if_neg (fun e=>hj e.symm)];exact h.has j x hx'
 ·show _↔(aH j (aX id (⟨e.bs,IntKind.i64.wrap (e.holds+1)⟩:Kept) S.l)).isSome=true;rw[jg];by_cases hj:j=id
  ·subst hj;rw[hc,if_pos rfl,if_pos rfl];exact⟨fun _=>rfl,fun _=>by omega⟩
  ·rw[hc,if_neg (fun e=>hj e.symm),if_neg hj];exact h.pos j
 ·have:=sK (fun e:Kept=>e.bs.length) (v:=⟨e.bs,IntKind.i64.wrap (e.holds+1)⟩) he;show S.bytes=(nG (fun e:Kept=>e.bs.length) (aX id ⟨e.bs,IntKind.i64.wrap (e.holds+1)⟩ S.l):Nat);rw[h.sum];have h3:nG (fun e:Kept=>e.bs.length) (aX id ⟨e.bs,IntKind.i64.wrap (e.holds+1)⟩ S.l)=nG (fun e:Kept=>e.bs.length) S.l:=by(try dsimp only at this);omega
  rw[h3]
theorem cV.hold:∀{ps:List gP} {S:eR} {cnt:Int->Nat} (dn:List gP),cV S cnt ch G->(∀p∈ps,0<cnt p.bB)->(∀j,iD j=cnt j+rc j ps)->(∀j,iD j<=Er)->
  (S.hold dn ps).1=true∧cV (S.hold dn ps).2 iD ch G∧(S.hold dn ps).2.last=S.last∧(S.hold dn ps).2.bA=S.bA∧(S.hold dn ps).2.bytes=S.bytes
 |[],S,cnt,dn,h,_,hc,_=>⟨rfl,h.eqv fun j=>by rw[hc,uh];rfl,rfl,rfl,rfl⟩
 |p::ps,S,cnt,dn,h,hp,hc,hb=>by
  obtain⟨e,he,_⟩:=h.alive (hp p (Ud ..));have h1:=h.MU (iD:=fun j=>cnt j+if p.bB=j then 1 else 0) he (fun j=>rfl) (fun j=>by have:=hb j;rw[hc,zk] at this;(try dsimp only);omega)
  have h2:=cV.hold (ps:=ps) (dn++[p]) h1 (fun q hq=>by have:=hp q (Uh _ hq);(try dsimp only);omega) (fun j=>by rw[hc,zk];(try dsimp only);omega) hb
  rw[eR.hold,he];exact h2
theorem cV.MV(h:cV S cnt ch G){id:Int}{e:Kept}(he:aH id S.l=some e)(hc:∀j,cnt j=iD j+if id=j then 1 else 0):cV (S.left id e) iD ch G∧(S.left id e).last=S.last∧(S.left id e).bA=S.bA:=by
 obtain⟨h1,h2⟩:=h.has id e he;have hk:id∈keys S.l:=yn he;have PY:=hc id;rw[if_pos rfl] at PY;have FU:=h.big id;have hw:IntKind.i64.wrap (e.holds-1)=(iD id:Int):=by rw[h1,jf O0 (by unfold Er at FU;omega)];omega
 have hb:∀j,iD j<=Er:=fun j=>by have:=hc j;have:=h.big j;omega
 have hle:=i9 (fun e:Kept=>e.bs.length) he;have hsum:=h.sum;unfold eR.left;rw[hw];by_cases h0:(iD id:Int)=0
 ·rw[if_pos h0]
  have PZ:IntKind.i64.wrap (S.bytes-e.bs.length)=S.bytes-e.bs.length:=by
   obtain⟨k1,k2,k3,k4,_,_⟩:=h.ok
   (try dsimp only at hle)
   exact jf O0 O0
  rw[PZ];refine⟨⟨kb h.nd,fun j hj=>h.Gz j ?_,fun j x hx=>?_,fun j=>?_,hb,?_,h.jD,?_⟩,rfl,rfl⟩
  ·have hj':j∈keys (bY id S.l):=hj;rw[ye] at hj';exact Xe hj'
  ·have hx':aH j (bY id S.l)=some x:=hx;rw[j7 _ _ _ h.nd] at hx';split at hx'
   ·cases hx'
   ·rename_i hj
    have:=h.has j x hx';rw[hc j,if_neg (fun e=>hj e.symm)] at this;exact this
  ·show _↔(aH j (bY id S.l)).isSome=true;rw[j7 _ _ _ h.nd];by_cases hj:j=id
   ·subst hj;rw[if_pos rfl];exact⟨fun _=>by omega,fun hh=>by cases hh⟩
   ·rw[if_neg hj,<- h.pos j,hc j,if_neg (fun e=>hj e.symm)];rfl
  ·show S.bytes-e.bs.length=_;have:=xG (fun e:Kept=>e.bs.length) he;rw[hsum]
   (try dsimp only at this ⊢)
   omega
  ·obtain⟨k1,k2,k3,k4,k5,k6⟩:=h.ok
   (try dsimp only at hle)
   exact⟨k1,Cb,k3,Cb,k5,k6⟩
 ·rw[if_neg h0];refine⟨⟨vg h.nd,fun j hj=>?_,fun j x hx=>?_,fun j=>?_,hb,?_,h.jD,⟨h.ok.b1,h.ok.y0,h.ok.c0,h.ok.sum,h.ok.l0,h.ok.l1⟩⟩,rfl,rfl⟩
  ·have hj':j∈keys (aX id (⟨e.bs,(iD id:Int)⟩:Kept) S.l):=hj;rw[vx,if_pos hk] at hj';exact h.Gz j hj'
  ·have hx':aH j (aX id (⟨e.bs,(iD id:Int)⟩:Kept) S.l)=some x:=hx;rw[jg] at hx';split at hx'
   ·rename_i hj
    subst hj;obtain rfl:=Uk hx';exact⟨rfl,h2⟩
   ·rename_i hj
    have:=h.has j x hx';rw[hc j,if_neg (fun e=>hj e.symm)] at this;exact this
  ·show _↔(aH j (aX id (⟨e.bs,(iD id:Int)⟩:Kept) S.l)).isSome=true;rw[jg];by_cases hj:j=id
   ·subst hj;rw[if_pos rfl];exact⟨fun _=>rfl,fun _=>by omega⟩
   ·rw[if_neg hj,<- h.pos j,hc j,if_neg (fun e=>hj e.symm)];rfl
  ·have:=sK (fun e:Kept=>e.bs.length) (v:=⟨e.bs,(iD id:Int)⟩) he;show S.bytes=(nG (fun e:Kept=>e.bs.length) (aX id ⟨e.bs,(iD id:Int)⟩ S.l):Nat);have h3:nG (fun e:Kept=>e.bs.length) (aX id ⟨e.bs,(iD id:Int)⟩ S.l)=nG (fun e:Kept=>e.bs.length) S.l:=by(try dsimp only at this);omega
   rw[h3,hsum]
theorem cV.leave:∀{ps:List gP} {S:eR} {cnt:Int->Nat},cV S cnt ch G->(∀j,cnt j=iD j+rc j ps)->cV (S.leave ps) iD ch G∧(S.leave ps).last=S.last∧(S.leave ps).bA=S.bA
 |[],S,cnt,h,hc=>⟨h.eqv fun j=>by rw[hc,uh];rfl,rfl,rfl⟩
 |p::ps,S,cnt,h,hc=>by
  have US:=hc p.bB;rw[zk,if_pos rfl] at US;obtain⟨e,he,_⟩:=h.alive (id:=p.bB) O0;obtain⟨h1,h2,h3⟩:=h.MV (iD:=fun j=>iD j+rc j ps) he (fun j=>by rw[hc,zk];(try dsimp only);omega)
  obtain⟨k1,k2,k3⟩:=cV.leave (ps:=ps) h1 (fun j=>rfl);rw[eR.leave,he];exact⟨k1,k2.trans h2,k3.trans h3⟩
theorem cV.add(h:cV S cnt ch G){G':Int->fZ}{bs:List UInt8}(hl:S.last<Er)(hok:(G' (S.last+1)).Ok bs)(hG:∀id,id<=S.last->G' id=G id)(hc:∀j,iD j=cnt j+if S.last+1=j then 1 else 0):
  (S.add bs=none∧S.room<bs.length)∨∃S',S.add bs=some (S',S.last+1)∧cV S' iD ch G'∧S'.last=S.last+1∧S'.bA=S.bA∧(bs.length:Int)<=S.room:=by
 have xA:=hok.gQ;have hfr:=h.ok.free;have EO:=h.ok.next
 have hnk:S.last+1∉keys S.l:=fun hk=>by have:=(h.Gz _ hk).2;omega
 have hmn:aH (S.last+1) S.l=none:=dD.2 hnk
 have hc0:cnt (S.last+1)=0:=by
  have:=h.pos (S.last+1);rw[hmn] at this;have:¬0<cnt (S.last+1):=fun hp=>by have:=this.1 hp;cases this
  omega
 unfold eR.add wI;rw[hfr,EO];by_cases hr:S.room<bs.length
 ·exact .inl ⟨if_pos hr,hr⟩
 ·rw[if_neg hr];have hroom:(bs.length:Int)<=S.bA-S.bytes-S.aR:=by have:S.room=S.bA-S.bytes-S.aR:=rfl;omega
  obtain⟨k1,k2,k3,k4,k5,k6⟩:=h.ok;have PZ:IntKind.i64.wrap (S.bytes+bs.length)=S.bytes+bs.length:=jf O0 O0;rw[PZ];refine .inr ⟨_,rfl,⟨vg h.nd,fun j hj=>?_,fun j x hx=>?_,fun j=>?_,fun j=>?_,?_,h.jD,?_⟩,rfl,rfl,cI⟩
  ·have hj':j∈keys (aX (S.last+1) (⟨bs,1⟩:Kept) S.l):=hj;rw[vx,if_neg hnk,Vc] at hj';rcases hj' with hj' | hj'
   ·have:=h.Gz j hj';exact⟨this.1,by show j<=S.last+1;omega⟩
   ·rw[Vi] at hj';subst hj';exact⟨cI,Ut _⟩
  ·have hx':aH j (aX (S.last+1) (⟨bs,1⟩:Kept) S.l)=some x:=hx;rw[jg] at hx';split at hx'
   ·rename_i hj
    subst hj;obtain rfl:=Uk hx';rw[hc,if_pos rfl,hc0];exact⟨rfl,hok⟩
   ·rename_i hj
    rw[hc,if_neg (fun e=>hj e.symm),hG j (h.Gz j (yn hx')).2];exact h.has j x hx'
  ·show _↔(aH j (aX (S.last+1) (⟨bs,1⟩:Kept) S.l)).isSome=true;rw[jg];by_cases hj:j=S.last+1
   ·subst hj;rw[if_pos rfl,hc,if_pos rfl];exact⟨fun _=>rfl,fun _=>by omega⟩
   ·rw[if_neg hj,hc,if_neg (fun e=>hj e.symm)];exact h.pos j
  ·rw[hc];have:=h.big j;split
   ·rename_i hj;rw[<- hj,hc0];unfold Er;omega
   ·exact this
  ·show S.bytes+bs.length=(nG (fun e:Kept=>e.bs.length) (aX (S.last+1) ⟨bs,1⟩ S.l):Nat);rw[B0 _ hmn,h.sum];rfl
  ·exact⟨k1,Cb,k3,Cb,Cb,by dsimp only;unfold Er at hl;omega⟩
theorem cV.nQ(h:cV S cnt ch G)(k:Nat)(hk:k<=1000000):
  (S.jD (16*(k:Int))=(false,S)∧S.room<16*(k:Int))∨∃S',S.jD (16*(k:Int))=(true,S')∧S'={ S with aR:=S.aR+16*(k:Int) }∧cV S' cnt (ch+k) G∧16*(k:Int)<=S.room:=by
 have hfr:=h.ok.free;have xR:=h.jD;obtain⟨k1,k2,k3,k4,k5,k6⟩:=h.ok;have hroom:S.room=S.bA-S.bytes-S.aR:=rfl;unfold eR.jD wI;rw[hfr];by_cases hc:16*(k:Int)>0∧16*(k:Int)>S.room
 ·exact .inl ⟨if_pos hc,hc.2⟩
 ·rw[if_neg hc]
  have hr:16*(k:Int)<=S.room:=by
   refine Xc fun hn=>hc ⟨?_,?_⟩ <;> omega
  have hm:max (16*(k:Int)) (-S.aR)=16*(k:Int):=by omega
  have e:=eR.zR h.ok (n:=16*(k:Int)) O0 hr;rw[hm] at e;refine .inr ⟨_,by rw[e],rfl,⟨h.nd,h.Gz,h.has,h.pos,h.big,h.sum,Cb,⟨k1,k2,Cb,Cb,k5,k6⟩⟩,hr⟩
theorem cV.free(h:cV S cnt ch G)(k:Nat)(hk:k<=ch)(h6:k<=1000000):S.jD (-(16*(k:Int)))=(true,{ S with aR:=S.aR-16*(k:Int) })∧cV { S with aR:=S.aR-16*(k:Int) } cnt (ch-k) G:=by
 have hfr:=h.ok.free;have xR:=h.jD;obtain⟨k1,k2,k3,k4,k5,k6⟩:=h.ok;have hroom:S.room=S.bA-S.bytes-S.aR:=rfl;unfold eR.jD wI;rw[hfr,if_neg O0];have hm:max (-(16*(k:Int))) (-S.aR)=-(16*(k:Int)):=by omega
 have e:=eR.zR h.ok (n:=-(16*(k:Int))) O0 O0;rw[hm] at e;refine⟨by rw[e];rfl,⟨h.nd,h.Gz,h.has,h.pos,h.big,h.sum,Cb,⟨k1,k2,Cb,Cb,k5,k6⟩⟩⟩
end
section
abbrev jY(L:List bZ):Prop:=L.Pairwise fun x y=>x.T<y.T
theorem B1:∀(l:List bZ) (t:Int),mN t l=true↔(∀s∈l,t<s.T)∧jY l
 |[],t=>by simp[mN]
 |s::r,t=>by
  have ih:=B1 r s.T;rw[mN,Ur,decide_eq_true_eq,ih,show jY (s::r)↔_ from List.pairwise_cons];constructor
  ·rintro⟨h1,h2,h3⟩;refine⟨fun x hx=>?_,h2,h3⟩;rcases Up.1 hx with rfl|hx
   ·exact h1
   ·exact Int.lt_trans h1 (h2 x hx)
  ·rintro⟨h1,h2,h3⟩;exact⟨h1 s (Ud ..),h2,h3⟩
theorem UT:∀l:List bZ,lF l=true↔jY l
 |[]=>by simp[lF]
 |s::r=>by rw[lF,B1,show jY (s::r)↔_ from List.pairwise_cons]
theorem nY(L:List bZ)(x:bZ):eG (L++[x])=x.T:=by unfold eG;simp
theorem m0{L:List bZ}(h:jY L):∀s∈L,fV L<=s.T∧s.T<=eG L:=by
 intro s hs;constructor
 ·cases L with
  |nil=>cases hs
  |cons x r=>
   show x.T<=s.T;rcases Up.1 hs with rfl|hs
   ·exact Ut _
   ·exact Int.le_of_lt ((List.pairwise_cons.1 h).1 s hs)
 ·have hne:L≠[]:=fun e=>by rw[e] at hs;cases hs
  have e:=List.dropLast_concat_getLast hne;rw[<- e] at hs h ⊢;rw[nY];rcases Vc.1 hs with hs|hs
  ·exact Int.le_of_lt ((Kj.1 h).2.2 s hs _ (Vi.2 rfl))
  ·rw[Vi] at hs;rw[hs];exact Ut _
theorem ae{L:List bZ}{x:bZ}(h:jY L)(hx:L=[]∨eG L<x.T):jY (L++[x]):=by
 refine Kj.2 ⟨h,List.pairwise_singleton _ _,fun a ha b hb=>?_⟩;rw[Vi] at hb;rw[hb];rcases hx with rfl|hx
 ·cases ha
 ·exact Int.lt_of_le_of_lt (m0 h a ha).2 hx
theorem bk(L M:List bZ)(f t:Int):within (L++M) f t=within L f t++within M f t:=by unfold within;rw[List.filter_append]
variable{G G':Int->fZ}{b b':Int}
def rowsOf(G:Int->fZ)(ps:List gP):List bZ:=ps.flatMap fun p=>(G p.bB).L
theorem mG(p:gP)(ps:List gP):rowsOf G (p::ps)=(G p.bB).L++rowsOf G ps:=rfl
theorem yM(ps qs:List gP):rowsOf G (ps++qs)=rowsOf G ps++rowsOf G qs:=by unfold rowsOf;rw[Xp]
structure gE(G:Int->fZ)(b:Int)(p:gP):Prop where
 Rw:1<=p.bB
 Iz:p.bB<=b
 ne:(G p.bB).L≠[]
 wf:∀x∈(G p.bB).L,x.Wf
 xH:jY (G p.bB).L
 len:(G p.bB).L.length<=8
 tag:p.tag=(G p.bB).tag
 count:p.count=((G p.bB).L.length:Int)
 lX:p.lX=fV (G p.bB).L
 upto:p.upto=eG (G p.bB).L
theorem gE.more{p:gP}(h:gE G b p)(hb:b<=b')(hG:∀id,id<=b->G' id=G id):gE G' b' p:=by
 have e:=hG _ h.Iz;exact⟨h.Rw,Wd h.Iz hb,by rw[e];exact h.ne,by rw[e];exact h.wf,by rw[e];exact h.xH,by rw[e];exact h.len,by rw[e];exact h.tag,by rw[e];exact h.count,by rw[e];exact h.lX,by rw[e];exact h.upto⟩
theorem B2{ps:List gP}(h:∀p∈ps,gE G b p)(hG:∀id,id<=b->G' id=G id):rowsOf G' ps=rowsOf G ps:=by
 induction ps with
 |nil=>rfl
 |cons p ps ih=>
  rw[mG,mG,ih fun q hq=>h q (Uh _ hq),hG _ (h p (Ud ..)).Iz]
theorem fx{p:gP}(h:gE G b p){f t:Int}(hn:¬max p.lX f<=min p.upto t):within (G p.bB).L f t=[]:=by
 refine List.filter_eq_nil_iff.2 fun s hs hc=>hn ?_;obtain⟨h1,h2⟩:=m0 h.xH s hs;rw[<- h.lX] at h1;rw[<- h.upto] at h2;simp only[Ur,decide_eq_true_eq] at hc;omega
theorem nl{ps:List gP}(h:∀p∈ps,gE G b p)(f t:Int):within (rowsOf G ps) f t=(fN f t ps).flatMap fun p=>within (G p.bB).L f t:=by
 induction ps with
 |nil=>rfl
 |cons p ps ih=>
  have ih:=ih fun q hq=>h q (Uh _ hq);rw[mG,bk,ih];unfold fN;by_cases hc:max p.lX f<=min p.upto t
  ·rw[List.filter_cons_of_pos KT,Ui]
  ·rw[List.filter_cons_of_neg KT,fx (h p (Ud ..)) hc,Us]
def aG.all(G:Int->fZ)(s:aG):List bZ:=rowsOf G s.chunks++s.aQ
structure cL(G:Int->fZ)(b:Int)(s:aG):Prop where
 no:s.there=false->s.aQ=[]∧s.chunks=[]
 yes:s.there=true->s.any=true∧s.all G≠[]∧s.last=eG (s.all G)
 gQ:s.aQ.length<=7
 closed:s.closed=true->s.aQ=[]
 wf:∀x∈s.aQ,x.Wf
 kS:∀p∈s.chunks,gE G b p
 xH:jY (s.all G)
variable{s:aG}
theorem cL.more(h:cL G b s)(hb:b<=b')(hG:∀id,id<=b->G' id=G id):cL G' b' s∧s.all G'=s.all G:=by
 have e:s.all G'=s.all G:=by unfold aG.all;rw[B2 h.kS hG]
 exact⟨⟨h.no,by rw[e];exact h.yes,h.gQ,h.closed,h.wf,fun p hp=>(h.kS p hp).more hb hG,by rw[e];exact h.xH⟩,e⟩
theorem cL.cW(h:cL G b s)(v:Int):cL G b { s with cW:=v }:=⟨h.no,h.yes,h.gQ,h.closed,h.wf,h.kS,h.xH⟩
def mE.all(G:Int->fZ)(x:mE):List bZ:=(x.parts.flatMap fun p=>within (G p.bB).L x.lX x.upto)++x.tail
theorem cL.snap(h:cL G b s)(f t:Int):(s.snap f t).all G=within (s.all G) f t:=by
 unfold aG.all;rw[bk,nl h.kS];rfl
theorem cL.tQ(h:cL G b s)(f t:Int):∀p∈(s.snap f t).parts,gE G b p:=fun p hp=>h.kS p (Xy.1 hp).1
theorem mE.same{x:mE}(h:∀p∈x.parts,gE G b p)(hG:∀id,id<=b->G' id=G id):x.all G'=x.all G:=by
 unfold mE.all;congr 1;generalize x.parts=ps at h;induction ps with
 |nil=>rfl
 |cons p ps ih=>rw[Ui,Ui,ih fun q hq=>h q (Uh _ hq),hG _ (h p (Ud ..)).Iz]
def aG.more(s:aG)(x:bZ):aG:={ (if s.there then s else { aG.zero with there:=true,bN:=s.bN }) with any:=true,last:=x.T,aQ:=s.aQ++[x] }
theorem cL.sL(h:cL G b s)(x:bZ):(s.more x).all G=s.all G++[x]:=by
 unfold aG.more aG.all;cases ht:s.there with
 |true=>dsimp only;rw[if_pos rfl,Uo]
 |false=>
  obtain⟨h1,h2⟩:=h.no ht;rw[h1,h2];rfl
theorem cL.xI(h:cL G b s)(x:bZ):(s.more x).aQ=s.aQ++[x]∧(s.more x).chunks=s.chunks∧(s.more x).there=true∧(s.more x).any=true∧(s.more x).last=x.T∧(s.more x).bN=s.bN:=by
 unfold aG.more;cases ht:s.there with
 |true=>exact⟨rfl,rfl,ht,rfl,rfl,rfl⟩
 |false=>
  obtain⟨h1,h2⟩:=h.no ht;refine⟨rfl,?_,rfl,rfl,rfl,rfl⟩;rw[h2];rfl
def aG.shut(s:aG)(p:gP):aG:={ s with chunks:=s.chunks++[p],aQ:=[] }
theorem aG.xJ(s:aG){p:gP}(hp:(G p.bB).L=s.aQ):(s.shut p).all G=s.all G:=by
 unfold aG.shut aG.all;rw[yM,mG,hp];show _++(s.aQ++[])++[]=_;rw[Ux,Ux]
def partOf(id:Int)(L:List bZ):gP:=⟨id,1,(L.length:Int),fV L,eG L⟩
theorem made{L:List bZ}(hne:L≠[])(hwf:∀x∈L,x.Wf)(hr:jY L)(hl:L.length<=65535):∃bs,dG 1 L=some bs∧fZ.Ok ⟨1,L⟩ bs∧(fO bs).map (·.1)=some ⟨1,L.length,fV L,eG L⟩:=by
 have lT:=(UT L).2 hr;have hris:rising L=true:=by unfold rising;rw[lT,decide_eq_true hl];rfl
 have P0:∃x,cU 1 L=some x:=by
  unfold cU;rw[if_pos hris];unfold cQ;rw[if_pos rfl];exact⟨_,rfl⟩
 obtain⟨x,hx⟩:=P0;have hm:dG 1 L=some (eI 1 L x++Cn (crc (eI 1 L x))):=by unfold dG;rw[hx];dsimp only;rw[if_neg hne]
 refine⟨_,hm,⟨hm,hne,hwf,lT,hl,Ut _,show(1:Int)<=6 by decide⟩,?_⟩
 have:=nU (tag:=1) hwf hne hx (x++Cn (crc (eI 1 L x)))
 have e:eI 1 L x++Cn (crc (eI 1 L x))=UInt8.ofNat (1:Int).toNat::((fR L).flatMap cS++(x++Cn (crc (eI 1 L x)))):=by
  show UInt8.ofNat (1:Int).toNat::((fR L).flatMap cS++x)++_=_;rw[Wo,Uo]
 rw[e,this];rfl
def sM(tag:Int):Prop:=nW tag∧wK tag
theorem IA:sM 1:=⟨JM,H9⟩
theorem fZ.Ok.MW{b:fZ}{bs:List UInt8}(h:b.Ok bs)(hc:sM b.tag):wW bs:=by
 obtain⟨x,hx,_,he⟩:=mC h.make;have h1:=h.t1;have ht:=nU (tag:=b.tag) h.wf h.ne hx (x++Cn (crc (eI b.tag b.L x)))
 have e:bs=UInt8.ofNat b.tag.toNat::((fR b.L).flatMap cS++(x++Cn (crc (eI b.tag b.L x)))):=by
  rw[he];show UInt8.ofNat b.tag.toNat::((fR b.L).flatMap cS++x)++_=_;rw[Wo,Uo]
 intro y hy;rw[e,ht] at hy;obtain rfl:=Uk hy;have e2:((b.tag.toNat:Nat):Int)=b.tag:=by omega
 show nW ((b.tag.toNat:Nat):Int)∧wK ((b.tag.toNat:Nat):Int);rw[e2];exact hc
end
section
variable{C:eC}{S:eR}{ps:List bL}{al:Int->Bool}{G G':Int->fZ}{b b':Int}{x:Tk}
structure dA(C:eC)(ps:List bL)(al:Int->Bool)(G:Int->fZ)(b:Int):Prop where
 good:C.Good ps.length
 fS:∀k a,C.pins k=some a->a=(ps.count k:Int)
 res:∀k,k∈ps->(C.pins k).isSome=true
 row:∀k L,aH k C.rows=some L->al k.aA=false->k.bB<=b∧L=(G k.bB).L
theorem dA.more(h:dA C ps al G b)(hb:b<=b')(hG:∀id,id<=b->G' id=G id):dA C ps al G' b':=by
 refine⟨h.good,h.fS,h.res,fun k L hk ha=>?_⟩;obtain⟨h1,h2⟩:=h.row k L hk ha;exact⟨Wd h1 hb,by rw[hG _ h1];exact h2⟩
theorem dA.get(h:dA C ps al G b)(k:bL):dA (C.get k).1 ps al G b∧(C.get k).1.bE.most=C.bE.most∧(C.get k).2=aH k C.rows∧∀j,(C.get k).1.pins j=C.pins j:=by
 obtain⟨g1,g2,g3,g4,g5⟩:=eC.pF h.good k;have gp:=eC.BX h.good k;exact⟨⟨g1,fun j a hj=>h.fS j a (by rw[<- gp];exact hj),fun j hj=>by rw[gp];exact h.res j hj,fun j L hj=>h.row j L (by rw[<- g3];exact hj)⟩,g5,g4,gp⟩
theorem dA.MX(h:dA C ps al G b){k:bL}(hk:(C.pins k).isSome=true):dA (C.eN k 1).1 (k::ps) al G b∧(C.eN k 1).1.bE.most=C.bE.most:=by
 obtain⟨a,ha⟩:=Wj.1 hk;have hge:=h.good.ge ha;have hc:=h.fS k a ha;obtain⟨p1,p2,p3,p4,p5⟩:=eC.pG h.good 1 ha;have e:=eC.AF h.good 1 ha;have FU:=h.good.big k a ha;refine⟨⟨p5.mono (by rw[Uj];omega),fun j c hj=>?_,fun j hj=>?_,fun j L hj=>h.row j L (by rw[<- p2];exact hj)⟩,p3⟩
 ·rw[e] at hj;rw[List.count_cons];split at hj
  ·rename_i CQ
   subst CQ;have:=Uk hj;rw[if_pos O7];omega
  ·rename_i CQ
   rw[if_neg (by simpa using fun e=>CQ e.symm)]
   exact h.fS j c hj
 ·rw[e];split
  ·rfl
  ·rename_i CQ
   rcases Up.1 hj with hj|hj
   ·exact absurd hj CQ
   ·exact h.res j hj
theorem dA.FV{k:bL}(h:dA C (k::ps) al G b):dA (C.gD k).1 ps al G b∧(C.gD k).1.bE.most=C.bE.most:=by
 obtain⟨a,ha⟩:=Wj.1 (h.res k (Ud ..));have hc:=h.fS k a ha;rw[List.count_cons,if_pos O7] at hc;rw[eC.zP h.good ha O0];obtain⟨p1,p2,p3,p4,p5⟩:=eC.pG h.good (-1) ha;have e:=eC.AF h.good (-1) ha
 have MY:∀j c,(C.eN k (-1)).1.pins j=some c->c=(ps.count j:Int):=by
  intro j c hj;rw[e] at hj;split at hj
  ·rename_i CQ
   subst CQ;have:=Uk hj;omega
  ·rename_i CQ
   have:=h.fS j c hj;rw[List.count_cons,if_neg (by simpa using fun e=>CQ e.symm)] at this
   exact this
 refine⟨⟨p5.tight fun j c hj=>?_,MY,fun j hj=>?_,fun j L hj=>h.row j L (by rw[<- p2];exact hj)⟩,p3⟩
 ·have h1:=MY j c hj;have h2:=List.count_le_length (a:=j) (l:=ps);omega
 ·rw[e];split
  ·rfl
  ·exact h.res j (Uh _ hj)
theorem dA.put(h:dA C ps al G b){k:bL}{L:List bZ}(hL:L.length<=1073741824)(hk:k.bB<=b)(hG:L=(G k.bB).L):
  (C.put k L=(C,false)∧C.bE.most<=(C.bE.res.length:Int)∧(∀j a,C.pins j=some a->a≠0)∧C.pins k=none)∨
  ((C.put k L).2=true∧dA (C.put k L).1 ps al G b∧(C.put k L).1.bE.most=C.bE.most∧((C.put k L).1.pins k).isSome=true):=by
 cases hp:C.pins k with
 |some a=>
  obtain⟨p1,p2,p3,p4,p5⟩:=eC.BY h.good hL hp;have gp:∀j,(C.put k L).1.pins j=C.pins j:=fun j=>by unfold eC.pins;rw[p2]
  refine .inr ⟨p1,⟨p5,fun j c hj=>h.fS j c (by rw[<- gp];exact hj),fun j hj=>by rw[gp];exact h.res j hj,fun j M hj ha=>?_⟩,p4,by rw[gp,hp];rfl⟩
  rw[p3,jg] at hj;split at hj
  ·rename_i e
   subst e;exact⟨hk,by rw[<- Uk hj];exact hG⟩
  ·exact h.row j M hj ha
 |none=>
  by_cases hc:C.bE.most<=(C.bE.res.length:Int)∧∀j a,C.pins j=some a->a≠0
  ·exact .inl ⟨eC.xC h.good hp hc.1 hc.2,hc.1,hc.2,rfl⟩
  ·obtain⟨p1,p2⟩:=eC.CJ h.good (Int.natCast_nonneg _) hL hp hc;refine .inr ⟨p1,⟨p2.good,fun j c hj=>?_,fun j hj=>?_,fun j M hj ha=>?_⟩,p2.most,by rw[p2.here];rfl⟩
   ·by_cases e:j=k
    ·subst e;rw[p2.here] at hj;obtain rfl:=Uk hj;have:ps.count j=0:=List.count_eq_zero.2 fun hm=>by have:=h.res j hm;rw[hp] at this;cases this
     rw[this];rfl
    ·exact h.fS j c (p2.from_ e hj)
   ·obtain⟨a,ha⟩:=Wj.1 (h.res j hj);have e:j≠k:=fun e=>by rw[e,hp] at ha;cases ha
    have h1:=h.fS j a ha;have h2:=List.count_pos_iff.2 hj;rw[p2.pinned e ha O0];rfl
   ·by_cases e:j=k
    ·subst e;rw[p2.row] at hj;exact⟨hk,by rw[<- Uk hj];exact hG⟩
    ·have h1:=p2.good.same j;rw[hj] at h1;obtain⟨a,h2⟩:=Wj.1 h1.symm;rw[p2.rowOf h.good e h2] at hj;exact h.row j M hj ha
def vN(G:Int->fZ)(x:Tk)(pn:List bL)(k:Nat):Prop:=
 (x.Lj∧pn=[]∧k=2+m4 (G x.key.bB).L.length+m4 (within (G x.key.bB).L x.fr x.to).length)∨
 (∃r c,x.MJ c r false∧((G x.key.bB).Ok c∧r<=(G x.key.bB).L.length)∧pn=[]∧k=m4 r+1+m4 (within (G x.key.bB).L x.fr x.to).length)∨
 (x.NT (some (G x.key.bB).L)∧pn=[]∧k=1+m4 (within (G x.key.bB).L x.fr x.to).length)∨
 (x.ML (within (G x.key.bB).L x.fr x.to)∧pn=[x.key]∧k=m4 ((within (G x.key.bB).L x.fr x.to).length-x.i))
theorem vN.same{pn:List bL}{k:Nat}(h:vN G x pn k)(hG:G' x.key.bB=G x.key.bB):vN G' x pn k:=by
 unfold vN;rw[hG];exact h
theorem vN.Hx{pn:List bL}{k:Nat}(h:vN G x pn k):x.done=false:=by
 rcases h with⟨a,_⟩|⟨r,c,a,_⟩|⟨a,_⟩|⟨a,_⟩
 ·exact a.done
 ·exact a.done
 ·exact a.done
 ·exact a.done
theorem vN.pos{pn:List bL}{k:Nat}(h:vN G x pn k):1<=k:=by
 rcases h with⟨_,_,a⟩|⟨r,c,_,_,_,a⟩|⟨_,_,a⟩|⟨_,_,a⟩
 ·omega
 ·omega
 ·omega
 ·have:=CK.CL ((within (G x.key.bB).L x.fr x.to).length-x.i);omega
theorem zi(L:List bZ)(f t:Int):(within L f t).length<=L.length:=Wl _ _
theorem vN.sizes{pn:List bL}{k:Nat}(h:vN G x pn k)(hl:(G x.key.bB).L.length<=8):x.row.length<=8∧x.out.length<=8∧k<=6:=by
 have hw:=zi (G x.key.bB).L x.fr x.to;have m8:∀n,n<=8->m4 n<=2:=fun n hn=>by unfold m4;omega
 have h1:=m8 _ hl;have h2:=m8 _ (Uw hw hl);rcases h with⟨a,_,c⟩|⟨r,c,a,ok,_,d⟩|⟨a,_,c⟩|⟨a,_,c⟩
 ·rw[a.row,a.out];exact⟨Uf _,Uf _,cI⟩
 ·rw[a.row,a.out];have:=m8 r (Uw ok.2 hl);exact⟨Uf _,Uf _,cI⟩
 ·rw[a.row,a.out];exact⟨Uf _,Uf _,cI⟩
 ·rw[a.row,a.out,Ul];have:=m8 ((within (G x.key.bB).L x.fr x.to).length-x.i) O0;exact⟨cI,cI,cI⟩
theorem vN.dec{pn:List bL}{k:Nat}(h:vN G x pn k):∀d,x.d=some d->x.fS=false->x.dec=false->(G x.key.bB).Ok d.bs:=by
 intro d h1 h2 h3;rcases h with⟨a,_⟩|⟨r,c,a,ok,_⟩|⟨a,_⟩|⟨a,_⟩
 ·rw[a.d] at h1;cases h1
 ·obtain⟨d',e1,e2,_⟩:=a.d;rw[h1] at e1;obtain rfl:=Uk e1;rw[e2];exact ok.1
 ·rw[a.dec] at h3;cases h3
 ·rw[a.fS] at h2;cases h2
theorem vN.new(s f fr to:Int)(bl:Int):vN G (Tk.new s f bl fr to) [] (2+m4 (G bl).L.length+m4 (within (G bl).L fr to).length):=.inl ⟨Tk.MN _ _ _ _ _,rfl,rfl⟩
theorem vN.step{pn:List bL}{k:Nat}(h:vN G x pn k)(hC:dA C (pn++ps) al G b)(hal:al x.key.aA=false)(hb:x.key.bB<=b)(hs:∃e,aH x.key.bB S.l=some e∧(G x.key.bB).Ok e.bs)(hl:(G x.key.bB).L.length<=8):
  ((x.step S C).2.2=0∧(x.step S C).1.key=x.key∧(x.step S C).1.fr=x.fr∧(x.step S C).1.to=x.to∧(x.step S C).2.1.bE.most=C.bE.most∧
   ((∃Es k',vN G (x.step S C).1 Es k'∧k'<k∧dA (x.step S C).2.1 (Es++ps) al G b)∨((x.step S C).1.MM (within (G x.key.bB).L x.fr x.to)∧dA (x.step S C).2.1 ps al G b)))∨
  (x.step S C=(x,C,6)∧C.bE.most<=(C.bE.res.length:Int)∧(∀j a,C.pins j=some a->a≠0)∧pn=[]):=by
 rcases h with⟨a,xK,hk⟩|⟨r,c,a,hok,xK,hk⟩|⟨a,xK,hk⟩|⟨a,xK,hk⟩
 ·subst xK;have IB:dA C ps al G b:=hC;obtain⟨g1,g2,g3,g4⟩:=IB.get x.key;cases hg:(C.get x.key).2 with
  |some M=>
   have hrow:=IB.row x.key M (by rw[<- g3];exact hg) hal
   have hM:=hrow.2;rw[Tk.zQ a hg]
   have hres:((C.get x.key).1.pins x.key).isSome=true:=by
    rw[g4,<- IB.good.same,<- g3,hg];rfl
   obtain⟨p1,p2⟩:=g1.MX hres;have hD:=Tk.sI (x:=x) M a.done a.out;rw[hM] at hD;refine .inl ⟨rfl,rfl,rfl,rfl,by dsimp only;rw[p2,g2],.inl ⟨[x.key],m4 (within (G x.key.bB).L x.fr x.to).length,.inr (.inr (.inr ⟨?_,rfl,?_⟩)),?_,p1⟩⟩
   ·rw[hM];exact hD
   ·rfl
   ·omega
  |none=>
   obtain⟨e,he,hok⟩:=hs;obtain⟨e1,e2⟩:=Tk.xD (S:=S) a hg he;have ho:=hok.opens;have J2:jV e.bs=(G x.key.bB).L:=by unfold jV;rw[ho];rfl
   rw[J2,ho] at e2;rw[e1];refine .inl ⟨rfl,rfl,rfl,rfl,rfl,.inl ⟨[],m4 (G x.key.bB).L.length+1+m4 (within (G x.key.bB).L x.fr x.to).length,.inr (.inl ⟨_,e.bs,e2,⟨hok,Ug _⟩,rfl,rfl⟩),cI,IB⟩⟩
 ·subst xK;obtain⟨x',e1,e2,e3,e4,e5,e6⟩:=Tk.Iv (S:=S) (C:=C) a;rw[e1];have J2:jV c=(G x.key.bB).L:=by unfold jV;rw[hok.1.opens];rfl
  refine .inl ⟨rfl,e2,e3,e4,rfl,.inl ?_⟩;by_cases hr:4<r
  ·have:=DH r hr;refine⟨[],m4 (r-4)+1+m4 (within (G x.key.bB).L x.fr x.to).length,.inr (.inl ⟨r-4,c,e5 hr,?_⟩),cI,hC⟩;dsimp only;rw[e2,e3,e4];exact⟨⟨hok.1,by have:=hok.2;omega⟩,rfl,rfl⟩
  ·have:=FQ r O0;have h6:=e6 O0;rw[J2] at h6;refine⟨[],1+m4 (within (G x.key.bB).L x.fr x.to).length,.inr (.inr (.inl ?_)),cI,hC⟩;dsimp only;rw[e2,e3,e4];exact⟨h6,rfl,rfl⟩
 ·subst xK;have IB:dA C ps al G b:=hC;have e1:x.step S C=if(C.put x.key (G x.key.bB).L).2 then(x.pinned (G x.key.bB).L,((C.put x.key (G x.key.bB).L).1.eN x.key 1).1,0) else(x,(C.put x.key (G x.key.bB).L).1,6):=Tk.Iw a
  rcases IB.put (k:=x.key) (L:=(G x.key.bB).L) O0 hb rfl with⟨p1,p2,p3,_⟩|⟨p1,p2,p3,p4⟩
  ·rw[p1] at e1;exact .inr ⟨e1,p2,p3,rfl⟩
  ·rw[if_pos p1] at e1;rw[e1];obtain⟨q1,q2⟩:=p2.MX p4;exact .inl ⟨rfl,rfl,rfl,rfl,by dsimp only;rw[q2,p3],.inl ⟨[x.key],m4 (within (G x.key.bB).L x.fr x.to).length,.inr (.inr (.inr ⟨Tk.sI (x:=x) _ a.done a.out,rfl,rfl⟩)),cI,q1⟩⟩
 ·subst xK;obtain⟨x',e1,e2,e3,_,e4,e5⟩:=Tk.Ix (S:=S) (C:=C) a;by_cases hr:4<(within (G x.key.bB).L x.fr x.to).length-x.i
  ·obtain⟨f1,f2,f3⟩:=e4 hr;have:=DH _ hr;rw[f3];refine .inl ⟨rfl,e1,e2,e3,rfl,.inl ⟨[x.key],m4 ((within (G x.key.bB).L x.fr x.to).length-x'.i),.inr (.inr (.inr ?_)),?_,hC⟩⟩
   ·dsimp only;rw[e1,e2,e3];exact⟨f1,rfl,rfl⟩
   ·rw[f2,show(within (G x.key.bB).L x.fr x.to).length-(x.i+4)=(within (G x.key.bB).L x.fr x.to).length-x.i-4 by omega];omega
  ·obtain⟨f1,f3⟩:=e5 O0;rw[f3];have hu:=hC.FV (k:=x.key) (ps:=ps);exact .inl ⟨rfl,e1,e2,e3,hu.2,.inr ⟨f1,hu.1⟩⟩
theorem vN.leave{pn:List bL}{k:Nat}(h:vN G x pn k)(hC:dA C (pn++ps) al G b):dA (x.leave C).2 ps al G b∧(x.leave C).2.bE.most=C.bE.most:=by
 unfold Tk.leave;rcases h with⟨a,xK,_⟩|⟨r,c,a,_,xK,_⟩|⟨a,xK,_⟩|⟨a,xK,_⟩
 ·subst xK;rw[a.fS];exact⟨hC,rfl⟩
 ·subst xK;rw[a.fS];exact⟨hC,rfl⟩
 ·subst xK;rw[a.fS];exact⟨hC,rfl⟩
 ·subst xK;rw[a.fS];exact hC.FV (k:=x.key) (ps:=ps)
end
section
abbrev J8:=Int×Int×aG
variable{d:List iU}{acc:List aG}{F:List J8}{G G':Int->fZ}{b b':Int}{n n':Nat}
theorem v9{α:Type}{l:List α}{i j:Nat}{x y:α}(h:(l.set i x)[j]?=some y):(j=i∧y=x)∨(j≠i∧l[j]?=some y):=by
 rw[Kb] at h;split at h
 ·rename_i e
  split at h
  ·exact .inl ⟨e.symm,(Uk h).symm⟩
  ·cases h
 ·rename_i e
  exact .inr ⟨fun e'=>e e'.symm,h⟩
theorem ve{α:Type}{l:List α}{i:Nat}{x y:α}(h:l[i]?=some y):(l.set i x)[i]?=some x:=by
 rw[Kb,if_pos rfl,if_pos (Uc.1 h).1]
theorem gr{α:Type}{l:List α}{i j:Nat}{x:α}(h:j≠i):(l.set i x)[j]?=l[j]?:=by
 rw[Kb,if_neg fun e=>h e.symm]
structure gC(d:List iU)(acc:List aG)(F:List J8)(G:Int->fZ)(b:Int)(n:Nat):Prop where
 len:d.length=16
 CR:acc.length=16
 ok:∀(i:Nat) (p:iU),d[i]?=some p->cL G b p.s∧(p.s.chunks.length:Int)<=b∧0<=p.s.cW∧p.s.cW<=2*(n:Int)∧0<=p.s.bN∧p.s.bN<=n
 idle:∀(i:Nat) (p:iU),d[i]?=some p->p.taken=false->p.s.cW.tmod 2=0∧acc[i]?=some p.s
 busy:∀(i:Nat) (p:iU),d[i]?=some p->p.taken=true->p.s.cW.tmod 2=1∧∃f∈F,f.2.1=(i:Int)
 MZ:(F.map (·.2.1)).Nodup
 GA:∀f∈F,0<=f.2.1∧f.2.1<16∧∃p,d[f.2.1.toNat]?=some p∧p.taken=true∧p.who=f.1∧acc[f.2.1.toNat]?=some f.2.2
 B3:∀x∈acc,(x.chunks.length:Int)<=b∧x.aQ.length<=8
theorem gC.mono(h:gC d acc F G b n)(hn:n<=n'):gC d acc F G b n':=
 ⟨h.len,h.CR,fun i p hp=>by obtain⟨h1,h2,h3,h4,h5,h6⟩:=h.ok i p hp;exact⟨h1,h2,h3,cI,h5,cI⟩,h.idle,h.busy,h.MZ,h.GA,h.B3⟩
theorem gC.more(h:gC d acc F G b n)(hb:b<=b')(hG:∀id,id<=b->G' id=G id):gC d acc F G' b' n:=
 ⟨h.len,h.CR,fun i p hp=>by obtain⟨h1,h2,h3⟩:=h.ok i p hp;exact⟨(h1.more hb hG).1,Wd h2 hb,h3⟩,h.idle,h.busy,h.MZ,h.GA,fun x hx=>⟨Wd (h.B3 x hx).1 hb,(h.B3 x hx).2⟩⟩
theorem UU{v:Int}(h0:0<=v)(h:v.tmod 2=0):(v+1).tmod 2=1:=by
 rw[Kd O0] at h ⊢;omega
theorem aa{v:Int}(h0:0<=v)(h:v.tmod 2=1):(v+1).tmod 2=0:=by
 rw[Kd O0] at h ⊢;omega
theorem gC.J9(h:gC d acc F G b n){i:Nat}{p:iU}(hp:d[i]?=some p)(ht:p.taken=false):(i:Int)∉F.map (·.2.1):=by
 intro hm;obtain⟨f,hf,he⟩:=Va.1 hm;obtain⟨_,_,q,hq,A3,_⟩:=h.GA f hf;rw[he,show((i:Int)).toNat=i from by omega,hp] at hq
 obtain rfl:=Uk hq;rw[ht] at A3;cases A3
theorem gC.take(h:gC d acc F G b n){i:Nat}{p:iU}(hp:d[i]?=some p)(ht:p.taken=false)(who:Int):gC (d.set i ⟨{ p.s with cW:=p.s.cW+1 },true,who⟩) acc ((who,(i:Int),p.s)::F) G b (n+1):=by
 obtain⟨o1,o2,o3,o4,o5,o6⟩:=h.ok i p hp;obtain⟨v1,v2⟩:=h.idle i p hp ht;have hi:i<16:=by rw[<- h.len];exact(Uc.1 hp).1
 have hno:=h.J9 hp ht;refine⟨by rw[Vd];exact h.len,h.CR,fun j q hq=>?_,fun j q hq A3=>?_,fun j q hq A3=>?_,?_,fun f hf=>?_,fun x hx=>by have:=h.B3 x hx;omega⟩
 ·rcases v9 hq with⟨rfl,rfl⟩|⟨_,hq⟩
  ·exact⟨o1.cW _,gH,gH,gH,o5,gH⟩
  ·obtain⟨h1,h2,h3,h4,h5,h6⟩:=h.ok j q hq;exact⟨h1,cI,h3,cI,h5,cI⟩
 ·rcases v9 hq with⟨rfl,rfl⟩|⟨_,hq⟩
  ·cases A3
  ·exact h.idle j q hq A3
 ·rcases v9 hq with⟨rfl,rfl⟩|⟨_,hq⟩
  ·exact⟨UU o3 v1,_,Ud ..,rfl⟩
  ·obtain⟨h1,f,hf,h2⟩:=h.busy j q hq A3;exact⟨h1,f,Uh _ hf,h2⟩
 ·rw[Uy,Wa];exact⟨hno,h.MZ⟩
 ·rcases Up.1 hf with rfl|hf
  ·exact⟨gH,gH,_,ve hp,rfl,rfl,v2⟩
  ·obtain⟨h1,h2,q,hq,h3,h4,h5⟩:=h.GA f hf
   have hne:f.2.1.toNat≠i:=by
    rintro e;rw[e,hp] at hq;obtain rfl:=Uk hq;rw[ht] at h3;cases h3
   exact⟨h1,h2,q,by rw[gr hne];exact hq,h3,h4,h5⟩
theorem gC.nZ{who:Int}{i:Nat}{x y:aG}(h:gC d acc ((who,(i:Int),x)::F) G b n)(h1:(y.chunks.length:Int)<=b)(h2:y.aQ.length<=8):gC d (acc.set i y) ((who,(i:Int),y)::F) G b n:=by
 obtain⟨k1,k2,p,hp,A2,GB,hpa⟩:=h.GA _ (Ud ..);dsimp only at k1 k2 hp GB hpa;rw[show((i:Int)).toNat=i from by omega] at hp hpa
 have CS:=h.MZ;rw[Uy,Wa] at CS;refine⟨h.len,by rw[Vd];exact h.CR,h.ok,fun j q hq A3=>?_,fun j q hq A3=>?_,?_,fun f hf=>?_,fun z hz=>?_⟩
 ·have hne:j≠i:=by
   rintro rfl;rw[hp] at hq;obtain rfl:=Uk hq;rw[A2] at A3;cases A3
  rw[gr hne];exact h.idle j q hq A3
 ·obtain⟨h1,f,hf,h2⟩:=h.busy j q hq A3;rcases Up.1 hf with rfl|hf
  ·exact⟨h1,_,Ud ..,h2⟩
  ·exact⟨h1,f,Uh _ hf,h2⟩
 ·rw[Uy,Wa];exact CS
 ·rcases Up.1 hf with rfl|hf
  ·exact⟨k1,k2,p,by dsimp only;rw[show((i:Int)).toNat=i from by omega];exact hp,A2,GB,by dsimp only;rw[show((i:Int)).toNat=i from by omega];exact ve hpa⟩
  ·obtain⟨h1,h2,q,hq,h3,h4,h5⟩:=h.GA f (Uh _ hf)
   have hne:f.2.1.toNat≠i:=by
    intro e;refine CS.1 (Va.2 ⟨f,hf,?_⟩);dsimp only;omega
   exact⟨h1,h2,q,hq,h3,h4,by rw[gr hne];exact h5⟩
 ·obtain⟨j,hj⟩:=We.1 hz;rcases v9 hj with⟨_,rfl⟩|⟨_,hj⟩
  ·exact⟨h1,h2⟩
  ·exact h.B3 z (Ue hj)
theorem gC.Kp{who:Int}{i:Nat}{x:aG}(h:gC d acc ((who,(i:Int),x)::F) G b n){sl:aG}(hok:cL G b sl)(xR:(sl.chunks.length:Int)<=b)(vI:0<=sl.bN)(rV:sl.bN<=n):
  ∃p,d[i]?=some p∧p.taken=true∧p.who=who∧acc[i]?=some x∧p.s.cW.tmod 2=1∧0<=p.s.cW∧p.s.cW<=2*(n:Int)∧gC (d.set i ⟨{ sl with cW:=p.s.cW+1 },false,0⟩) (acc.set i { sl with cW:=p.s.cW+1 }) F G b (n+1):=by
 obtain⟨k1,k2,p,hp,A2,GB,hpa⟩:=h.GA _ (Ud ..);dsimp only at k1 k2 hp GB hpa;rw[show((i:Int)).toNat=i from by omega] at hp hpa
 obtain⟨o1,o2,o3,o4,o5,o6⟩:=h.ok i p hp;have FW:=(h.busy i p hp A2).1;have CS:=h.MZ;rw[Uy,Wa] at CS;refine⟨p,hp,A2,GB,hpa,FW,o3,o4,?_⟩;refine⟨by rw[Vd];exact h.len,by rw[Vd];exact h.CR,fun j q hq=>?_,fun j q hq A3=>?_,fun j q hq A3=>?_,CS.2,fun f hf=>?_,fun z hz=>?_⟩
 ·rcases v9 hq with⟨rfl,rfl⟩|⟨_,hq⟩
  ·exact⟨hok.cW _,gH,gH,gH,vI,gH⟩
  ·obtain⟨h1,h2,h3,h4,h5,h6⟩:=h.ok j q hq;exact⟨h1,cI,h3,cI,h5,cI⟩
 ·rcases v9 hq with⟨rfl,rfl⟩|⟨hne,hq⟩
  ·exact⟨aa o3 FW,ve hpa⟩
  ·rw[gr hne];exact h.idle j q hq A3
 ·rcases v9 hq with⟨rfl,rfl⟩|⟨hne,hq⟩
  ·cases A3
  ·obtain⟨h1,f,hf,h2⟩:=h.busy j q hq A3;rcases Up.1 hf with rfl|hf
   ·dsimp only at h2;omega
   ·exact⟨h1,f,hf,h2⟩
 ·obtain⟨h1,h2,q,hq,h3,h4,h5⟩:=h.GA f (Uh _ hf)
  have hne:f.2.1.toNat≠i:=by
   intro e;refine CS.1 (Va.2 ⟨f,hf,?_⟩);dsimp only;omega
  exact⟨h1,h2,q,by rw[gr hne];exact hq,h3,h4,by rw[gr hne];exact h5⟩
 ·obtain⟨j,hj⟩:=We.1 hz;rcases v9 hj with⟨_,rfl⟩|⟨_,hj⟩
  ·exact⟨gH,by have:=hok.gQ;dsimp only;omega⟩
  ·have:=h.B3 z (Ue hj);omega
structure mH(G:Int->fZ)(b:Int)(x:mE):Prop where
 kS:∀p∈x.parts,gE G b p
 gQ:(x.parts.length:Int)<=b
 tail:x.tail.length<=7
theorem mH.more{x:mE}(h:mH G b x)(hb:b<=b')(hG:∀id,id<=b->G' id=G id):mH G' b' x:=⟨fun p hp=>(h.kS p hp).more hb hG,Wd h.gQ hb,h.tail⟩
structure fL(T:Tb)(U:List (Int×Int))(al:Int->Bool)(G:Int->fZ)(b:Int)(n:Nat):Prop where
 nd:(keys T.l).Nodup
 ids:∀id,id∈keys T.l->1<=id∧id<=T.last
 sJ:0<=T.last
 uI:T.last<=n
 len:T.l.length<=8
 on:∀id o,aH id T.l=some o->mH G b o.x∧0<=o.told∧o.told<=((o.x.all G).length:Int)∧al o.aA=false∧(o.used=true->(o.who,id)∈U)
 us:∀u,u∈U->∃o,aH u.2 T.l=some o∧o.used=true∧o.who=u.1
 Ln:(U.map (·.2)).Nodup
variable{T:Tb}{U:List (Int×Int)}{al:Int->Bool}
theorem fL.mono(h:fL T U al G b n)(hn:n<=n'):fL T U al G b n':=
 ⟨h.nd,h.ids,h.sJ,by have:=h.uI;omega,h.len,h.on,h.us,h.Ln⟩
theorem fL.more(h:fL T U al G b n)(hb:b<=b')(hG:∀id,id<=b->G' id=G id):fL T U al G' b' n:=
 ⟨h.nd,h.ids,h.sJ,h.uI,h.len,fun id o ho=>by obtain⟨h1,h2⟩:=h.on id o ho;exact⟨h1.more hb hG,by rw[mE.same h1.kS hG];exact h2⟩,h.us,h.Ln⟩
theorem fL.open_(h:fL T U al G b n){x:mE}{aA:Int}(hx:mH G b x)(hal:al aA=false)(h8:T.l.length<8):
  aH (T.last+1) T.l=none∧fL ⟨T.last+1,aX (T.last+1) ⟨aA,0,x,false,0⟩ T.l⟩ U al G b (n+1):=by
 have hnk:T.last+1∉keys T.l:=fun hk=>by have:=(h.ids _ hk).2;omega
 have hmn:aH (T.last+1) T.l=none:=dD.2 hnk;refine⟨hmn,vg h.nd,fun j hj=>?_,by have:=h.sJ;dsimp only;omega,by have:=h.uI;dsimp only;omega,?_,fun j o ho=>?_,fun u hu=>?_,h.Ln⟩
 ·have hj':j∈keys (aX (T.last+1) (⟨aA,0,x,false,0⟩:On) T.l):=hj;rw[vx,if_neg hnk,Vc] at hj';rcases hj' with hj' | hj'
  ·have:=h.ids j hj';exact⟨this.1,gH⟩
  ·rw[Vi] at hj';have:=h.sJ;subst hj';exact⟨cI,Ut _⟩
 ·show(aX (T.last+1) (⟨aA,0,x,false,0⟩:On) T.l).length<=8;rw[w6,if_pos hmn];omega
 ·have ho':aH j (aX (T.last+1) (⟨aA,0,x,false,0⟩:On) T.l)=some o:=ho;rw[jg] at ho';split at ho'
  ·obtain rfl:=Uk ho';exact⟨hx,Ut _,gH,hal,fun hu=>by cases hu⟩
  ·exact h.on j o ho'
 ·obtain⟨o,ho,h1⟩:=h.us u hu;refine⟨o,?_,h1⟩;show aH u.2 (aX (T.last+1) (⟨aA,0,x,false,0⟩:On) T.l)=some o;rw[jg,if_neg]
  ·exact ho
  ·rintro e;rw[e,hmn] at ho;cases ho
theorem fL.nD(h:fL T U al G b n){id:Int}{o o':On}(hg:aH id T.l=some o):(keys (aX id o' T.l)).Nodup∧(∀j,j∈keys (aX id o' T.l)->1<=j∧j<=T.last)∧(aX id o' T.l).length<=8:=by
 refine⟨vg h.nd,fun j hj=>?_,?_⟩
 ·rw[vx,if_pos (yn hg)] at hj;exact h.ids j hj
 ·rw[w6,if_neg (by rw[hg];intro e;cases e)];exact h.len
theorem fL.use(h:fL T U al G b n){id who:Int}{o:On}(hg:aH id T.l=some o)(hu:o.used=false):fL ⟨T.last,aX id { o with used:=true,who:=who } T.l⟩ ((who,id)::U) al G b n:=by
 obtain⟨k1,k2,k3⟩:=h.nD (o':={ o with used:=true,who:=who }) hg
 obtain⟨o1,o2,o3,o4,_⟩:=h.on id o hg
 have hno:∀u∈U,u.2≠id:=by
  rintro u hm rfl;obtain⟨o',ho',M0,_⟩:=h.us u hm;rw[hg] at ho';obtain rfl:=Uk ho';rw[hu] at M0;cases M0
 refine⟨k1,k2,h.sJ,h.uI,k3,fun j x hx=>?_,fun u hm=>?_,?_⟩
 ·have hx':aH j (aX id ({ o with used:=true,who:=who }:On) T.l)=some x:=hx
  rw[jg] at hx';split at hx'
  ·rename_i e
   subst e;obtain rfl:=Uk hx';exact⟨o1,o2,o3,o4,fun _=>Ud ..⟩
  ·obtain⟨q1,q2,q3,q4,q5⟩:=h.on j x hx';exact⟨q1,q2,q3,q4,fun hu=>Uh _ (q5 hu)⟩
 ·rcases Up.1 hm with rfl|hm
  ·refine⟨{ o with used:=true,who:=who },?_,rfl,rfl⟩
   show aH id (aX id _ T.l)=_;rw[jg,if_pos rfl]
  ·obtain⟨x,hx,h1⟩:=h.us u hm;refine⟨x,?_,h1⟩;show aH u.2 (aX id _ T.l)=_;rw[jg,if_neg (hno u hm)];exact hx
 ·rw[Uy,Wa];refine⟨fun hm=>?_,h.Ln⟩;obtain⟨u,UW,UX⟩:=Va.1 hm;exact hno u UW UX
theorem fL.free{id who:Int}{o:On}(h:fL T ((who,id)::U) al G b n)(hg:aH id T.l=some o){told:Int}(Ll:0<=told)(Gq:told<=((o.x.all G).length:Int)):fL ⟨T.last,aX id { o with used:=false,told:=told } T.l⟩ U al G b n:=by
 obtain⟨k1,k2,k3⟩:=h.nD (o':={ o with used:=false,told:=told }) hg
 obtain⟨o1,o2,o3,o4,_⟩:=h.on id o hg;have CT:=h.Ln;rw[Uy,Wa] at CT;have hno:∀u∈U,u.2≠id:=fun u hm e=>CT.1 (Va.2 ⟨u,hm,e⟩);refine⟨k1,k2,h.sJ,h.uI,k3,fun j x hx=>?_,fun u hm=>?_,CT.2⟩
 ·have hx':aH j (aX id ({ o with used:=false,told:=told }:On) T.l)=some x:=hx
  rw[jg] at hx';split at hx'
  ·obtain rfl:=Uk hx';exact⟨o1,Ll,Gq,o4,fun hu=>by cases hu⟩
  ·rename_i hj
   obtain⟨q1,q2,q3,q4,q5⟩:=h.on j x hx';refine⟨q1,q2,q3,q4,fun hu=>?_⟩;rcases Up.1 (q5 hu) with e|e
   ·exact absurd (congrArg Prod.snd e) hj
   ·exact e
 ·obtain⟨x,hx,h1⟩:=h.us u (Uh _ hm);refine⟨x,?_,h1⟩;show aH u.2 (aX id _ T.l)=_;rw[jg,if_neg (hno u hm)];exact hx
theorem fL.close{id who:Int}(h:fL T ((who,id)::U) al G b n):fL ⟨T.last,bY id T.l⟩ U al G b n:=by
 obtain⟨o,hg,_,_⟩:=h.us _ (Ud ..);dsimp only at hg;have CT:=h.Ln;rw[Uy,Wa] at CT;have hno:∀u∈U,u.2≠id:=fun u hm e=>CT.1 (Va.2 ⟨u,hm,e⟩);refine⟨kb h.nd,fun j hj=>?_,h.sJ,h.uI,?_,fun j x hx=>?_,fun u hm=>?_,CT.2⟩
 ·have hj':j∈keys (bY id T.l):=hj;rw[ye] at hj';exact h.ids j (Xe hj')
 ·have:=pk id T.l (by rw[hg];intro e;cases e)
  have:=h.len;show(bY id T.l).length<=8;omega
 ·have hx':aH j (bY id T.l)=some x:=hx;rw[j7 _ _ _ h.nd] at hx';split at hx'
  ·cases hx'
  ·rename_i hj
   obtain⟨q1,q2,q3,q4,q5⟩:=h.on j x hx';refine⟨q1,q2,q3,q4,fun hu=>?_⟩;rcases Up.1 (q5 hu) with e|e
   ·exact absurd (congrArg Prod.snd e) hj
   ·exact e
 ·obtain⟨x,hx,h1⟩:=h.us u (Uh _ hm);refine⟨x,?_,h1⟩;show aH u.2 (bY id T.l)=_;rw[j7 _ _ _ h.nd,if_neg (hno u hm)];exact hx
structure Ag where
 who:Int
 flag:Option (Int×aG)
 held:List gP
 pins:List bL
 use:Option Int
 seen:Option (Int×aG)
def Ag.idle(who:Int):Ag:=⟨who,none,[],[],none,none⟩
def Ag.flags(a:Ag):List J8:=match a.flag with|none=>[]|some f=>[(a.who,f)]
def Ag.uses(a:Ag):List (Int×Int):=match a.use with|none=>[]|some id=>[(a.who,id)]
def oA(d:List iU)(G:Int->fZ)(b:Int)(f:Int×aG):Prop:=0<=f.1∧f.1<16∧cL G b f.2∧f.2.cW.tmod 2=0∧∃p,d[f.1.toNat]?=some p∧f.2.cW<=p.s.cW∧(p.s.cW=f.2.cW->p.s=f.2)
structure CU(a:Ag)(d:List iU)(G:Int->fZ)(b:Int):Prop where
 held:∀p∈a.held,gE G b p
 gQ:(a.held.length:Int)<=b
 pins:a.pins.length<=100
 seen:∀f,a.seen=some f->oA d G b f
def dI(acc:List aG)(A:List Ag)(T:Tb)(id:Int):Nat:=fC (fun x:aG=>rc id x.chunks) acc+fC (fun a:Ag=>rc id a.held) A+nG (fun o:On=>rc id o.x.parts) T.l
def lK(acc:List aG):Nat:=fC (fun x:aG=>x.aQ.length) acc
structure Inv(s:cG)(A:List Ag)(acc:List aG)(al:Int->Bool)(G:Int->fZ)(n:Nat):Prop where
 dir:gC s.d acc (A.flatMap Ag.flags) G s.b.last n
 oM:cV s.b (dI acc A s.t) (lK acc) G
 oL:dA s.c (A.flatMap Ag.pins) al G s.b.last
 jC:fL s.t (A.flatMap Ag.uses) al G s.b.last n
 lN:∀a∈A,CU a s.d G s.b.last
 qX:(A.map Ag.who).Nodup
 last:s.b.last<=100000
 FX:n<=1000000000
 gQ:A.length<=100
end
section
theorem fW{α:Type}{f:α->Nat}{B:Nat}:∀{l:List α},(∀x∈l,f x<=B)->fC f l<=l.length*B
 |[],_=>Uf _
 |x::l,h=>by
  have h1:=h x (Ud ..);have h2:=fW (l:=l) fun y hy=>h y (Uh _ hy);rw[fC,Uj,Zv];omega
theorem fw{κ β:Type}[DecidableEq κ]{m:List (κ×β)}(hn:(keys m).Nodup){p:κ×β}(hp:p∈m):aH p.1 m=some p.2:=(vz hn).2 hp
variable{s:cG}{a:Ag}{A:List Ag}{acc:List aG}{al:Int->Bool}{G G':Int->fZ}{n n':Nat}
theorem Inv.mono(h:Inv s A acc al G n)(hn:n<=n')(UY:n'<=1000000000):Inv s A acc al G n':=
 ⟨h.dir.mono hn,h.oM,h.oL,h.jC.mono hn,h.lN,h.qX,h.last,UY,h.gQ⟩
theorem Inv.CV(h:Inv s A acc al G n)(id:Int):dI acc A s.t id<=13000000:=by
 have hn:=h.last;have h1:fC (fun x:aG=>rc id x.chunks) acc<=acc.length*100000:=fW fun x hx=>Uw (mr _ _) (by have:=(h.dir.B3 x hx).1;omega)
 have h2:fC (fun a:Ag=>rc id a.held) A<=A.length*100000:=fW fun a ha=>Uw (mr _ _) (by have:=(h.lN a ha).gQ;omega)
 have h3:nG (fun o:On=>rc id o.x.parts) s.t.l<=s.t.l.length*100000:=fW fun p hp=>Uw (mr _ _) (by have:=(h.jC.on p.1 p.2 (fw h.jC.nd hp)).1.gQ;omega)
 have e2:=h.gQ;have e3:=h.jC.len;rw[h.dir.CR] at h1;unfold dI;omega
theorem Inv.b0(h:Inv s A acc al G n):(([]:List gP).length:Int)<=s.b.last:=h.oM.ok.l0
theorem oA.set{d:List iU}{b:Int}{f:Int×aG}(h:oA d G b f){i:Nat}{p q:iU}(hp:d[i]?=some p)(hv:q.s.cW=p.s.cW+1):oA (d.set i q) G b f:=by
 obtain⟨h1,h2,h3,h4,x,hx,h5,h6⟩:=h;refine⟨h1,h2,h3,h4,?_⟩;by_cases e:f.1.toNat=i
 ·rw[e,hp] at hx;obtain rfl:=Uk hx;exact⟨q,by rw[e];exact ve hp,cI,fun he=>by omega⟩
 ·exact⟨x,by rw[gr e];exact hx,h5,h6⟩
theorem oA.more{d:List iU}{b b':Int}{f:Int×aG}(h:oA d G b f)(hb:b<=b')(hG:∀id,id<=b->G' id=G id):oA d G' b' f:=by
 obtain⟨h1,h2,h3,h4⟩:=h;exact⟨h1,h2,(h3.more hb hG).1,h4⟩
theorem CU.set{d:List iU}{b:Int}(h:CU a d G b){i:Nat}{p q:iU}(hp:d[i]?=some p)(hv:q.s.cW=p.s.cW+1):CU a (d.set i q) G b:=
 ⟨h.held,h.gQ,h.pins,fun f hf=>(h.seen f hf).set hp hv⟩
theorem CU.more{d:List iU}{b b':Int}(h:CU a d G b)(hb:b<=b')(hG:∀id,id<=b->G' id=G id):CU a d G' b':=
 ⟨fun p hp=>(h.held p hp).more hb hG,Wd h.gQ hb,h.pins,fun f hf=>(h.seen f hf).more hb hG⟩
theorem ko(ha:a.flag=none):a.flags=[]:=by unfold Ag.flags;rw[ha]
theorem ud{f:Int×aG}(ha:a.flag=some f):a.flags=[(a.who,f)]:=by unfold Ag.flags;rw[ha]
theorem kj(ha:a.use=none):a.uses=[]:=by unfold Ag.uses;rw[ha]
theorem zy{id:Int}(ha:a.use=some id):a.uses=[(a.who,id)]:=by unfold Ag.uses;rw[ha]
theorem Inv.take(h:Inv s (a::A) acc al G n)(ha:a.flag=none){i:Nat}{p:iU}(hp:s.d[i]?=some p)(ht:p.taken=false)(hn:n+1<=1000000000):
  Inv { s with d:=s.d.set i ⟨{ p.s with cW:=p.s.cW+1 },true,a.who⟩ } ({ a with flag:=some ((i:Int),p.s) }::A) acc al G (n+1):=by
 have hd:=h.dir;rw[Ui,ko ha,Us] at hd;refine⟨?_,h.oM,h.oL,h.jC.mono (Nat.le_succ _),fun x hx=>?_,h.qX,h.last,hn,h.gQ⟩
 ·rw[Ui,ud rfl];exact hd.take hp ht a.who
 ·rcases Up.1 hx with rfl|hx
  ·have:=(h.lN a (Ud ..)).set (q:=⟨{ p.s with cW:=p.s.cW+1 },true,a.who⟩) hp rfl
   exact⟨this.held,this.gQ,this.pins,this.seen⟩
  ·exact(h.lN x (Uh _ hx)).set hp rfl
theorem zx{i:Nat}{x y:aG}(hx:acc[i]?=some x)(T:Tb)(id:Int):dI (acc.set i y) A T id+rc id x.chunks=dI acc A T id+rc id y.chunks:=by
 have:=xF (fun x:aG=>rc id x.chunks) (y:=y) hx;unfold dI
 (try dsimp only at this)
 omega
theorem xi{i:Nat}{x y:aG}(hx:acc[i]?=some x):lK (acc.set i y)+x.aQ.length=lK acc+y.aQ.length:=xF (fun x:aG=>x.aQ.length) (y:=y) hx
theorem Inv.Kp(h:Inv s (a::A) acc al G n){i:Nat}{x sl:aG}(ha:a.flag=some ((i:Int),x))(hok:cL G s.b.last sl)(e1:sl.chunks=x.chunks)(e2:sl.aQ=x.aQ)(vI:0<=sl.bN)(rV:sl.bN<=n)(hn:n+1<=1000000000):
  ∃p,s.d[i]?=some p∧p.taken=true∧p.who=a.who∧p.s.cW.tmod 2=1∧0<=p.s.cW∧p.s.cW<=2*(n:Int)∧Inv { s with d:=s.d.set i ⟨{ sl with cW:=p.s.cW+1 },false,0⟩ } ({ a with flag:=none }::A) (acc.set i { sl with cW:=p.s.cW+1 }) al G (n+1):=by
 have hd:=h.dir;rw[Ui,ud ha] at hd
 have UZ:=hd.B3 x (by
  obtain⟨_,_,p,_,_,_,hpa⟩:=hd.GA _ (Ud ..)
  exact Ue hpa)
 obtain⟨p,hp,A2,GB,hpa,FW,NO,Ap,hd'⟩:=hd.Kp hok (by rw[e1];exact UZ.1) vI rV
 refine⟨p,hp,A2,GB,FW,NO,Ap,?_,?_,h.oL,h.jC.mono (Nat.le_succ _),fun y hy=>?_,h.qX,h.last,hn,h.gQ⟩
 ·rw[Ui,ko rfl,Us];exact hd'
 ·have e3:lK (acc.set i { sl with cW:=p.s.cW+1 })=lK acc:=by
   have:=xi (y:={ sl with cW:=p.s.cW+1 }) hpa
   exact Kk (this.trans (congrArg (fun l:List bZ=>lK acc+l.length) e2))
  rw[e3];refine h.oM.eqv fun id=>?_;have:=zx (y:={ sl with cW:=p.s.cW+1 }) (A:=a::A) hpa s.t id
  exact Kk (this.trans (congrArg (fun l:List gP=>dI acc (a::A) s.t id+rc id l) e1))
 ·rcases Up.1 hy with rfl|hy
  ·have:=(h.lN a (Ud ..)).set (q:=⟨{ sl with cW:=p.s.cW+1 },false,0⟩) hp rfl
   exact⟨this.held,this.gQ,this.pins,this.seen⟩
  ·exact(h.lN y (Uh _ hy)).set hp rfl
theorem na{x:aG}(hx:x∈acc){p:gP}(hp:p∈x.chunks)(T:Tb):0<dI acc A T p.bB:=by
 have h1:=DL (fun x:aG=>rc p.bB x.chunks) hx;have h2:=ti hp;unfold dI
 (try dsimp only at h1)
 omega
theorem U0{p:gP}(hp:p∈a.held)(T:Tb):0<dI acc (a::A) T p.bB:=by
 have h2:=ti hp;unfold dI;rw[fC];omega
theorem Inv.hold(h:Inv s (a::A) acc al G n)(ha:a.held=[]){ps:List gP}(h1:∀p∈ps,gE G s.b.last p)(h2:∀p∈ps,0<dI acc (a::A) s.t p.bB)(h3:(ps.length:Int)<=s.b.last):
  (s.b.hold [] ps).1=true∧(s.b.hold [] ps).2.last=s.b.last∧Inv { s with b:=(s.b.hold [] ps).2 } ({ a with held:=ps }::A) acc al G n:=by
 have hc:∀j,dI acc ({ a with held:=ps }::A) s.t j=dI acc (a::A) s.t j+rc j ps:=by
  intro j;unfold dI;rw[fC,fC,ha,uh]
  (try dsimp only)
  omega
 have hn:=h.FX
 obtain⟨k1,k2,k3,k4,k5⟩:=h.oM.hold [] h2 hc fun j=>by
  have e1:=h.CV j;have e2:=mr j ps;have e3:=h.last;rw[hc];unfold Er;omega
 refine⟨k1,k3,?_,k2,?_,?_,fun x hx=>?_,h.qX,by dsimp only;rw[k3];exact h.last,h.FX,h.gQ⟩
 ·dsimp only;rw[k3];exact h.dir
 ·dsimp only;rw[k3];exact h.oL
 ·dsimp only;rw[k3];exact h.jC
 ·dsimp only;rw[k3];rcases Up.1 hx with rfl|hx
  ·exact⟨h1,h3,(h.lN a (Ud ..)).pins,(h.lN a (Ud ..)).seen⟩
  ·exact h.lN x (Uh _ hx)
theorem Inv.FY(h:Inv s (a::A) acc al G n){ps:List gP}(ha:a.held=ps):(s.b.leave ps).last=s.b.last∧Inv { s with b:=s.b.leave ps } ({ a with held:=[] }::A) acc al G n:=by
 have hc:∀j,dI acc (a::A) s.t j=dI acc ({ a with held:=[] }::A) s.t j+rc j ps:=by
  intro j;unfold dI;rw[fC,fC,ha,uh]
  (try dsimp only)
  omega
 obtain⟨k1,k2,k3⟩:=h.oM.leave hc;refine⟨k2,?_,k1,?_,?_,fun x hx=>?_,h.qX,by dsimp only;rw[k2];exact h.last,h.FX,h.gQ⟩
 ·dsimp only;rw[k2];exact h.dir
 ·dsimp only;rw[k2];exact h.oL
 ·dsimp only;rw[k2];exact h.jC
 ·dsimp only;rw[k2];rcases Up.1 hx with rfl|hx
  ·exact⟨fun p hp=>(by cases hp),h.b0,(h.lN a (Ud ..)).pins,(h.lN a (Ud ..)).seen⟩
  ·exact h.lN x (Uh _ hx)
theorem Inv.cache(h:Inv s (a::A) acc al G n){C:eC}{pn:List bL}(hp:pn.length<=100)(hC:dA C (pn++A.flatMap Ag.pins) al G s.b.last):Inv { s with c:=C } ({ a with pins:=pn }::A) acc al G n:=by
 refine⟨h.dir,h.oM,?_,h.jC,fun x hx=>?_,h.qX,h.last,h.FX,h.gQ⟩
 ·rw[Ui];exact hC
 ·rcases Up.1 hx with rfl|hx
  ·exact⟨(h.lN a (Ud ..)).held,(h.lN a (Ud ..)).gQ,hp,(h.lN a (Ud ..)).seen⟩
  ·exact h.lN x (Uh _ hx)
theorem Inv.qY(h:Inv s (a::A) acc al G n):dA s.c (a.pins++A.flatMap Ag.pins) al G s.b.last:=by
 have:=h.oL
 rwa [Ui] at this
theorem Inv.Rx(h:Inv s (a::A) acc al G n){f:Option (Int×aG)}(hf:∀x,f=some x->oA s.d G s.b.last x):Inv s ({ a with seen:=f }::A) acc al G n:=by
 refine⟨h.dir,h.oM,h.oL,h.jC,fun x hx=>?_,h.qX,h.last,h.FX,h.gQ⟩;rcases Up.1 hx with rfl|hx
 ·exact⟨(h.lN a (Ud ..)).held,(h.lN a (Ud ..)).gQ,(h.lN a (Ud ..)).pins,hf⟩
 ·exact h.lN x (Uh _ hx)
theorem Inv.nZ(h:Inv s (a::A) acc al G n){i:Nat}{x y:aG}(ha:a.flag=some ((i:Int),x)){S:eR}(hS:cV S (dI (acc.set i y) (a::A) s.t) (lK (acc.set i y)) G')(hl:s.b.last<=S.last)(rV:S.last<=100000)
  (hG:∀id,id<=s.b.last->G' id=G id) (hn:n<=n') (Bc:n'<=1000000000) (h1:(y.chunks.length:Int)<=S.last) (h2:y.aQ.length<=8):Inv { s with b:=S } ({ a with flag:=some ((i:Int),y) }::A) (acc.set i y) al G' n':=by
 have hd:=h.dir;rw[Ui,ud ha] at hd;refine⟨?_,hS,h.oL.more hl hG,(h.jC.more hl hG).mono hn,fun z hz=>?_,h.qX,rV,Bc,h.gQ⟩
 ·rw[Ui,ud rfl];exact((hd.more hl hG).mono hn).nZ h1 h2
 ·rcases Up.1 hz with rfl|hz
  ·exact⟨fun p hp=>((h.lN a (Ud ..)).held p hp).more hl hG,Wd (h.lN a (Ud ..)).gQ hl,(h.lN a (Ud ..)).pins,fun f hf=>((h.lN a (Ud ..)).seen f hf).more hl hG⟩
  ·exact(h.lN z (Uh _ hz)).more hl hG
theorem Inv.opens(h:Inv s (a::A) acc al G n){x:mE}{aA:Int}(hx:mH G s.b.last x)(ha:a.held=x.parts)(hal:al aA=false)(h8:s.t.l.length<8)(hn:n+1<=1000000000):
  aH (s.t.last+1) s.t.l=none∧Inv { s with t:=⟨s.t.last+1,aX (s.t.last+1) ⟨aA,0,x,false,0⟩ s.t.l⟩ } ({ a with held:=[] }::A) acc al G (n+1):=by
 obtain⟨h1,h2⟩:=h.jC.open_ hx hal h8;refine⟨h1,h.dir.mono (Nat.le_succ _),h.oM.eqv fun id=>?_,h.oL,h2,fun z hz=>?_,h.qX,h.last,hn,h.gQ⟩
 ·unfold dI;have:=B0 (fun o:On=>rc id o.x.parts) (v:=⟨aA,0,x,false,0⟩) h1;dsimp only at this ⊢;rw[this,fC,fC,ha,uh]
  (try dsimp only)
  omega
 ·rcases Up.1 hz with rfl|hz
  ·exact⟨fun p hp=>(by cases hp),h.b0,(h.lN a (Ud ..)).pins,(h.lN a (Ud ..)).seen⟩
  ·exact h.lN z (Uh _ hz)
theorem Inv.uses(h:Inv s (a::A) acc al G n)(ha:a.use=none){id:Int}{o:On}(hg:aH id s.t.l=some o)(hu:¬(o.used=true∧o.who≠a.who)):
  o.used=false∧Inv { s with t:=⟨s.t.last,aX id { o with used:=true,who:=a.who } s.t.l⟩ } ({ a with use:=some id }::A) acc al G n:=by
 have ht:=h.jC;rw[Ui,kj ha,Us] at ht
 have M1:o.used=false:=by
  cases hb:o.used with
  |false=>rfl
  |true=>
   have hw:o.who=a.who:=Xc fun hw=>hu ⟨hb,hw⟩;have hm:=(ht.on id o hg).2.2.2.2 hb;rw[Xk] at hm;obtain⟨x,hx,FZ⟩:=hm
   have U1:x.who=a.who:=by
    unfold Ag.uses at FZ;split at FZ
    ·cases FZ
    ·rw[Vi] at FZ;have:=congrArg Prod.fst FZ;dsimp only at this;omega
   have Ry:=h.qX;rw[Uy,Wa] at Ry;exact absurd (Va.2 ⟨x,hx,U1⟩) Ry.1
 refine⟨M1,h.dir,h.oM.eqv fun j=>?_,h.oL,?_,fun z hz=>?_,h.qX,h.last,h.FX,h.gQ⟩
 ·unfold dI;have:=sK (fun o:On=>rc j o.x.parts) (v:={ o with used:=true,who:=a.who }) hg
  (try dsimp only at this ⊢)
  rw[fC,fC]
  (try dsimp only)
  omega
 ·rw[Ui,zy rfl];exact ht.use hg M1
 ·rcases Up.1 hz with rfl|hz
  ·exact⟨(h.lN a (Ud ..)).held,(h.lN a (Ud ..)).gQ,(h.lN a (Ud ..)).pins,(h.lN a (Ud ..)).seen⟩
  ·exact h.lN z (Uh _ hz)
theorem Inv.mine(h:Inv s (a::A) acc al G n){id:Int}(ha:a.use=some id):∃o,aH id s.t.l=some o∧o.used=true∧o.who=a.who∧mH G s.b.last o.x∧0<=o.told∧o.told<=((o.x.all G).length:Int)∧al o.aA=false:=by
 have ht:=h.jC;rw[Ui,zy ha] at ht;obtain⟨o,h1,h2,h3⟩:=ht.us _ (Ud ..);obtain⟨h4,h5,h6,h7,_⟩:=ht.on _ _ h1;exact⟨o,h1,h2,h3,h4,h5,h6,h7⟩
theorem Inv.IC(h:Inv s (a::A) acc al G n){id:Int}(ha:a.use=some id){o:On}(hg:aH id s.t.l=some o){told:Int}(h0:0<=told)(h1:told<=((o.x.all G).length:Int)):
  Inv { s with t:=⟨s.t.last,aX id { o with used:=false,told:=told } s.t.l⟩ } ({ a with use:=none }::A) acc al G n:=by
 have ht:=h.jC;rw[Ui,zy ha] at ht;refine⟨h.dir,h.oM.eqv fun j=>?_,h.oL,?_,fun z hz=>?_,h.qX,h.last,h.FX,h.gQ⟩
 ·unfold dI;have:=sK (fun o:On=>rc j o.x.parts) (v:={ o with used:=false,told:=told }) hg
  (try dsimp only at this ⊢)
  rw[fC,fC]
  (try dsimp only)
  omega
 ·rw[Ui,kj rfl,Us];exact ht.free hg h0 h1
 ·rcases Up.1 hz with rfl|hz
  ·exact⟨(h.lN a (Ud ..)).held,(h.lN a (Ud ..)).gQ,(h.lN a (Ud ..)).pins,(h.lN a (Ud ..)).seen⟩
  ·exact h.lN z (Uh _ hz)
theorem Inv.Kq(h:Inv s (a::A) acc al G n){id:Int}(ha:a.use=some id)(hh:a.held=[]){o:On}(hg:aH id s.t.l=some o):Inv { s with t:=⟨s.t.last,bY id s.t.l⟩ } ({ a with use:=none,held:=o.x.parts }::A) acc al G n:=by
 have ht:=h.jC;rw[Ui,zy ha] at ht;have hok:=(ht.on id o hg).1;refine⟨h.dir,h.oM.eqv fun j=>?_,h.oL,?_,fun z hz=>?_,h.qX,h.last,h.FX,h.gQ⟩
 ·unfold dI;have:=xG (fun o:On=>rc j o.x.parts) hg;dsimp only at this ⊢;rw[fC,fC,hh,uh];dsimp only;omega
 ·rw[Ui,kj rfl,Us];exact ht.close
 ·rcases Up.1 hz with rfl|hz
  ·exact⟨hok.kS,hok.gQ,(h.lN a (Ud ..)).pins,(h.lN a (Ud ..)).seen⟩
  ·exact h.lN z (Uh _ hz)
theorem Inv.enter(h:Inv s A acc al G n){who:Int}(hw:who∉A.map Ag.who)(hf:A.length+1<=100):Inv s (Ag.idle who::A) acc al G n:=by
 refine⟨h.dir,h.oM.eqv fun j=>?_,h.oL,h.jC,fun z hz=>?_,by rw[Uy,Wa];exact⟨hw,h.qX⟩,h.last,h.FX,hf⟩
 ·unfold dI;rw[fC];show _+(0+_)+_=_;omega
 ·rcases Up.1 hz with rfl|hz
  ·exact⟨fun p hp=>(by cases hp),h.b0,Uf _,fun f hf=>by cases hf⟩
  ·exact h.lN z hz
theorem Inv.exit(h:Inv s (a::A) acc al G n)(h1:a.flag=none)(h2:a.held=[])(h3:a.pins=[])(h4:a.use=none):Inv s A acc al G n:=by
 have hd:=h.dir;have hc:=h.oL;have ht:=h.jC;rw[Ui,ko h1,Us] at hd;rw[Ui,h3,Us] at hc;rw[Ui,kj h4,Us] at ht;have hw:=h.qX;rw[Uy,Wa] at hw;refine⟨hd,h.oM.eqv fun j=>?_,hc,ht,fun z hz=>h.lN z (Uh _ hz),hw.2,h.last,h.FX,by have:=h.gQ;rw[Uj] at this;omega⟩
 unfold dI;rw[fC,h2,uh];omega
end
section
structure qI where
 oB:Int->Option (Bool×List bZ)
 its:List (Int×List bZ)
 next:Int
def qZ(f:Int->Option (Bool×List bZ))(i:Int)(x:Option (Bool×List bZ))(j:Int):Option (Bool×List bZ):=if j=i then x else f j
theorem sN(f:Int->Option (Bool×List bZ))(i:Int):qZ f i (f i)=f:=by
 funext j;unfold qZ;split
 ·rename_i e;rw[e]
 ·rfl
namespace qI
def new:qI:=⟨fun _=>none,[],0⟩
def err(m:qI)(e:Int):qI×iS:=(m,⟨e,0,[]⟩)
def act(m:qI)(o:gR):qI×iS:=
 if aP.bad o then m.err 4
 else if o.kind=6 then match aH o.iter m.its with
  |none=>m.err 3
  |some L=>({ m with its:=aX o.iter (L.drop (min (max o.N 0) 1000).toNat) m.its },⟨0,0,L.take (min (max o.N 0) 1000).toNat⟩)
 else if o.kind=7 then match aH o.iter m.its with
  |none=>m.err 3
  |some _=>({ m with its:=bY o.iter m.its },⟨0,0,[]⟩)
 else match m.oB o.aA with
  |none=>if o.kind=1 then({ m with oB:=qZ m.oB o.aA (some (false,[⟨o.T,(o.V:Int)⟩])) },⟨0,0,[]⟩) else m.err 3
  |some (cl,L)=>
   if o.kind=1 then if cl then m.err 2 else if o.T<=eG L then m.err 1 else({ m with oB:=qZ m.oB o.aA (some (false,L++[⟨o.T,(o.V:Int)⟩])) },⟨0,0,[]⟩)
   else if o.kind=2 then(m,⟨0,0,within L o.F o.To⟩)
   else if o.kind=3 then if cl then m.err 2 else({ m with oB:=qZ m.oB o.aA (some (true,L)) },⟨0,0,[]⟩)
   else if o.kind=4 then({ m with oB:=qZ m.oB o.aA none },⟨0,0,[]⟩)
   else if m.its.length ≥ 8 then m.err 5
   else({ m with its:=m.its++[(m.next+1,within L o.F o.To)],next:=m.next+1 },⟨0,m.next+1,[]⟩)
end qI
variable{s:cG}{a:Ag}{A:List Ag}{acc:List aG}{al:Int->Bool}{G G':Int->fZ}{n n':Nat}{d:List iU}
def aG.cX(G:Int->fZ)(x:aG):Option (Bool×List bZ):=if x.there then some (x.closed,x.all G) else none
def dJ(d:List iU)(G:Int->fZ)(i:Int):Option (Bool×List bZ):=match dM.at_ d i with
 |some p=>p.s.cX G
 |none=>none
def dV(l:List (Int×On))(G:Int->fZ):List (Int×List bZ):=l.map fun p=>(p.1,(p.2.x.all G).drop p.2.told.toNat)
def abs(s:cG)(G:Int->fZ):qI:=⟨dJ s.d G,dV s.t.l G,s.t.last⟩
theorem tl{i:Nat}(hi:i<16):dM.at_ d (i:Int)=d[i]?:=by
 unfold dM.at_
 rw[if_pos ⟨cI,cI⟩];congr 1
theorem Rz{i:Int}(h:¬(0<=i∧i<16)):dM.at_ d i=none:=by unfold dM.at_;rw[if_neg h]
theorem P1{i:Int}(h0:0<=i)(h1:i<16):dM.at_ d i=d[i.toNat]?:=by unfold dM.at_;rw[if_pos ⟨h0,h1⟩]
theorem Kr{i:Nat}{p q:iU}(hp:d[i]?=some p)(j:Int):dM.at_ (d.set i q) j=if j=(i:Int)∧i<16 then some q else dM.at_ d j:=by
 by_cases hj:0<=j∧j<16
 ·rw[P1 hj.1 hj.2,P1 hj.1 hj.2];by_cases e:j=(i:Int)
  ·subst e;rw[if_pos ⟨rfl,cI⟩,show((i:Int)).toNat=i from by omega]
   exact ve hp
  ·rw[if_neg (fun h=>e h.1)];exact gr O0
 ·rw[Rz hj,Rz hj,if_neg];rintro⟨e,RA⟩;omega
theorem zS{i:Nat}{p q:iU}(hp:d[i]?=some p)(hi:i<16):dJ (d.set i q) G=qZ (dJ d G) (i:Int) (q.s.cX G):=by
 funext j;unfold dJ qZ;rw[Kr hp];by_cases e:j=(i:Int)
 ·rw[if_pos ⟨e,hi⟩,if_pos e]
 ·rw[if_neg (fun h=>e h.1),if_neg e]
theorem nH{i:Nat}{p:iU}(hp:d[i]?=some p)(hi:i<16):dJ d G (i:Int)=p.s.cX G:=by
 unfold dJ;rw[tl hi,hp]
theorem Et{i:Nat}{p q:iU}(hp:d[i]?=some p)(hi:i<16)(hq:q.s.cX G=p.s.cX G):dJ (d.set i q) G=dJ d G:=by
 rw[zS hp hi,hq,<- nH hp hi,sN]
theorem Inv.P2(h:Inv s A acc al G n){i:Nat}{p:iU}(hp:s.d[i]?=some p):i<16:=by
 rw[<- h.dir.len];exact(Uc.1 hp).1
theorem CW(h:Inv s A acc al G n)(hG:∀id,id<=s.b.last->G' id=G id):dJ s.d G'=dJ s.d G:=by
 funext j;unfold dJ;cases ha:dM.at_ s.d j with
 |none=>rfl
 |some p=>
  have hm:∃i:Nat,s.d[i]?=some p:=by
   unfold dM.at_ at ha
   split at ha
   ·exact⟨_,ha⟩
   ·cases ha
  obtain⟨i,hi⟩:=hm;show p.s.cX G'=p.s.cX G;unfold aG.cX;rw[((h.dir.ok i p hi).1.more (Ut _) hG).2]
theorem CX(h:Inv s A acc al G n)(hG:∀id,id<=s.b.last->G' id=G id):dV s.t.l G'=dV s.t.l G:=by
 unfold dV;refine List.map_congr_left fun p hp=>?_;rw[mE.same (h.jC.on p.1 p.2 (fw h.jC.nd hp)).1.kS hG]
theorem U2(h:Inv s A acc al G n)(hG:∀id,id<=s.b.last->G' id=G id):abs s G'=abs s G:=by
 unfold abs;rw[CW h hG,CX h hG]
theorem zT{l:List (Int×On)}{id:Int}{o o':On}(hg:aH id l=some o):dV (aX id o' l) G=aX id ((o'.x.all G).drop o'.told.toNat) (dV l G):=(vy (fun o:On=>(o.x.all G).drop o.told.toNat) id o' l).symm
theorem kU(l:List (Int×On))(id:Int):aH id (dV l G)=(aH id l).map fun o=>(o.x.all G).drop o.told.toNat:=gw (fun o:On=>(o.x.all G).drop o.told.toNat) id l
theorem xL{l:List (Int×On)}{id:Int}{o o':On}(hg:aH id l=some o)(hx:o'.x=o.x)(ht:o'.told=o.told):dV (aX id o' l) G=dV l G:=by
 rw[zT hg];refine yr ?_;rw[kU,hg,hx,ht];rfl
theorem Eu{l:List (Int×On)}{id:Int}{o:On}(hg:aH id l=none)(ht:o.told=0):dV (aX id o l) G=dV l G++[(id,o.x.all G)]:=by
 have h1:aX id o l=l++[(id,o)]:=by
  clear ht;induction l with
  |nil=>rfl
  |cons p l ih=>
   obtain⟨j,u⟩:=p;rw[aH] at hg;split at hg
   ·cases hg
   ·rename_i hj
    rw[aX,if_neg hj,ih hg];rfl
 rw[h1];unfold dV;rw[Vo];show _++[(id,(o.x.all G).drop o.told.toNat)]=_;rw[ht];rfl
theorem Ev{l:List (Int×On)}(id:Int):dV (bY id l) G=bY id (dV l G):=(ug (fun o:On=>(o.x.all G).drop o.told.toNat) id l).symm
theorem Ew(l:List (Int×On)):(dV l G).length=l.length:=by unfold dV;rw[Vf]
end
end Go.Proofs.YtngdfdangkdgcaaGreatDoor
