import Derived.Test.YthfokedilloheaaGreatDoorP28
set_option linter.all false
set_option maxHeartbeats 100000000
noncomputable section
namespace Go.Abs
open Go.RowKit Go.Proofs
set_option maxRecDepth 100000
section
variable{a:AV}{s:Nat}
variable{L n:Nat}
structure Gm(g:GV)(lv iv:AV)(H:Hp):Prop where
 gv:GvOk g H
 sl:AU H Ad 68 lv g.length (gvC g)
 nl:g=[]->lv=Av
 si:AU H Al 1 iv g.length (A9 ((g.map Prod.fst).map Cd.id))
 ni:g=[]->iv=Av
 dl:∀s,A4 lv s->¬A4 iv s/\∀p∈g,¬A4 p.2 s
 di:∀s,A4 iv s->∀p∈g,¬A4 p.2 s
 wf:Wf H
section
variable{K:KV}{x:Af}{H0 H H':Hp}{g:GV}{lv iv a0:AV}{c:Cd}{v:AV}
def Gm.grow(h:Gm g lv iv H)(wf:Wf H')(kp:∀s q,Ai H s=some q->Ai H' s=some q):Gm g lv iv H':=
 ⟨⟨λp b=>(h.gv.sl p b).kp λs q _=>kp s q,h.gv.nl⟩,h.sl.kp λs q _=>kp s q,h.nl,h.si.kp λs q _=>kp s q,h.ni,h.dl,h.di,wf⟩
def Gm.lti(h:Gm g lv iv H)(b:A4 iv s):s<Ar H:=h.si.lt h.wf b
def Gm.ltl(h:Gm g lv iv H)(b:A4 lv s):s<Ar H:=h.sl.lt h.wf b
def Gm.ltp(h:Gm g lv iv H){p:Cd×AV}(b:p∈g)(d:A4 p.2 s):s<Ar H:=(h.gv.sl p b).lt h.wf d
def C10{cs:Is}(d:cs.length=68)(h1:cs.all AV.one=true):FV Ad 68 Ae 1 [(0,68,.agg cs)] H K=K (.sl 68 (Ar H) 0 1) ((Ar H,.cells false Ad cs)::H):=by
 have e:FV Ad 68 Ae 1 [(0,68,.agg cs)] H K=He (.agg cs) λvs=>HQ vs 0 λn=>ck (Nat.beq n 68) (ck (NQ vs) (Ey 0 vs C7 λb=>It H λs=>K (.sl 68 s 0 1) ((s,.cells false Ad b)::H))):=r_ rfl;have hc:B0 (.agg cs)=cs:=rfl;rw[e,CM,hc,Cs,d,FN,h1];show Ey 0 cs C7 _=_;rw[Ix _ _ _ _ (by rw[d];decide),VY _ _ (by rw[d];rfl),Ca]
def Gm.add(h:Gm g lv iv H)(hv:AU H Al 1 v c.ps.length (A9 c.ps))(hn:c.ps=[]->v=Av)(B:∀s,A4 v s->¬A4 lv s/\¬A4 iv s)(hb:g.length<100):
 ∃i j f k,(∀K:KV,(FV Ad 68 Ae 1 [(0,68,.agg (c.csP v))] H λv1 j=>Dy Ad 68 Ae Ak lv v1 j K)=K i j)/\
  (∀K:KV,(FV Al 1 Ah 1 [(0,1,S c.id)] j λv1 k=>Dy Al 1 Ah Ab iv v1 k K)=K f k)/\Gm (g++[(c,v)]) i f k:=by
 obtain⟨i,j,a1,a2,u,D,w,y⟩:=vU (ie:=Ae) (i2:=Ak) (ys:=c.csP v) h.sl h.wf (OV c) (rM c (AU.one hv)) (by decide) rfl (λ_=>rfl) (by show(_+1)*800<=_;omega) (by omega);have t:AU j Al 1 iv g.length (A9 ((g.map Prod.fst).map Cd.id)):=h.si.kp λs q d r=>w s q r (λe=>(h.dl s e).1 d);obtain⟨f,k,b1,b2,C,b4,A,b6⟩:=vU (ie:=Ah) (i2:=Ab) (ys:=A9 [c.id]) t u rfl rfl (by decide) rfl (λ_=>rfl) (by show(_+1)*16<=_;omega) (by omega);have kp:∀s q,¬A4 lv s->¬A4 iv s->Ai H s=some q->Ai k s=some q:=λs q h1 h2 d=>A _ _ (w _ _ d h1) h2;refine⟨i,j,f,k,λK=>by rw[C10 (OV c) (rM c (AU.one hv))];exact a1 K,λK=>by rw[ZF];exact b1 K,⟨λp b=>?_,λp b=>?_⟩,?_,λe=>by simp at e,?_,λe=>by simp at e,λs d=>⟨λe=>?_,λp b e=>?_⟩,λs d p b e=>?_,C⟩
 ·rcases Zx.1 b with b|b
  ·exact(h.gv.sl p b).kp λs q d=>kp s q (λe=>(h.dl s e).2 p b d) (λe=>h.di s e p b d)
  ·rw[XR]at b;subst b;exact hv.kp λs q d=>kp s q (B s d).1 (B s d).2
 ·rcases Zx.1 b with b|b
  ·exact h.gv.nl p b
  ·rw[XR]at b;subst b;exact hn
 ·have m:gvC (g++[(c,v)])=gvC g++c.csP v:=by simp[gvC]
  rw[m,Ez];exact AU.kp a2 λs q d r=>A s q r λe=>by have:=y s d;have:=h.lti e;omega
 ·have m:A9 (((g++[(c,v)]).map Prod.fst).map Cd.id)=A9 ((g.map Prod.fst).map Cd.id)++A9 [c.id]:=by simp[A9]
  rw[m,Ez];exact b2
 ·have:=b6 s e;have:=AU.lt a2 u d;omega
 ·have:=y s d;rcases Zx.1 b with b|b
  ·have:=h.ltp b e;omega
  ·rw[XR]at b;subst b;have:=hv.lt h.wf e;omega
 ·have:=b6 s d;rcases Zx.1 b with b|b
  ·have:=h.ltp b e;omega
  ·rw[XR]at b;subst b;have:=hv.lt h.wf e;omega
def XA(xs:List Y7)(a:AV):Prop:=a=.list xs.length (xs.flatMap Y7.cs)\/(xs=[]/\a=Av)
def XA.len{xs:List Y7}{K:K2}(h:XA xs a):Bp MJ a K=K (I xs.length):=by
 rcases h with rfl|⟨rfl,rfl⟩<;>exact r_ rfl
def XA.ia{xs:List Y7}{i:Nat}{K:K2}(h:XA xs a)(hi:i<xs.length):D1 MJ a (I i) K=K (.iptr xs[i].cs):=by
 rcases h with rfl|⟨rfl,rfl⟩
 ·exact Xu (f:=Y7.cs) rfl (λ_=>rfl) hi
 ·simp at hi
end
end
section
variable{a b c d:Int}
variable{L n:Nat}
section
variable{K:KV}{x:Af}{xs:List Y7}{a0:AV}
def b6{a b c d e f:Int}{K:K2}:BR B8 [(0,1,I a),(1,1,I b),(2,1,I c),(3,1,I d),(4,1,I e),(5,1,I f)] K=K (.agg [I a,I b,I c,I d,I e,I f]):=id rfl
def b4{K:K2}:BR CO [(0,1,I a),(1,1,I b),(2,1,I c),(3,1,I d)] K=K (.agg [I a,I b,I c,I d]):=id rfl
def bs4{H:Hp}:FV XA3 4 CO 1 [(0,4,.agg [I a,I b,I c,I d])] H K=K (.sl 4 (Ar H) 0 1) ((Ar H,.cells false XA3 [I a,I b,I c,I d])::H):=by
 have e:FV XA3 4 CO 1 [(0,4,.agg [I a,I b,I c,I d])] H K=It H (λs=>K (.sl 4 s 0 1) ((s,.cells false XA3 [I a,I b,I c,I d])::H)):=r_ rfl;rw[e,Ca]
def C2P{k4:KV}(hL:40000<L)(hx:XA xs a0)(a5:∀y∈xs,y.Ok)(w:∀g lv iv H,g.map Prod.fst=QC xs (min 8 xs.length)->Gm g lv iv H->k4 lv H=x):
 ∀(f i:Nat)(g:GV)(lv iv:AV)(H:Hp)(d0 d1 d2 d3:AV),i<=min 8 xs.length->min 8 xs.length-i<f->g.map Prod.fst=QC xs i->Gm g lv iv H->
 TW (L+20) (r! L (n+64)) K k4 f a0 lv iv (I i) d0 d1 d2 d3 H=x:=by
 intro f
 induction f with
 |zero=>intro i g lv iv H d0 d1 d2 d3 _ h;omega
 |succ f ih=>
  intro i g lv iv H d0 d1 d2 d3 hi hf M hh;rw[pB];unfold TY HV Dm A2 Hv;have e8:(AV.v (.int .i64 8))=I ((8:Nat):Int):=rfl;rw[hx.len,e8];by_cases h:i<min 8 xs.length
  ·have R:i<xs.length:=by omega
   obtain⟨y,hy⟩:∃y,xs[i]=y:=⟨_,rfl⟩
   have ak:=a5 _ (NT R);have az:xs.getD i ⟨0,0,0,0,0,0,0⟩=y:=by rw[<-hy];simp[List.getD,KL R]
   rw[hy]at ak;obtain⟨o0,o1,o2,o3,o4,o5,o6⟩:=ak;rw[FG (by omega)];simp only[gT,BW];rw[FG (by omega),BW,Ul,Co];refine PX λbf aa=>?_;refine PX λa9 ab=>?_;have ax:(QC xs i).length=g.length:=by rw[<-M,Po]
   have g8:=(B16 xs i (by omega)).2;have O:QC xs (i+1)=if(cM i y ((QC xs i).map Cd.id)).ps.Nodup/\(cM i y ((QC xs i).map Cd.id)).id∉(QC xs i).map Cd.id then QC xs i++[cM i y ((QC xs i).map Cd.id)] else QC xs i:=by
    have:QC xs (i+1)=if(cM i (xs.getD i ⟨0,0,0,0,0,0,0⟩) ((QC xs i).map Cd.id)).ps.Nodup/\(cM i (xs.getD i ⟨0,0,0,0,0,0,0⟩) ((QC xs i).map Cd.id)).id∉(QC xs i).map Cd.id
     then QC xs i++[cM i (xs.getD i ⟨0,0,0,0,0,0,0⟩) ((QC xs i).map Cd.id)] else QC xs i:=rfl
    rw[this,az]
   have B:∀g' t p q kd u k C,g'.map Prod.fst=QC xs (i+1)->Gm g' t p C->a9 a0 t p (I i) q kd u k C=x:=by
    intro g' t p q kd u k C h1 h2;have ad:∀{K:K2},As Ac .add (I i) (.v (.int .i64 1)) K=K (I ((i+1:Nat):Int)):=λ{K}=>Dd (by omega);rw[ab,aa];simp only[ad];exact ih (i+1) g' t p C q kd u k (by omega) (by omega) h1 h2
   clear aa ab ih w;have l7:∀{H}{K:K2},AE Cq (.iptr y.cs) H K=K (.agg y.cs):=λ{H K}=>r_ rfl;obtain⟨H1,e1,m1,w1,am⟩:=HF (e:=Zn) (zs:=[zI,zI,zI,zI,zI,zI,zI]) (vs:=y.cs) hh.wf rfl;rw[hx.ia R,hy,l7,Bv (cs:=[zI,zI,zI,zI,zI,zI,zI]) rfl,BQ (cs:=[zI,zI,zI,zI,zI,zI,zI]) (vs:=y.cs) (Ax (by simp)) rfl rfl rfl,<-e1];have h1:=hh.grow w1 λs q m=>(am s q m).1;generalize Ar H=q7 at m1;clear e1 am hh;obtain⟨Y, -⟩:=rd7 m1;rw[C3g,Y];refine PX λba ac=>?_;have j:ba (I (kdM i y)) H1=x:=by
    rw[ac];clear ac;refine PX λbg ae=>?_;refine PX λbd J=>?_;have aj:=h1.si;rw[M]at aj;have A:((QC xs i).map Cd.id).length=g.length:=by rw[Po,ax]
    refine C2C (n:=n) (ids:=(QC xs i).map Cd.id) (by omega) o6 m1 (by rw[A];exact aj) (by rw[A];omega) (λu k H2 hp=>?_) (L+20) 0 Av H1 (by omega) (by omega) ⟨.inl ⟨rfl,rfl,rfl⟩,λ_=>rfl,(λs m=>by obtain⟨_,_,_,h⟩:=m;cases h),w1,w1,LH _,λ_ _ h=>h⟩;rw[J,ae];clear J ae;obtain⟨-,r1,r2,r3,r4,r5,r6⟩:=rd7 (hp.kp _ _ m1);simp only[C5h,C5g,C5f,C5e,C5d,C3f,r1,r2,r3,r4,r5,r6];rw[b6,b6,b4,bs4];obtain⟨H3,s3,e3,Z,m3,w3,ao⟩:=push hp.wf (.cells false XA3 [I y.y3,I y.y4,I y.y5,I y.y6]) (by simp);rw[<-Z,<-e3];have a3:J8 (kdM i y):=by
     unfold kdM;split
     ·unfold J8;omega
     ·exact o0
    have a8:YA H3 (some (y.y3,y.y4,y.y5,y.y6)) (.sl 4 s3 0 1):=λC kp=>⟨true,VA (D:=depth-1) (q':=false) (kp _ _ m3) rfl (K7 (λz:Int=>Value.int .i64 z) [y.y3,y.y4,y.y5,y.y6])⟩
    have a7:PL H3 (wZ ((QC xs i).map Cd.id) y.y6 3) u:=.inr (hp.sl.kp λs q _ m=>(ao _ _ m).1);have h3:=h1.grow w3 λs q m=>(ao _ _ (hp.kp s q m)).1;have be:=A5E (ids:=(QC xs i).map Cd.id) (y6:=y.y6) 3;clear r1 r2 r3 r4 r5 r6 e3 Z m3 h1;have ay:∀s∈wZ ((QC xs i).map Cd.id) y.y6 3,s.length=32:=λs m=>by
     obtain⟨c,_,rfl⟩:=PW.1 (A5D _ s m);exact A4G c
    refine tI (n:=n+20) (y:=some (y.y3,y.y4,y.y5,y.y6)) hL w3 a3 o1 o2 o3 o4 o5 o1 o2 o3 o4 o5 o6 a8 ⟨o3,o4,o5,o6⟩ a7 (by omega) ay ?_;show∀v C,AU C Al 1 v (cM i y ((QC xs i).map Cd.id)).ps.length (A9 (cM i y ((QC xs i).map Cd.id)).ps)->((cM i y ((QC xs i).map Cd.id)).ps=[]->v=Av)->Wf C->(∀s q,Ai H3 s=some q->Ai C s=some q)->(∀s,A4 v s->Ar H3<=s)->_;intro v H4 sv nv w4 ap P;have N:(cM i y ((QC xs i).map Cd.id)).Ok:=B6M;have ec:cdM (kdM i y) y.y1 y.y2 y.y3 y.y4 y.y5 y.y1 y.y2 y.y3 y.y4 y.y5 y.y6 (some (y.y3,y.y4,y.y5,y.y6)) (wZ ((QC xs i).map Cd.id) y.y6 3)=cM i y ((QC xs i).map Cd.id):=rfl;rw[ec];generalize cM i y ((QC xs i).map Cd.id)=c at sv nv N O⊢;have h4:=h3.grow w4 ap;have hd:∀s,A4 v s->¬A4 lv s/\¬A4 iv s:=λs m=>⟨λe=>by have:=h3.ltl e;have:=P s m;omega,λe=>by have:=h3.lti e;have:=P s m;omega⟩
    obtain⟨X,e5,m5,w5,V⟩:=HF (e:=Ad) (zs:=C7) (vs:=c.csP v) w4 (OV c);rw[Bv (cs:=C7) rfl,BQ (cs:=C7) (vs:=c.csP v) (Ax (by simp)) (OV c) rfl (rM c (AU.one sv)),<-e5];have h5:=h4.grow w5 λs q m=>(V s q m).1;have ar:=AU.kp sv λs q _ m=>(V s q m).1;generalize Ar H4=r at m5;have lc:∀{K},AE Ae (.ptr r 0 0) X K=K (.agg (c.csP v)):=λ{K}=>Br rfl (by exact(OV c).symm) m5;clear e5 V h4 h3 sv ap P m5;have ah:((QC xs i).map Cd.id).length<1000:=by rw[A];omega
    have a4:([]:Ha)∉(QC xs i).map Cd.id:=λe=>by
     obtain⟨d,_,hd⟩:=PW.1 e;exact nP d hd
    have af:∀{s:Ha}{K},Aq (r! L (n+64)) TJ [iv,S s] X K=K (mN s ((QC xs i).map Cd.id) 0):=λ{s K}=>by
     have aq:=h5.si;rw[M,<-A]at aq;have bc:(QC xs i).map Cd.id=[]->iv=Av:=λe=>h5.ni (by
      have:g.length=0:=by rw[<-A,e];rfl
      exact kC this)
     obtain⟨q,hq⟩:=iU (D:=depth-1) (b:=true) aq bc;exact AQ (B6d (L:=L) (n:=n+63) (s:=s) (My ((QC xs i).map Cd.id)) ah (by omega)) (Ao hq (Ao (q:=false) CA AI))
    obtain⟨qc,ai⟩:=X' (D:=depth-2) ar nv;by_cases F:c.ps.Nodup
    ·have Q:∀{K},Aq (r! L (n+64)) FH [.agg (c.csP v)] X K=K (S c.id):=λ{K}=>AQ (Y' (n:=n) hL N F) (Ao (LL (D:=depth-1) ai) AI);rw[lc,Q,af];by_cases hm:c.id∈(QC xs i).map Cd.id
     ·obtain⟨k,hk, -, -,e⟩:=iR _ 0 hm;rw[CD λhc=>hc.2 hm]at O;rw[e,Fl,Fk,ZC,HN (nP c),Bool.not_false];simp only[gT,BW,ntT,Ul];rw[Ba];exact B g lv iv _ _ _ _ X (by rw[O];exact M) h5
     ·rw[Dr ⟨F,hm⟩]at O;obtain⟨t,H6,p,H7,b1,b2,b3⟩:=h5.add ar nv hd (by omega);rw[iS _ 0 hm,Fl,Fk,ZC,HN (nP c),Bool.not_false];simp only[gT,BW,ntF,Ul];rw[Co,lc,b1,b2];exact B (g++[(c,v)]) t p _ _ _ _ H7 (by rw[O,XS,M];rfl) b3
    ·have Q:∀{K},Aq (r! L (n+64)) FH [.agg (c.csP v)] X K=K (S []):=λ{K}=>AQ (B5J (n:=n) hL N F) (Ao (LL (D:=depth-1) ai) AI);rw[CD λhc=>F hc.1]at O;rw[lc,Q,af,iS _ 0 a4,Fl,Fk,ZC,GI rfl,Bool.not_true];simp only[eP,BW,RF];rw[Ba];exact B g lv iv _ _ _ _ X (by rw[O];exact M) h5
   have e2:(AV.v (.int .i64 2))=I ((2:Nat):Int):=rfl;rw[e2];by_cases ag:i<2
   ·have a6:∀{H K},Aq (r! L (n+64)) Mv [I (y.y0.tdiv 3),.v (.int .i64 4)] H K=K (I (pk (y.y0.tdiv 3) 4)):=λ{H K}=>A1e (n:=n+63) (NW o0 (by decide)) (by decide) (by decide) H K;rw[FG (by omega)];simp only[gT,BW,C3g,Y,oC o0 (show(1:Int)<=3 by decide),a6,DT,Ul];by_cases h0:0<pk (y.y0.tdiv 3) 4
    ·rw[GI h0,Co];have e:kdM i y=0:=Dr ⟨ag,h0⟩;rw[e]at j;exact j
    ·rw[HN h0,Ba];have e:kdM i y=y.y0:=CD λhc=>h0 hc.2;rw[e]at j;exact j
   ·rw[FB (by omega)];simp only[eP,BW,gU,RF];rw[Ba];have e:kdM i y=y.y0:=CD λhc=>ag hc.1;rw[e]at j;exact j
  ·have:i=min 8 xs.length:=by omega
   subst this;by_cases h8:xs.length<=8
   ·rw[FB (by omega)];simp only[eP,BW,RF];rw[Ba];exact w g lv iv H M hh
   ·rw[FG (by omega)];simp only[gT,BW];rw[FB (by omega),BW,Ul,Ba];exact w g lv iv H M hh
def B07(m:40000<L)(r:XA xs a0)(f:∀y∈xs,y.Ok):CT (r! L (n+65)) Xo [a0] (eH (QC xs (min 8 xs.length))):=by
 intro K k;rw[tS];unfold Wp A2;simp only[BH];refine C2P m r f (λg lv iv H q e=>?_) (L+20) 0 [] Av Av [] _ _ _ _ (by omega) (by omega) rfl ⟨⟨(λp i=>by cases i),(λp i=>by cases i)⟩,.inl ⟨rfl,rfl,rfl⟩,λ_=>rfl,.inl ⟨rfl,rfl,rfl⟩,λ_=>rfl,(λs j=>by obtain⟨_,_,_,h⟩:=j;cases h),(λs j=>by obtain⟨_,_,_,h⟩:=j;cases h),Fq⟩;refine k _ _ ?_;rw[<-q];exact C0a (D:=depth-2) e.gv e.sl e.nl
end
end
section
variable{L n:Nat}
section
variable{K:KV}{x:Af}{gs:eo}{a w o sm:AV}{H:Hp}{ws:List Int}
def C0p(c:Cd)(H:Hp):∃p,(∀K:K2,CL 31 (.iptr c.cs) K=K p)/\∀K:K2,AE Ab p H K=K (DV c.ps):=by
 match c with
 |.re b u=>exact⟨_,λK=>r_ rfl,λK=>r_ rfl⟩
 |.co b p ps none=>exact⟨_,λK=>r_ rfl,λK=>r_ rfl⟩
 |.co b p ps (some (k,vd))=>exact⟨_,λK=>r_ rfl,λK=>r_ rfl⟩
def B4B{ps:List Ha}{K:K2}:Bp Ab (DV ps) K=K (I ps.length):=(My ps).len
end
end
section
variable{L n:Nat}
section
variable{K:KV}{x:Af}{H:Hp}{l:List AP}{p:AP}{a:AV}
end
section
variable{K:KV}{x:Af}{H:Hp}{il al sl cp:List AP}{idk:AP}{k r rc:Nat}{less:eo}{v:AV}{R:Rt}
end
end
section
variable{L n:Nat}
section
variable{α:Type}{f:α->Is}{w:Nat}
def A5Y(b:∀x,(f x).length=w):∀l:List α,(l.flatMap f).length=l.length*w:=by
 intro l
 induction l with
 |nil=>simp
 |cons a l ih=>rw[oK,Ez,b,ih,Mr,l1e];omega
end
section
variable{gs less:eo}{H:Hp}{K:K2}{D:Nat}
def C0C{r m i:Nat}(h:i<m):D1 Ak (.sl 68 r 0 m) (I (i:Int)) K=K (.ptr r (i*68) 0):=by
 have a:D1 Ak (.sl 68 r 0 m) (I (i:Int)) K=iN (i:Int) λn=>ck (Nat.blt n m) (fN (Nat.add 0 (Nat.mul n 68)) λp=>K (.ptr r p 0)):=rfl;rw[a,Kr,Ef];have h1:Nat.blt i m=true:=by rw[Xe];exact h
 have b:Nat.add 0 (Nat.mul i 68)=i*68:=Kk _;rw[h1,b];rfl
end
section
variable{gs:eo}{k:Nat}
end
end
section
variable{L n:Nat}
section
variable{gs:eo}{s:Ha}
def B5l(h:(gs.map Cd.id).Nodup){i:Nat}(hi:i<gs.length):MG (gr gs) gs[i].id=some (cE gs[i]):=by
 induction gs generalizing i with
 |nil=>simp at hi
 |cons c gs ih=>
  rw[XC,List.nodup_cons]at h;show MG ((c.id,cE c)::gr gs) _=_;unfold MG;cases i with
  |zero=>rw[List.getElem_cons_zero,Dr rfl]
  |succ i=>
   rw[List.getElem_cons_succ];have a:i<gs.length:=by simpa using hi
   rw[CD (λe=>h.1 (PW.2 ⟨_,NT a,e.symm⟩))];exact ih h.2 a
end
end
section
variable{L n:Nat}
section
variable{gs:eo}{f:AP->Bool}{s x y:AP}
def A5z(h:(gs.map Cd.id).Nodup){i:Nat}(hi:i<gs.length):QK gs gs[i].id=gs[i].ps:=by
 have h1:=B5l h hi;rw[C0l]at h1;unfold QK;cases b:MG (gE gs) gs[i].id with
 |none=>rw[b]at h1;cases h1
 |some c=>
  rw[b]at h1;simp only[zC,l0z]at h1;exact congrArg Ce.ps h1
end
section
variable{K:KV}{x:Af}{H:Hp}{gs:eo}{a w:AV}{i:Nat}{R:Rt}
end
section
variable{K:KV}{l:List AP}
end
end
section
variable{gs:eo}{out l:List AP}{x y p m:AP}
def C0X(gs:eo)(out:List AP)(x:AP):Bool:=decide (x∉out)&&(QK gs x).all λp=>decide (p∉gs.map Cd.id)||decide (p∈out)
def B28:C0X gs out x=true↔x∉out/\∀p∈QK gs x,p∈gs.map Cd.id->p∈out:=by
 unfold C0X;rw[KK,decide_eq_true_eq,G9];refine and_congr Iff.rfl ⟨λh p a hi=>?_,λh p a=>?_⟩
 ·have:=h p a;rw[l1i,decide_eq_true_eq,decide_eq_true_eq]at this;exact this.resolve_left λh=>h hi
 ·rw[l1i,decide_eq_true_eq,decide_eq_true_eq];by_cases hi:p∈gs.map Cd.id
  ·exact .inr (h p a hi)
  ·exact .inl hi
def lI(gs:eo)(out:List AP):List AP:=(gs.map Cd.id).filter (C0X gs out)
def Wk:x∈lI gs out↔x∈gs.map Cd.id/\x∉out/\∀p∈QK gs x,p∈gs.map Cd.id->p∈out:=by
 rw[lI,l2z,B28]
def lQ(gs:eo):Nat->List AP->List AP
 |0,out=>out
 |n+1,out=>match Et (lI gs out) with
  |[]=>out
  |m::_=>lQ gs n (out++[m])
def Wn(gs:eo):List AP:=lQ gs gs.length []
structure OrdK(gs:eo)(out:List AP):Prop where
 nd:out.Nodup
 ids:∀x∈out,x∈gs.map Cd.id
 pr:∀a x b,out=a++x::b->∀p∈QK gs x,p∈gs.map Cd.id->p∈a
def OrdK.nil:OrdK gs []:=⟨List.nodup_nil,by simp,λa x b h=>by cases a<;>cases h⟩
def OrdK.step(h:OrdK gs out)(hm:m∈lI gs out):OrdK gs (out++[m]):=by
 obtain⟨h1,h2,n⟩:=Wk.1 hm;refine⟨l36.2 ⟨h.nd,by simp,λa q c hc=>by simp at hc;subst hc;exact λe=>h2 (e▸q)⟩,λx d=>?_,λa x b e p j hi=>?_⟩
 ·rcases Zx.1 d with d|d
  ·exact h.ids x d
  ·rw[XR]at d;subst d;exact h1
 ·rcases List.eq_nil_or_concat b with rfl|⟨g,z,rfl⟩
  ·have:=List.append_inj' e rfl;obtain⟨f,i⟩:=this;cases i
   subst f;exact n p j hi
  ·have k:out++[m]=(a++x::g)++[z]:=by rw[e];simp
   obtain⟨f,i⟩:=List.append_inj' k rfl;exact h.pr a x g f p j hi
def YB{α:Type}:∀{l1 l2:List α},l1.Nodup->(∀x∈l1,x∈l2)->l1.length<=l2.length:=by
 intro l1
 induction l1 with
 |nil=>intro _ _ _;exact l1h _
 |cons a l ih=>
  intro l2 hn b;rw[List.nodup_cons]at hn;have d:a∈l2:=b a (by simp);obtain⟨u,v,rfl⟩:=List.append_of_mem d;have:=ih (l2:=u++v) hn.2 λx c=>by
   have h1:=b x (by simp[c]);rw[Zx,Xd]at h1;rw[Zx];rcases h1 with h1|h1|h1
   ·exact .inl h1
   ·subst h1;exact absurd c hn.1
   ·exact .inr h1
  simp at this⊢;omega
def OrdK.len(h:OrdK gs out):out.length<=gs.length:=by
 have:=YB h.nd h.ids;rw[Po]at this;exact this
def OrdK.all(h:OrdK gs out)(c:gs.length<=out.length)(b:x∈gs.map Cd.id):x∈out:=by
 apply l37;intro hn;have:=YB (l1:=x::out) (l2:=gs.map Cd.id) (List.nodup_cons.2 ⟨hn,h.nd⟩) λy a=>by
  rcases Xd.1 a with rfl|a
  ·exact b
  ·exact h.ids y a
 rw[Po,Mr]at this;omega
def A0Y(h:OrdK gs out)(a:gs.length<=out.length):lI gs out=[]:=by
 rw[List.eq_nil_iff_forall_not_mem];intro x b;obtain⟨h1,h2,_⟩:=Wk.1 b;exact h2 (h.all a h1)
def B0A:∀(n:Nat)(out:List AP),OrdK gs out->gs.length<=out.length+n->OrdK gs (lQ gs n out)/\lI gs (lQ gs n out)=[]:=by
 intro n
 induction n with
 |zero=>intro out h a;exact⟨h,A0Y h a⟩
 |succ n ih=>
  intro out h a;unfold lQ;cases b:Et (lI gs out) with
  |nil=>
   refine⟨h,?_⟩;have:=(Bl (lI gs out)).length_eq;rw[b]at this;exact kC this.symm
  |cons m l=>
   have hm:m∈lI gs out:=(Bl _).mem_iff.1 (by rw[b];simp);exact ih (out++[m]) (h.step hm) (by rw[Ez,List.length_singleton];omega)
def Qq:OrdK gs (Wn gs)/\lI gs (Wn gs)=[]:=B0A gs.length [] OrdK.nil (by simp)
def OrdK.before(h:OrdK gs out){a b:List AP}(e:out=a++x::b)(c:Anc gs x y):y∈a:=by
 induction c with
 |one h1 h2=>exact h.pr a x b e _ h2 h1
 |more _ h1 h2 ih=>
  obtain⟨u,v,rfl⟩:=List.append_of_mem ih;have:=h.pr u _ (v++x::b) (by rw[e];simp) _ h2 h1;exact List.mem_append_left _ this
def OrdK.acyc(h:OrdK gs out)(d:x∈out):¬Anc gs x x:=by
 intro c;obtain⟨a,b,rfl⟩:=List.append_of_mem d;have:=h.before rfl c;have hn:=h.nd;rw[l36]at hn;exact hn.2.2 x this x (by simp) rfl
def A87(h:Anc gs x p)(hq:Anc gs p y):Anc gs x y:=by
 induction hq with
 |one h1 h2=>exact .more h h1 h2
 |more _ h1 h2 ih=>exact .more ih h1 h2
open Classical in
def B5P(b:¬Anc gs p p)(h:Anc gs x p):(A2u gs p).length<(A2u gs x).length:=by
 unfold A2u;rw[(Bl _).length_eq,(Bl _).length_eq];refine A7H (λa _ hq=>?_) h.ids (GI h) (HN b);rw[decide_eq_true_eq]at hq⊢;exact A87 h hq
def OrdK.full(h:OrdK gs out)(hr:lI gs out=[])(a:∀x∈gs.map Cd.id,¬Anc gs x x):∀(n:Nat)(x:AP),(A2u gs x).length<n->x∈gs.map Cd.id->x∈out:=by
 intro n
 induction n with
 |zero=>intro x h;omega
 |succ n ih=>
  intro x e d;apply l37;intro hn;have h1:x∉lI gs out:=by rw[hr];simp
  refine h1 (Wk.2 ⟨d,hn,λp c hi=>?_⟩);have b:Anc gs x p:=.one hi c;have:=B5P (a p hi) b;exact ih p (by omega) hi
def B0z(hn:(gs.map Cd.id).Nodup):gs.length<=(Wn gs).length↔∀x∈gs.map Cd.id,¬Anc gs x x:=by
 obtain⟨h1,h2⟩:=Qq (gs:=gs);constructor
 ·intro b x a;exact h1.acyc (h1.all b a)
 ·intro h;have:=YB hn λx a=>h1.full h2 h _ x (Nat.lt_succ_self _) a;rw[Po]at this;exact this
def Jw(gs:eo):List AP:=Et ((gs.map Cd.id).filter λx=>decide (∀c∈gs,x∉c.ps))
def mM:x∈Jw gs↔x∈gs.map Cd.id/\∀c∈gs,x∉c.ps:=by
 rw[Jw,(Bl _).mem_iff,l2z,decide_eq_true_eq]
def uW(h:(gs.map Cd.id).Nodup):(Jw gs).Nodup:=(Bl _).symm.nodup (h.sublist List.filter_sublist)
def A7x:(Jw gs).length<=gs.length:=by
 rw[Jw,(Bl _).length_eq];have:=l30 (λx=>decide (∀c∈gs,x∉Cd.ps c)) (gs.map Cd.id);rw[Po]at this;exact this
end
section
variable{v:AV}{PP:Af->Prop}{q:Bool}{D i r:Nat}
variable{L n:Nat}
section
variable{l:List AP}{m a b:AP}{x:Af}{K:KV}{H:Hp}
def C3T{K:K2}:eMM true (S a) (S b) K=K (S (if a<=b then a else b)):=by
 have e:eMM true (S a) (S b) K=@Bool.rec (λ_=>Af) (K (S b)) (K (S a)) (ltB a b||eqB a b):=rfl;rw[e,P_,QZ,bytesLess_eq];by_cases h:a<=b
 ·have h1:(decide (a<b)||a==b)=true:=by
   by_cases h2:a<b
   ·simp[h2]
   ·have:=sV h h2;simp[this]
  rw[Dr h,h1]
 ·have h1:(decide (a<b)||a==b)=false:=by
   have h2:¬a<b:=λh2=>h ((NB a b).elim id λc=>absurd h2 c);have c:a≠b:=λe=>h (e▸((NB a a).elim id id));simp[h2,c]
  rw[CD h,h1]
def B9P{g:KV}(hm:m∈l)(e:∀y∈l,m<=y)(hb:l.length<1000000)(j:g (S m) H=x):∀(f i:Nat)(cur:AP),i<=l.length->l.length-i<f->cur∈l->(∀y∈l.take i,cur<=y)->
 GQ (L+20) (rt (L+20) n) K g f (Ls l) (S cur) (I i) H=x:=by
 intro f
 induction f with
 |zero=>intro i cur _ h;omega
 |succ f ih=>
  intro i cur hi k hc d;rw[NX];unfold GR HV A2;rw[Nb];by_cases h:i<l.length
  ·rw[FG (by omega),Co,Th h,KD,C3T,Dd (by omega)];refine ih (i+1) _ (by omega) (by omega) ?_ λy c=>?_
   ·split
    ·exact hc
    ·exact NT h
   ·rw[oJ h,Zx,XR]at c;split
    ·rename_i h1;rcases c with c|rfl
     ·exact d y c
     ·exact h1
    ·rename_i h1;have h2:l[i]<=cur:=(NB cur l[i]).elim (λh=>absurd h h1) id;rcases c with c|rfl
     ·exact kS h2 (d y c)
     ·exact(NB _ _).elim id id
  ·have:i=l.length:=by omega
   subst this;rw[wC]at d;rw[FB (by omega),Ba];have:cur=m:=sV (d m hm) (e cur hc);rw[this];exact j
def C1J(hm:m∈l)(d:∀y∈l,m<=y)(hb:l.length<1000000)(j:l.length<L):CS (rt (L+20) (n+1)) HR [Ls l] (S m):=by
 intro K h;rw[Pe];unfold HG A2;have c:0<l.length:=List.length_pos_of_mem hm;simp only[BH];have ls:∀{K:K2},As Ac .lss (I (l.length:Int)) (AV.v (.int .i64 1)) K=K (Bo false):=λ{K}=>FB (by omega);have f:(AV.v (.int .i64 0))=I ((0:Nat):Int):=rfl;have g:(AV.v (.int .i64 1))=I ((1:Nat):Int):=rfl;rw[Nb,ls,Ba,f,Th c,KD,g];refine B9P (n:=n) hm d hb (h _ _ λb=>⟨false,CA⟩) (L+20) 1 _ (by omega) (by omega) (NT c) λy e=>?_;rw[show 1=0+1 from rfl,oJ c,List.take_zero,l3b,XR]at e;subst e;exact(NB _ _).elim id id
end
section
variable{l:List AP}{x:Af}{K:KV}{H:Hp}{fn:AV}{P:AP->Bool}{R:Rt}
def fiN(P:AP->Bool):List AP->Nat->Int
 |[],_=> -1
 |a::l,i=>if P a=true then(i:Int) else fiN P l (i+1)
def B1g{a:AP}:fiN P (a::l) i=if P a=true then(i:Int) else fiN P l (i+1):=rfl
def C06{d:Ru}{a:AV}(e:SA l a)(g:∀(s:AP)(K:KV),Cw (E (L+20)) R fn [S s] H K=K (Bo (P s)) H)(hb:l.length<1000000)(k:∀v,v=fiN P l 0->K (I v) H=x)(p:fiN P l 0= -1->d H=x):
 ∀(f i:Nat),i<=l.length->l.length-i<f->fiN P (l.drop i) i=fiN P l 0->
 DK (L+20) R K d f a fn (I l.length) (I i) H=x:=by
 intro f
 induction f with
 |zero=>intro i _ h;omega
 |succ f ih=>
  intro i hi j he;rw[Hz];unfold DL HV A2;by_cases h:i<l.length
  ·rw[FG (by omega),Co,e.ia h,KD,g];rw[rF h]at he;rw[B1g]at he;cases c:P l[i] with
   |true=>
    rw[c,Dr rfl]at he;rw[Co];exact k _ he
   |false=>
    rw[c,CD (by simp)]at he;rw[Ba,Dd (by omega)];exact ih (i+1) (by omega) (by omega) he
  ·have:i=l.length:=by omega
   subst this;rw[List.drop_length]at he;rw[FB (by omega),Ba];exact p he.symm
def B66{a:AV}(c:SA l a)(g:∀(s:AP)(K:KV),Cw (E (L+20)) (rt (L+20) n) fn [S s] [] K=K (Bo (P s)) [])(hb:l.length<1000000)(h:l.length<L):CS (rt (L+20) (n+1)) DY [a,fn] (I (fiN P l 0)):=by
 intro K f;rw[Ig];unfold DX A2;simp only[BH];have d:(AV.v (.int .i64 0))=I ((0:Nat):Int):=rfl;rw[c.len,d];have fin:∀v H,v=fiN P l 0->K (I v) H=some (I (fiN P l 0),[]):=λv H e=>by
  rw[e];exact f _ _ λb=>⟨false,CA⟩
 refine C06 (R:=rt (L+20) n) c g hb (λv e=>fin v _ e) (λe=>fin (-1) _ e.symm) (L+20) 0 (by omega) (by omega) (by rw[rC])
def Km(H:Hp)(v:AV)(l:List AP):Prop:=(v=Av/\l=[])\/∃r q c,v=.sl 1 r 0 l.length/\Ai H r=some (.cells q Al (A9 l++c))
def Km.len(h:Km H v l){K:K2}:Bp Ab v K=K (I l.length):=by
 rcases h with⟨rfl,rfl⟩|⟨r,q,c,rfl,_⟩<;>exact r_ rfl
def Km.kp{H':Hp}(h:Km H v l)(k:∀u y,A4 v u->Ai H u=some y->Ai H' u=some y):Km H' v l:=by
 rcases h with h|⟨r,q,c,h1,h2⟩
 ·exact .inl h
 ·exact .inr ⟨r,q,c,h1,k r _ ⟨1,0,_,h1⟩ h2⟩
theorem Km.lt(h:Km H v l)(w:Wf H){u:Nat}(d:A4 v u):u<Ar H:=by
 obtain⟨a,b,c,rfl⟩:=d;rcases h with⟨h,_⟩|⟨r,q,e,h1,h2⟩
 ·cases h
 ·injection h1 with _ h1;subst h1;exact w.lt h2
def V0{b:Bool}:∀l:List AP,Rm b D (A9 l) (A9 l) H false:=by
 intro l
 induction l with
 |nil=>exact AI
 |cons s l ih=>exact Ao (q:=false) CA ih
def Km.fx(h:Km H v l):∃a q,SA l a/\Fx true (D+1) v a H q:=by
 rcases h with⟨rfl,rfl⟩|⟨r,q,c,rfl,h2⟩
 ·exact⟨Av,false,.inr ⟨rfl,rfl⟩,CA⟩
 ·refine⟨Ls l,true,.inl rfl,Xj (q':=false) h2 (by rw[Ez,AZ];omega) ?_⟩;have:((A9 l++c).drop 0).take (l.length*1)=A9 l:=by
   rw[rC,oI];have:=List.take_left (l₁:=A9 l) (l₂:=c);rw[AZ]at this;exact this
  rw[this];exact V0 l
def ZA{m i:Nat}(h:i<=m){K:K2}:DS Ab (.sl 1 r 0 m) (some (I (i:Int))) none none K=K (.sl 1 r i (m-i)):=by
 have e:DS Ab (.sl 1 r 0 m) (some (I (i:Int))) none none K=ck (Nat.beq 1 1) (iN (i:Int) λl=>fN m λh=>fN m λx=>ck ((true||false)&&(Nat.ble l h&&(Nat.ble h x&&Nat.ble x m))) (fN (Nat.add 0 (Nat.mul l 1)) λd=>fN (Nat.sub h l) λn=>K (.sl 1 r d n))):=rfl;rw[e,Kr,Ef,Ef];have c:((true||false)&&(Nat.ble i m&&(Nat.ble m m&&Nat.ble m m)))=true:=by simp;omega
 rw[c];show fN (Nat.add 0 (Nat.mul i 1)) (λd=>fN (Nat.sub m i) λn=>K (.sl 1 r d n))=_;rw[Ef,Ef];have f:Nat.add 0 (Nat.mul i 1)=i:=by show 0+i*1=i;omega
 rw[f];rfl
def VE{m i:Nat}(h:i<=m){K:K2}:DS Ab (.sl 1 r 0 m) none (some (I (i:Int))) none K=K (.sl 1 r 0 i):=by
 have e:DS Ab (.sl 1 r 0 m) none (some (I (i:Int))) none K=ck (Nat.beq 1 1) (fN 0 λl=>iN (i:Int) λh=>fN m λx=>ck ((true||true)&&(Nat.ble l h&&(Nat.ble h x&&Nat.ble x m))) (fN (Nat.add 0 (Nat.mul l 1)) λd=>fN (Nat.sub h l) λn=>K (.sl 1 r d n))):=rfl;rw[e,Ef,Kr,Ef];have c:((true||true)&&(Nat.ble 0 i&&(Nat.ble i m&&Nat.ble m m)))=true:=by simp;omega
 rw[c];show fN (Nat.add 0 (Nat.mul 0 1)) (λd=>fN (Nat.sub i 0) λn=>K (.sl 1 r d n))=_;rw[Ef,Ef];rfl
def B1Q{r i m:Nat}{cs:Is}(e:Ai H r=some (.cells q Al cs))(h:i+m<=cs.length):∃c d,(∀K:Ru,vJ 1 Ah (.sl 1 r i m) H K=K d)/\Ai d r=some (.cells q Al c)/\c.take i=cs.take i/\Lat H d (λu=>u=r):=by
 cases m with
 |zero=>exact⟨cs,H,λK=>rfl,e,rfl,Lat.refl _ _⟩
 |succ m=>
  refine⟨splice cs i (List.replicate (m+1) (S [])),upd H r (.cells q Al (splice cs i (List.replicate (m+1) (S [])))),λK=>?_,AC e,?_,Lat.upd _ _ _ rfl⟩
  ·have f:vJ 1 Ah (.sl 1 r i (m+1)) H K=He Ah.zero λz=>HQ z 0 λk=>ck (Nat.beq k 1&&(Nat.beq 1 1&&NQ z)) (YT (m+1) z λg=>IQ H r λx=>gH x λq E cs=>Ey i g cs λc=>LJ H r (.cells q E c) K):=rfl;have hz:B0 Ah.zero=[S []]:=rfl;rw[f,CM,hz,Cs];show YT (m+1) [S []] _=_;rw[zN,Bn e];show Ey i (List.replicate (m+1) (S [])) cs _=_;rw[Ix _ _ _ _ (by rw[List.length_replicate];omega),Dg]
  ·unfold splice;rw[eK,l32 (by rw[zF];omega),List.take_take,Nat.min_self]
def A1O(P:AP->Bool):∀(l:List AP)(k:Nat),(fiN P l k= -1/\∀a∈l,P a=false)\/∃(i:Nat)(h:i<l.length),fiN P l k=((k+i:Nat):Int)/\P l[i]=true/\∀a∈l.take i,P a=false:=by
 intro l
 induction l with
 |nil=>intro k;exact .inl ⟨rfl,by simp⟩
 |cons a l ih=>
  intro k;unfold fiN;cases c:P a with
  |true=>
   rw[Dr rfl];exact .inr ⟨0,by simp,by simp,c,by simp⟩
  |false=>
   rw[CD (by simp)];rcases ih (k+1) with⟨h1,h2⟩|⟨i,h,h1,h2,d⟩
   ·refine .inl ⟨h1,λb hb=>?_⟩;rcases Xd.1 hb with rfl|hb
    ·exact c
    ·exact h2 b hb
   ·refine .inr ⟨i+1,by simp;omega,by rw[h1];congr 1;omega,h2,λb hb=>?_⟩;rw[List.take_succ_cons]at hb;rcases Xd.1 hb with rfl|hb
    ·exact c
    ·exact d b hb
def C0I{k12:AV->KV}{H0:Hp}{tl:Is}(hb:l.length<1000000)(w0:Wf H0)(N:∀H',Lat H0 H' (λu=>u=r)->∀(s:AP)(K:KV),Cw (E (L+20)) R fn [S s] H' K=K (Bo (P s)) H')(e:∀cs H',Ai H' r=some (.cells q Al cs)->cs.length=l.length+tl.length->cs.take (l.filter λs=>!P s).length=A9 (l.filter λs=>!P s)->Lat H0 H' (λu=>u=r)->PP (k12 (.sl 1 r 0 l.length) (I (l.filter λs=>!P s).length) H')):
 ∀(f j:Nat)(cs:Is)(H':Hp),j<=l.length->l.length-j<f->Ai H' r=some (.cells q Al cs)->cs.length=l.length+tl.length->cs.take ((l.take j).filter λs=>!P s).length=A9 ((l.take j).filter λs=>!P s)->cs.drop j=A9 (l.drop j)++tl->Lat H0 H' (λu=>u=r)->((l.take j).filter λs=>!P s).length<j->
 PP (ES (L+20) R K k12 f (.sl 1 r 0 l.length) fn (I ((l.take j).filter λs=>!P s).length) (I j) H'):=by
 intro f
 induction f with
 |zero=>intro j cs H' _ h;omega
 |succ f ih=>
  intro j cs H' V O g c w M t Q;rw[Lz];unfold ET HV A2;have el:∀K,Bp Ab (.sl 1 r 0 l.length) K=K (I l.length):=λK=>id rfl;rw[el];by_cases h:j<l.length
  ·have hc:j<cs.length:=by omega
   have k:=M;rw[rF hc,rF h]at k;injection k with k B
   have y:∀{K:K2},AE Ah (.ptr r j 0) H' K=K (S l[j]):=λ{K}=>by
    rw[AL (p:=j) rfl g hc,UT,KL hc,l1q,k]
   rw[FG (by omega),Co];simp only[BH];rw[RA h,y,N H' t,DR];have F:(l.take (j+1)).filter (λs=>!P s)=(l.take j).filter (λs=>!P s)++[l[j]].filter (λs=>!P s):=by
    rw[oJ h,List.filter_append]
   cases J:P l[j] with
   |true=>
    have d:(l.take (j+1)).filter (λs=>!P s)=(l.take j).filter (λs=>!P s):=by rw[F];simp[J]
    show PP (A1 (.v (.bool false)) _ _);rw[Ba,Dd (by omega)];have:=ih (j+1) cs H' (by omega) (by omega) g c (by rw[d];exact w) B t (by rw[d];omega);rw[d]at this;exact this
   |false=>
    have d:(l.take (j+1)).filter (λs=>!P s)=(l.take j).filter (λs=>!P s)++[l[j]]:=by rw[F];simp[J]
    have hi:((l.take j).filter λs=>!P s).length<l.length:=by omega
    show PP (A1 (.v (.bool true)) _ _);rw[Co,RA hi,D5 g (by omega) rfl rfl rfl,Dd (by omega),Dd (by omega)];have C:((l.take (j+1)).filter λs=>!P s).length=((l.take j).filter λs=>!P s).length+1:=by rw[d,Ez];rfl
    rw[<-C];refine ih (j+1) (cs.set ((l.take j).filter λs=>!P s).length (S l[j])) _ (by omega) (by omega) (AC g) (by rw[List.length_set];exact c) ?_ ?_ (t.trans (Lat.upd _ _ _ (P:=λu=>u=r) rfl) (λ_ _ h=>h) (λ_ _ h=>h)) (by omega)
    ·have A:((l.take j).filter λs=>!P s).length<(cs.set ((l.take j).filter λs=>!P s).length (S l[j])).length:=by rw[List.length_set];omega
     rw[C,oJ A,List.getElem_set_self,d,List.take_set_of_le (LH _),w];simp[A9]
    ·rw[List.drop_set_of_lt (by omega)];exact B
  ·have:j=l.length:=by omega
   subst this;rw[wC]at w⊢;rw[FB (by omega),Ba];exact e cs H' g c w t
def A99(wf:Wf H)(h:Km H v l)(hb:l.length<100000)(hL:200000<L)(F:∃d q,Fx true depth fn d H q/\∀(s:AP)(K:KV),Cw (E (L+20)) (rt (L+20) n) d [S s] [] K=K (Bo (P s)) [])(hf:∀c,Lat H c (A4 v)->∀(s:AP)(K:KV),Cw (E (L+20)) (rt (L+20) (n+1)) fn [S s] c K=K (Bo (P s)) c)(M:∀N c,Km c N (l.filter λs=>!P s)->(∀u,A4 N u↔A4 v u)->Lat H c (A4 v)->PP (K N c)):PP ((rt (L+20) (n+2)).call Bm [v,fn] H K):=by
 rw[LB];unfold Ff A2;obtain⟨a,q,f,hq⟩:=h.fx (D:=depth-1);obtain⟨d,q',J,C⟩:=F;rw[AQ (B66 (n:=n) f C (by omega) (by omega)) (Ao hq (Ao J AI))];rcases A1O P l 0 with⟨h1,h2⟩|⟨i,hi,h1,h2,h3⟩
 ·have e:∀{K:K2},As Ac .eql (I (-1)) (AV.v (.int .i64 (-1))) K=K (Bo true):=λ{K}=>by rw[Cv,GI rfl]
  rw[h1,e,Co];have Z:l.filter (λs=>!P s)=l:=List.filter_eq_self.2 λa f=>by rw[h2 a f];rfl
  rw[Z]at M;exact M v H h (λ_=>Iff.rfl) (Lat.refl _ _)
 ·rw[Kk]at h1;have e:∀{K:K2},As Ac .eql (I (i:Int)) (AV.v (.int .i64 (-1))) K=K (Bo false):=λ{K}=>by rw[Cv,HN (by omega)]
  rw[h1,e,Ba];simp only[BH];rcases h with⟨_,rfl⟩|⟨r,q0,tl,rfl,hl⟩
  ·simp at hi
  have j:∀u,A4 (.sl 1 r 0 l.length) u↔u=r:=λu=>⟨λ⟨_,_,_,h⟩=>by injection h with _ h;exact h.symm,λh=>h▸⟨1,0,_,rfl⟩⟩
  have lat:∀{c},Lat H c (λu=>u=r)->Lat H c (A4 (.sl 1 r 0 l.length)):=λk=>⟨k.wf,k.nx,λw u y hu hn=>k.keep w u y hu λe=>hn ((j u).2 e)⟩
  have Q:(l.take (i+1)).filter (λs=>!P s)=l.take i:=by
   rw[oJ hi,List.filter_append];have a1:(l.take i).filter (λs=>!P s)=l.take i:=List.filter_eq_self.2 λa f=>by rw[h3 a f];rfl
   rw[a1];simp[h2]
  have V:((l.take (i+1)).filter λs=>!P s).length=i:=by rw[Q,zF];omega
  have ht:A9 (l.take i)=(A9 l).take i:=by simp[A9,List.map_take]
  have hd:A9 (l.drop (i+1))=(A9 l).drop (i+1):=by simp[A9,List.map_drop]
  rw[Dd (by omega)];have main:=C0I (L:=L) (R:=rt (L+20) (n+1)) (K:=K) (fn:=fn) (P:=P) (l:=l) (H0:=H) (r:=r) (q:=q0) (tl:=tl) (PP:=PP)
   (k12:=λp t A=>DS Ab p (some t) none none λv7=>vJ 1 Ah v7 A λY=>DS Ab p none (some t) none λO=>K O Y)
   (by omega) wf (λc k=>hf c (lat k)) (λcs c g1 g2 g3 g4=>?_) (L+20) (i+1) (A9 l++tl) H (by omega) (by omega) hl (by rw[Ez,AZ]) (by rw[V,Q,ht,l32 (by rw[AZ];omega)]) (by rw[hd,l34 (by rw[AZ];omega)]) (Lat.refl _ _) (by omega)
  ·rw[V]at main;exact main
  ·have g:(l.filter λs=>!P s).length<=l.length:=l30 _ _;obtain⟨B,X,c1,c2,c3,c4⟩:=B1Q (H:=c) (r:=r) (i:=(l.filter λs=>!P s).length) (m:=l.length-(l.filter λs=>!P s).length) g1 (by omega);show PP (DS Ab (.sl 1 r 0 l.length) (some (I ((l.filter λs=>!P s).length:Nat))) none none _);rw[ZA g,c1,VE g];refine M _ X (.inr ⟨r,q0,B.drop (l.filter λs=>!P s).length,rfl,?_⟩) (λu=>⟨λ⟨_,_,_,h⟩=>?_,λ⟨_,_,_,h⟩=>?_⟩) (lat (g4.trans c4 (λ_ _ h=>h) (λ_ _ h=>h)))
   ·rw[c2,<-g3,<-c3,l38]
   ·injection h with _ h
    exact⟨1,0,_,by rw[h]⟩
   ·injection h with _ h
    exact⟨1,0,_,by rw[h]⟩
def A9a(wf:Wf H)(h:Km H v l)(hb:l.length<100000)(g:200000<L)(e:∃d q,Fx true depth fn d H q/\∀(s:AP)(K:KV),Cw (E (L+20)) (rt (L+20) n) d [S s] [] K=K (Bo (P s)) [])(j:∀c,Lat H c (A4 v)->∀(s:AP)(K:KV),Cw (E (L+20)) (rt (L+20) (n+1)) fn [S s] c K=K (Bo (P s)) c)(k:∀f c,Km c f (l.filter λs=>!P s)->(∀u,A4 f u↔A4 v u)->Lat H c (A4 v)->K f c=x):(rt (L+20) (n+2)).call Bm [v,fn] H K=x:=
 A99 (PP:=λa=>a=x) wf h hb g e j k
def A9b(wf:Wf H)(h:Km H v l)(hb:l.length<100000)(j:200000<L)(g:∃e q,Fx true depth fn e H q/\∀(s:AP)(K:KV),Cw (E (L+20)) (rt (L+20) n) e [S s] [] K=K (Bo (P s)) [])(k:∀d,Lat H d (A4 v)->∀(s:AP)(K:KV),Cw (E (L+20)) (rt (L+20) (n+1)) fn [S s] d K=K (Bo (P s)) d)(p:∀f d,Km d f (l.filter λs=>!P s)->(∀u,A4 f u->A4 v u)->Lat H d (A4 v)->K f d=x):(rt (L+20) (n+2)).call Bm [v,fn] H K=x:=
 A9a wf h hb j g k λf d a b c=>p f d a (λu h=>(b u).1 h) c
end
end
section
variable{w:AV}{H H0:Hp}{k4:Ru}
variable{L n:Nat}
abbrev wF:=AP×AP
def Pm(gs:eo):List wF:=gs.flatMap λc=>c.ps.map λp=>(c.id,p)
def vY(R:Rt)(L s0 it:Nat)(I:List wF->Hp->Prop):Prop:=∀(b:List wF)(s p:AP)(H:Hp)(K:KV)(x:Af),b.length<1000->I b H->(∀a,I (b++[(s,p)]) a->(∀y,Ai H it=some y->Ai a it=some y)->K (Bo true) a=x)->Cw (E (L+20)) R (.yl s0) [S s,S p] H K=x
def A1G{rem:eo}{a c:List (AP×Cd)}{e:AP×Cd}(h:gE rem=a++e::c):∃b cd rc,rem=b++cd::rc/\a=gE b/\e=(cd.id,cd)/\c=gE rc:=by
 obtain⟨b,j,h1,h2,d⟩:=List.map_eq_append_iff.1 h;obtain⟨cd,rc,f,g,i⟩:=List.map_eq_cons_iff.1 d;subst f;exact⟨b,cd,rc,h1,h2.symm,g.symm,i.symm⟩
section
variable{gs:eo}{K:KV}{x:Af}{s0 it:Nat}{Q:List wF->Hp->Prop}
def A1T:∀gs:eo,(∀c∈gs,c.ps.length<100)->(Pm gs).length<=gs.length*100:=by
 intro gs
 induction gs with
 |nil=>intro _;simp[Pm]
 |cons c gs ih=>
  intro h;have h1:=h c (by simp);have h2:=ih λd a=>h d (by simp[a]);have e:Pm (c::gs)=c.ps.map (λp=>(c.id,p))++Pm gs:=rfl;rw[e,Ez,Po,Mr,l1e];omega
def B5z{b:AV->AV->AV->AV->AV->KV}{j:AV}{s:AP}{ps:List AP}(hb:ps.length<100)(hr:vY (r! L (n+2)) L s0 it Q):∀(f i:Nat)(es:List wF)(H:Hp)(y:Row),i<=ps.length->ps.length-i<f->es.length+(ps.length-i)<1000->Q es H->Ai H it=some y->
 (∀d a,Q (es++(ps.drop i).map λp=>(s,p)) a->Ai a it=some y->b (.yl s0) (S s) j (DV ps) (I ps.length) d a=x)->
 Gk (L+20) (r! L (n+2)) K b f (.yl s0) (S s) j (DV ps) (I ps.length) (I i) H=x:=by
 intro f
 induction f with
 |zero=>intro i es H y _ h;omega
 |succ f ih=>
  intro i es H y hi r hn hm k c;rw[KU];unfold Gp HV A2;by_cases h:i<ps.length
  ·rw[FG (by omega),Co,(My ps).ia h,KD];rw[rF h]at c;refine hr es s ps[i] H _ x (by omega) hm λa e q=>?_;rw[DR];show A1 (.v (.bool false)) _ _=_;rw[Ba,Dd (by omega)];refine ih (i+1) (es++[(s,ps[i])]) a y (by omega) (by omega) (by rw[Ez,List.length_singleton];omega) e (q y k) λd m h2 g=>c d m ?_ g;rw[XC];rw[eK]at h2;exact h2
  ·rw[FB (by omega),Ba];have:i=ps.length:=by omega
   subst this;rw[List.drop_length,List.map_nil,US]at c;exact c _ H hm k
def B5A(hw:VQ 6 w w=true)(hg:gs.length<=8)(R:∀c∈gs,c.ps.length<100)(hL:100<L)(hr:vY (r! L (n+2)) L s0 it Q)(r:∀es H m,Q es H->Wf m->(∀u y,u≠it->Ai H u=some y->Ai m u=some y)->Q es m)(A:∀es H,Q es H->Wf H)(q:∀done H,done.Perm gs->Q (Pm done) H->k4 H=some (w,[])):
 ∀(f:Nat)(rem done:eo)(H:Hp)(o:Option (Value×AV))(d0 d1 d2 B:AV),rem.length<f->(done++rem).Perm gs->Q (Pm done) H->Ai H it=some (.iter (Df DU (gE rem)) o)->
 Gn (L+20) (r! L (n+2)) K k4 f (.yl s0) d0 (.it it) d1 d2 B H=some (w,[]):=by
 intro f
 induction f with
 |zero=>intro rem done H o d0 d1 d2 B h;omega
 |succ f ih=>
  intro rem done H o d0 d1 d2 B hf b hm P;rw[KW];unfold Gq DI A2;refine Y0 (f:=DU) hw P (λe=>?_) (λa e c F=>?_)
  ·have Y:rem=[]:=by
    cases rem with
    |nil=>rfl
    |cons _ _=>cases e
   subst Y;rw[Gz,Ba];rw[US]at b;exact q done H b hm
  ·obtain⟨g,cd,rc,rfl,rfl,rfl,rfl⟩:=A1G F;have D:cd∈gs:=b.mem_iff.1 (by simp);have N:=R cd D;have e9:gE g++gE rc=gE (g++rc):=by simp[gE]
   have i:=LG (es:=Df DU (gE g++gE rc)) (o:=some (.string ⟨⟨cd.id⟩⟩,DU cd)) P;have k:Q (Pm done) (upd H it (.iter (Df DU (gE g++gE rc)) (some (.string ⟨⟨cd.id⟩⟩,DU cd)))):=r _ _ _ hm (Bi (A _ _ hm)) λu y hu O=>by rw[Ag hu];exact O
   show CV (.tup [.v (.bool true),S cd.id,DU cd]) 0 _=_;rw[Gz,Co];simp only[BH];show dB (.it it) (upd H it (.iter (Df DU (gE g++gE rc)) (some (.string ⟨⟨cd.id⟩⟩,DU cd)))) _=_;rw[NK i,Gz,UJ];generalize upd H it (.iter (Df DU (gE g++gE rc)) (some (.string ⟨⟨cd.id⟩⟩,DU cd)))=H1 at i k;obtain⟨X,e2,C,w2,V⟩:=HF (e:=Ad) (zs:=C7) (vs:=cd.cs) (A _ _ k) Eb;rw[Bv (cs:=C7) rfl,BQ (cs:=C7) (vs:=cd.cs) (Ax (by simp)) Eb rfl Ma,<-e2,fA,Kk,B2b C,jG];have M:=r _ _ _ k w2 λu y _ O=>(V u y O).1;have J:=(V _ _ i).1;have Z:(AV.v (.int .i64 0))=I ((0:Nat):Int):=rfl;have t:=b.length_eq;rw[Ez,Ez,Mr]at t;have aa:=A1T done λc hc=>R c (b.mem_iff.1 (by simp[hc]));rw[Z];refine B5z (n:=n) N hr (L+20) 0 (Pm done) X _ (by omega) (by omega) (by omega) M J λd m j s=>?_;rw[rC]at j;have e8:Pm done++cd.ps.map (λp=>(cd.id,p))=Pm (done++[cd]):=by simp[Pm]
   rw[e8]at j;rw[e9]at s;refine ih (g++rc) (done++[cd]) m _ _ _ _ _ (by simp at hf⊢;omega) ?_ j s;refine List.Perm.trans ?_ b;rw[eK];refine List.Perm.append_left done ?_;show(cd::(g++rc)).Perm _;exact List.perm_middle.symm
def A5f(q:VQ 6 w w=true)(m:gs.length<=8)(p:∀c∈gs,c.ps.length<100)(j:100<L)(hr:vY (r! L (n+2)) L s0 (Ar H) Q)(e:∀b g d,Q b g->Wf d->(∀u y,u≠Ar H->Ai g u=some y->Ai d u=some y)->Q b d)(f:∀b H,Q b H->Wf H)(i:Q [] ((Ar H,.iter (Df DU (gE gs)) none)::H))(a:∀done H,done.Perm gs->Q (Pm done) H->K (.tup []) H=some (w,[])):
 (r! L (n+3)).call XA1 [.yl s0,.iptr [gV gs]] H K=some (w,[]):=by
 rw[Lt];unfold GH;have h:∀{H:Hp}{K:K2},AE Aj (.iptr [gV gs]) H K=K (gV gs):=λ{H K}=>Ny rfl;rw[h,Xr];simp only[BH];exact B5A (n:=n) (it:=Ar H) q m p j hr e f (λdone H k hq=>a done H k hq) (L+20) gs [] _ none _ _ _ _ (by omega) (List.Perm.refl _) i (Ax (by simp))
def A97{K:K2}:Aq (r! L (n+1)) Fp [gV gs] H K=K (B1u gs):=by
 refine JT (λK a=>?_) (Ao (q:=false) iW AI);rw[NG];unfold Ja HX;rw[vK];exact a _ _ ⟨true,λK=>by kernel_rfl⟩
abbrev iM(gs:eo):AV:=.fn (.func E3) [] [.iptr [gV gs]]
def B0X{r0 s e0 it:Nat}{q0:Bool}{c6 w:AV}{ks:List AP}(F:VQ 6 w w=true)(q:ks.length<1000000)(i:∀l v H,l.Perm ks->(l=[]->v=Av)->Coll H0 r0 s q0 e0 c6 l v H->k4 H=some (w,[]))(c:it≠r0/\it≠s/\Ar H0<=it):
 ∀(f:Nat)(es:List (AP×Cd))(l:List AP)(v:AV)(H:Hp)(o:Option (Value×AV)),es.length<f->(l++es.map Prod.fst).Perm ks->(l=[]->v=Av)->Coll H0 r0 s q0 e0 c6 l v H->¬A4 v it->Ai H it=some (.iter (Df DU es) o)->
 Ci (L+20) (r! L (n+1)) K k4 f (.yl s) (.it it) H=some (w,[]):=by
 intro f
 induction f with
 |zero=>intro es l v H o h;omega
 |succ f ih=>
  intro es l v H o B m A hc hv p;rw[HM];unfold CY;refine Y0 (f:=DU) F p (λe=>?_) (λa e b he=>?_)
  ·subst e;rw[Gz,Ba];exact i l v H (by simpa using m) A hc
  ·subst he;have g:=hc.it (.iter (Df DU (a++b)) (some (.string ⟨⟨e.1⟩⟩,DU e.2))) c hv;have d:=LG (es:=Df DU (a++b)) (o:=some (.string ⟨⟨e.1⟩⟩,DU e.2)) p;have k:(l++(a++e::b).map Prod.fst).length=ks.length:=m.length_eq;simp at k;have t:tQ (.string ⟨⟨e.1⟩⟩)=S e.1:=rfl;rw[Gz,Co,NK d,Gz,t];refine L' g (by omega) λJ r j C hr=>?_;rw[DR];show A1 (.v (.bool false)) _ _=_;rw[Ba];refine ih (a++b) (l++[e.1]) J r _ (by simp at B⊢;omega) ?_ (by simp) j (λD=>?_) (C it _ c.1 c.2.1 hv d)
   ·refine List.Perm.trans ?_ m;simp only[XS,XC,eK];refine List.Perm.append_left l ?_;show(e.1::(a.map Prod.fst++b.map Prod.fst)).Perm _;exact List.perm_middle.symm
   ·have u:=hr it D;have y:=g.wf.lt d;rw[B1]at u y;omega
def A39(B:VQ 6 w w=true)(J:gs.length<=8)(F:100<L)(wf:Wf H0)(C:∀l v H,l.Perm (gs.map Cd.id)->(l=[]->v=Av)->NewSl H0 l v H->K v H=some (w,[])):
 (r! L (n+4)).call EH [iM gs] H0 K=some (w,[]):=by
 rw[GG];unfold EG;rw[DB];unfold C6;simp only[BH];rw[nI (by rfl),Wa,HZ];unfold Dc;simp only[BH];have w1:=AF (x:=.cells true A7 [Av]) wf;have c:=Ax (H:=H0) (x:=.cells true A7 [Av]) (by simp);have t:Ar ((Ar H0,c_ A7 [Av])::H0)=Ar H0+1:=rfl;have i:Wf ((Ar H0+1,NU (.ptr (Ar H0) 0 0) (iM gs) (some none))::(Ar H0,c_ A7 [Av])::H0):=AF (x:=NU (.ptr (Ar H0) 0 0) (iM gs) (some none)) w1;have e:Ai ((Ar H0+1,NU (.ptr (Ar H0) 0 0) (iM gs) (some none))::(Ar H0,c_ A7 [Av])::H0) (Ar H0+1)=some (NU (.ptr (Ar H0) 0 0) (iM gs) (some none)):=Ax (H:=((Ar H0,c_ A7 [Av])::H0)) (x:=NU (.ptr (Ar H0) 0 0) (iM gs) (some none)) (by simp[NU]);have ol:∀u y,Ai H0 u=some y->Ai ((Ar H0+1,NU (.ptr (Ar H0) 0 0) (iM gs) (some none))::(Ar H0,c_ A7 [Av])::H0) u=some y:=λu y a=>by
  have a1:=A6 (x:=.cells true A7 [Av]) (wf.lt a) a;exact A6 (w1.lt a1) a1
 have k:∀{H:Hp}{K:K2},AE Aj (.iptr [gV gs]) H K=K (gV gs):=λ{H K}=>Ny rfl;rw[k,Xr];have d:Ai ((Ar H0+1,NU (.ptr (Ar H0) 0 0) (iM gs) (some none))::(Ar H0,c_ A7 [Av])::H0) (Ar H0)=some (c_ A7 [Av]):=A6 (w1.lt c) c;show Ci (L+20) (r! L (n+1)) _ _ (L+20) (.yl (Ar H0+1)) (.it (Ar ((Ar H0+1,NU (.ptr (Ar H0) 0 0) (iM gs) (some none))::(Ar H0,c_ A7 [Av])::H0))) ((Ar ((Ar H0+1,NU (.ptr (Ar H0) 0 0) (iM gs) (some none))::(Ar H0,c_ A7 [Av])::H0),.iter (Df DU (gE gs)) none)::((Ar H0+1,NU (.ptr (Ar H0) 0 0) (iM gs) (some none))::(Ar H0,c_ A7 [Av])::H0))=_;generalize f:((Ar H0+1,NU (.ptr (Ar H0) 0 0) (iM gs) (some none))::(Ar H0,c_ A7 [Av])::H0:Hp)=b at i e ol d;have r:Ar b=Ar H0+2:=by rw[<-f];rfl
 have D:=AF (x:=.iter (Df DU (gE gs)) none) i;have up:∀u y,Ai b u=some y->Ai ((Ar b,Row.iter (Df DU (gE gs)) none)::b) u=some y:=λu y j=>A6 (i.lt j) j;have g:Ai ((Ar b,Row.iter (Df DU (gE gs)) none)::b) (Ar b)=some (.iter (Df DU (gE gs)) none):=Ax (by simp);have q:(gE gs).length=gs.length:=by simp[gE]
 refine B0X (n:=n) (H0:=H0) (r0:=Ar H0) (s:=Ar H0+1) (it:=Ar b) (q0:=true) (e0:=A7) (c6:=iM gs) (ks:=gs.map Cd.id) B (by rw[Po];omega) ?_ (by omega) (L+20) (gE gs) [] Av _ none (by omega) (by rw[l3b,Xi]) (λ_=>rfl)
  ⟨up _ _ d,.inl ⟨rfl,rfl,rfl⟩,up _ _ e,λu ⟨_,_,_,h⟩=>(by cases h),D,λu y a=>up u y (ol u y a),by omega,by omega,by omega,wf⟩ (λ⟨_,_,_,h⟩=>(by cases h)) g
 intro l v H A m hc;show IQ H (Ar H0+1) _=_;rw[Bn hc.lp];show LJ H (Ar H0+1) .gone _=_;rw[Dg];have hr:Ai (upd H (Ar H0+1) .gone) (Ar H0)=some (c_ A7 [v]):=by rw[Ag (by omega)];exact hc.at_
 show AE Ab (.ptr (Ar H0) 0 0) (upd H (Ar H0+1) .gone) _=_;rw[AL (p:=0) rfl hr (by simp)];refine C _ _ _ A m ⟨?_,λu a=>(hc.new u a).2.2,Bi hc.wf,λu y a=>?_,?_⟩
 ·exact hc.sl.lat hc.wf (Lat.upd H _ _ (P:=λu=>u=Ar H0+1) rfl) (λu a=>(hc.new u a).2.1)
 ·have:=wf.lt a;rw[Ag (by omega)];exact hc.keep u y a
 ·rw[B1];have:=hc.wf.lt hc.at_;omega
def A8X(k:VQ 6 w w=true)(j:gs.length<=8)(i:100<L)(wf:Wf H0)(m:∀v H,NewSl H0 (Et (gs.map Cd.id)) v H->(gs=[]->v=Av)->K v H=some (w,[])):(r! L (n+6)).call MA [gV gs] H0 K=some (w,[]):=by
 rw[XO];unfold M0;have ky:∀{K:K2},Aq (r! L (n+5)) Dx [gV gs] H0 K=K (iM gs):=λ{K}=>by
  refine JT (λK g=>?_) (Ao (q:=false) iW AI);rw[show n+5=(n+4)+1 from rfl,IY];unfold Dv HX;have f:∀{H:Hp}{K:KV},GZ CH (gV gs) H K=K (.ptr (Ar H) 0 0) ((Ar H,c_ CH [gV gs])::H):=λ{H K}=>vK;rw[f];exact g _ _ ⟨true,λK=>by kernel_rfl⟩
 rw[ky,Hn];unfold EX;refine A39 (n:=n) k j i wf λl v H b c hc=>?_;refine A30 (n:=n) wf (by rw[b.length_eq,Po];omega) c hc λd a=>?_;have e:Et l=Et (gs.map Cd.id):=II ((Bl l).trans (b.trans (Bl _).symm)) (DM l) (DM _);rw[e]at a;refine m v d a λh=>c ?_;subst h;exact kC (by rw[b.length_eq];rfl)
end
end
section
variable{L n:Nat}
section
variable{α:Type}{f:α->AV}{b:List (AP×α)}{x:AP}{H:Hp}
def vN(b:List (AP×α))(x:AP):List (AP×α):=match b with
 |[]=>[]
 |e::b=>if e.1=x then b else e::vN b x
def B1e:∀(b:List (AP×α))(i:Nat),(match YW x b i with|none=>b|some (j,_)=>b.eraseIdx (j-i))=vN b x/\(∀j w,YW x b i=some (j,w)->i<=j):=by
 intro b
 induction b with
 |nil=>intro i;exact⟨rfl,λj w h=>by cases h⟩
 |cons e b ih=>
  intro i;rw[Z6];unfold vN;by_cases h:e.1=x
  ·refine⟨?_,λj w a=>?_⟩
   ·simp[h]
   ·simp[h]at a;omega
  ·obtain⟨h1,h2⟩:=ih (i+1);refine⟨?_,λj w a=>?_⟩
   ·rw[CD h,CD h,<-h1];cases d:YW x b (i+1) with
    |none=>rfl
    |some p=>
     obtain⟨j,w⟩:=p;have:=h2 j w d;have c:j-i=(j-(i+1))+1:=by omega
     simp only[c,List.eraseIdx_cons_succ]
   ·rw[CD h]at a;have:=h2 j w a;omega
def A7X:∀b:List (AP×α),(b.map Prod.fst).Nodup->((vN b x).map Prod.fst).Nodup/\∀y,y∈(vN b x).map Prod.fst↔y∈b.map Prod.fst/\y≠x:=by
 intro b
 induction b with
 |nil=>intro _;exact⟨by simp[vN],λy=>by simp[vN]⟩
 |cons e b ih=>
  intro h;rw[XC,List.nodup_cons]at h;obtain⟨h1,h2⟩:=ih h.2;unfold vN;by_cases he:e.1=x
  ·rw[Dr he];subst he;refine⟨h.2,λy=>?_⟩;rw[XC,Xd];constructor
   ·intro a;exact⟨.inr a,λe=>h.1 (e▸a)⟩
   ·rintro⟨a|a,hn⟩
    ·exact absurd a hn
    ·exact a
  ·rw[CD he];refine⟨?_,λy=>?_⟩
   ·rw[XC,List.nodup_cons];exact⟨λhm=>h.1 ((h2 _).1 hm).1,h1⟩
   ·rw[XC,Xd,h2,XC,Xd];constructor
    ·rintro(rfl|⟨a,hn⟩)
     ·exact⟨.inl rfl,he⟩
     ·exact⟨.inr a,hn⟩
    ·rintro⟨a|a,hn⟩
     ·exact .inl a
     ·exact .inr ⟨a,hn⟩
def C0u{β:Type}(g:α->β):∀(l:List α)(i:Nat),(l.map g).eraseIdx i=(l.eraseIdx i).map g:=by
 intro l
 induction l with
 |nil=>intro i;rfl
 |cons a l ih=>
  intro i;cases i with
  |zero=>rfl
  |succ i=>show g a::(l.map g).eraseIdx i=g a::(l.eraseIdx i).map g;rw[ih]
def B1E{r:Nat}(h:Ai H r=some (.map false (Df f b) none)):∃c,(∀K:Ru,jF (.mp r) (SV x) H K=K c)/\Ai c r=some (.map false (Df f (vN b x)) none)/\Lat H c (λu=>u=r):=by
 have e:∀K:Ru,jF (.mp r) (SV x) H K=IQ H r λy=>mH y λd g=>IC (SV x) d λq=>match q with
  |none=>K H
  |some (i,_)=>LJ H r (.map false (d.eraseIdx i) (C16 g i)) K:=λK=>rfl
 obtain⟨h1,h2⟩:=B1e (x:=x) b 0;cases a:YW x b 0 with
 |none=>
  rw[a]at h1;refine⟨H,λK=>?_,by rw[<-h1];exact h,Lat.refl _ _⟩;rw[e,Bn h];show IC (SV x) (Df f b) _=_;rw[kfK,a];rfl
 |some p=>
  obtain⟨j,w⟩:=p;rw[a]at h1;refine⟨upd H r (.map false (Df f (vN b x)) none),λK=>?_,(BF h).trans rfl,Lat.upd _ _ _ rfl⟩;rw[e,Bn h];show IC (SV x) (Df f b) _=_;rw[kfK,a];show LJ H r (.map false ((Df f b).eraseIdx j) none) K=_;rw[Dg,<-h1,Df,Df,C0u];rfl
end
def V?{gs:eo}{e:wF}:e∈Pm gs↔∃c∈gs,e.1=c.id/\e.2∈c.ps:=by
 unfold Pm;rw[l39];constructor
 ·rintro⟨c,hc,he⟩;obtain⟨p,a,rfl⟩:=PW.1 he;exact⟨c,hc,rfl,a⟩
 ·rintro⟨c,hc,h1,h2⟩;exact⟨c,hc,PW.2 ⟨e.2,h2,by rw[<-h1]⟩⟩
def uM(gs:eo)(p:Option (Option Code)):Row:=.loop 32 [(2,Av),(3,gV gs),(5,.ptr 1 0 0),(8,.dk),(16,.it 2),(25,B1u gs),(27,.dk),(28,.dk),(29,.dk)] (EV).2.1 (EV).2.2.1 (EV).2.2.2 p
structure Hs(gs:eo)(es:List wF)(b:List (AP×Unit))(H:Hp):Prop where
 mm:Ai H 0=some (.map false (Df uS b) none)
 st:Ai H 1=some (c_ CP [.mp 0])
 lp:Ai H 3=some (uM gs (some none))
 wf:Wf H
 nd:(b.map Prod.fst).Nodup
 ky:∀x,x∈b.map Prod.fst↔x∈gs.map Cd.id/\∀e∈es,e.2≠x
section
variable{gs:eo}{K:KV}{x:Af}
def C2S{a:Hp}{K:Ru}(h:Ai a 3=some (uM gs none)):EB a 3 false (some none) K=K (upd a 3 (uM gs (some none))):=Pz h
def B46:vY (r! L (n+2)) L 3 4 (λq H=>∃b,Hs gs q b H):=by
 intro q s p H K x _ ⟨b,h⟩ w;show NV (r! L (n+2)) 3 [S s,S p] H K=x;rw[Pq h.lp (by kernel_rfl)];have c:(r! L (n+2)).run= λt=>Pt (E (L+20)) (r! L (n+1)) t:=rfl;rw[c,lK,P0 h.lp];have j:Ai (upd H 3 (uM gs none)) 0=some (.map false (Df uS b) none):=by rw[Ag (by decide)];exact h.mm
 have d:Ai (upd H 3 (uM gs none)) 1=some (c_ CP [.mp 0]):=by rw[Ag (by decide)];exact h.st
 have i:Ai (upd H 3 (uM gs none)) 3=some (uM gs none):=Fg h.lp;have w1:Wf (upd H 3 (uM gs none)):=Bi h.wf;have k1:∀y,Ai H 4=some y->Ai (upd H 3 (uM gs none)) 4=some y:=λy m=>by rw[Ag (by decide)];exact m
 show AE CI (.ptr 1 0 0) (upd H 3 (uM gs none)) _=_;rw[AL (p:=0) rfl d (by simp)];have u:∀(F:Value->Af),Mt (S p) F=F (SV p):=λF=>id rfl;rw[u];obtain⟨r,d1,d2,g⟩:=B1E (f:=uS) (x:=p) j;show jF (.mp 0) (SV p) (upd H 3 (uM gs none)) _=_;rw[d1];have k:=g.keep w1 _ _ d (by decide);have a:=g.keep w1 _ _ i (by decide);show EB r 3 false (some none) _=_;rw[C2S a];obtain⟨n1,n2⟩:=A7X (x:=p) b h.nd;refine w _ ⟨vN b p,?_,?_,Fg a,Bi (g.wf w1),n1,λz=>?_⟩ λy m=>?_
 ·rw[Ag (by decide)];exact d2
 ·rw[Ag (by decide)];exact k
 ·rw[n2,h.ky];constructor
  ·rintro⟨⟨h1,h2⟩,v⟩;refine⟨h1,λe he=>?_⟩;rcases Zx.1 he with he|he
   ·exact h2 e he
   ·rw[XR]at he;subst he;exact Ne.symm v
  ·rintro⟨h1,h2⟩;exact⟨⟨h1,λe he=>h2 e (List.mem_append_left _ he)⟩,Ne.symm (h2 (s,p) (by simp))⟩
 ·rw[Ag (by decide)];exact g.keep w1 _ _ (k1 y m) (by decide)
def B13{s:AV->AV->AV->AV->AV->AV->AV->KV}{w a0 a1 d0 d2 u y:AV}(Q:VQ 6 w w=true)(hn:(gs.map Cd.id).Nodup)(m:∀b H,Ai H 0=some (.map false (Df uS b) none)->Ai H 1=some (c_ CP [.mp 0])->Wf H->Ar H=3->(b.map Prod.fst).Perm (gs.map Cd.id)->s a0 a1 (.ptr 1 0 0) d0 (.it 2) d2 u y H=some (w,[])):
 ∀(f:Nat)(rem:eo)(b:List (AP×Unit))(H:Hp)(o:Option (Value×AV))(d1:AV),rem.length<f->(b.map Prod.fst++rem.map Cd.id).Perm (gs.map Cd.id)->Ai H 0=some (.map false (Df uS b) none)->Ai H 1=some (c_ CP [.mp 0])->Wf H->Ar H=3->Ai H 2=some (.iter (Df DU (gE rem)) o)->
 SW (L+20) (r! L n) K s f a0 a1 (.ptr 1 0 0) d0 (.it 2) d1 d2 u y H=some (w,[]):=by
 intro f
 induction f with
 |zero=>intro rem b H o d1 h;omega
 |succ f ih=>
  intro rem b H o d1 P i hm B wf r A;rw[mP];unfold SX;refine Y0 (f:=DU) Q A (λe=>?_) (λa e c t=>?_)
  ·have D:rem=[]:=by
    cases rem with
    |nil=>rfl
    |cons _ _=>cases e
   subst D;rw[Gz,Ba];rw[List.map_nil,US]at i;exact m b H hm B wf r i
  ·obtain⟨d,cd,rc,rfl,rfl,rfl,rfl⟩:=A1G t;have J:gE d++gE rc=gE (d++rc):=by simp[gE]
   have g:=LG (es:=Df DU (gE d++gE rc)) (o:=some (.string ⟨⟨cd.id⟩⟩,DU cd)) A;have j:Ai (upd H 2 (.iter (Df DU (gE d++gE rc)) (some (.string ⟨⟨cd.id⟩⟩,DU cd)))) 0=some (.map false (Df uS b) none):=by rw[Ag (by decide)];exact hm
   have k:Ai (upd H 2 (.iter (Df DU (gE d++gE rc)) (some (.string ⟨⟨cd.id⟩⟩,DU cd)))) 1=some (c_ CP [.mp 0]):=by rw[Ag (by decide)];exact B
   have w1:Wf (upd H 2 (.iter (Df DU (gE d++gE rc)) (some (.string ⟨⟨cd.id⟩⟩,DU cd)))):=Bi wf;have n1:Ar (upd H 2 (.iter (Df DU (gE d++gE rc)) (some (.string ⟨⟨cd.id⟩⟩,DU cd))))=3:=by rw[B1];exact r
   show CV (.tup [.v (.bool true),S cd.id,DU cd]) 0 _=_;rw[Gz,Co];show dB (.it 2) (upd H 2 (.iter (Df DU (gE d++gE rc)) (some (.string ⟨⟨cd.id⟩⟩,DU cd)))) _=_;rw[NK g,Gz];generalize upd H 2 (.iter (Df DU (gE d++gE rc)) (some (.string ⟨⟨cd.id⟩⟩,DU cd)))=C at g j k w1 n1;have O:tQ (.string ⟨⟨cd.id⟩⟩)=S cd.id:=rfl;have M:∀{K:K2},BR F8 [] K=K (.agg []):=λ{K}=>id rfl;have N:∀(F:Value->Af),Mt (S cd.id) F=F (SV cd.id):=λF=>id rfl;rw[AL (p:=0) rfl k (by simp),M,O,N];show MC (.mp 0) (SV cd.id) (uS ()) C _=_;rw[jE (f:=uS) (v:=()) j];have q:cd.id∉b.map Prod.fst:=λhc=>by
    have h2:=(i.nodup_iff).2 hn;rw[l36]at h2;exact h2.2.2 _ hc cd.id (by simp) rfl
   rw[Zr q];rw[J]at g;refine ih (d++rc) (b++[(cd.id,())]) _ (some (.string ⟨⟨cd.id⟩⟩,DU cd)) _ (by simp at P⊢;omega) ?_ ((BF j).trans rfl) ?_ (Bi w1) (by rw[B1];exact n1) ?_
   ·refine List.Perm.trans ?_ i;simp only[XS,XC,List.map_nil,eK];refine List.Perm.append_left _ ?_;show(cd.id::(d.map Cd.id++rc.map Cd.id)).Perm _;exact List.perm_middle.symm
   ·rw[Ag (by decide)];exact k
   ·rw[Ag (by decide)];exact g
def B3m{a:AV}(r:GOk gs)(hL:40000<L)(hp:∀c∈gs,c.ps.length<100)(R:LA gs a):CS (r! L (n+80)) UI [a] (DV (Jw gs)):=by
 intro K B;rw[qG];unfold UC;have C:Rm true depth [a] [a] [] false:=by rcases R with rfl|⟨_,rfl⟩<;>exact λK=>by kernel_rfl
 have of:∀{K:K2},Aq (r! L (n+79)) KB [a] [] K=K (.tup [gV gs,Bo true]):=λ{K}=>JT (λK B=>B3j (n:=n+15) r hL R K B) C;have w0:VQ 6 (DV (Jw gs)) (DV (Jw gs))=true:=Tq 6 _ (B0r _);have h8:=r.len;rw[of,Fl,Fk];have e0:∀{F:KV},(LX F8 [] λv4 Z=>Bw CP CI Z λX H7=>DN CI X v4 H7 λH8=>F X H8)=F (.ptr 1 0 0) [(1,c_ CP [.mp 0]),(0,.map false [] none)]:=λ{F}=>by kernel_rfl
 rw[e0];simp only[BH];rw[Xr];refine B13 (n:=n+79) w0 r.ids (λb H hm N wf d s=>?_) (L+20) gs [] _ none _ (by omega) (List.Perm.refl _) rfl rfl (AF (AF (AF Fq))) rfl rfl;rw[A97 (n:=n+78),Wa,d];have ab:Ar ((3,uM gs (some none))::H)=4:=rfl;have Y:Wf ((3,uM gs (some none))::H):=by
  have:=AF (x:=uM gs (some none)) wf;rw[d]at this;exact this
 have M:Ai ((3,uM gs (some none))::H) 3=some (uM gs (some none)):=by
  have:=Ax (H:=H) (x:=uM gs (some none)) (by simp[uM]);rw[d]at this;exact this
 have ol:∀u y,Ai H u=some y->Ai ((3,uM gs (some none))::H) u=some y:=λu y t=>by
  have:=A6 (x:=uM gs (some none)) (wf.lt t) t;rw[d]at this;exact this
 have i:∀u y,Ai ((3,uM gs (some none))::H) u=some y->Ai ((4,.iter (Df DU (gE gs)) none)::(3,uM gs (some none))::H) u=some y:=λu y t=>A6 (x:=.iter (Df DU (gE gs)) none) (Y.lt t) t;show(r! L (n+79)).call XA1 [.yl 3,.iptr [gV gs]] ((3,uM gs (some none))::H) _=_;refine A5f (n:=n+76) (s0:=3) (Q:=λA H=>∃b,Hs gs A b H) w0 h8 hp (by omega) B46 (λA H1 j ⟨b,h⟩ P k=>⟨b,k _ _ (show 0≠4 by decide) h.mm,k _ _ (show 1≠4 by decide) h.st,k _ _ (show 3≠4 by decide) h.lp,P,h.nd,h.ky⟩) (λA H ⟨b,h⟩=>h.wf) ?_ (λdone j V ⟨w,m⟩=>?_)
 ·refine⟨b,i _ _ (ol _ _ hm),i _ _ (ol _ _ N),i _ _ M,AF Y,s.symm.nodup r.ids,λz=>?_⟩;rw[s.mem_iff];exact⟨λh=>⟨h,by simp⟩,λh=>h.1⟩
 ·show IQ j 3 _=_;rw[Bn m.lp];show LJ j 3 .gone _=_;rw[Dg];have N:Ai (upd j 3 .gone) 1=some (c_ CP [.mp 0]):=by rw[Ag (by decide)];exact m.st
  have J:Ai (upd j 3 .gone) 0=some (.map false (Df uS w) none):=by rw[Ag (by decide)];exact m.mm
  show AE CI (.ptr 1 0 0) (upd j 3 .gone) _=_;rw[AL (p:=0) rfl N (by simp)];have g:(w.map Prod.fst).Perm (Jw gs):=by
   refine(l35 m.nd (uW r.ids)).2 λz=>?_;rw[m.ky,mM];refine and_congr Iff.rfl ⟨λh c hc hz=>?_,λh e he=>?_⟩
   ·exact h (c.id,z) (V?.2 ⟨c,V.mem_iff.2 hc,rfl,hz⟩) rfl
   ·obtain⟨c,hc,h1,h2⟩:=V?.1 he;exact λe'=>h c (V.mem_iff.1 hc) (e'▸h2)
  have aa:w.length<1000:=by
   have h1:=g.length_eq;have h2:=A7x (gs:=gs);rw[Po]at h1;omega
  refine oA (n:=n+73) w0 (by omega) (by omega) (Bi m.wf) J g (DM _) λv H hv O=>?_;exact B _ _ λbb=>by
   obtain⟨q,hq⟩:=iU (D:=depth-1) (b:=bb) hv O;exact⟨q,hq⟩
end
end
section
variable{q:Bool}{H1:Hp}{es:List wF}{f r u:Nat}{bo:Option (Hb×Nat)}
variable{L n:Nat}
abbrev iV:Nat->AV:=λk=>I (k:Int)
abbrev aV:AV->AV:=λa=>a
section
variable{H H':Hp}{K:KV}{x:Af}{v:AV}{l:List AP}
def A67{α:Type}{f:α->AV}{b:List (AP×α)}{x:AP}{v:α}(h:Ai H r=some (.map false (Df f b) bo)):∃c,∀K:Ru,MC (.mp r) (SV x) (f v) H K=K (upd H r (.map false (Df f (Ml b x v)) c)):=by
 have e:∀K:Ru,MC (.mp r) (SV x) (f v) H K=IQ H r λy=>mH y λes bo=>IC (SV x) es λq=>match q with
  |none=>LJ H r (.map false (es++[(SV x,f v)]) (vR bo)) K
  |some (i,_)=>LJ H r (.map false (es.set i (SV x,f v)) bo) K:=λK=>rfl
 obtain⟨h1,h2⟩:=A1L (x:=x) v b 0;cases a:YW x b 0 with
 |none=>
  rw[a]at h1;refine⟨vR bo,λK=>?_⟩;rw[e,Bn h];show IC (SV x) (Df f b) _=_;rw[kfK,a];show LJ H r (.map false (Df f b++[(SV x,f v)]) (vR bo)) K=_;rw[Dg,<-h1,Df,Df,XS];rfl
 |some p=>
  obtain⟨j,w⟩:=p;rw[a]at h1;refine⟨bo,λK=>?_⟩;rw[e,Bn h];show IC (SV x) (Df f b) _=_;rw[kfK,a];show LJ H r (.map false ((Df f b).set j (SV x,f v)) bo) K=_;rw[Dg,<-h1,Df,Df,List.map_set,Nat.sub_zero]
def uO{x:Row}{es:IH}(h:Ai H r=some x):Ai (upd H r (.map false es bo)) r=some (.map false es bo):=(BF h).trans rfl
def Ie:¬A4 Av u:=λ⟨_,_,_,h⟩=>by cases h
def AU.rq(h:AU H Al 1 v l.length (A9 l)):Km H v l:=by
 rcases h with⟨h1,h2,_⟩|⟨r,q,h1,h2,_⟩
 ·exact .inl ⟨h1,kC h2⟩
 ·exact .inr ⟨r,q,[],h1,by rw[US];exact h2⟩
def rP{e sz m:Nat}{cs:Is}(h:AU H e sz v m cs):fB v v=true:=by
 rcases h with⟨rfl,_⟩|⟨r,q,rfl,_⟩
 ·rfl
 ·show(Nat.beq sz sz&&(Nat.beq r r&&(Nat.beq 0 0&&Nat.beq m m)))=true;rw[oH,oH,oH,oH];rfl
def okS{a:AV}{K:Af}(h:fB a a=true):QB (Bc (some (a,H)) a) K=K:=by
 show QB (some (.v (.bool (fB a a)),[])) K=K;rw[h];rfl
def C4j(b:AP)(h:Km H v l)(w:Wf H)(hn:l.length<1000000):∃m H',(∀K:KV,(FV Al 1 Ah 1 [(0,1,S b)] H λv1 H1=>Dy Al 1 Ah Ab v v1 H1 K)=K m H')/\Km H' m (l++[b])/\Lat H H' (A4 v)/\(∀u,A4 m u->Ar H<=u):=by
 have main:∃H1,(∀K:KV,Dy Al 1 Ah Ab v (.sl 1 (Ar H) 0 1) ((Ar H,.cells false Al [S b])::H) K=Dy Al 1 Ah Ab v (.sl 1 (Ar H) 0 1) H1 K)/\AU H1 Al 1 v l.length (A9 l)/\Lat ((Ar H,.cells false Al [S b])::H) H1 (A4 v)/\Ar H1=Ar H+1:=by
  rcases h with⟨rfl,rfl⟩|⟨r,q,c,rfl,F⟩
  ·exact⟨_,λK=>rfl,.inl ⟨rfl,rfl,rfl⟩,Lat.refl _ _,rfl⟩
  ·have A:=w.lt F;have a:=A6 (x:=.cells false Al [S b]) A F;cases c with
   |nil=>
    rw[US]at a;exact⟨_,λK=>rfl,.inr ⟨r,q,rfl,a,by rw[AZ];omega⟩,Lat.refl _ _,rfl⟩
   |cons t c=>
    have d:=AC (q:=false) (e:=Al) (cs:=A9 l) a;refine⟨upd ((Ar H,.cells false Al [S b])::H) r (.cells false Al (A9 l)),λK=>?_,.inr ⟨r,false,rfl,d,by rw[AZ];omega⟩,Lat.upd _ _ _ ⟨1,0,_,rfl⟩,by rw[B1];rfl⟩;have e:∀H,Dy Al 1 Ah Ab (.sl 1 r 0 l.length) (.sl 1 (Ar H) 0 1) H K=Dy Al 1 Ah Ab (.sl 1 r 0 l.length) (.sl 1 (Ar H) 0 1) H K:=λ_=>rfl;have C:∀(j:Hp)(src:AV),Dy Al 1 Ah Ab (.sl 1 r 0 l.length) src j K=IQ j r λx=>Kq x λE cs=>HQ cs 0 λcl=>@Bool.rec (λ_=>Af) (SY (Nat.add 0 (Nat.mul l.length 1)) cs λg=>LJ j r (.cells false E g) λH1=>VH Al 1 Ah Ab (.sl 1 r 0 l.length) src H1 K) (VH Al 1 Ah Ab (.sl 1 r 0 l.length) src j K) (Nat.beq (Nat.add 0 (Nat.mul l.length 1)) cl):=λj src=>rfl;have J:Nat.add 0 (Nat.mul l.length 1)=l.length:=by show 0+l.length*1=l.length;omega
    rw[C,C,Bn a,Bn d,J];show(HQ (A9 l++t::c) 0 λcl=>@Bool.rec (λ_=>Af) (SY l.length (A9 l++t::c) λg=>LJ _ r (.cells false Al g) λH1=>VH Al 1 Ah Ab (.sl 1 r 0 l.length) _ H1 K) _ (Nat.beq l.length cl))=(HQ (A9 l) 0 λcl=>@Bool.rec (λ_=>Af) _ (VH Al 1 Ah Ab (.sl 1 r 0 l.length) _ _ K) (Nat.beq l.length cl))
    rw[Cs,Cs,Kk,Kk,AZ,oH,Ez,AZ,Mr];have hb:Nat.beq l.length (l.length+(c.length+1))=false:=by
     cases hc:Nat.beq l.length (l.length+(c.length+1)) with
     |false=>rfl
     |true=>have:=Zy hc;omega
    rw[hb];show SY l.length (A9 l++t::c) _=_;rw[OE];have M:(A9 l++t::c).take l.length=A9 l:=by
     have:=List.take_left (l₁:=A9 l) (l₂:=t::c);rw[AZ]at this;exact this
    rw[M,Dg]
 obtain⟨H1,m1,Q,m3,V⟩:=main;have i:=NY (H:=H) (e:=Al) (n:=1) (cs:=[S b]) rfl;have B:∀u,A4 (.sl 1 (Ar H) 0 1) u->¬A4 v u:=λu ⟨_,_,_,h1⟩ d=>by
  injection h1 with _ h1
  have:=h.lt w d;omega
 have k:AU H1 Al 1 (.sl 1 (Ar H) 0 1) 1 [S b]:=i.kp λu y d P=>m3.keep (AF w) u y P (B u d);obtain⟨m,H',h1,h2,N,O⟩:=apt (ie:=Ah) (i2:=Ab) Q (λK=>OT (K:=K) k) rfl rfl (by decide) rfl rfl (by show(l.length+1)*16<=_;omega) (by omega);refine⟨m,H',λK=>?_,?_,((Lat.cons H _ (A4 v)).trans m3 (R:=A4 v) (λ_ _ h=>h) (λ_ _ h=>h)).trans O (λ_ _ h=>h) (λ_ _ h=>h),λu d=>?_⟩
 ·rw[nQ (z:=S []) (λ_=>rfl) (λ_=>rfl) rfl,m1];exact h1 K
 ·refine AU.rq ?_;rw[Ez,<-kR];exact h2
 ·rw[N u d,V];omega
end
section
variable{H:Hp}{K:KV}{D:Nat}{b:Bool}
def Xk{c:Nat}{q q':Bool}{e:TypeId}{cs cs':Is}(d:Ai H c=some (.cells q e cs))(h:Rm b D cs cs' H q'):Fx b (D+1) (.ptr c 0 0) (.iptr cs') H true:=λK=>by
 show IQ H c (λx=>Kq x λ_ cs=>IK (Ia b H D) (Do (Nat.add 0 0) cs) λ_ a=>K true (.iptr a))=_;rw[Bn d];show IK (Ia b H D) cs _=_;rw[h]
def zM{cs cs':Is}(h:Rm b D cs cs' H q):Fx b (D+1) (.fn (.func f) [] cs) (.fn (.func f) [] cs') H q:=λK=>h _
def C0g{ws:List (AP×Nat)}(h:Ai H r=some (.map false (Df iV ws) bo)):Fx true (D+1) (.mp r) (.imap (Df iV ws)) H true:=λK=>by
 show IQ H r (λx=>qI x λes=>Rj (Ia true H D) es λ_ c=>K true (.imap c))=_;rw[Bn h];show Rj (Ia true H D) (Df iV ws) _=_;have e:∀(es:List (AP×Nat))(F:Bool->IH->Af),Rj (Ia true H D) (Df iV es) F=F false (Df iV es):=by
  intro es
  induction es with
  |nil=>intro F;rfl
  |cons a es ih=>
   intro F;show Ia true H D (.v (.int .i64 (a.2:Int))) (λq d=>Rj (Ia true H D) (Df iV es) λi g=>F (@Bool.rec (λ_=>Bool) i true q) ((SV a.1,d)::g))=_;rw[CA,ih];rfl
 rw[e]
def F'{f N:Nat}{c:AV}{s:AP}(h1:(E (L+20)).ne f=false)(h2:(E (L+20)).imp f=false):Cw (E (L+20)) (rt (L+20) N) (.fn (.func f) [] [c]) [S s] H K=Aq (rt (L+20) N) f [S s,c] H λv=>K v H:=by
 show Ta [S s] [c] (λa=>Ta [] a λall=>A1R ((E (L+20)).ne f) all H K (@Bool.rec (λ_=>Af) (zpm (E (L+20)) f (rt (L+20) N) all H λv=>K v H) ((rt (L+20) N).call f all H K) ((E (L+20)).imp f)))=_;rw[Jx,Jx,h1,h2];show zpm (E (L+20)) f (rt (L+20) N) [S s,c] H (λv=>K v H)=_;rw[A2L (by simp)]
def C1L{m s:AP}:CS (r! L (n+1)) J2 [S s,.iptr [S m]] (Bo (decide (s=m))):=by
 intro K a;rw[ZV];unfold O0 L8;rw[KD,Lb];exact a _ _ λb=>⟨false,CA⟩
def A59{ws:List (AP×Nat)}{s:AP}:CS (r! L (n+1)) Lw [S s,.iptr [.imap (Df iV ws)]] (Bo (decide (0<(MG ws s).getD 0))):=by
 intro K a;rw[ZW];unfold O8 L8;have el:∀{K:K2},AE DW (.iptr [.imap (Df iV ws)]) [] K=K (.imap (Df iV ws)):=λ{K}=>Ny rfl;have g:∀(F:Value->Af),Mt (S s) F=F (SV s):=λF=>id rfl;rw[el,g,rJ (f:=iV) (b:=ws) (λK=>id rfl)];have c:∀(k:Nat)(K:K2),As Ac .gtr (iV k) (AV.v (.int .i64 0)) K=K (Bo (decide (0<k))):=λk K=>by
  have e:decide ((0:Int)<(k:Int))=decide (0<k):=decide_eq_decide.2 (by omega);rw[DT,e]
 cases d:MG ws s with
 |none=>
  rw[d]at a;show As Ac .gtr (iV 0) (AV.v (.int .i64 0)) _=_;rw[c];exact a _ _ λb=>⟨false,CA⟩
 |some k=>
  rw[d]at a;show As Ac .gtr (iV k) (AV.v (.int .i64 0)) _=_;rw[c];exact a _ _ λb=>⟨false,CA⟩
end
structure OsK(gs:eo)(ws:List (AP×Nat))(ch:List (AP×AV))(b1 b3:Option (Hb×Nat))(wt:AP->Nat)(ct:AP->List AP)(H:Hp):Prop where
 net:Ai H 0=some (c_ CH [gV gs])
 m1:Ai H 1=some (.map false (Df iV ws) b1)
 p1:Ai H 2=some (c_ IM [.mp 1])
 m3:Ai H 3=some (.map false (Df aV ch) b3)
 p3:Ai H 4=some (c_ ER [.mp 3])
 wf:Wf H
 wv:∀x,(MG ws x).getD 0=wt x
 cv:∀p,AU H Al 1 ((MG ch p).getD Av) (ct p).length (A9 (ct p))
 cr:∀p u,A4 ((MG ch p).getD Av) u->6<u
 cd:∀p p' u,A4 ((MG ch p).getD Av) u->A4 ((MG ch p').getD Av) u->p=p'
section
variable{gs:eo}{ws:List (AP×Nat)}{ch:List (AP×AV)}{b1 b3:Option (Hb×Nat)}{wt:AP->Nat}{ct:AP->List AP}{H H':Hp}{s p:AP}
theorem OsK.kp(h:OsK gs ws ch b1 b3 wt ct H)(w:Wf H')(k:∀u y,(u<5\/∃p,A4 ((MG ch p).getD Av) u)->Ai H u=some y->Ai H' u=some y):OsK gs ws ch b1 b3 wt ct H':=
 ⟨k _ _ (.inl (by decide)) h.net,k _ _ (.inl (by decide)) h.m1,k _ _ (.inl (by decide)) h.p1,k _ _ (.inl (by decide)) h.m3,k _ _ (.inl (by decide)) h.p3,w,h.wv,λp=>(h.cv p).kp λu y a c=>k u y (.inr ⟨p,a⟩) c,h.cr,h.cd⟩
def OsK.ne(h:OsK gs ws ch b1 b3 wt ct H)(a:u<5\/∃p,A4 ((MG ch p).getD Av) u):u≠5/\u≠6:=by
 rcases a with a|⟨q,a⟩
 ·omega
 ·have:=h.cr q u a;omega
def OsK.lw(h:OsK gs ws ch b1 b3 wt ct H){K:K2}:ZB Ac false (.mp 1) (SV s) H K=K (I (wt s:Int)):=by
 rw[rJ (f:=iV) (b:=ws) (λK=>Z8 h.m1),<-h.wv s];cases MG ws s<;>rfl
def OsK.lc(h:OsK gs ws ch b1 b3 wt ct H){K:K2}:ZB Ab false (.mp 3) (SV p) H K=K ((MG ch p).getD Av):=by
 rw[rJ (f:=aV) (b:=ch) (λK=>Z8 h.m3)];cases MG ch p<;>rfl
def OsK.put(h:OsK gs ws ch b1 b3 wt ct H)(k:Nat):∃a H',(∀K:Ru,MC (.mp 1) (SV s) (I (k:Int)) H K=K H')/\OsK gs (Ml ws s k) ch a b3 (λx=>if s=x then k else wt x) ct H'/\H'=upd H 1 (.map false (Df iV (Ml ws s k)) a):=by
 obtain⟨a,e⟩:=A67 (f:=iV) (x:=s) (v:=k) h.m1;have n1:∀u,u≠1->Ai (upd H 1 (.map false (Df iV (Ml ws s k)) a)) u=Ai H u:=λu d=>Ag d;refine⟨a,_,e,⟨by rw[n1 _ (by decide)];exact h.net,uO h.m1,by rw[n1 _ (by decide)];exact h.p1,by rw[n1 _ (by decide)];exact h.m3,by rw[n1 _ (by decide)];exact h.p3,Bi h.wf,λx=>?_,λp=>?_,h.cr,h.cd⟩,rfl⟩
 ·rw[iY];by_cases c:s=x
  ·rw[Dr c,Dr c];rfl
  ·rw[CD c,CD c];exact h.wv x
 ·exact(h.cv p).kp λu y d g=>by rw[n1 _ (by have:=h.cr p u d;omega)];exact g
end
def kM(gs:eo)(es:List wF)(x:AP):Nat:=(es.filter λe=>decide (e.1=x)&&decide (e.2∈gs.map Cd.id)).length
def jN(gs:eo)(es:List wF)(p:AP):List AP:=(es.filter λe=>decide (e.2=p)&&decide (p∈gs.map Cd.id)).map Prod.fst
def A57{gs:eo}{s p x:AP}:kM gs (es++[(s,p)]) x=if p∈gs.map Cd.id then(if s=x then kM gs es s+1 else kM gs es x) else kM gs es x:=by
 unfold kM;rw[List.filter_append,Ez];by_cases h1:p∈gs.map Cd.id
 ·rw[Dr h1];by_cases h2:s=x
  ·subst h2;rw[Dr rfl,List.filter_cons_of_pos (by simp only[GI h1,decide_true,Bool.and_self])];rfl
  ·rw[CD h2,List.filter_cons_of_neg (by simp only[HN h2,Bool.false_and];simp)];rfl
 ·rw[CD h1,List.filter_cons_of_neg (by simp only[HN h1,Bool.and_false];simp)];rfl
def A6c{gs:eo}{s p q:AP}:jN gs (es++[(s,p)]) q=if p∈gs.map Cd.id then(if p=q then jN gs es p++[s] else jN gs es q) else jN gs es q:=by
 unfold jN;rw[List.filter_append,XS];by_cases h1:p∈gs.map Cd.id
 ·rw[Dr h1];by_cases h2:p=q
  ·subst h2;rw[Dr rfl,List.filter_cons_of_pos (by simp only[GI h1,decide_true,Bool.and_self])];rfl
  ·rw[CD h2,List.filter_cons_of_neg (by simp only[HN h2,Bool.false_and];simp)];exact US _
 ·rw[CD h1,List.filter_cons_of_neg (by
   by_cases h2:p=q
   ·subst h2;simp only[HN h1,Bool.and_false];simp
   ·simp only[HN h2,Bool.false_and];simp)]
  exact US _
def B6X{gs:eo}{x:AP}:kM gs es x<=es.length:=l30 _ _
def X?{gs:eo}{p:AP}:(jN gs es p).length<=es.length:=by
 unfold jN;rw[Po];exact l30 _ _
def rB(gs:eo)(p:Option (Option Code)):Row:=.loop 86 [(2,Av),(3,.v (.int .i64 0)),(4,.ptr 0 0 0),(6,.ptr 2 0 0),(7,.ptr 4 0 0),(8,.dk),(9,.dk),(10,.dk),(11,.dk),(25,B1u gs),(26,.dk),(27,.dk),(28,.dk),(29,.dk),(30,.dk),(31,.dk),(32,.dk),(33,.dk),(34,.dk),(35,.dk),(36,.dk),(37,.dk),(38,.dk),(39,.dk),(40,.dk),(41,.dk),(42,.dk),(61,.dk),(62,.dk),(63,.dk)] (EU).2.1 (EU).2.2.1 (EU).2.2.2 p
def C4n(gs:eo)(es:List wF)(H:Hp):Prop:=Ai H 5=some (rB gs (some none))/\∃ws ch b1 b3,OsK gs ws ch b1 b3 (kM gs es) (jN gs es) H
section
variable{gs:eo}
def B6m{K:Ru}(h:Ai H1 5=some (rB gs none)):EB H1 5 false (some none) K=K (upd H1 5 (rB gs (some none))):=Pz h
def C2R{K:Ru}(h:Ai H1 5=some (rB gs (some none))):EB H1 5 true none K=K (upd H1 5 (rB gs none)):=P0 h
def B44:vY (r! L (n+2)) L 5 6 (C4n gs):=by
 intro es s p H K x ak ⟨J,ws,ch,b1,b3,h⟩ hx;show NV (r! L (n+2)) 5 [S s,S p] H K=x;rw[Pq J (by kernel_rfl)];have aa:(r! L (n+2)).run= λcf=>Pt (E (L+20)) (r! L (n+1)) cf:=rfl;rw[aa,lJ,C2R J];simp only[BH];have h1:OsK gs ws ch b1 b3 (kM gs es) (jN gs es) (upd H 5 (rB gs none)):=h.kp (Bi h.wf) λu y c g=>by
  rw[Ag (h.ne c).1];exact g
 have A:Ai (upd H 5 (rB gs none)) 5=some (rB gs none):=Fg J;have k1:∀y,Ai H 6=some y->Ai (upd H 5 (rB gs none)) 6=some y:=λy g=>by rw[Ag (by decide)];exact g
 generalize upd H 5 (rB gs none)=H1 at h1 A k1;show AE Aj (.ptr 0 0 0) H1 _=_;rw[AL (p:=0) rfl h1.net (by simp)];show Aq (r! L (n+1)) Fo [gV gs,S p] H1 _=_;rw[A5b];by_cases Q:p∈gs.map Cd.id
 ·rw[GI Q];show A1 (.v (.bool true)) _ _=_;rw[Co];show AE DW (.ptr 2 0 0) H1 _=_;have R:∀(s:AP)(F:Value->Af),Mt (S s) F=F (SV s):=λs F=>id rfl;rw[AL (p:=0) rfl h1.p1 (by simp),R];show ZB Ac false (.mp 1) (SV s) H1 _=_;rw[h1.lw,Dd (by have:=B6X (gs:=gs) (es:=es) (x:=s);omega),R];obtain⟨j,w,P,h2,C⟩:=h1.put (s:=s) (kM gs es s+1);show MC (.mp 1) (SV s) (I ((kM gs es s+1:Nat):Int)) H1 _=_;rw[P];have Y:Ai w 5=some (rB gs none):=by rw[C,Ag (by decide)];exact A
  have k2:∀y,Ai H 6=some y->Ai w 6=some y:=λy g=>by rw[C,Ag (by decide)];exact k1 y g
  clear C P;have V:∀{H:Hp}{wt:AP->Nat}{j:Option (Hb×Nat)}{ac:List (AP×Nat)}{K:K2},OsK gs ac ch j b3 wt (jN gs es) H->AE BG (.ptr 4 0 0) H K=K (.mp 3):=λ{H wt j ac K}h=>by
   rw[AL (p:=0) rfl h.p3 (by simp)];rfl
  rw[V h2,B6,B6,R];have aj:=h2.cv p;have ai:∀u,A4 ((MG ch p).getD Av) u->6<u:=h2.cr p;rw[h2.lc,B6,nQ (z:=S []) (λ_=>rfl) (λ_=>rfl) rfl,Tj];have d:OsK gs (Ml ws s (kM gs es s+1)) ch j b3 (λx=>if s=x then kM gs es s+1 else kM gs es x) (jN gs es) ((Ar w,.cells false Al [S s])::w):=h2.kp (AF h2.wf) λu y _ g=>A6 (h2.wf.lt g) g;have am:Ar ((Ar w,Row.cells false Al [S s])::w)=Ar w+1:=rfl;have ah:=h2.wf.lt Y;have ab:=NY (H:=w) (e:=Al) (n:=1) (cs:=[S s]) rfl;obtain⟨N,B,a1,a2,a3,O⟩:=apt (ie:=Ah) (i2:=Ab) (d.cv p) (λK=>OT (K:=K) ab) rfl rfl (by decide) rfl rfl (by have:=X? (gs:=gs) (es:=es) (p:=p);show((jN gs es p).length+1)*16<=_;omega) (by have:=X? (gs:=gs) (es:=es) (p:=p);omega);rw[a1,Tj,R];have nr:∀{u:Nat},u<7->¬A4 ((MG ch p).getD Av) u:=λc h=>by have:=ai _ h;omega
  have X:=O.keep d.wf 3 _ d.m3 (nr (by decide));obtain⟨k,e5⟩:=A67 (f:=aV) (x:=p) (v:=N) X;show D6 (MC (.mp 3) (SV p) (aV N) B λH=>some (AV.v undef,H)) _=_;rw[e5,Tj,V d];have M:∀{K:Af},QB (Bc (some (AV.mp 3,[])) (.mp 3)) K=K:=λ{K}=>okS rfl;have ae:Ai B 4=some (c_ ER [.mp 3]):=O.keep d.wf 4 _ d.p3 (nr (by decide));have ad:∀{K:K2},AE BG (.ptr 4 0 0) B K=K (.mp 3):=λ{K}=>by
   rw[AL (p:=0) rfl ae (by simp)];rfl
  rw[M,ad,M,M,R,d.lc,okS (rP aj)];have w4:=O.wf d.wf;have af:=A6 (x:=.cells false Al [S s]) ah Y;have ag:=O.keep d.wf 5 _ af (nr (by decide));have Z:Ai (upd B 3 (.map false (Df aV (Ml ch p N)) k)) 5=some (rB gs none):=by rw[Ag (by decide)];exact ag
  show EB (upd B 3 (.map false (Df aV (Ml ch p N)) k)) 5 false (some none) _=_;rw[B6m Z];have k6:∀u y,(u≠3/\u≠5)->Ai B u=some y->Ai (upd (upd B 3 (.map false (Df aV (Ml ch p N)) k)) 5 (rB gs (some none))) u=some y:=λu y c g=>by
   rw[Ag c.2,Ag c.1];exact g
  have t:∀u y,u≠3/\u≠5->u<7->Ai ((Ar w,Row.cells false Al [S s])::w) u=some y->Ai (upd (upd B 3 (.map false (Df aV (Ml ch p N)) k)) 5 (rB gs (some none))) u=some y:=λu y c h7 g=>k6 u y c (O.keep d.wf u y g (nr h7));refine hx _ ⟨Fg Z,Ml ws s (kM gs es s+1),Ml ch p N,j,k,⟨t 0 _ (by decide) (by decide) d.net,t 1 _ (by decide) (by decide) d.m1,t 2 _ (by decide) (by decide) d.p1,?_,t 4 _ (by decide) (by decide) d.p3,Bi (Bi w4),λy=>?_,λq=>?_,λq u c=>?_,λq q' u c i=>?_⟩⟩ λy g=>?_
  ·rw[Ag (by decide)];exact uO X
  ·rw[d.wv,A57,Dr Q]
  ·rw[iY,A6c,Dr Q];by_cases hq:p=q
   ·subst hq;rw[Dr rfl,Dr rfl,l1q,Ez,<-kR];refine a2.kp λu y c g=>k6 u y ?_ g;have:=a3 u c;omega
   ·rw[CD hq,CD hq];refine(d.cv q).kp λu y c g=>k6 u y (by have:=d.cr q u c;omega) (O.keep d.wf u y g λhc=>hq (d.cd p q u hc c))
  ·rw[iY]at c;by_cases hq:p=q
   ·rw[Dr hq,l1q]at c;have:=a3 u c;omega
   ·rw[CD hq]at c;exact d.cr q u c
  ·rw[iY]at c i;by_cases hq:p=q
   ·by_cases m:p=q'
    ·exact hq.symm.trans m
    ·rw[Dr hq,l1q]at c;rw[CD m]at i;have e1:=a3 u c;have P:=(d.cv q').lt d.wf i;omega
   ·rw[CD hq]at c;by_cases m:p=q'
    ·rw[Dr m,l1q]at i;have e1:=a3 u i;have P:=(d.cv q).lt d.wf c;omega
    ·rw[CD m]at i;exact d.cd q q' u c i
  ·have a:=k2 y g;exact t 6 _ (by decide) (by decide) (A6 (h2.wf.lt a) a)
 ·rw[HN Q];show A1 (.v (.bool false)) _ _=_;rw[Ba];show EB H1 5 false (some none) _=_;rw[B6m A];have e1:kM gs (es++[(s,p)])=kM gs es:=funext λy=>by rw[A57,CD Q]
  have P:jN gs (es++[(s,p)])=jN gs es:=funext λy=>by rw[A6c,CD Q]
  refine hx _ ⟨Fg A,ws,ch,b1,b3,?_⟩ λy g=>?_
  ·rw[e1,P];refine h1.kp (Bi h1.wf) λu y c g=>?_;rw[Ag (h1.ne c).1];exact g
  ·rw[Ag (by decide)];exact k1 y g
end
end
section
variable{a0 a1 d5 d6 e0 e1 e2 e3 e4 e5 e6 e7 e8 e9 f0 f1 f2 f3 f4 f5 f6 f7:AV}
variable{L n:Nat}
def VT(gs:eo)(es:List wF)(out rem:List AP)(x:AP):Nat:=(es.filter λe=>decide (e.1=x)&&(decide (e.2∈gs.map Cd.id)&&decide (e.2∉out))).length+rem.count x
section
variable{gs:eo}{es:List wF}{out rem l:List AP}{x c m:AP}
def Yd:VT gs es out (c::rem) x=VT gs es out rem x+if c=x then 1 else 0:=by
 unfold VT;rw[List.count_cons,kE]
 congr 2
 by_cases h:c=x<;>simp[h]
def A56:VT gs es [] []=kM gs es:=by
 funext x
 unfold VT kM;simp
def B6W:VT gs es out rem x<=es.length+rem.length:=by
 have h1:=l30 (λe:wF=>decide (e.1=x)&&(decide (e.2∈gs.map Cd.id)&&decide (e.2∉out))) es;have h2:=List.count_le_length (a:=x) (l:=rem);unfold VT;omega
def A55(h1:m∈gs.map Cd.id)(h2:m∉out):VT gs es (out++[m]) (jN gs es m)=VT gs es out []:=by
 funext x
 unfold VT jN;rw[List.count_nil,Nat.add_zero]
 induction es with
 |nil=>rfl
 |cons e es ih=>
  rw[l2m,l2m,l2m];by_cases hm:e.2=m
  ·have e1:(decide (e.1=x)&&(decide (e.2∈gs.map Cd.id)&&decide (e.2∉out++[m])))=false:=by simp[hm]
   have e2:(decide (e.2=m)&&decide (m∈gs.map Cd.id))=true:=by rw[GI hm,GI h1];rfl
   by_cases a:e.1=x
   ·have e3:(decide (e.1=x)&&(decide (e.2∈gs.map Cd.id)&&decide (e.2∉out)))=true:=by rw[GI a,hm,GI h1,GI h2];rfl
    have e4:(e.1==x)=true:=by simp[a]
    simp only[e1,e2,e3,e4,xT,if_false,if_true,XC,Mr,List.count_cons];omega
   ·have e3:(decide (e.1=x)&&(decide (e.2∈gs.map Cd.id)&&decide (e.2∉out)))=false:=by rw[HN a];rfl
    have e4:(e.1==x)=false:=by simp[a]
    simp only[e1,e2,e3,e4,xT,if_false,if_true,XC,List.count_cons];omega
  ·have e2:(decide (e.2=m)&&decide (m∈gs.map Cd.id))=false:=by rw[HN hm];rfl
   have e1:decide (e.2∉out++[m])=decide (e.2∉out):=by simp[hm]
   cases hb:(decide (e.1=x)&&(decide (e.2∈gs.map Cd.id)&&decide (e.2∉out))) with
   |true=>
    simp only[e1,e2,hb,xT,if_false,if_true,Mr];omega
   |false=>
    simp only[e1,e2,hb,xT,if_false];exact ih
structure Ri(gs:eo)(es:List wF)(out rem l:List AP):Prop where
 nd:l.Nodup
 mem:∀x,x∈l↔x∈gs.map Cd.id/\x∉out/\VT gs es out rem x=0
 jz:∀x∈out,VT gs es out rem x=0
 rid:∀x∈rem,x∈gs.map Cd.id
def Ri.len(h:Ri gs es out rem l):l.length<=gs.length:=by
 have:=YB h.nd λx a=>((h.mem x).1 a).1;rw[Po]at this;exact this
def Ri.pos:1<=VT gs es out (c::rem) c:=by rw[Yd,Dr rfl];omega
def Ri.dec:(λx=>if c=x then VT gs es out (c::rem) c-1 else VT gs es out (c::rem) x)=VT gs es out rem:=by
 funext x
 by_cases h:c=x
 ·subst h;rw[Dr rfl,Yd,Dr rfl];omega
 ·rw[CD h,Yd,CD h];rfl
def Ri.step(h:Ri gs es out (c::rem) l):(VT gs es out rem c=0->Ri gs es out rem (l++[c]))/\(VT gs es out rem c≠0->Ri gs es out rem l):=by
 have s:1<=VT gs es out (c::rem) c:=Ri.pos;have f:c∉l:=λhc=>by have:=((h.mem c).1 hc).2.2;omega
 have q:c∉out:=λhc=>by have:=h.jz c hc;omega
 have p:=h.rid c (by simp);have i:∀x∈out,VT gs es out rem x=0:=λx d=>by
  have:=h.jz x d;rw[Yd]at this;omega
 have j:∀x,c≠x->VT gs es out (c::rem) x=VT gs es out rem x:=λx d=>by rw[Yd,CD d];rfl
 refine⟨λk=>⟨l36.2 ⟨h.nd,by simp,λa r b hb=>by simp at hb;subst hb;exact λe=>f (e▸r)⟩,λx=>?_,i,λx d=>h.rid x (by simp[d])⟩,λk=>⟨h.nd,λx=>?_,i,λx d=>h.rid x (by simp[d])⟩⟩
 ·rw[Zx,XR];by_cases d:c=x
  ·subst d;exact⟨λ_=>⟨p,q,k⟩,λ_=>.inr rfl⟩
  ·rw[h.mem,j x d];exact⟨λg=>g.elim id λe=>absurd e.symm d,.inl⟩
 ·by_cases d:c=x
  ·subst d;exact⟨λg=>absurd g f,λg=>absurd g.2.2 k⟩
  ·rw[h.mem,j x d]
def Ri.take(h:Ri gs es out [] l)(g:∀e∈es,e.1∈gs.map Cd.id)(hm:m∈l):Ri gs es (out++[m]) (jN gs es m) (l.filter λs=>!decide (s=m)):=by
 obtain⟨h1,h2,k⟩:=(h.mem m).1 hm;have i:VT gs es (out++[m]) (jN gs es m)=VT gs es out []:=A55 h1 h2;refine⟨h.nd.sublist List.filter_sublist,λx=>?_,λx a=>?_,λx a=>?_⟩
 ·rw[i,l2z,h.mem,Zx,XR];constructor
  ·rintro⟨⟨a1,a2,d⟩,j⟩;have f:x≠m:=by simpa using j
   exact⟨a1,λb=>b.elim a2 f,d⟩
  ·rintro⟨a1,a2,d⟩;refine⟨⟨a1,λb=>a2 (.inl b),d⟩,?_⟩;have:x≠m:=λb=>a2 (.inr b);simp[this]
 ·rw[i];rcases Zx.1 a with a|a
  ·exact h.jz x a
  ·rw[XR]at a;subst a;exact k
 ·obtain⟨e,he,rfl⟩:=PW.1 a;exact g e (l2z.1 he).1
def Ri.perm(h:Ri gs es out [] l)(b:∀e:wF,e∈es↔e.1∈gs.map Cd.id/\e.2∈QK gs e.1)(hn:(gs.map Cd.id).Nodup):l.Perm (lI gs out):=by
 refine(l35 h.nd (hn.sublist List.filter_sublist)).2 λx=>?_;rw[h.mem];show _↔x∈lI gs out;rw[Wk];refine and_congr_right λf=>and_congr_right λ_=>?_;unfold VT;rw[List.count_nil,Nat.add_zero,List.length_eq_zero_iff,List.filter_eq_nil_iff];constructor
 ·intro a p d hi;have:=a (x,p) ((b _).2 ⟨f,d⟩);apply l37;intro hc;exact this (by rw[GI rfl,GI hi,GI hc];rfl)
 ·intro a e he;obtain⟨h1,h2⟩:=(b e).1 he;intro hc;simp only[KK,decide_eq_true_eq]at hc;obtain⟨c1,c2,c3⟩:=hc;rw[c1]at h2;exact c3 (a _ h2 c2)
end
structure Mo(gs:eo)(out l:List AP)(wt:AP->Nat)(ct:AP->List AP)(ws:List (AP×Nat))(ch:List (AP×AV))(b1 b3:Option (Hb×Nat))(rv ov:AV)(H:Hp):Prop where
 os:OsK gs ws ch b1 b3 wt ct H
 rd:Km H rv l
 ot:AU H Al 1 ov out.length (A9 out)
 rr:∀u,A4 rv u->4<u/\¬A4 ov u/\∀p,¬A4 ((MG ch p).getD Av) u
 oo:∀u,A4 ov u->4<u/\∀p,¬A4 ((MG ch p).getD Av) u
section
variable{H:Hp}{v:AV}{l:List AP}
def AU.ia(h:AU H Al 1 v l.length (A9 l)){i:Nat}(hi:i<l.length):∃a,(∀K:K2,D1 Ab v (I (i:Int)) K=K a)/\∀K:K2,AE Ah a H K=K (S l[i]):=by
 rcases h with⟨_,h2,_⟩|⟨r,q,rfl,h2,_⟩
 ·omega
 ·exact⟨.ptr r i 0,λK=>RA hi,λK=>V_ h2 hi⟩
end
section
variable{gs:eo}{es:List wF}{out l:List AP}{ws:List (AP×Nat)}{ch:List (AP×AV)}{b1 b3:Option (Hb×Nat)}{rv ov:AV}{K:KV}{x:Af}{ct:AP->List AP}
def B9I{R:Rt}{q:AV->AV->AV->AV->AV->AV->AV->AV->AV->AV->AV->AV->AV->AV->AV->AV->AV->AV->AV->AV->AV->AV->AV->AV->AV->AV->AV->AV->AV->KV}{a0 a1 a2 d5 d6 e0 e1 e2 e3 e4 e5 e6 e7 e8 e9 f0 f1 f2 f3 f4 f5 f6 f7:AV}{m:AP}(hb:es.length<1000)(hg:gs.length<=8)(aa:(ct m).length<1000)(hx:∀Q N g A O,Mo gs out Q (VT gs es out []) ct N ch g b3 A ov O->Ri gs es out [] Q->q a0 a1 a2 (.ptr 2 0 0) (.ptr 4 0 0) d5 d6 A ov e0 e1 e2 e3 e4 e5 e6 e7 e8 e9 f0 f1 f2 f3 f4 f5 f6 f7 ((MG ch m).getD Av) (I (ct m).length) (I (ct m).length) O=x):
 ∀(f i:Nat)(l:List AP)(ws:List (AP×Nat))(b1:Option (Hb×Nat))(rv:AV)(H:Hp),i<=(ct m).length->(ct m).length-i<f->Mo gs out l (VT gs es out ((ct m).drop i)) ct ws ch b1 b3 rv ov H->Ri gs es out ((ct m).drop i) l->
 SS (L+20) R K q f a0 a1 a2 (.ptr 2 0 0) (.ptr 4 0 0) d5 d6 rv ov e0 e1 e2 e3 e4 e5 e6 e7 e8 e9 f0 f1 f2 f3 f4 f5 f6 f7 ((MG ch m).getD Av) (I (ct m).length) (I i) H=x:=by
 intro f
 induction f with
 |zero=>intro i l ws b1 rv H _ h;omega
 |succ f ih=>
  intro i l ws b1 rv H hi hf h hr;rw[mO];unfold SU HV A2;by_cases w:i<(ct m).length
  ·obtain⟨a,X,el⟩:=(h.os.cv m).ia w;rw[rF w]at h hr;have ad:=B6W (gs:=gs) (es:=es) (out:=out) (rem:=(ct m)[i]::(ct m).drop (i+1)) (x:=(ct m)[i]);have P:1<=VT gs es out ((ct m)[i]::(ct m).drop (i+1)) (ct m)[i]:=Ri.pos;have ab:((ct m)[i]::(ct m).drop (i+1)).length<=(ct m).length:=by rw[Mr,l0u];omega
   rw[FG (by omega),Co];simp only[BH];have M:∀(s:AP)(F:Value->Af),Mt (S s) F=F (SV s):=λs F=>id rfl;rw[X,el];rw[AL (p:=0) rfl h.os.p1 (by simp),M];show ZB Ac false (.mp 1) (SV (ct m)[i]) H _=_;rw[h.os.lw,gF (by omega) (by omega),M];obtain⟨g,B,r,h2,t⟩:=h.os.put (s:=(ct m)[i]) (VT gs es out ((ct m)[i]::(ct m).drop (i+1)) (ct m)[i]-1);show MC (.mp 1) (SV (ct m)[i]) (I ((VT gs es out ((ct m)[i]::(ct m).drop (i+1)) (ct m)[i]-1:Nat):Int)) H _=_;rw[r];rw[Ri.dec]at h2;have n1:∀u y,u≠1->Ai H u=some y->Ai B u=some y:=λu y d j=>by rw[t,Ag d];exact j
   rw[AL (p:=0) rfl h2.p1 (by simp),M];show ZB Ac false (.mp 1) (SV (ct m)[i]) B _=_;rw[h2.lw];have b:Mo gs out l (VT gs es out ((ct m).drop (i+1))) ct (Ml ws (ct m)[i] (VT gs es out ((ct m)[i]::(ct m).drop (i+1)) (ct m)[i]-1)) ch g b3 rv ov B:=
    ⟨h2,h.rd.kp λu y d j=>n1 u y (by have:=(h.rr u d).1;omega) j,h.ot.kp λu y d j=>n1 u y (by have:=(h.oo u d).1;omega) j,h.rr,h.oo⟩
   have Y:∀(k:Nat)(K:K2),As Ac .eql (I (k:Int)) (AV.v (.int .i64 0)) K=K (Bo (decide (k=0))):=λk K=>by
    have e:decide ((k:Int)=0)=decide (k=0):=decide_eq_decide.2 (by omega);rw[Cv,e]
   rw[Y];clear r t;by_cases C:VT gs es out ((ct m).drop (i+1)) (ct m)[i]=0
   ·rw[GI C,Co];have ac:=hr.len;obtain⟨v',V,a1,a2,D,J⟩:=C4j (ct m)[i] b.rd b.os.wf (by omega);rw[a1,Dd (by omega)];have h4:=b.os.wf.lt b.os.p3;refine ih (i+1) (l++[(ct m)[i]]) _ g v' V (by omega) (by omega) ⟨b.os.kp (D.wf b.os.wf) λu y d j=>D.keep b.os.wf u y j λhc=>?_,a2,b.ot.kp λu y d j=>D.keep b.os.wf u y j λhc=>(b.rr u hc).2.1 d,λu d=>⟨?_,λhc=>?_,λp hc=>?_⟩,b.oo⟩ (hr.step.1 C)
    ·rcases d with d|⟨p,hp⟩
     ·have:=(b.rr u hc).1;omega
     ·exact(b.rr u hc).2.2 p hp
    ·have:=J u d;omega
    ·have Z:=J u d;have g2:=b.ot.lt b.os.wf hc;omega
    ·have Z:=J u d;have g2:=(b.os.cv p).lt b.os.wf hc;omega
   ·rw[HN C,Ba,Dd (by omega)];exact ih (i+1) l _ g rv B (by omega) (by omega) b (hr.step.2 C)
  ·rw[FB (by omega),Ba];have:i=(ct m).length:=by omega
   subst this;rw[List.drop_length]at h hr;exact hx l ws b1 rv H h hr
def B1V{H:Hp}:Bw Al Ah H K=K (.ptr (Ar H) 0 0) ((Ar H,c_ Al [S []])::H):=by
 unfold Bw;rw[CM,Ca];rfl
def B0B(h:lI gs out=[]):∀N,lQ gs N out=out:=by
 intro N;cases N with
 |zero=>rfl
 |succ N=>
  unfold lQ;rw[h];rfl
def B9J{aa:AV->KV}(hb:es.length<1000)(hg:gs.length<=8)(hL:200000<L)(hn:(gs.map Cd.id).Nodup)(hE:∀e:wF,e∈es↔e.1∈gs.map Cd.id/\e.2∈QK gs e.1){r:List AP}(hx:∀ov H,AU H Al 1 ov r.length (A9 r)->(r=[]->ov=Av)->Ai H 0=some (c_ CH [gV gs])->aa (.ptr 0 0 0) ov H=x):
 ∀(N f:Nat)(out l:List AP)(ws:List (AP×Nat))(b1:Option (Hb×Nat))(rv ov:AV)(H:Hp)(z0 z1 z2:AV),N<f->gs.length<=out.length+N->OrdK gs out->Mo gs out l (VT gs es out []) (jN gs es) ws ch b1 b3 rv ov H->Ri gs es out [] l->(out=[]->ov=Av)->lQ gs N out=r->
 XA7 (L+20) (r! L (n+4)) K aa f a0 a1 (.ptr 0 0 0) (.ptr 2 0 0) (.ptr 4 0 0) d5 d6 rv ov e0 e1 e2 e3 e4 e5 e6 e7 e8 e9 f0 f1 f2 f3 f4 f5 f6 f7 z0 z1 z2 H=x:=by
 intro N
 induction N with
 |zero=>
  intro f out l ws b1 rv ov H z0 z1 z2 hf R ho h hr h0 b;cases f with
  |zero=>omega
  |succ f=>
   have hl:l=[]:=by
    have i:=hr.perm hE hn;rw[A0Y ho (by omega)]at i;exact i.eq_nil
   subst hl;rw[Vz];unfold OC A2;have el:∀{K:K2},Bp Ab rv K=K (I ((0:Nat):Int)):=λ{K}=>h.rd.len;have O:∀{K:K2},As Ac .gtr (I ((0:Nat):Int)) (AV.v (.int .i64 0)) K=K (Bo false):=λ{K}=>by rw[DT];rfl
   rw[el,O,Ba];rw[<-b]at hx;exact hx ov H h.ot h0 h.os.net
 |succ N ih=>
  intro f out l ws b1 rv ov H z0 z1 z2 hf R ho h hr h0 b;cases f with
  |zero=>omega
  |succ f=>
   have i:=hr.perm hE hn;rw[Vz];unfold OC A2;rw[h.rd.len];cases Y:Et (lI gs out) with
   |nil=>
    have X:lI gs out=[]:=by
     have:=(Bl (lI gs out)).length_eq;rw[Y]at this;exact kC this.symm
    have hl:l=[]:=by rw[X]at i;exact i.eq_nil
    subst hl;have O:∀{K:K2},As Ac .gtr (I (([]:List AP).length:Int)) (AV.v (.int .i64 0)) K=K (Bo false):=λ{K}=>by rw[DT];rfl
    rw[O,Ba];rw[B0B X]at b;subst b;exact hx ov H h.ot h0 h.os.net
   |cons m t=>
    have C:lQ gs N (out++[m])=r:=by
     unfold lQ at b;rw[Y]at b;exact b
    have B:m∈lI gs out:=(Bl _).mem_iff.1 (by rw[Y];simp);have hm:m∈l:=i.mem_iff.2 B;have V:∀y∈l,m<=y:=λy g=>by
     have h1:y∈m::t:=by rw[<-Y];exact(Bl _).mem_iff.2 (i.mem_iff.1 g)
     have h2:=DM (lI gs out);rw[Y,l2p]at h2;rcases Xd.1 h1 with rfl|h1
     ·exact(NB _ _).elim id id
     ·exact h2.1 y h1
    have ax:=hr.len;have ay:0<l.length:=List.length_pos_of_mem hm;have O:∀{K:K2},As Ac .gtr (I (l.length:Int)) (AV.v (.int .i64 0)) K=K (Bo true):=λ{K}=>by rw[DT,GI (by omega)]
    rw[O,Co];simp only[BH];obtain⟨a,q,ha,hq⟩:=h.rd.fx (D:=depth-1);have ae:a=Ls l:=by
     rcases ha with rfl|⟨rfl,_⟩
     ·rfl
     ·simp at hm
    subst ae;rw[AQ (C1J (n:=n+3) hm V (by omega) (by omega)) (Ao hq AI)];obtain⟨M,w,A,w1,k1⟩:=HF (e:=Al) (zs:=[S []]) (vs:=[S m]) h.os.wf rfl;rw[B1V,D5 (cs:=[S []]) (Ax (by simp)) (by simp) rfl rfl rfl];show(r! L (n+4)).call Bm [rv,.fn (.func J2) [] [.ptr (Ar H) 0 0]] (upd ((Ar H,c_ Al [S []])::H) (Ar H) (c_ Al [S m])) _=_;rw[<-w];have aq:Ar M=Ar H+1:=by rw[w,B1];rfl
    have ah:OsK gs ws ch b1 b3 (VT gs es out []) (jN gs es) M:=h.os.kp w1 λu y _ g=>(k1 u y g).1;have am:Km M rv l:=h.rd.kp λu y _ g=>(k1 u y g).1;have aj:AU M Al 1 ov out.length (A9 out):=h.ot.kp λu y _ g=>(k1 u y g).1;have J:∀u,A4 rv u->u<Ar H:=λu d=>h.rd.lt h.os.wf d;clear w;refine A9b (n:=n+2) (P:=λs=>decide (s=m)) w1 am (by omega) hL ⟨.fn (.func J2) [] [.iptr [S m]],_,zM (D:=depth-1) (Ao (Xk (D:=depth-2) A (Ao (q:=false) CA AI)) AI),λs K=>?_⟩ (λH' hk s K=>?_) λv' H2 g1 g2 Q=>?_
    ·rw[F' rfl rfl];exact AQ (C1L (n:=n+1)) (Ao (q:=false) CA (Ao (q:=false) Rx AI))
    ·rw[F' rfl rfl];have j:=hk.keep w1 _ _ A λhc=>by have:=J _ hc;omega
     exact AQ (C1L (n:=n+2)) (Ao (q:=false) CA (Ao (Xk (D:=depth-1) j (Ao (q:=false) CA AI)) AI))
    ·have w2:=Q.wf w1;have j:=Q.keep w1 _ _ A λhc=>by have:=J _ hc;omega
     have ai:OsK gs ws ch b1 b3 (VT gs es out []) (jN gs es) H2:=ah.kp w2 λu y d g=>Q.keep w1 u y g λhc=>by
      rcases d with d|⟨p,i⟩
      ·have:=(h.rr u hc).1;omega
      ·exact(h.rr u hc).2.2 p i
     have ak:AU H2 Al 1 ov out.length (A9 out):=aj.kp λu y d g=>Q.keep w1 u y g λhc=>(h.rr u hc).2.1 d;have az:=ho.len;rw[AL (p:=0) rfl j (by simp)];show(FV Al 1 Ah 1 [(0,1,S m)] H2 λv1 M=>Dy Al 1 Ah Ab ov v1 M _)=_;obtain⟨ab,H3,j1,j2,j3,j4,j5,j6⟩:=A2r m ak w2 (by omega);rw[j1];have ar:=Q.nx;have ag:∀u,(u<5\/∃p,A4 ((MG ch p).getD Av) u)->¬A4 ov u:=λu d hc=>by
      rcases d with d|⟨p,i⟩
      ·have:=(h.oo u hc).1;omega
      ·exact(h.oo u hc).2 p i
     have k:OsK gs ws ch b1 b3 (VT gs es out []) (jN gs es) H3:=ai.kp j3 λu y d g=>j5 u y g (ag u d);have af:=j5 _ _ j λhc=>by have:=h.ot.lt h.os.wf hc;omega
     have ek:∀(s:AP)(F:Value->Af),Mt (S s) F=F (SV s):=λs F=>id rfl;rw[AL (p:=0) rfl k.p3 (by simp),AL (p:=0) rfl af (by simp)];show Mt (S m) (λq=>ZB Ab false (.mp 3) q H3 _)=_;rw[ek,k.lc,(k.cv m).rq.len];have Z:=(Wk.1 B)
     have hw:VT gs es out []=VT gs es (out++[m]) ((jN gs es m).drop 0):=by rw[rC,A55 Z.1 Z.2.1]
     have h4:=h.os.wf.lt h.os.p3;have ad:(AV.v (.int .i64 0))=I ((0:Nat):Int):=rfl;rw[ad];refine B9I (L:=L) (es:=es) (out:=out++[m]) (ch:=ch) (b3:=b3) (ov:=ab) (ct:=jN gs es) (m:=m) hb hg (by have:=X? (gs:=gs) (es:=es) (p:=m);omega) (λl' ap ac ao H' hM hR=>?_) (L+20) 0 (l.filter λs=>!decide (s=m)) ws b1 v' H3 (by omega) (by have:=X? (gs:=gs) (es:=es) (p:=m);omega) ?_ ?_
     ·exact ih f (out++[m]) l' ap ac ao ab H' _ _ _ (by omega) (by rw[Ez,List.length_singleton];omega) (ho.step B) hM hR (by simp) C
     ·rw[<-hw];refine⟨k,g1.kp λu y d g=>j5 u y g λhc=>(h.rr u (g2 u d)).2.1 hc,j2,λu d=>⟨(h.rr u (g2 u d)).1,λhc=>?_,(h.rr u (g2 u d)).2.2⟩,λu d=>⟨?_,λp hc=>?_⟩⟩
      ·have b1:=j6 u hc;have b2:=J u (g2 u d);omega
      ·have b1:=j6 u d;omega
      ·have b1:=j6 u d;have b2:=(h.os.cv p).lt h.os.wf hc;omega
     ·rw[rC];exact hr.take (λe he=>((hE e).1 he).1) hm
end
end
section
variable{L n:Nat}
def gW(gs:eo):AV:=if gs.length<=(Wn gs).length then .tup [DV (Wn gs),.v (.int .i64 0)] else .tup [Av,.v (.int .i64 220)]
def B4M(gs:eo):pl 6 (gW gs)=true:=by
 unfold gW;split
 ·have:pl 5 (DV (Wn gs))=true:=by
   cases Wn gs with
   |nil=>rfl
   |cons a l=>
    show(A9 (a::l)).all (pl 4)=true;rw[G9];intro y b;obtain⟨s,_,rfl⟩:=PW.1 b;rfl
  show[DV (Wn gs),AV.v (.int .i64 0)].all (pl 5)=true;simp only[oG,this,l3a];rfl
 ·rfl
section
variable{gs:eo}{x:Af}
def B5y(hn:(gs.map Cd.id).Nodup){done:eo}(b:done.Perm gs)(e:wF):e∈Pm done↔e.1∈gs.map Cd.id/\e.2∈QK gs e.1:=by
 rw[V?];constructor
 ·rintro⟨c,hc,h1,h2⟩;have a:=b.mem_iff.1 hc;obtain⟨i,hi,rfl⟩:=List.getElem_of_mem a;rw[h1];exact⟨PW.2 ⟨_,a,rfl⟩,by rw[A5z hn hi];exact h2⟩
 ·rintro⟨h1,h2⟩;obtain⟨c,hc,he⟩:=PW.1 h1;obtain⟨i,hi,rfl⟩:=List.getElem_of_mem hc;rw[<-he,A5z hn hi]at h2;exact⟨gs[i],b.mem_iff.2 hc,he.symm,h2⟩
def B3h{a:AV}(t:GOk gs)(hL:200000<L)(Y:∀c∈gs,c.ps.length<100)(ha:LA gs a):CS (r! L (n+80)) Ql [a] (gW gs):=by
 intro K V;rw[qF];unfold UB A2;have aj:Rm true depth [a] [a] [] false:=by rcases ha with rfl|⟨_,rfl⟩<;>exact λK=>by kernel_rfl
 have of:∀{K:K2},Aq (r! L (n+79)) KB [a] [] K=K (.tup [gV gs,Bo true]):=λ{K}=>JT (λK V=>B3j (n:=n+15) t (by omega) ha K V) aj;have w0:VQ 6 (gW gs) (gW gs)=true:=Tq 6 _ (B4M gs);have h8:=t.len;rw[of,Fl,Fk];have e0:∀{F:KV},(Bw CH Aj [] λv4 H5=>DN Aj v4 (gV gs) H5 λH6=>F v4 H6)=F (.ptr 0 0 0) [(0,c_ CH [gV gs])]:=λ{F}=>by kernel_rfl
 rw[e0,DR];show A1 (.v (.bool false)) _ _=_;rw[Ba];have e1:∀{F:AV->KV},(LX Ac [(0,c_ CH [gV gs])] λv9 aa=>Bw IM DW aa λN ab=>DN DW N v9 ab λac=>LX Ab ac λam ad=>Bw ER BG ad λO ae=>DN BG O am ae λaf=>F N O af)=
  F (.ptr 2 0 0) (.ptr 4 0 0) [(4,c_ ER [.mp 3]),(3,.map false [] (some ([],0))),(2,c_ IM [.mp 1]),(1,.map false [] (some ([],0))),(0,c_ CH [gV gs])]:=λ{F}=>by kernel_rfl
 rw[e1];simp only[BH];generalize hH:([(4,c_ ER [.mp 3]),(3,.map false [] (some ([],0))),(2,c_ IM [.mp 1]),(1,.map false [] (some ([],0))),(0,c_ CH [gV gs])]:Hp)=g;have X:OsK gs [] [] (some ([],0)) (some ([],0)) (kM gs []) (jN gs []) g:=by
  subst hH;exact⟨rfl,rfl,rfl,rfl,rfl,AF (AF (AF (AF (AF Fq)))),λx=>rfl,λp=>.inl ⟨rfl,rfl,rfl⟩,λp u d=>absurd d Ie,λp p' u d=>absurd d Ie⟩
 have i:Ar g=5:=by subst hH;rfl
 clear hH;have en:∀{K:K2},AE Aj (.ptr 0 0 0) g K=K (gV gs):=λ{K}=>by
  rw[AL (p:=0) rfl X.net (by simp)];rfl
 rw[en,A97 (n:=n+78),Wa,i];have w:Ai ((5,rB gs (some none))::g) 5=some (rB gs (some none)):=by
  have:=Ax (H:=g) (x:=rB gs (some none)) (by simp[rB]);rw[i]at this;exact this
 have Z:Wf ((5,rB gs (some none))::g):=by
  have:=AF (x:=rB gs (some none)) X.wf;rw[i]at this;exact this
 have o5:OsK gs [] [] (some ([],0)) (some ([],0)) (kM gs []) (jN gs []) ((5,rB gs (some none))::g):=X.kp Z λu y _ e=>by
  have:=A6 (x:=rB gs (some none)) (X.wf.lt e) e;rw[i]at this;exact this
 have ap:Ar ((5,rB gs (some none))::g)=6:=rfl;show(r! L (n+79)).call XA1 [.yl 5,.iptr [gV gs]] ((5,rB gs (some none))::g) _=_;refine A5f (n:=n+76) (s0:=5) (Q:=C4n gs) w0 h8 Y (by omega) B44 (λes R j ⟨hl,ws,ch,b1,b3,h⟩ ao k=>⟨k _ _ (show 5≠6 by decide) hl,ws,ch,b1,b3,h.kp ao λu y d e=>k u y ?_ e⟩) (λes H ⟨_,_,_,_,_,h⟩=>h.wf) ?_ (λdone H hd ⟨hl,ws,ch,b1,b3,h⟩=>?_)
 ·exact(h.ne d).2
 ·refine⟨A6 (Z.lt w) w,[],[],_,_,o5.kp (AF Z) λu y _ e=>A6 (Z.lt e) e⟩
 ·show IQ H 5 _=_;rw[Bn hl];show LJ H 5 .gone _=_;rw[Dg];have ai:(Pm done).length<1000:=by
   have h1:=A1T done λc hc=>Y c (hd.mem_iff.1 hc);have h2:=hd.length_eq;omega
  have h1:OsK gs ws ch b1 b3 (kM gs (Pm done)) (jN gs (Pm done)) (upd H 5 .gone):=h.kp (Bi h.wf) λu y d e=>by
   rw[Ag (h.ne d).1];exact e
  generalize upd H 5 .gone=R at h1;show AE Aj (.ptr 0 0 0) R _=_;have ag:∀{K:K2},AE Aj (.ptr 0 0 0) R K=K (gV gs):=λ{K}=>by
   rw[AL (p:=0) rfl h1.net (by simp)];rfl
  rw[ag];refine A8X (n:=n+73) w0 h8 (by omega) h1.wf λv H2 hv ar=>?_;have f:OsK gs ws ch b1 b3 (kM gs (Pm done)) (jN gs (Pm done)) H2:=h1.kp hv.wf λu y _ e=>hv.keep u y e;have aq:(Et (gs.map Cd.id)).length=gs.length:=by rw[(Bl _).length_eq,Po]
  have m:∀(j:Hp)(D:Nat),Ai j 2=some (c_ IM [.mp 1])->Ai j 1=some (.map false (Df iV ws) b1)->Fx true (D+2) (.ptr 2 0 0) (.iptr [.imap (Df iV ws)]) j true:=λj D h2 h3=>
   Xk (D:=D+1) h2 (Ao (C0g (D:=D) h3) AI)
  have J:∀s,decide (0<(MG ws s).getD 0)=decide (0<kM gs (Pm done) s):=λs=>by rw[h1.wv]
  refine A9b (n:=n+77) (P:=λs=>decide (0<kM gs (Pm done) s)) hv.wf hv.sl.rq (by omega) hL ⟨.fn (.func Lw) [] [.iptr [.imap (Df iV ws)]],_,zM (D:=depth-1) (Ao (m H2 (depth-3) f.p1 f.m1) AI),λs K=>?_⟩ (λj hk s K=>?_) λv' H3 g1 g2 g3=>?_
  ·rw[F' rfl rfl];have:=AQ (K:=λv=>K v []) (A59 (n:=n+76) (L:=L) (ws:=ws) (s:=s)) (Ao (q:=false) CA (Ao (q:=false) (Rx (H:=[])) AI));rw[J]at this;exact this
  ·rw[F' rfl rfl];have nr:∀u,u<5->¬A4 v u:=λu d hc=>by
    have g1:=hv.new u hc;have g2:=h1.wf.lt h1.p3;omega
   have a1:=hk.keep hv.wf _ _ f.p1 (nr 2 (by decide));have a2:=hk.keep hv.wf _ _ f.m1 (nr 1 (by decide));have:=AQ (K:=λv=>K v j) (A59 (n:=n+77) (L:=L) (ws:=ws) (s:=s)) (Ao (q:=false) CA (Ao (m j (depth-2) a1 a2) AI));rw[J]at this;exact this
  ·have nr:∀u,A4 v' u->Ar R<=u:=λu d=>hv.new u (g2 u d);have h4:=h1.wf.lt h1.p3;have M:OsK gs ws ch b1 b3 (kM gs (Pm done)) (jN gs (Pm done)) H3:=f.kp (g3.wf hv.wf) λu y d e=>g3.keep hv.wf u y e λhc=>by
    have b1:=hv.new u hc;rcases d with d|⟨p,Y⟩
    ·omega
    ·have b2:=(h1.cv p).lt h1.wf Y;omega
   have hR:Ri gs (Pm done) [] [] ((Et (gs.map Cd.id)).filter λs=>!decide (0<kM gs (Pm done) s)):=by
    refine⟨((Bl _).symm.nodup t.ids).sublist List.filter_sublist,λx=>?_,by simp,by simp⟩;rw[A56,l2z,(Bl _).mem_iff];refine and_congr Iff.rfl ?_;constructor
    ·intro hh;have:¬0<kM gs (Pm done) x:=by simpa using hh
     exact⟨by simp,by omega⟩
    ·rintro⟨_,hh⟩;simp[hh]
   rw[<-A56]at M;refine B9J (n:=n+75) (es:=Pm done) (r:=Wn gs) (ch:=ch) (b3:=b3) ai h8 hL t.ids (B5y t.ids hd) (λov H4 C ak B=>?_) gs.length (L+20) [] _ ws b1 v' Av H3 _ _ _ (by omega) (by simp) OrdK.nil ⟨M,g1,.inl ⟨rfl,rfl,rfl⟩,λu d=>⟨?_,Ie,λp hc=>?_⟩,λu d=>absurd d Ie⟩ hR (λ_=>rfl) rfl
   ·rw[C.rq.len];have ah:∀{K:K2},AE Aj (.ptr 0 0 0) H4 K=K (gV gs):=λ{K}=>by
     rw[AL (p:=0) rfl B (by simp)];rfl
    have em:∀{K:K2},Zb (gV gs) H4 K=K (I (gs.length:Int)):=λ{K}=>by
     show HQ (Df DU (gE gs)) 0 (λn=>K (.v (.int .i64 (.ofNat n))))=_;rw[Cs,Kk];have:(Df DU (gE gs)).length=gs.length:=by simp[gE]
     rw[this];rfl
    rw[ah,em];by_cases A:gs.length<=(Wn gs).length
    ·have er:gW gs=.tup [DV (Wn gs),.v (.int .i64 0)]:=by unfold gW;rw[Dr A]
     rw[FB (by omega),Ba];refine V _ _ λbb=>?_;rw[er];obtain⟨q,hq⟩:=iU (D:=depth-2) (b:=bb) C ak;exact⟨_,eQ (D:=depth-1) (Ao hq (Ao (q:=false) CA AI))⟩
    ·have er:gW gs=.tup [Av,.v (.int .i64 220)]:=by unfold gW;rw[CD A]
     rw[FG (by omega),Co];refine V _ _ λbb=>?_;rw[er];exact⟨_,eQ (D:=depth-1) (Ao (q:=false) CA (Ao (q:=false) CA AI))⟩
   ·have b1:=nr u d;omega
   ·have b1:=nr u d;have b2:=(h1.cv p).lt h1.wf hc;omega
end
end
end Go.Abs
end
