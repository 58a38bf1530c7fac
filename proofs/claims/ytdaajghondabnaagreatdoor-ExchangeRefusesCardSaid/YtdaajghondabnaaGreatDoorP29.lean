import Derived.Test.YtdaajghondabnaaGreatDoorP28
set_option linter.all false
set_option maxHeartbeats 100000000
noncomputable section
namespace Go.Abs
open Go.RowKit Go.Proofs
set_option maxRecDepth 100000
section
variable{a:AV}{s:Nat}
variable{L n:Nat}
structure Gm(g:GV)(lv iv:AV)(H:Hp):Prop where
 gv:GvOk g H
 sl:Bk H Ad 68 lv g.length (gvC g)
 nl:g=[]->lv=Av
 si:Bk H Aq 1 iv g.length (AE ((g.map Prod.fst).map Cd.id))
 ni:g=[]->iv=Av
 dl:∀s,A9 lv s->¬A9 iv s/\∀p∈g,¬A9 p.2 s
 di:∀s,A9 iv s->∀p∈g,¬A9 p.2 s
 wf:Wf H
section
variable{K:KV}{x:Af}{H0 H H':Hp}{g:GV}{lv iv a0:AV}{c:Cd}{v:AV}
def Gm.grow(h:Gm g lv iv H)(wf:Wf H')(kp:∀s q,Ai H s=some q->Ai H' s=some q):Gm g lv iv H':=
 ⟨⟨λp b=>(h.gv.sl p b).kp λs q _=>kp s q,h.gv.nl⟩,h.sl.kp λs q _=>kp s q,h.nl,h.si.kp λs q _=>kp s q,h.ni,h.dl,h.di,wf⟩
def Gm.lti(h:Gm g lv iv H)(b:A9 iv s):s<As H:=h.si.lt h.wf b
def Gm.ltl(h:Gm g lv iv H)(b:A9 lv s):s<As H:=h.sl.lt h.wf b
def Gm.ltp(h:Gm g lv iv H){p:Cd×AV}(b:p∈g)(d:A9 p.2 s):s<As H:=(h.gv.sl p b).lt h.wf d
def C11{cs:Is}(d:cs.length=68)(h1:cs.all AV.one=true):FU Ad 68 Ae 1 [(0,68,.agg cs)] H K=K (.sl 68 (As H) 0 1) ((As H,.cells false Ad cs)::H):=by
 have e:FU Ad 68 Ae 1 [(0,68,.agg cs)] H K=GY (.agg cs) λvs=>HK vs 0 λn=>ck (Nat.beq n 68) (ck (NT vs) (Ey 0 vs CN λb=>Io H λs=>K (.sl 68 s 0 1) ((s,.cells false Ad b)::H))):=r_ rfl;have hc:B3 (.agg cs)=cs:=rfl;rw[e,CP,hc,Cy,d,FP,h1];show Ey 0 cs CN _=_;rw[Iu _ _ _ _ (by rw[d];decide),VZ _ _ (by rw[d];rfl),Ca]
def Gm.add(h:Gm g lv iv H)(hv:Bk H Aq 1 v c.ps.length (AE c.ps))(hn:c.ps=[]->v=Av)(B:∀s,A9 v s->¬A9 lv s/\¬A9 iv s)(hb:g.length<100):
 ∃i j f k,(∀K:KV,(FU Ad 68 Ae 1 [(0,68,.agg (c.csP v))] H λv1 j=>DK Ad 68 Ae Ak lv v1 j K)=K i j)/\
  (∀K:KV,(FU Aq 1 Ah 1 [(0,1,S c.id)] j λv1 k=>DK Aq 1 Ah Ac iv v1 k K)=K f k)/\Gm (g++[(c,v)]) i f k:=by
 obtain⟨i,j,a1,a2,u,D,w,y⟩:=wE (ie:=Ae) (i2:=Ak) (ys:=c.csP v) h.sl h.wf (Pb c) (rL c (Bk.one hv)) (by decide) rfl (λ_=>rfl) (by show(_+1)*800<=_;omega) (by omega);have t:Bk j Aq 1 iv g.length (AE ((g.map Prod.fst).map Cd.id)):=h.si.kp λs q d r=>w s q r (λe=>(h.dl s e).1 d);obtain⟨f,k,b1,b2,C,b4,A,b6⟩:=wE (ie:=Ah) (i2:=Ac) (ys:=AE [c.id]) t u rfl rfl (by decide) rfl (λ_=>rfl) (by show(_+1)*16<=_;omega) (by omega);have kp:∀s q,¬A9 lv s->¬A9 iv s->Ai H s=some q->Ai k s=some q:=λs q h1 h2 d=>A _ _ (w _ _ d h1) h2;refine⟨i,j,f,k,λK=>by rw[C11 (Pb c) (rL c (Bk.one hv))];exact a1 K,λK=>by rw[ZJ];exact b1 K,⟨λp b=>?_,λp b=>?_⟩,?_,λe=>by simp at e,?_,λe=>by simp at e,λs d=>⟨λe=>?_,λp b e=>?_⟩,λs d p b e=>?_,C⟩
 ·rcases kB.1 b with b|b
  ·exact(h.gv.sl p b).kp λs q d=>kp s q (λe=>(h.dl s e).2 p b d) (λe=>h.di s e p b d)
  ·rw[YR]at b;subst b;exact hv.kp λs q d=>kp s q (B s d).1 (B s d).2
 ·rcases kB.1 b with b|b
  ·exact h.gv.nl p b
  ·rw[YR]at b;subst b;exact hn
 ·have m:gvC (g++[(c,v)])=gvC g++c.csP v:=by simp[gvC]
  rw[m,EK];exact Bk.kp a2 λs q d r=>A s q r λe=>by have:=y s d;have:=h.lti e;omega
 ·have m:AE (((g++[(c,v)]).map Prod.fst).map Cd.id)=AE ((g.map Prod.fst).map Cd.id)++AE [c.id]:=by simp[AE]
  rw[m,EK];exact b2
 ·have:=b6 s e;have:=Bk.lt a2 u d;omega
 ·have:=y s d;rcases kB.1 b with b|b
  ·have:=h.ltp b e;omega
  ·rw[YR]at b;subst b;have:=hv.lt h.wf e;omega
 ·have:=b6 s d;rcases kB.1 b with b|b
  ·have:=h.ltp b e;omega
  ·rw[YR]at b;subst b;have:=hv.lt h.wf e;omega
def XA(xs:List Y7)(a:AV):Prop:=a=.list xs.length (xs.flatMap Y7.cs)\/(xs=[]/\a=Av)
def XA.len{xs:List Y7}{K:K2}(h:XA xs a):Bh MF a K=K (I xs.length):=by
 rcases h with rfl|⟨rfl,rfl⟩<;>exact r_ rfl
def XA.ia{xs:List Y7}{i:Nat}{K:K2}(h:XA xs a)(b:i<xs.length):DC MF a (I i) K=K (.iptr xs[i].cs):=by
 rcases h with rfl|⟨rfl,rfl⟩
 ·exact Zf (f:=Y7.cs) rfl (λ_=>rfl) b
 ·simp at b
end
end
section
variable{a b c d:Int}
variable{L n:Nat}
section
variable{K:KV}{x:Af}{xs:List Y7}{a0:AV}
def b6{a b c d e f:Int}{K:K2}:BP BA [(0,1,I a),(1,1,I b),(2,1,I c),(3,1,I d),(4,1,I e),(5,1,I f)] K=K (.agg [I a,I b,I c,I d,I e,I f]):=id rfl
def b4{K:K2}:BP CU [(0,1,I a),(1,1,I b),(2,1,I c),(3,1,I d)] K=K (.agg [I a,I b,I c,I d]):=id rfl
def bs4{H:Hp}:FU HZ 4 CU 1 [(0,4,.agg [I a,I b,I c,I d])] H K=K (.sl 4 (As H) 0 1) ((As H,.cells false HZ [I a,I b,I c,I d])::H):=by
 have e:FU HZ 4 CU 1 [(0,4,.agg [I a,I b,I c,I d])] H K=Io H (λs=>K (.sl 4 s 0 1) ((s,.cells false HZ [I a,I b,I c,I d])::H)):=r_ rfl;rw[e,Ca]
def C2V{k4:KV}(hL:40000<L)(hx:XA xs a0)(a5:∀y∈xs,y.Ok)(w:∀g lv iv H,g.map Prod.fst=QC xs (min 8 xs.length)->Gm g lv iv H->k4 lv H=x):
 ∀(f i:Nat)(g:GV)(lv iv:AV)(H:Hp)(d0 d1 d2 d3:AV),i<=min 8 xs.length->min 8 xs.length-i<f->g.map Prod.fst=QC xs i->Gm g lv iv H->
 TT (L+20) (r! L (n+64)) K k4 f a0 lv iv (I i) d0 d1 d2 d3 H=x:=by
 intro f
 induction f with
 |zero=>intro i g lv iv H d0 d1 d2 d3 _ h;omega
 |succ f ih=>
  intro i g lv iv H d0 d1 d2 d3 hi hf M hh;rw[oW];unfold TV IA Dk A3 Ga;have e8:(AV.v (.int .i64 8))=I ((8:Nat):Int):=rfl;rw[hx.len,e8];by_cases h:i<min 8 xs.length
  ·have R:i<xs.length:=by omega
   obtain⟨y,hy⟩:∃y,xs[i]=y:=⟨_,rfl⟩
   have ak:=a5 _ (Qk R);have az:xs.getD i ⟨0,0,0,0,0,0,0⟩=y:=by rw[<-hy];simp[List.getD,KL R]
   rw[hy]at ak;obtain⟨o0,o1,o2,o3,o4,o5,o6⟩:=ak;rw[Fz (by omega)];simp only[gT,Cb];rw[Fz (by omega),Cb,UV,Cu];refine PW λbf aa=>?_;refine PW λa9 ab=>?_;have ax:(QC xs i).length=g.length:=by rw[<-M,UH]
   have g8:=(B13 xs i (by omega)).2;have O:QC xs (i+1)=if(cM i y ((QC xs i).map Cd.id)).ps.Nodup/\(cM i y ((QC xs i).map Cd.id)).id∉(QC xs i).map Cd.id then QC xs i++[cM i y ((QC xs i).map Cd.id)] else QC xs i:=by
    have:QC xs (i+1)=if(cM i (xs.getD i ⟨0,0,0,0,0,0,0⟩) ((QC xs i).map Cd.id)).ps.Nodup/\(cM i (xs.getD i ⟨0,0,0,0,0,0,0⟩) ((QC xs i).map Cd.id)).id∉(QC xs i).map Cd.id
     then QC xs i++[cM i (xs.getD i ⟨0,0,0,0,0,0,0⟩) ((QC xs i).map Cd.id)] else QC xs i:=rfl
    rw[this,az]
   have B:∀g' t p q kd u k C,g'.map Prod.fst=QC xs (i+1)->Gm g' t p C->a9 a0 t p (I i) q kd u k C=x:=by
    intro g' t p q kd u k C h1 h2;have ad:∀{K:K2},Ar Ab .add (I i) (.v (.int .i64 1)) K=K (I ((i+1:Nat):Int)):=λ{K}=>Db (by omega);rw[ab,aa];simp only[ad];exact ih (i+1) g' t p C q kd u k (by omega) (by omega) h1 h2
   clear aa ab ih w;have l7:∀{H}{K:K2},AD Cv (.iptr y.cs) H K=K (.agg y.cs):=λ{H K}=>r_ rfl;obtain⟨H1,e1,m1,w1,am⟩:=Ip (e:=Zr) (zs:=[zI,zI,zI,zI,zI,zI,zI]) (vs:=y.cs) hh.wf rfl;rw[hx.ia R,hy,l7,B1 (cs:=[zI,zI,zI,zI,zI,zI,zI]) rfl,BX (cs:=[zI,zI,zI,zI,zI,zI,zI]) (vs:=y.cs) (Ax (by simp)) rfl rfl rfl,<-e1];have h1:=hh.grow w1 λs q m=>(am s q m).1;generalize As H=q7 at m1;clear e1 am hh;obtain⟨Y, -⟩:=rd7 m1;rw[C3m,Y];refine PW λba ac=>?_;have j:ba (I (kdM i y)) H1=x:=by
    rw[ac];clear ac;refine PW λbg ae=>?_;refine PW λbd J=>?_;have aj:=h1.si;rw[M]at aj;have A:((QC xs i).map Cd.id).length=g.length:=by rw[UH,ax]
    refine C2H (n:=n) (ids:=(QC xs i).map Cd.id) (by omega) o6 m1 (by rw[A];exact aj) (by rw[A];omega) (λu k H2 hp=>?_) (L+20) 0 Av H1 (by omega) (by omega) ⟨.inl ⟨rfl,rfl,rfl⟩,λ_=>rfl,(λs m=>by obtain⟨_,_,_,h⟩:=m;cases h),w1,w1,Mh _,λ_ _ h=>h⟩;rw[J,ae];clear J ae;obtain⟨-,r1,r2,r3,r4,r5,r6⟩:=rd7 (hp.kp _ _ m1);simp only[C5s,C5r,C5q,C5p,C5o,C3l,r1,r2,r3,r4,r5,r6];rw[b6,b6,b4,bs4];obtain⟨H3,s3,e3,Z,m3,w3,ao⟩:=push hp.wf (.cells false HZ [I y.y3,I y.y4,I y.y5,I y.y6]) (by simp);rw[<-Z,<-e3];have a3:J7 (kdM i y):=by
     unfold kdM;split
     ·unfold J7;omega
     ·exact o0
    have a8:YA H3 (some (y.y3,y.y4,y.y5,y.y6)) (.sl 4 s3 0 1):=λC kp=>⟨true,VE (D:=depth-1) (q':=false) (kp _ _ m3) rfl (K1 (λz:Int=>Value.int .i64 z) [y.y3,y.y4,y.y5,y.y6])⟩
    have a7:PL H3 (xM ((QC xs i).map Cd.id) y.y6 3) u:=.inr (hp.sl.kp λs q _ m=>(ao _ _ m).1);have h3:=h1.grow w3 λs q m=>(ao _ _ (hp.kp s q m)).1;have be:=A5I (ids:=(QC xs i).map Cd.id) (y6:=y.y6) 3;clear r1 r2 r3 r4 r5 r6 e3 Z m3 h1;have ay:∀s∈xM ((QC xs i).map Cd.id) y.y6 3,s.length=32:=λs m=>by
     obtain⟨c,_,rfl⟩:=Rc.1 (A5H _ s m);exact A4N c
    refine tJ (n:=n+20) (y:=some (y.y3,y.y4,y.y5,y.y6)) hL w3 a3 o1 o2 o3 o4 o5 o1 o2 o3 o4 o5 o6 a8 ⟨o3,o4,o5,o6⟩ a7 (by omega) ay ?_;show∀v C,Bk C Aq 1 v (cM i y ((QC xs i).map Cd.id)).ps.length (AE (cM i y ((QC xs i).map Cd.id)).ps)->((cM i y ((QC xs i).map Cd.id)).ps=[]->v=Av)->Wf C->(∀s q,Ai H3 s=some q->Ai C s=some q)->(∀s,A9 v s->As H3<=s)->_;intro v H4 sv nv w4 ap P;have N:(cM i y ((QC xs i).map Cd.id)).Ok:=B6K;have ec:cdM (kdM i y) y.y1 y.y2 y.y3 y.y4 y.y5 y.y1 y.y2 y.y3 y.y4 y.y5 y.y6 (some (y.y3,y.y4,y.y5,y.y6)) (xM ((QC xs i).map Cd.id) y.y6 3)=cM i y ((QC xs i).map Cd.id):=rfl;rw[ec];generalize cM i y ((QC xs i).map Cd.id)=c at sv nv N O⊢;have h4:=h3.grow w4 ap;have hd:∀s,A9 v s->¬A9 lv s/\¬A9 iv s:=λs m=>⟨λe=>by have:=h3.ltl e;have:=P s m;omega,λe=>by have:=h3.lti e;have:=P s m;omega⟩
    obtain⟨X,e5,m5,w5,V⟩:=Ip (e:=Ad) (zs:=CN) (vs:=c.csP v) w4 (Pb c);rw[B1 (cs:=CN) rfl,BX (cs:=CN) (vs:=c.csP v) (Ax (by simp)) (Pb c) rfl (rL c (Bk.one sv)),<-e5];have h5:=h4.grow w5 λs q m=>(V s q m).1;have ar:=Bk.kp sv λs q _ m=>(V s q m).1;generalize As H4=r at m5;have lc:∀{K},AD Ae (.ptr r 0 0) X K=K (.agg (c.csP v)):=λ{K}=>Bu rfl (by exact(Pb c).symm) m5;clear e5 V h4 h3 sv ap P m5;have ah:((QC xs i).map Cd.id).length<1000:=by rw[A];omega
    have a4:([]:Ha)∉(QC xs i).map Cd.id:=λe=>by
     obtain⟨d,_,hd⟩:=Rc.1 e;exact wA d hd
    have af:∀{s:Ha}{K},Ap (r! L (n+64)) TE [iv,S s] X K=K (mM s ((QC xs i).map Cd.id) 0):=λ{s K}=>by
     have aq:=h5.si;rw[M,<-A]at aq;have bc:(QC xs i).map Cd.id=[]->iv=Av:=λe=>h5.ni (by
      have:g.length=0:=by rw[<-A,e];rfl
      exact mH this)
     obtain⟨q,hq⟩:=iX (D:=depth-1) (b:=true) aq bc;exact AP (C2B (L:=L) (n:=n+63) (s:=s) (Mt ((QC xs i).map Cd.id)) ah (by omega)) (Ao hq (Ao (q:=false) CC AH))
    obtain⟨qc,ai⟩:=Z? (D:=depth-2) ar nv;by_cases F:c.ps.Nodup
    ·have Q:∀{K},Ap (r! L (n+64)) FK [.agg (c.csP v)] X K=K (S c.id):=λ{K}=>AP (A02 (n:=n) hL N F) (Ao (LF (D:=depth-1) ai) AH);rw[lc,Q,af];by_cases hm:c.id∈(QC xs i).map Cd.id
     ·obtain⟨k,hk, -, -,e⟩:=vG _ 0 hm;rw[CF λhc=>hc.2 hm]at O;rw[e,FB,FA,RF,HW (wA c),Bool.not_false];simp only[gT,Cb,ntT,UV];rw[AZ];exact B g lv iv _ _ _ _ X (by rw[O];exact M) h5
     ·rw[Dq ⟨F,hm⟩]at O;obtain⟨t,H6,p,H7,b1,b2,b3⟩:=h5.add ar nv hd (by omega);rw[rF _ 0 hm,FB,FA,RF,HW (wA c),Bool.not_false];simp only[gT,Cb,ntF,UV];rw[Cu,lc,b1,b2];exact B (g++[(c,v)]) t p _ _ _ _ H7 (by rw[O,Z6,M];rfl) b3
    ·have Q:∀{K},Ap (r! L (n+64)) FK [.agg (c.csP v)] X K=K (S []):=λ{K}=>AP (B5J (n:=n) hL N F) (Ao (LF (D:=depth-1) ai) AH);rw[CF λhc=>F hc.1]at O;rw[lc,Q,af,rF _ 0 a4,FB,FA,RF,HR rfl,Bool.not_true];simp only[iW,Cb,RC];rw[AZ];exact B g lv iv _ _ _ _ X (by rw[O];exact M) h5
   have e2:(AV.v (.int .i64 2))=I ((2:Nat):Int):=rfl;rw[e2];by_cases ag:i<2
   ·have a6:∀{H K},Ap (r! L (n+64)) Ml [I (y.y0.tdiv 3),.v (.int .i64 4)] H K=K (I (pk (y.y0.tdiv 3) 4)):=λ{H K}=>A1r (n:=n+63) (NZ o0 (by decide)) (by decide) (by decide) H K;rw[Fz (by omega)];simp only[gT,Cb,C3m,Y,oB o0 (show(1:Int)<=3 by decide),a6,Ef,UV];by_cases h0:0<pk (y.y0.tdiv 3) 4
    ·rw[HR h0,Cu];have e:kdM i y=0:=Dq ⟨ag,h0⟩;rw[e]at j;exact j
    ·rw[HW h0,AZ];have e:kdM i y=y.y0:=CF λhc=>h0 hc.2;rw[e]at j;exact j
   ·rw[Fp (by omega)];simp only[iW,Cb,gU,RC];rw[AZ];have e:kdM i y=y.y0:=CF λhc=>ag hc.1;rw[e]at j;exact j
  ·have:i=min 8 xs.length:=by omega
   subst this;by_cases h8:xs.length<=8
   ·rw[Fp (by omega)];simp only[iW,Cb,RC];rw[AZ];exact w g lv iv H M hh
   ·rw[Fz (by omega)];simp only[gT,Cb];rw[Fp (by omega),Cb,UV,AZ];exact w g lv iv H M hh
def B01(m:40000<L)(r:XA xs a0)(f:∀y∈xs,y.Ok):CT (r! L (n+65)) Xs [a0] (eP (QC xs (min 8 xs.length))):=by
 intro K k;rw[tU];unfold Wr A3;simp only[BE];refine C2V m r f (λg lv iv H q e=>?_) (L+20) 0 [] Av Av [] _ _ _ _ (by omega) (by omega) rfl ⟨⟨(λp i=>by cases i),(λp i=>by cases i)⟩,.inl ⟨rfl,rfl,rfl⟩,λ_=>rfl,.inl ⟨rfl,rfl,rfl⟩,λ_=>rfl,(λs j=>by obtain⟨_,_,_,h⟩:=j;cases h),(λs j=>by obtain⟨_,_,_,h⟩:=j;cases h),FH⟩;refine k _ _ ?_;rw[<-q];exact C0a (D:=depth-2) e.gv e.sl e.nl
end
end
section
variable{L n:Nat}
section
variable{K:KV}{x:Af}{gs:ed}{a w o sm:AV}{H:Hp}{ws:List Int}
def O_{ps:List Ha}{K:K2}:Bh Ac (DD ps) K=K (I ps.length):=(Mt ps).len
end
end
section
variable{L n:Nat}
section
variable{K:KV}{x:Af}{H:Hp}{l:List AR}{p:AR}{a:AV}
end
section
variable{K:KV}{x:Af}{H:Hp}{il al sl cp:List AR}{idk:AR}{k r rc:Nat}{less:ed}{v:AV}{R:Rt}
end
end
section
variable{L n:Nat}
section
variable{α:Type}{f:α->Is}{w:Nat}
def A61(b:∀x,(f x).length=w):∀l:List α,(l.flatMap f).length=l.length*w:=by
 intro l
 induction l with
 |nil=>simp
 |cons a l ih=>rw[rE,EK,b,ih,Mi,l1e];omega
end
section
variable{gs less:ed}{H:Hp}{K:K2}{D:Nat}
def C0C{r m i:Nat}(h:i<m):DC Ak (.sl 68 r 0 m) (I (i:Int)) K=K (.ptr r (i*68) 0):=by
 have a:DC Ak (.sl 68 r 0 m) (I (i:Int)) K=iN (i:Int) λn=>ck (Nat.blt n m) (fN (Nat.add 0 (Nat.mul n 68)) λp=>K (.ptr r p 0)):=rfl;rw[a,Kk,Ee];have h1:Nat.blt i m=true:=by rw[Xi];exact h
 have b:Nat.add 0 (Nat.mul i 68)=i*68:=Kd _;rw[h1,b];rfl
end
section
variable{gs:ed}{k:Nat}
end
end
section
variable{L n:Nat}
section
variable{gs:ed}{s:Ha}
def B5k(h:(gs.map Cd.id).Nodup){i:Nat}(b:i<gs.length):MB (gr gs) gs[i].id=some (cE gs[i]):=by
 induction gs generalizing i with
 |nil=>simp at b
 |cons c gs ih=>
  rw[XI,List.nodup_cons]at h;show MB ((c.id,cE c)::gr gs) _=_;unfold MB;cases i with
  |zero=>rw[List.getElem_cons_zero,Dq rfl]
  |succ i=>
   rw[List.getElem_cons_succ];have a:i<gs.length:=by simpa using b
   rw[CF (λe=>h.1 (Rc.2 ⟨_,Qk a,e.symm⟩))];exact ih h.2 a
end
end
section
variable{L n:Nat}
section
variable{gs:ed}{f:AR->Bool}{s x y:AR}
def A5D(h:(gs.map Cd.id).Nodup){i:Nat}(d:i<gs.length):QJ gs gs[i].id=gs[i].ps:=by
 have h1:=B5k h d;rw[C0l]at h1;unfold QJ;cases b:MB (gE gs) gs[i].id with
 |none=>rw[b]at h1;cases h1
 |some c=>
  rw[b]at h1;simp only[zQ,l0z]at h1;exact congrArg Ce.ps h1
end
section
variable{K:KV}{x:Af}{H:Hp}{gs:ed}{a w:AV}{i:Nat}{R:Rt}
end
section
variable{K:KV}{l:List AR}
end
end
section
variable{gs:ed}{out l:List AR}{x y p m:AR}
def C0X(gs:ed)(out:List AR)(x:AR):Bool:=decide (x∉out)&&(QJ gs x).all λp=>decide (p∉gs.map Cd.id)||decide (p∈out)
def B24:C0X gs out x=true↔x∉out/\∀p∈QJ gs x,p∈gs.map Cd.id->p∈out:=by
 unfold C0X;rw[KF,decide_eq_true_eq,GG];refine and_congr Iff.rfl ⟨λh p b a=>?_,λh p b=>?_⟩
 ·have:=h p b;rw[l1i,decide_eq_true_eq,decide_eq_true_eq]at this;exact this.resolve_left λh=>h a
 ·rw[l1i,decide_eq_true_eq,decide_eq_true_eq];by_cases a:p∈gs.map Cd.id
  ·exact .inr (h p b a)
  ·exact .inl a
def lH(gs:ed)(out:List AR):List AR:=(gs.map Cd.id).filter (C0X gs out)
def Wm:x∈lH gs out↔x∈gs.map Cd.id/\x∉out/\∀p∈QJ gs x,p∈gs.map Cd.id->p∈out:=by
 rw[lH,l2z,B24]
def lP(gs:ed):Nat->List AR->List AR
 |0,out=>out
 |n+1,out=>match Et (lH gs out) with
  |[]=>out
  |m::_=>lP gs n (out++[m])
def Wp(gs:ed):List AR:=lP gs gs.length []
structure OrdK(gs:ed)(out:List AR):Prop where
 nd:out.Nodup
 ids:∀x∈out,x∈gs.map Cd.id
 pr:∀a x b,out=a++x::b->∀p∈QJ gs x,p∈gs.map Cd.id->p∈a
def OrdK.nil:OrdK gs []:=⟨List.nodup_nil,by simp,λa x b h=>by cases a<;>cases h⟩
def OrdK.step(h:OrdK gs out)(hm:m∈lH gs out):OrdK gs (out++[m]):=by
 obtain⟨h1,h2,q⟩:=Wm.1 hm;refine⟨l36.2 ⟨h.nd,by simp,λa r c hc=>by simp at hc;subst hc;exact λe=>h2 (e▸r)⟩,λx d=>?_,λa x b e p k j=>?_⟩
 ·rcases kB.1 d with d|d
  ·exact h.ids x d
  ·rw[YR]at d;subst d;exact h1
 ·rcases List.eq_nil_or_concat b with rfl|⟨g,z,rfl⟩
  ·have:=List.append_inj' e rfl;obtain⟨f,i⟩:=this;cases i
   subst f;exact q p k j
  ·have n:out++[m]=(a++x::g)++[z]:=by rw[e];simp
   obtain⟨f,i⟩:=List.append_inj' n rfl;exact h.pr a x g f p k j
def YE{α:Type}:∀{l1 l2:List α},l1.Nodup->(∀x∈l1,x∈l2)->l1.length<=l2.length:=by
 intro l1
 induction l1 with
 |nil=>intro _ _ _;exact l1h _
 |cons a l ih=>
  intro l2 hn b;rw[List.nodup_cons]at hn;have d:a∈l2:=b a (by simp);obtain⟨u,v,rfl⟩:=List.append_of_mem d;have:=ih (l2:=u++v) hn.2 λx c=>by
   have h1:=b x (by simp[c]);rw[kB,Xh]at h1;rw[kB];rcases h1 with h1|h1|h1
   ·exact .inl h1
   ·subst h1;exact absurd c hn.1
   ·exact .inr h1
  simp at this⊢;omega
def OrdK.len(h:OrdK gs out):out.length<=gs.length:=by
 have:=YE h.nd h.ids;rw[UH]at this;exact this
def OrdK.all(h:OrdK gs out)(c:gs.length<=out.length)(b:x∈gs.map Cd.id):x∈out:=by
 apply l37;intro hn;have:=YE (l1:=x::out) (l2:=gs.map Cd.id) (List.nodup_cons.2 ⟨hn,h.nd⟩) λy a=>by
  rcases Xh.1 a with rfl|a
  ·exact b
  ·exact h.ids y a
 rw[UH,Mi]at this;omega
def A1a(h:OrdK gs out)(a:gs.length<=out.length):lH gs out=[]:=by
 rw[List.eq_nil_iff_forall_not_mem];intro x b;obtain⟨h1,h2,_⟩:=Wm.1 b;exact h2 (h.all a h1)
def B0v:∀(n:Nat)(out:List AR),OrdK gs out->gs.length<=out.length+n->OrdK gs (lP gs n out)/\lH gs (lP gs n out)=[]:=by
 intro n
 induction n with
 |zero=>intro out h a;exact⟨h,A1a h a⟩
 |succ n ih=>
  intro out h a;unfold lP;cases b:Et (lH gs out) with
  |nil=>
   refine⟨h,?_⟩;have:=(Bq (lH gs out)).length_eq;rw[b]at this;exact mH this.symm
  |cons m l=>
   have hm:m∈lH gs out:=(Bq _).mem_iff.1 (by rw[b];simp);exact ih (out++[m]) (h.step hm) (by rw[EK,List.length_singleton];omega)
def Su:OrdK gs (Wp gs)/\lH gs (Wp gs)=[]:=B0v gs.length [] OrdK.nil (by simp)
def OrdK.before(h:OrdK gs out){a b:List AR}(e:out=a++x::b)(c:Anc gs x y):y∈a:=by
 induction c with
 |one h1 h2=>exact h.pr a x b e _ h2 h1
 |more _ h1 h2 ih=>
  obtain⟨u,v,rfl⟩:=List.append_of_mem ih;have:=h.pr u _ (v++x::b) (by rw[e];simp) _ h2 h1;exact List.mem_append_left _ this
def OrdK.acyc(h:OrdK gs out)(d:x∈out):¬Anc gs x x:=by
 intro c;obtain⟨a,b,rfl⟩:=List.append_of_mem d;have:=h.before rfl c;have hn:=h.nd;rw[l36]at hn;exact hn.2.2 x this x (by simp) rfl
def A88(h:Anc gs x p)(hq:Anc gs p y):Anc gs x y:=by
 induction hq with
 |one h1 h2=>exact .more h h1 h2
 |more _ h1 h2 ih=>exact .more ih h1 h2
open Classical in
def B5P(b:¬Anc gs p p)(h:Anc gs x p):(A2D gs p).length<(A2D gs x).length:=by
 unfold A2D;rw[(Bq _).length_eq,(Bq _).length_eq];refine A7J (λa _ hq=>?_) h.ids (HR h) (HW b);rw[decide_eq_true_eq]at hq⊢;exact A88 h hq
def OrdK.full(h:OrdK gs out)(hr:lH gs out=[])(a:∀x∈gs.map Cd.id,¬Anc gs x x):∀(n:Nat)(x:AR),(A2D gs x).length<n->x∈gs.map Cd.id->x∈out:=by
 intro n
 induction n with
 |zero=>intro x h;omega
 |succ n ih=>
  intro x f e;apply l37;intro hn;have h1:x∉lH gs out:=by rw[hr];simp
  refine h1 (Wm.2 ⟨e,hn,λp d b=>?_⟩);have c:Anc gs x p:=.one b d;have:=B5P (a p b) c;exact ih p (by omega) b
def B0u(hn:(gs.map Cd.id).Nodup):gs.length<=(Wp gs).length↔∀x∈gs.map Cd.id,¬Anc gs x x:=by
 obtain⟨h1,h2⟩:=Su (gs:=gs);constructor
 ·intro b x a;exact h1.acyc (h1.all b a)
 ·intro h;have:=YE hn λx a=>h1.full h2 h _ x (Nat.lt_succ_self _) a;rw[UH]at this;exact this
def Jw(gs:ed):List AR:=Et ((gs.map Cd.id).filter λx=>decide (∀c∈gs,x∉c.ps))
def mL:x∈Jw gs↔x∈gs.map Cd.id/\∀c∈gs,x∉c.ps:=by
 rw[Jw,(Bq _).mem_iff,l2z,decide_eq_true_eq]
def vF(h:(gs.map Cd.id).Nodup):(Jw gs).Nodup:=(Bq _).symm.nodup (h.sublist List.filter_sublist)
def A7z:(Jw gs).length<=gs.length:=by
 rw[Jw,(Bq _).length_eq];have:=l30 (λx=>decide (∀c∈gs,x∉Cd.ps c)) (gs.map Cd.id);rw[UH]at this;exact this
end
section
variable{v:AV}{PP:Af->Prop}{q:Bool}{D i r:Nat}
variable{L n:Nat}
section
variable{l:List AR}{m a b:AR}{x:Af}{K:KV}{H:Hp}
def C44{K:K2}:eMM true (S a) (S b) K=K (S (if a<=b then a else b)):=by
 have e:eMM true (S a) (S b) K=@Bool.rec (λ_=>Af) (K (S b)) (K (S a)) (ltB a b||eqB a b):=rfl;rw[e,S?,QU,bytesLess_eq];by_cases h:a<=b
 ·have h1:(decide (a<b)||a==b)=true:=by
   by_cases h2:a<b
   ·simp[h2]
   ·have:=sW h h2;simp[this]
  rw[Dq h,h1]
 ·have h1:(decide (a<b)||a==b)=false:=by
   have h2:¬a<b:=λh2=>h ((XA6 a b).elim id λc=>absurd h2 c);have c:a≠b:=λe=>h (e▸((XA6 a a).elim id id));simp[h2,c]
  rw[CF h,h1]
def B9O{g:KV}(hm:m∈l)(e:∀y∈l,m<=y)(hb:l.length<1000000)(j:g (S m) H=x):∀(f i:Nat)(cur:AR),i<=l.length->l.length-i<f->cur∈l->(∀y∈l.take i,cur<=y)->
 GO (L+20) (rt (L+20) n) K g f (Ls l) (S cur) (I i) H=x:=by
 intro f
 induction f with
 |zero=>intro i cur _ h;omega
 |succ f ih=>
  intro i cur p k hc d;rw[Oa];unfold GP IA A3;rw[Na];by_cases h:i<l.length
  ·rw[Fz (by omega),Cu,Td h,Ke,C44,Db (by omega)];refine ih (i+1) _ (by omega) (by omega) ?_ λy c=>?_
   ·split
    ·exact hc
    ·exact Qk h
   ·rw[oH h,kB,YR]at c;split
    ·rename_i h1;rcases c with c|rfl
     ·exact d y c
     ·exact h1
    ·rename_i h1;have h2:l[i]<=cur:=(XA6 cur l[i]).elim (λh=>absurd h h1) id;rcases c with c|rfl
     ·exact kQ h2 (d y c)
     ·exact(XA6 _ _).elim id id
  ·have:i=l.length:=by omega
   subst this;rw[wQ]at d;rw[Fp (by omega),AZ];have:cur=m:=sW (d m hm) (e cur hc);rw[this];exact j
def C1M(hm:m∈l)(d:∀y∈l,m<=y)(hb:l.length<1000000)(j:l.length<L):CS (rt (L+20) (n+1)) HL [Ls l] (S m):=by
 intro K h;rw[Pg];unfold HB A3;have c:0<l.length:=List.length_pos_of_mem hm;simp only[BE];have ls:∀{K:K2},Ar Ab .lss (I (l.length:Int)) (AV.v (.int .i64 1)) K=K (Bo false):=λ{K}=>Fp (by omega);have f:(AV.v (.int .i64 0))=I ((0:Nat):Int):=rfl;have g:(AV.v (.int .i64 1))=I ((1:Nat):Int):=rfl;rw[Na,ls,AZ,f,Td c,Ke,g];refine B9O (n:=n) hm d hb (h _ _ λb=>⟨false,CC⟩) (L+20) 1 _ (by omega) (by omega) (Qk c) λy e=>?_;rw[show 1=0+1 from rfl,oH c,List.take_zero,l3b,YR]at e;subst e;exact(XA6 _ _).elim id id
end
section
variable{l:List AR}{x:Af}{K:KV}{H:Hp}{fn:AV}{P:AR->Bool}{R:Rt}
def fiN(P:AR->Bool):List AR->Nat->Int
 |[],_=> -1
 |a::l,i=>if P a=true then(i:Int) else fiN P l (i+1)
def B1e{a:AR}:fiN P (a::l) i=if P a=true then(i:Int) else fiN P l (i+1):=rfl
def C06{d:Ru}{a:AV}(e:SA l a)(g:∀(s:AR)(K:KV),C4 (E (L+20)) R fn [S s] H K=K (Bo (P s)) H)(hb:l.length<1000000)(k:∀v,v=fiN P l 0->K (I v) H=x)(p:fiN P l 0= -1->d H=x):
 ∀(f i:Nat),i<=l.length->l.length-i<f->fiN P (l.drop i) i=fiN P l 0->
 DP (L+20) R K d f a fn (I l.length) (I i) H=x:=by
 intro f
 induction f with
 |zero=>intro i _ h;omega
 |succ f ih=>
  intro i t j he;rw[Hu];unfold DQ IA A3;by_cases h:i<l.length
  ·rw[Fz (by omega),Cu,e.ia h,Ke,g];rw[uZ h]at he;rw[B1e]at he;cases c:P l[i] with
   |true=>
    rw[c,Dq rfl]at he;rw[Cu];exact k _ he
   |false=>
    rw[c,CF (by simp)]at he;rw[AZ,Db (by omega)];exact ih (i+1) (by omega) (by omega) he
  ·have:i=l.length:=by omega
   subst this;rw[List.drop_length]at he;rw[Fp (by omega),AZ];exact p he.symm
def B62{a:AV}(c:SA l a)(g:∀(s:AR)(K:KV),C4 (E (L+20)) (rt (L+20) n) fn [S s] [] K=K (Bo (P s)) [])(hb:l.length<1000000)(h:l.length<L):CS (rt (L+20) (n+1)) Ea [a,fn] (I (fiN P l 0)):=by
 intro K f;rw[Ia];unfold DZ A3;simp only[BE];have d:(AV.v (.int .i64 0))=I ((0:Nat):Int):=rfl;rw[c.len,d];have fin:∀v H,v=fiN P l 0->K (I v) H=some (I (fiN P l 0),[]):=λv H e=>by
  rw[e];exact f _ _ λb=>⟨false,CC⟩
 refine C06 (R:=rt (L+20) n) c g hb (λv e=>fin v _ e) (λe=>fin (-1) _ e.symm) (L+20) 0 (by omega) (by omega) (by rw[rB])
def NB(H:Hp)(v:AV)(l:List AR):Prop:=(v=Av/\l=[])\/∃r q c,v=.sl 1 r 0 l.length/\Ai H r=some (.cells q Aq (AE l++c))
def NB.len(h:NB H v l){K:K2}:Bh Ac v K=K (I l.length):=by
 rcases h with⟨rfl,rfl⟩|⟨r,q,c,rfl,_⟩<;>exact r_ rfl
def NB.kp{H':Hp}(h:NB H v l)(k:∀u y,A9 v u->Ai H u=some y->Ai H' u=some y):NB H' v l:=by
 rcases h with h|⟨r,q,c,h1,h2⟩
 ·exact .inl h
 ·exact .inr ⟨r,q,c,h1,k r _ ⟨1,0,_,h1⟩ h2⟩
theorem NB.lt(h:NB H v l)(w:Wf H){u:Nat}(d:A9 v u):u<As H:=by
 obtain⟨a,b,c,rfl⟩:=d;rcases h with⟨h,_⟩|⟨r,q,e,h1,h2⟩
 ·cases h
 ·injection h1 with _ h1;subst h1;exact w.lt h2
def VD{b:Bool}:∀l:List AR,R9 b D (AE l) (AE l) H false:=by
 intro l
 induction l with
 |nil=>exact AH
 |cons s l ih=>exact Ao (q:=false) CC ih
def NB.fx(h:NB H v l):∃a q,SA l a/\Fx true (D+1) v a H q:=by
 rcases h with⟨rfl,rfl⟩|⟨r,q,c,rfl,h2⟩
 ·exact⟨Av,false,.inr ⟨rfl,rfl⟩,CC⟩
 ·refine⟨Ls l,true,.inl rfl,Xn (q':=false) h2 (by rw[EK,Bc];omega) ?_⟩;have:((AE l++c).drop 0).take (l.length*1)=AE l:=by
   rw[rB,qZ];have:=List.take_left (l₁:=AE l) (l₂:=c);rw[Bc]at this;exact this
  rw[this];exact VD l
def ZC{m i:Nat}(h:i<=m){K:K2}:Es Ac (.sl 1 r 0 m) (some (I (i:Int))) none none K=K (.sl 1 r i (m-i)):=by
 have e:Es Ac (.sl 1 r 0 m) (some (I (i:Int))) none none K=ck (Nat.beq 1 1) (iN (i:Int) λl=>fN m λh=>fN m λx=>ck ((true||false)&&(Nat.ble l h&&(Nat.ble h x&&Nat.ble x m))) (fN (Nat.add 0 (Nat.mul l 1)) λd=>fN (Nat.sub h l) λn=>K (.sl 1 r d n))):=rfl;rw[e,Kk,Ee,Ee];have c:((true||false)&&(Nat.ble i m&&(Nat.ble m m&&Nat.ble m m)))=true:=by simp;omega
 rw[c];show fN (Nat.add 0 (Nat.mul i 1)) (λd=>fN (Nat.sub m i) λn=>K (.sl 1 r d n))=_;rw[Ee,Ee];have f:Nat.add 0 (Nat.mul i 1)=i:=by show 0+i*1=i;omega
 rw[f];rfl
def ZD{m i:Nat}(h:i<=m){K:K2}:Es Ac (.sl 1 r 0 m) none (some (I (i:Int))) none K=K (.sl 1 r 0 i):=by
 have e:Es Ac (.sl 1 r 0 m) none (some (I (i:Int))) none K=ck (Nat.beq 1 1) (fN 0 λl=>iN (i:Int) λh=>fN m λx=>ck ((true||true)&&(Nat.ble l h&&(Nat.ble h x&&Nat.ble x m))) (fN (Nat.add 0 (Nat.mul l 1)) λd=>fN (Nat.sub h l) λn=>K (.sl 1 r d n))):=rfl;rw[e,Ee,Kk,Ee];have c:((true||true)&&(Nat.ble 0 i&&(Nat.ble i m&&Nat.ble m m)))=true:=by simp;omega
 rw[c];show fN (Nat.add 0 (Nat.mul 0 1)) (λd=>fN (Nat.sub i 0) λn=>K (.sl 1 r d n))=_;rw[Ee,Ee];rfl
def B1O{r i m:Nat}{cs:Is}(e:Ai H r=some (.cells q Aq cs))(h:i+m<=cs.length):∃c d,(∀K:Ru,vS 1 Ah (.sl 1 r i m) H K=K d)/\Ai d r=some (.cells q Aq c)/\c.take i=cs.take i/\Lat H d (λu=>u=r):=by
 cases m with
 |zero=>exact⟨cs,H,λK=>rfl,e,rfl,Lat.refl _ _⟩
 |succ m=>
  refine⟨splice cs i (List.replicate (m+1) (S [])),upd H r (.cells q Aq (splice cs i (List.replicate (m+1) (S [])))),λK=>?_,AC e,?_,Lat.upd _ _ _ rfl⟩
  ·have f:vS 1 Ah (.sl 1 r i (m+1)) H K=GY Ah.zero λz=>HK z 0 λk=>ck (Nat.beq k 1&&(Nat.beq 1 1&&NT z)) (YW (m+1) z λg=>IR H r λx=>gM x λq E cs=>Ey i g cs λc=>XA4 H r (.cells q E c) K):=rfl;have hz:B3 Ah.zero=[S []]:=rfl;rw[f,CP,hz,Cy];show YW (m+1) [S []] _=_;rw[zZ,Bp e];show Ey i (List.replicate (m+1) (S [])) cs _=_;rw[Iu _ _ _ _ (by rw[List.length_replicate];omega),Dg]
  ·unfold splice;rw[fQ,l32 (by rw[l0h];omega),List.take_take,Nat.min_self]
def A21(P:AR->Bool):∀(l:List AR)(k:Nat),(fiN P l k= -1/\∀a∈l,P a=false)\/∃(i:Nat)(h:i<l.length),fiN P l k=((k+i:Nat):Int)/\P l[i]=true/\∀a∈l.take i,P a=false:=by
 intro l
 induction l with
 |nil=>intro k;exact .inl ⟨rfl,by simp⟩
 |cons a l ih=>
  intro k;unfold fiN;cases c:P a with
  |true=>
   rw[Dq rfl];exact .inr ⟨0,by simp,by simp,c,by simp⟩
  |false=>
   rw[CF (by simp)];rcases ih (k+1) with⟨h1,h2⟩|⟨i,h,h1,h2,d⟩
   ·refine .inl ⟨h1,λb hb=>?_⟩;rcases Xh.1 hb with rfl|hb
    ·exact c
    ·exact h2 b hb
   ·refine .inr ⟨i+1,by simp;omega,by rw[h1];congr 1;omega,h2,λb hb=>?_⟩;rw[List.take_succ_cons]at hb;rcases Xh.1 hb with rfl|hb
    ·exact c
    ·exact d b hb
def C0J{k12:AV->KV}{H0:Hp}{tl:Is}(hb:l.length<1000000)(w0:Wf H0)(N:∀H',Lat H0 H' (λu=>u=r)->∀(s:AR)(K:KV),C4 (E (L+20)) R fn [S s] H' K=K (Bo (P s)) H')(e:∀cs H',Ai H' r=some (.cells q Aq cs)->cs.length=l.length+tl.length->cs.take (l.filter λs=>!P s).length=AE (l.filter λs=>!P s)->Lat H0 H' (λu=>u=r)->PP (k12 (.sl 1 r 0 l.length) (I (l.filter λs=>!P s).length) H')):
 ∀(f j:Nat)(cs:Is)(H':Hp),j<=l.length->l.length-j<f->Ai H' r=some (.cells q Aq cs)->cs.length=l.length+tl.length->cs.take ((l.take j).filter λs=>!P s).length=AE ((l.take j).filter λs=>!P s)->cs.drop j=AE (l.drop j)++tl->Lat H0 H' (λu=>u=r)->((l.take j).filter λs=>!P s).length<j->
 PP (EV (L+20) R K k12 f (.sl 1 r 0 l.length) fn (I ((l.take j).filter λs=>!P s).length) (I j) H'):=by
 intro f
 induction f with
 |zero=>intro j cs H' _ h;omega
 |succ f ih=>
  intro j cs H' X O g c w M t V;rw[Lt];unfold EW IA A3;have el:∀K,Bh Ac (.sl 1 r 0 l.length) K=K (I l.length):=λK=>id rfl;rw[el];by_cases h:j<l.length
  ·have hc:j<cs.length:=by omega
   have k:=M;rw[uZ hc,uZ h]at k;injection k with k B
   have y:∀{K:K2},AD Ah (.ptr r j 0) H' K=K (S l[j]):=λ{K}=>by
    rw[AF (p:=j) rfl g hc,UW,KL hc,l1q,k]
   rw[Fz (by omega),Cu];simp only[BE];rw[R5 h,y,N H' t,Eh];have F:(l.take (j+1)).filter (λs=>!P s)=(l.take j).filter (λs=>!P s)++[l[j]].filter (λs=>!P s):=by
    rw[oH h,List.filter_append]
   cases J:P l[j] with
   |true=>
    have d:(l.take (j+1)).filter (λs=>!P s)=(l.take j).filter (λs=>!P s):=by rw[F];simp[J]
    show PP (A1 (.v (.bool false)) _ _);rw[AZ,Db (by omega)];have:=ih (j+1) cs H' (by omega) (by omega) g c (by rw[d];exact w) B t (by rw[d];omega);rw[d]at this;exact this
   |false=>
    have d:(l.take (j+1)).filter (λs=>!P s)=(l.take j).filter (λs=>!P s)++[l[j]]:=by rw[F];simp[J]
    have Q:((l.take j).filter λs=>!P s).length<l.length:=by omega
    show PP (A1 (.v (.bool true)) _ _);rw[Cu,R5 Q,D6 g (by omega) rfl rfl rfl,Db (by omega),Db (by omega)];have C:((l.take (j+1)).filter λs=>!P s).length=((l.take j).filter λs=>!P s).length+1:=by rw[d,EK];rfl
    rw[<-C];refine ih (j+1) (cs.set ((l.take j).filter λs=>!P s).length (S l[j])) _ (by omega) (by omega) (AC g) (by rw[List.length_set];exact c) ?_ ?_ (t.trans (Lat.upd _ _ _ (P:=λu=>u=r) rfl) (λ_ _ h=>h) (λ_ _ h=>h)) (by omega)
    ·have A:((l.take j).filter λs=>!P s).length<(cs.set ((l.take j).filter λs=>!P s).length (S l[j])).length:=by rw[List.length_set];omega
     rw[C,oH A,List.getElem_set_self,d,List.take_set_of_le (Mh _),w];simp[AE]
    ·rw[List.drop_set_of_lt (by omega)];exact B
  ·have:j=l.length:=by omega
   subst this;rw[wQ]at w⊢;rw[Fp (by omega),AZ];exact e cs H' g c w t
def A96(wf:Wf H)(h:NB H v l)(hb:l.length<100000)(hL:200000<L)(F:∃d q,Fx true depth fn d H q/\∀(s:AR)(K:KV),C4 (E (L+20)) (rt (L+20) n) d [S s] [] K=K (Bo (P s)) [])(hf:∀c,Lat H c (A9 v)->∀(s:AR)(K:KV),C4 (E (L+20)) (rt (L+20) (n+1)) fn [S s] c K=K (Bo (P s)) c)(M:∀N c,NB c N (l.filter λs=>!P s)->(∀u,A9 N u↔A9 v u)->Lat H c (A9 v)->PP (K N c)):PP ((rt (L+20) (n+2)).call Bn [v,fn] H K):=by
 rw[L6];unfold Fj A3;obtain⟨a,q,f,hq⟩:=h.fx (D:=depth-1);obtain⟨d,q',J,C⟩:=F;rw[AP (B62 (n:=n) f C (by omega) (by omega)) (Ao hq (Ao J AH))];rcases A21 P l 0 with⟨h1,h2⟩|⟨i,X,h1,h2,h3⟩
 ·have e:∀{K:K2},Ar Ab .eql (I (-1)) (AV.v (.int .i64 (-1))) K=K (Bo true):=λ{K}=>by rw[Cl,HR rfl]
  rw[h1,e,Cu];have e2:l.filter (λs=>!P s)=l:=List.filter_eq_self.2 λa f=>by rw[h2 a f];rfl
  rw[e2]at M;exact M v H h (λ_=>Iff.rfl) (Lat.refl _ _)
 ·rw[Kd]at h1;have e:∀{K:K2},Ar Ab .eql (I (i:Int)) (AV.v (.int .i64 (-1))) K=K (Bo false):=λ{K}=>by rw[Cl,HW (by omega)]
  rw[h1,e,AZ];simp only[BE];rcases h with⟨_,rfl⟩|⟨r,q0,tl,rfl,hl⟩
  ·simp at X
  have j:∀u,A9 (.sl 1 r 0 l.length) u↔u=r:=λu=>⟨λ⟨_,_,_,h⟩=>by injection h with _ h;exact h.symm,λh=>h▸⟨1,0,_,rfl⟩⟩
  have lat:∀{c},Lat H c (λu=>u=r)->Lat H c (A9 (.sl 1 r 0 l.length)):=λk=>⟨k.wf,k.nx,λw u y hu hn=>k.keep w u y hu λe=>hn ((j u).2 e)⟩
  have Q:(l.take (i+1)).filter (λs=>!P s)=l.take i:=by
   rw[oH X,List.filter_append];have a1:(l.take i).filter (λs=>!P s)=l.take i:=List.filter_eq_self.2 λa f=>by rw[h3 a f];rfl
   rw[a1];simp[h2]
  have V:((l.take (i+1)).filter λs=>!P s).length=i:=by rw[Q,l0h];omega
  have ht:AE (l.take i)=(AE l).take i:=by simp[AE,List.map_take]
  have hd:AE (l.drop (i+1))=(AE l).drop (i+1):=by simp[AE,List.map_drop]
  rw[Db (by omega)];have main:=C0J (L:=L) (R:=rt (L+20) (n+1)) (K:=K) (fn:=fn) (P:=P) (l:=l) (H0:=H) (r:=r) (q:=q0) (tl:=tl) (PP:=PP)
   (k12:=λp t A=>Es Ac p (some t) none none λv7=>vS 1 Ah v7 A λZ=>Es Ac p none (some t) none λO=>K O Z)
   (by omega) wf (λc k=>hf c (lat k)) (λcs c g1 g2 g3 g4=>?_) (L+20) (i+1) (AE l++tl) H (by omega) (by omega) hl (by rw[EK,Bc]) (by rw[V,Q,ht,l32 (by rw[Bc];omega)]) (by rw[hd,l34 (by rw[Bc];omega)]) (Lat.refl _ _) (by omega)
  ·rw[V]at main;exact main
  ·have g:(l.filter λs=>!P s).length<=l.length:=l30 _ _;obtain⟨B,Y,c1,c2,c3,c4⟩:=B1O (H:=c) (r:=r) (i:=(l.filter λs=>!P s).length) (m:=l.length-(l.filter λs=>!P s).length) g1 (by omega);show PP (Es Ac (.sl 1 r 0 l.length) (some (I ((l.filter λs=>!P s).length:Nat))) none none _);rw[ZC g,c1,ZD g];refine M _ Y (.inr ⟨r,q0,B.drop (l.filter λs=>!P s).length,rfl,?_⟩) (λu=>⟨λ⟨_,_,_,h⟩=>?_,λ⟨_,_,_,h⟩=>?_⟩) (lat (g4.trans c4 (λ_ _ h=>h) (λ_ _ h=>h)))
   ·rw[c2,<-g3,<-c3,l38]
   ·injection h with _ h
    exact⟨1,0,_,by rw[h]⟩
   ·injection h with _ h
    exact⟨1,0,_,by rw[h]⟩
def A97(wf:Wf H)(h:NB H v l)(hb:l.length<100000)(g:200000<L)(e:∃d q,Fx true depth fn d H q/\∀(s:AR)(K:KV),C4 (E (L+20)) (rt (L+20) n) d [S s] [] K=K (Bo (P s)) [])(j:∀c,Lat H c (A9 v)->∀(s:AR)(K:KV),C4 (E (L+20)) (rt (L+20) (n+1)) fn [S s] c K=K (Bo (P s)) c)(k:∀f c,NB c f (l.filter λs=>!P s)->(∀u,A9 f u↔A9 v u)->Lat H c (A9 v)->K f c=x):(rt (L+20) (n+2)).call Bn [v,fn] H K=x:=
 A96 (PP:=λa=>a=x) wf h hb g e j k
def A98(wf:Wf H)(h:NB H v l)(hb:l.length<100000)(j:200000<L)(g:∃e q,Fx true depth fn e H q/\∀(s:AR)(K:KV),C4 (E (L+20)) (rt (L+20) n) e [S s] [] K=K (Bo (P s)) [])(k:∀d,Lat H d (A9 v)->∀(s:AR)(K:KV),C4 (E (L+20)) (rt (L+20) (n+1)) fn [S s] d K=K (Bo (P s)) d)(p:∀f d,NB d f (l.filter λs=>!P s)->(∀u,A9 f u->A9 v u)->Lat H d (A9 v)->K f d=x):(rt (L+20) (n+2)).call Bn [v,fn] H K=x:=
 A97 wf h hb j g k λf d a b c=>p f d a (λu h=>(b u).1 h) c
end
end
section
variable{w:AV}{H H0:Hp}{k4:Ru}
variable{L n:Nat}
abbrev wT:=AR×AR
def Pp(gs:ed):List wT:=gs.flatMap λc=>c.ps.map λp=>(c.id,p)
def wL(R:Rt)(L s0 it:Nat)(I:List wT->Hp->Prop):Prop:=∀(b:List wT)(s p:AR)(H:Hp)(K:KV)(x:Af),b.length<1000->I b H->(∀a,I (b++[(s,p)]) a->(∀y,Ai H it=some y->Ai a it=some y)->K (Bo true) a=x)->C4 (E (L+20)) R (.yl s0) [S s,S p] H K=x
def A1U{rem:ed}{a c:List (AR×Cd)}{e:AR×Cd}(h:gE rem=a++e::c):∃b cd rc,rem=b++cd::rc/\a=gE b/\e=(cd.id,cd)/\c=gE rc:=by
 obtain⟨b,j,h1,h2,d⟩:=List.map_eq_append_iff.1 h;obtain⟨cd,rc,f,g,i⟩:=List.map_eq_cons_iff.1 d;subst f;exact⟨b,cd,rc,h1,h2.symm,g.symm,i.symm⟩
section
variable{gs:ed}{K:KV}{x:Af}{s0 it:Nat}{Q:List wT->Hp->Prop}
def A25:∀gs:ed,(∀c∈gs,c.ps.length<100)->(Pp gs).length<=gs.length*100:=by
 intro gs
 induction gs with
 |nil=>intro _;simp[Pp]
 |cons c gs ih=>
  intro h;have h1:=h c (by simp);have h2:=ih λd a=>h d (by simp[a]);have e:Pp (c::gs)=c.ps.map (λp=>(c.id,p))++Pp gs:=rfl;rw[e,EK,UH,Mi,l1e];omega
def B5y{b:AV->AV->AV->AV->AV->KV}{j:AV}{s:AR}{ps:List AR}(hb:ps.length<100)(hr:wL (r! L (n+2)) L s0 it Q):∀(f i:Nat)(es:List wT)(H:Hp)(y:Row),i<=ps.length->ps.length-i<f->es.length+(ps.length-i)<1000->Q es H->Ai H it=some y->
 (∀d a,Q (es++(ps.drop i).map λp=>(s,p)) a->Ai a it=some y->b (.yl s0) (S s) j (DD ps) (I ps.length) d a=x)->
 Gr (L+20) (r! L (n+2)) K b f (.yl s0) (S s) j (DD ps) (I ps.length) (I i) H=x:=by
 intro f
 induction f with
 |zero=>intro i es H y _ h;omega
 |succ f ih=>
  intro i es H y t r hn hm k c;rw[KM];unfold Gt IA A3;by_cases h:i<ps.length
  ·rw[Fz (by omega),Cu,(Mt ps).ia h,Ke];rw[uZ h]at c;refine hr es s ps[i] H _ x (by omega) hm λa e q=>?_;rw[Eh];show A1 (.v (.bool false)) _ _=_;rw[AZ,Db (by omega)];refine ih (i+1) (es++[(s,ps[i])]) a y (by omega) (by omega) (by rw[EK,List.length_singleton];omega) e (q y k) λd m h2 g=>c d m ?_ g;rw[XI];rw[fQ]at h2;exact h2
  ·rw[Fp (by omega),AZ];have:i=ps.length:=by omega
   subst this;rw[List.drop_length,List.map_nil,V0]at c;exact c _ H hm k
def B5z(hw:VS 6 w w=true)(hg:gs.length<=8)(R:∀c∈gs,c.ps.length<100)(hL:100<L)(hr:wL (r! L (n+2)) L s0 it Q)(r:∀es H m,Q es H->Wf m->(∀u y,u≠it->Ai H u=some y->Ai m u=some y)->Q es m)(A:∀es H,Q es H->Wf H)(q:∀done H,done.Perm gs->Q (Pp done) H->k4 H=some (w,[])):
 ∀(f:Nat)(rem done:ed)(H:Hp)(o:Option (Value×AV))(d0 d1 d2 B:AV),rem.length<f->(done++rem).Perm gs->Q (Pp done) H->Ai H it=some (.iter (Di DX (gE rem)) o)->
 Gs (L+20) (r! L (n+2)) K k4 f (.yl s0) d0 (.it it) d1 d2 B H=some (w,[]):=by
 intro f
 induction f with
 |zero=>intro rem done H o d0 d1 d2 B h;omega
 |succ f ih=>
  intro rem done H o d0 d1 d2 B hf b hm P;rw[KN];unfold Gu Dz A3;refine YD (f:=DX) hw P (λe=>?_) (λa e c F=>?_)
  ·have Y:rem=[]:=by
    cases rem with
    |nil=>rfl
    |cons _ _=>cases e
   subst Y;rw[GX,AZ];rw[V0]at b;exact q done H b hm
  ·obtain⟨g,cd,rc,rfl,rfl,rfl,rfl⟩:=A1U F;have D:cd∈gs:=b.mem_iff.1 (by simp);have N:=R cd D;have e9:gE g++gE rc=gE (g++rc):=by simp[gE]
   have i:=LC (es:=Di DX (gE g++gE rc)) (o:=some (.string ⟨⟨cd.id⟩⟩,DX cd)) P;have k:Q (Pp done) (upd H it (.iter (Di DX (gE g++gE rc)) (some (.string ⟨⟨cd.id⟩⟩,DX cd)))):=r _ _ _ hm (Bj (A _ _ hm)) λu y hu O=>by rw[Ag hu];exact O
   show CM (.tup [.v (.bool true),S cd.id,DX cd]) 0 _=_;rw[GX,Cu];simp only[BE];show dE (.it it) (upd H it (.iter (Di DX (gE g++gE rc)) (some (.string ⟨⟨cd.id⟩⟩,DX cd)))) _=_;rw[NM i,GX,Zg];generalize upd H it (.iter (Di DX (gE g++gE rc)) (some (.string ⟨⟨cd.id⟩⟩,DX cd)))=H1 at i k;obtain⟨X,e2,C,w2,V⟩:=Ip (e:=Ad) (zs:=CN) (vs:=cd.cs) (A _ _ k) EH;rw[B1 (cs:=CN) rfl,BX (cs:=CN) (vs:=cd.cs) (Ax (by simp)) EH rfl MA,<-e2,fA,Kd,B27 C,jI];have M:=r _ _ _ k w2 λu y _ O=>(V u y O).1;have J:=(V _ _ i).1;have Z:(AV.v (.int .i64 0))=I ((0:Nat):Int):=rfl;have t:=b.length_eq;rw[EK,EK,Mi]at t;have aa:=A25 done λc hc=>R c (b.mem_iff.1 (by simp[hc]));rw[Z];refine B5y (n:=n) N hr (L+20) 0 (Pp done) X _ (by omega) (by omega) (by omega) M J λd m j s=>?_;rw[rB]at j;have e8:Pp done++cd.ps.map (λp=>(cd.id,p))=Pp (done++[cd]):=by simp[Pp]
   rw[e8]at j;rw[e9]at s;refine ih (g++rc) (done++[cd]) m _ _ _ _ _ (by simp at hf⊢;omega) ?_ j s;refine List.Perm.trans ?_ b;rw[fQ];refine List.Perm.append_left done ?_;show(cd::(g++rc)).Perm _;exact List.perm_middle.symm
def A5l(q:VS 6 w w=true)(m:gs.length<=8)(p:∀c∈gs,c.ps.length<100)(j:100<L)(hr:wL (r! L (n+2)) L s0 (As H) Q)(e:∀b g d,Q b g->Wf d->(∀u y,u≠As H->Ai g u=some y->Ai d u=some y)->Q b d)(f:∀b H,Q b H->Wf H)(i:Q [] ((As H,.iter (Di DX (gE gs)) none)::H))(a:∀done H,done.Perm gs->Q (Pp done) H->K (.tup []) H=some (w,[])):
 (r! L (n+3)).call Fi [.yl s0,.iptr [gV gs]] H K=some (w,[]):=by
 rw[Ll];unfold GF;have h:∀{H:Hp}{K:K2},AD Aj (.iptr [gV gs]) H K=K (gV gs):=λ{H K}=>Ny rfl;rw[h,Xv];simp only[BE];exact B5z (n:=n) (it:=As H) q m p j hr e f (λdone H k hq=>a done H k hq) (L+20) gs [] _ none _ _ _ _ (by omega) (List.Perm.refl _) i (Ax (by simp))
def A94{K:K2}:Ap (r! L (n+1)) XA2 [gV gs] H K=K (B1s gs):=by
 refine KG (λK a=>?_) (Ao (q:=false) iY AH);rw[NH];unfold IZ Ih;rw[vT];exact a _ _ ⟨true,λK=>by kernel_rfl⟩
abbrev iQ(gs:ed):AV:=.fn (.func E3) [] [.iptr [gV gs]]
def B0U{r0 s e0 it:Nat}{q0:Bool}{c6 w:AV}{ks:List AR}(F:VS 6 w w=true)(q:ks.length<1000000)(i:∀l v H,l.Perm ks->(l=[]->v=Av)->Coll H0 r0 s q0 e0 c6 l v H->k4 H=some (w,[]))(c:it≠r0/\it≠s/\As H0<=it):
 ∀(f:Nat)(es:List (AR×Cd))(l:List AR)(v:AV)(H:Hp)(o:Option (Value×AV)),es.length<f->(l++es.map Prod.fst).Perm ks->(l=[]->v=Av)->Coll H0 r0 s q0 e0 c6 l v H->¬A9 v it->Ai H it=some (.iter (Di DX es) o)->
 Co (L+20) (r! L (n+1)) K k4 f (.yl s) (.it it) H=some (w,[]):=by
 intro f
 induction f with
 |zero=>intro es l v H o h;omega
 |succ f ih=>
  intro es l v H o B m A hc hv p;rw[HH];unfold CZ;refine YD (f:=DX) F p (λe=>?_) (λa e b he=>?_)
  ·subst e;rw[GX,AZ];exact i l v H (by simpa using m) A hc
  ·subst he;have g:=hc.it (.iter (Di DX (a++b)) (some (.string ⟨⟨e.1⟩⟩,DX e.2))) c hv;have d:=LC (es:=Di DX (a++b)) (o:=some (.string ⟨⟨e.1⟩⟩,DX e.2)) p;have k:(l++(a++e::b).map Prod.fst).length=ks.length:=m.length_eq;simp at k;have t:tS (.string ⟨⟨e.1⟩⟩)=S e.1:=rfl;rw[GX,Cu,NM d,GX,t];refine N! g (by omega) λJ r j C hr=>?_;rw[Eh];show A1 (.v (.bool false)) _ _=_;rw[AZ];refine ih (a++b) (l++[e.1]) J r _ (by simp at B⊢;omega) ?_ (by simp) j (λD=>?_) (C it _ c.1 c.2.1 hv d)
   ·refine List.Perm.trans ?_ m;simp only[Z6,XI,fQ];refine List.Perm.append_left l ?_;show(e.1::(a.map Prod.fst++b.map Prod.fst)).Perm _;exact List.perm_middle.symm
   ·have u:=hr it D;have y:=g.wf.lt d;rw[B4]at u y;omega
def A3h(B:VS 6 w w=true)(J:gs.length<=8)(F:100<L)(wf:Wf H0)(C:∀l v H,l.Perm (gs.map Cd.id)->(l=[]->v=Av)->NewSl H0 l v H->K v H=some (w,[])):
 (r! L (n+4)).call EJ [iQ gs] H0 K=some (w,[]):=by
 rw[GE];unfold EI;rw[DE];unfold C8;simp only[BE];rw[nI (by rfl),Wb,HU];unfold De;simp only[BE];have w1:=AG (x:=.cells true A8 [Av]) wf;have c:=Ax (H:=H0) (x:=.cells true A8 [Av]) (by simp);have t:As ((As H0,c_ A8 [Av])::H0)=As H0+1:=rfl;have i:Wf ((As H0+1,NW (.ptr (As H0) 0 0) (iQ gs) (some none))::(As H0,c_ A8 [Av])::H0):=AG (x:=NW (.ptr (As H0) 0 0) (iQ gs) (some none)) w1;have e:Ai ((As H0+1,NW (.ptr (As H0) 0 0) (iQ gs) (some none))::(As H0,c_ A8 [Av])::H0) (As H0+1)=some (NW (.ptr (As H0) 0 0) (iQ gs) (some none)):=Ax (H:=((As H0,c_ A8 [Av])::H0)) (x:=NW (.ptr (As H0) 0 0) (iQ gs) (some none)) (by simp[NW]);have ol:∀u y,Ai H0 u=some y->Ai ((As H0+1,NW (.ptr (As H0) 0 0) (iQ gs) (some none))::(As H0,c_ A8 [Av])::H0) u=some y:=λu y a=>by
  have a1:=A7 (x:=.cells true A8 [Av]) (wf.lt a) a;exact A7 (w1.lt a1) a1
 have k:∀{H:Hp}{K:K2},AD Aj (.iptr [gV gs]) H K=K (gV gs):=λ{H K}=>Ny rfl;rw[k,Xv];have d:Ai ((As H0+1,NW (.ptr (As H0) 0 0) (iQ gs) (some none))::(As H0,c_ A8 [Av])::H0) (As H0)=some (c_ A8 [Av]):=A7 (w1.lt c) c;show Co (L+20) (r! L (n+1)) _ _ (L+20) (.yl (As H0+1)) (.it (As ((As H0+1,NW (.ptr (As H0) 0 0) (iQ gs) (some none))::(As H0,c_ A8 [Av])::H0))) ((As ((As H0+1,NW (.ptr (As H0) 0 0) (iQ gs) (some none))::(As H0,c_ A8 [Av])::H0),.iter (Di DX (gE gs)) none)::((As H0+1,NW (.ptr (As H0) 0 0) (iQ gs) (some none))::(As H0,c_ A8 [Av])::H0))=_;generalize f:((As H0+1,NW (.ptr (As H0) 0 0) (iQ gs) (some none))::(As H0,c_ A8 [Av])::H0:Hp)=b at i e ol d;have r:As b=As H0+2:=by rw[<-f];rfl
 have D:=AG (x:=.iter (Di DX (gE gs)) none) i;have up:∀u y,Ai b u=some y->Ai ((As b,Row.iter (Di DX (gE gs)) none)::b) u=some y:=λu y j=>A7 (i.lt j) j;have g:Ai ((As b,Row.iter (Di DX (gE gs)) none)::b) (As b)=some (.iter (Di DX (gE gs)) none):=Ax (by simp);have q:(gE gs).length=gs.length:=by simp[gE]
 refine B0U (n:=n) (H0:=H0) (r0:=As H0) (s:=As H0+1) (it:=As b) (q0:=true) (e0:=A8) (c6:=iQ gs) (ks:=gs.map Cd.id) B (by rw[UH];omega) ?_ (by omega) (L+20) (gE gs) [] Av _ none (by omega) (by rw[l3b,Xm]) (λ_=>rfl)
  ⟨up _ _ d,.inl ⟨rfl,rfl,rfl⟩,up _ _ e,λu ⟨_,_,_,h⟩=>(by cases h),D,λu y a=>up u y (ol u y a),by omega,by omega,by omega,wf⟩ (λ⟨_,_,_,h⟩=>(by cases h)) g
 intro l v H A m hc;show IR H (As H0+1) _=_;rw[Bp hc.lp];show XA4 H (As H0+1) .gone _=_;rw[Dg];have hr:Ai (upd H (As H0+1) .gone) (As H0)=some (c_ A8 [v]):=by rw[Ag (by omega)];exact hc.at_
 show AD Ac (.ptr (As H0) 0 0) (upd H (As H0+1) .gone) _=_;rw[AF (p:=0) rfl hr (by simp)];refine C _ _ _ A m ⟨?_,λu a=>(hc.new u a).2.2,Bj hc.wf,λu y a=>?_,?_⟩
 ·exact hc.sl.lat hc.wf (Lat.upd H _ _ (P:=λu=>u=As H0+1) rfl) (λu a=>(hc.new u a).2.1)
 ·have:=wf.lt a;rw[Ag (by omega)];exact hc.keep u y a
 ·rw[B4];have:=hc.wf.lt hc.at_;omega
def A8X(k:VS 6 w w=true)(j:gs.length<=8)(i:100<L)(wf:Wf H0)(m:∀v H,NewSl H0 (Et (gs.map Cd.id)) v H->(gs=[]->v=Av)->K v H=some (w,[])):(r! L (n+6)).call Mx [gV gs] H0 K=some (w,[]):=by
 rw[XU];unfold Mw;have ky:∀{K:K2},Ap (r! L (n+5)) Dx [gV gs] H0 K=K (iQ gs):=λ{K}=>by
  refine KG (λK g=>?_) (Ao (q:=false) iY AH);rw[show n+5=(n+4)+1 from rfl,IX];unfold Dv Ih;have f:∀{H:Hp}{K:KV},FN CH (gV gs) H K=K (.ptr (As H) 0 0) ((As H,c_ CH [gV gs])::H):=λ{H K}=>vT;rw[f];exact g _ _ ⟨true,λK=>by kernel_rfl⟩
 rw[ky,Hi];unfold Fa;refine A3h (n:=n) k j i wf λl v H b c hc=>?_;refine A39 (n:=n) wf (by rw[b.length_eq,UH];omega) c hc λd a=>?_;have e:Et l=Et (gs.map Cd.id):=IF ((Bq l).trans (b.trans (Bq _).symm)) (DR l) (DR _);rw[e]at a;refine m v d a λh=>c ?_;subst h;exact mH (by rw[b.length_eq];rfl)
end
end
section
variable{L n:Nat}
section
variable{α:Type}{f:α->AV}{b:List (AR×α)}{x:AR}{H:Hp}
def vW(b:List (AR×α))(x:AR):List (AR×α):=match b with
 |[]=>[]
 |e::b=>if e.1=x then b else e::vW b x
def B1c:∀(b:List (AR×α))(i:Nat),(match YZ x b i with|none=>b|some (j,_)=>b.eraseIdx (j-i))=vW b x/\(∀j w,YZ x b i=some (j,w)->i<=j):=by
 intro b
 induction b with
 |nil=>intro i;exact⟨rfl,λj w h=>by cases h⟩
 |cons e b ih=>
  intro i;rw[Z8];unfold vW;by_cases h:e.1=x
  ·refine⟨?_,λj w a=>?_⟩
   ·simp[h]
   ·simp[h]at a;omega
  ·obtain⟨h1,h2⟩:=ih (i+1);refine⟨?_,λj w a=>?_⟩
   ·rw[CF h,CF h,<-h1];cases d:YZ x b (i+1) with
    |none=>rfl
    |some p=>
     obtain⟨j,w⟩:=p;have:=h2 j w d;have c:j-i=(j-(i+1))+1:=by omega
     simp only[c,List.eraseIdx_cons_succ]
   ·rw[CF h]at a;have:=h2 j w a;omega
def A7Z:∀b:List (AR×α),(b.map Prod.fst).Nodup->((vW b x).map Prod.fst).Nodup/\∀y,y∈(vW b x).map Prod.fst↔y∈b.map Prod.fst/\y≠x:=by
 intro b
 induction b with
 |nil=>intro _;exact⟨by simp[vW],λy=>by simp[vW]⟩
 |cons e b ih=>
  intro h;rw[XI,List.nodup_cons]at h;obtain⟨h1,h2⟩:=ih h.2;unfold vW;by_cases he:e.1=x
  ·rw[Dq he];subst he;refine⟨h.2,λy=>?_⟩;rw[XI,Xh];constructor
   ·intro a;exact⟨.inr a,λe=>h.1 (e▸a)⟩
   ·rintro⟨a|a,hn⟩
    ·exact absurd a hn
    ·exact a
  ·rw[CF he];refine⟨?_,λy=>?_⟩
   ·rw[XI,List.nodup_cons];exact⟨λhm=>h.1 ((h2 _).1 hm).1,h1⟩
   ·rw[XI,Xh,h2,XI,Xh];constructor
    ·rintro(rfl|⟨a,hn⟩)
     ·exact⟨.inl rfl,he⟩
     ·exact⟨.inr a,hn⟩
    ·rintro⟨a|a,hn⟩
     ·exact .inl a
     ·exact .inr ⟨a,hn⟩
def C0t{β:Type}(g:α->β):∀(l:List α)(i:Nat),(l.map g).eraseIdx i=(l.eraseIdx i).map g:=by
 intro l
 induction l with
 |nil=>intro i;rfl
 |cons a l ih=>
  intro i;cases i with
  |zero=>rfl
  |succ i=>show g a::(l.map g).eraseIdx i=g a::(l.eraseIdx i).map g;rw[ih]
def B1C{r:Nat}(h:Ai H r=some (.map false (Di f b) none)):∃c,(∀K:Ru,jH (.mp r) (SV x) H K=K c)/\Ai c r=some (.map false (Di f (vW b x)) none)/\Lat H c (λu=>u=r):=by
 have e:∀K:Ru,jH (.mp r) (SV x) H K=IR H r λy=>mF y λd g=>I9 (SV x) d λq=>match q with
  |none=>K H
  |some (i,_)=>XA4 H r (.map false (d.eraseIdx i) (C18 g i)) K:=λK=>rfl
 obtain⟨h1,h2⟩:=B1c (x:=x) b 0;cases a:YZ x b 0 with
 |none=>
  rw[a]at h1;refine⟨H,λK=>?_,by rw[<-h1];exact h,Lat.refl _ _⟩;rw[e,Bp h];show I9 (SV x) (Di f b) _=_;rw[kfK,a];rfl
 |some p=>
  obtain⟨j,w⟩:=p;rw[a]at h1;refine⟨upd H r (.map false (Di f (vW b x)) none),λK=>?_,(BH h).trans rfl,Lat.upd _ _ _ rfl⟩;rw[e,Bp h];show I9 (SV x) (Di f b) _=_;rw[kfK,a];show XA4 H r (.map false ((Di f b).eraseIdx j) none) K=_;rw[Dg,<-h1,Di,Di,C0t];rfl
end
def Y!{gs:ed}{e:wT}:e∈Pp gs↔∃c∈gs,e.1=c.id/\e.2∈c.ps:=by
 unfold Pp;rw[l39];constructor
 ·rintro⟨c,hc,he⟩;obtain⟨p,a,rfl⟩:=Rc.1 he;exact⟨c,hc,rfl,a⟩
 ·rintro⟨c,hc,h1,h2⟩;exact⟨c,hc,Rc.2 ⟨e.2,h2,by rw[<-h1]⟩⟩
def uV(gs:ed)(p:Option (Option Code)):Row:=.loop 32 [(2,Av),(3,gV gs),(5,.ptr 1 0 0),(8,.dk),(16,.it 2),(25,B1s gs),(27,.dk),(28,.dk),(29,.dk)] (EY).2.1 (EY).2.2.1 (EY).2.2.2 p
structure Hs(gs:ed)(es:List wT)(b:List (AR×Unit))(H:Hp):Prop where
 mm:Ai H 0=some (.map false (Di uS b) none)
 st:Ai H 1=some (c_ CV [.mp 0])
 lp:Ai H 3=some (uV gs (some none))
 wf:Wf H
 nd:(b.map Prod.fst).Nodup
 ky:∀x,x∈b.map Prod.fst↔x∈gs.map Cd.id/\∀e∈es,e.2≠x
section
variable{gs:ed}{K:KV}{x:Af}
def C2Y{a:Hp}{K:Ru}(h:Ai a 3=some (uV gs none)):EB a 3 false (some none) K=K (upd a 3 (uV gs (some none))):=Pz h
def B3Z:wL (r! L (n+2)) L 3 4 (λq H=>∃b,Hs gs q b H):=by
 intro q s p H K x _ ⟨b,h⟩ w;show NY (r! L (n+2)) 3 [S s,S p] H K=x;rw[Pt h.lp (by kernel_rfl)];have c:(r! L (n+2)).run= λt=>Mq (E (L+20)) (r! L (n+1)) t:=rfl;rw[c,lJ,P0 h.lp];have j:Ai (upd H 3 (uV gs none)) 0=some (.map false (Di uS b) none):=by rw[Ag (by decide)];exact h.mm
 have d:Ai (upd H 3 (uV gs none)) 1=some (c_ CV [.mp 0]):=by rw[Ag (by decide)];exact h.st
 have i:Ai (upd H 3 (uV gs none)) 3=some (uV gs none):=Fk h.lp;have w1:Wf (upd H 3 (uV gs none)):=Bj h.wf;have k1:∀y,Ai H 4=some y->Ai (upd H 3 (uV gs none)) 4=some y:=λy m=>by rw[Ag (by decide)];exact m
 show AD CJ (.ptr 1 0 0) (upd H 3 (uV gs none)) _=_;rw[AF (p:=0) rfl d (by simp)];have u:∀(F:Value->Af),Mj (S p) F=F (SV p):=λF=>id rfl;rw[u];obtain⟨r,d1,d2,g⟩:=B1C (f:=uS) (x:=p) j;show jH (.mp 0) (SV p) (upd H 3 (uV gs none)) _=_;rw[d1];have k:=g.keep w1 _ _ d (by decide);have a:=g.keep w1 _ _ i (by decide);show EB r 3 false (some none) _=_;rw[C2Y a];obtain⟨n1,n2⟩:=A7Z (x:=p) b h.nd;refine w _ ⟨vW b p,?_,?_,Fk a,Bj (g.wf w1),n1,λz=>?_⟩ λy m=>?_
 ·rw[Ag (by decide)];exact d2
 ·rw[Ag (by decide)];exact k
 ·rw[n2,h.ky];constructor
  ·rintro⟨⟨h1,h2⟩,v⟩;refine⟨h1,λe he=>?_⟩;rcases kB.1 he with he|he
   ·exact h2 e he
   ·rw[YR]at he;subst he;exact Ne.symm v
  ·rintro⟨h1,h2⟩;exact⟨⟨h1,λe he=>h2 e (List.mem_append_left _ he)⟩,Ne.symm (h2 (s,p) (by simp))⟩
 ·rw[Ag (by decide)];exact g.keep w1 _ _ (k1 y m) (by decide)
def B10{s:AV->AV->AV->AV->AV->AV->AV->KV}{w a0 a1 d0 d2 u y:AV}(Q:VS 6 w w=true)(hn:(gs.map Cd.id).Nodup)(m:∀b H,Ai H 0=some (.map false (Di uS b) none)->Ai H 1=some (c_ CV [.mp 0])->Wf H->As H=3->(b.map Prod.fst).Perm (gs.map Cd.id)->s a0 a1 (.ptr 1 0 0) d0 (.it 2) d2 u y H=some (w,[])):
 ∀(f:Nat)(rem:ed)(b:List (AR×Unit))(H:Hp)(o:Option (Value×AV))(d1:AV),rem.length<f->(b.map Prod.fst++rem.map Cd.id).Perm (gs.map Cd.id)->Ai H 0=some (.map false (Di uS b) none)->Ai H 1=some (c_ CV [.mp 0])->Wf H->As H=3->Ai H 2=some (.iter (Di DX (gE rem)) o)->
 SS (L+20) (r! L n) K s f a0 a1 (.ptr 1 0 0) d0 (.it 2) d1 d2 u y H=some (w,[]):=by
 intro f
 induction f with
 |zero=>intro rem b H o d1 h;omega
 |succ f ih=>
  intro rem b H o d1 P i hm B wf r A;rw[mO];unfold XA7;refine YD (f:=DX) Q A (λe=>?_) (λa e c t=>?_)
  ·have D:rem=[]:=by
    cases rem with
    |nil=>rfl
    |cons _ _=>cases e
   subst D;rw[GX,AZ];rw[List.map_nil,V0]at i;exact m b H hm B wf r i
  ·obtain⟨d,cd,rc,rfl,rfl,rfl,rfl⟩:=A1U t;have J:gE d++gE rc=gE (d++rc):=by simp[gE]
   have g:=LC (es:=Di DX (gE d++gE rc)) (o:=some (.string ⟨⟨cd.id⟩⟩,DX cd)) A;have j:Ai (upd H 2 (.iter (Di DX (gE d++gE rc)) (some (.string ⟨⟨cd.id⟩⟩,DX cd)))) 0=some (.map false (Di uS b) none):=by rw[Ag (by decide)];exact hm
   have k:Ai (upd H 2 (.iter (Di DX (gE d++gE rc)) (some (.string ⟨⟨cd.id⟩⟩,DX cd)))) 1=some (c_ CV [.mp 0]):=by rw[Ag (by decide)];exact B
   have w1:Wf (upd H 2 (.iter (Di DX (gE d++gE rc)) (some (.string ⟨⟨cd.id⟩⟩,DX cd)))):=Bj wf;have n1:As (upd H 2 (.iter (Di DX (gE d++gE rc)) (some (.string ⟨⟨cd.id⟩⟩,DX cd))))=3:=by rw[B4];exact r
   show CM (.tup [.v (.bool true),S cd.id,DX cd]) 0 _=_;rw[GX,Cu];show dE (.it 2) (upd H 2 (.iter (Di DX (gE d++gE rc)) (some (.string ⟨⟨cd.id⟩⟩,DX cd)))) _=_;rw[NM g,GX];generalize upd H 2 (.iter (Di DX (gE d++gE rc)) (some (.string ⟨⟨cd.id⟩⟩,DX cd)))=C at g j k w1 n1;have O:tS (.string ⟨⟨cd.id⟩⟩)=S cd.id:=rfl;have M:∀{K:K2},BP FC [] K=K (.agg []):=λ{K}=>id rfl;have N:∀(F:Value->Af),Mj (S cd.id) F=F (SV cd.id):=λF=>id rfl;rw[AF (p:=0) rfl k (by simp),M,O,N];show My (.mp 0) (SV cd.id) (uS ()) C _=_;rw[jG (f:=uS) (v:=()) j];have q:cd.id∉b.map Prod.fst:=λhc=>by
    have h2:=(i.nodup_iff).2 hn;rw[l36]at h2;exact h2.2.2 _ hc cd.id (by simp) rfl
   rw[Zv q];rw[J]at g;refine ih (d++rc) (b++[(cd.id,())]) _ (some (.string ⟨⟨cd.id⟩⟩,DX cd)) _ (by simp at P⊢;omega) ?_ ((BH j).trans rfl) ?_ (Bj w1) (by rw[B4];exact n1) ?_
   ·refine List.Perm.trans ?_ i;simp only[Z6,XI,List.map_nil,fQ];refine List.Perm.append_left _ ?_;show(cd.id::(d.map Cd.id++rc.map Cd.id)).Perm _;exact List.perm_middle.symm
   ·rw[Ag (by decide)];exact k
   ·rw[Ag (by decide)];exact g
def B3e{a:AV}(r:GOk gs)(hL:40000<L)(hp:∀c∈gs,c.ps.length<100)(R:LA gs a):CS (r! L (n+80)) UM [a] (DD (Jw gs)):=by
 intro K B;rw[qE];unfold UG;have C:R9 true depth [a] [a] [] false:=by rcases R with rfl|⟨_,rfl⟩<;>exact λK=>by kernel_rfl
 have of:∀{K:K2},Ap (r! L (n+79)) LL [a] [] K=K (.tup [gV gs,Bo true]):=λ{K}=>KG (λK B=>B78 (n:=n+15) r hL R K B) C;have w0:VS 6 (DD (Jw gs)) (DD (Jw gs))=true:=Tk 6 _ (B0n _);have h8:=r.len;rw[of,FB,FA];have e0:∀{F:KV},(LN FC [] λv4 Z=>Bx CV CJ Z λX H7=>DF CJ X v4 H7 λH8=>F X H8)=F (.ptr 1 0 0) [(1,c_ CV [.mp 0]),(0,.map false [] none)]:=λ{F}=>by kernel_rfl
 rw[e0];simp only[BE];rw[Xv];refine B10 (n:=n+79) w0 r.ids (λb H hm N wf d s=>?_) (L+20) gs [] _ none _ (by omega) (List.Perm.refl _) rfl rfl (AG (AG (AG FH))) rfl rfl;rw[A94 (n:=n+78),Wb,d];have ab:As ((3,uV gs (some none))::H)=4:=rfl;have Y:Wf ((3,uV gs (some none))::H):=by
  have:=AG (x:=uV gs (some none)) wf;rw[d]at this;exact this
 have M:Ai ((3,uV gs (some none))::H) 3=some (uV gs (some none)):=by
  have:=Ax (H:=H) (x:=uV gs (some none)) (by simp[uV]);rw[d]at this;exact this
 have ol:∀u y,Ai H u=some y->Ai ((3,uV gs (some none))::H) u=some y:=λu y t=>by
  have:=A7 (x:=uV gs (some none)) (wf.lt t) t;rw[d]at this;exact this
 have i:∀u y,Ai ((3,uV gs (some none))::H) u=some y->Ai ((4,.iter (Di DX (gE gs)) none)::(3,uV gs (some none))::H) u=some y:=λu y t=>A7 (x:=.iter (Di DX (gE gs)) none) (Y.lt t) t;show(r! L (n+79)).call Fi [.yl 3,.iptr [gV gs]] ((3,uV gs (some none))::H) _=_;refine A5l (n:=n+76) (s0:=3) (Q:=λA H=>∃b,Hs gs A b H) w0 h8 hp (by omega) B3Z (λA H1 j ⟨b,h⟩ P k=>⟨b,k _ _ (show 0≠4 by decide) h.mm,k _ _ (show 1≠4 by decide) h.st,k _ _ (show 3≠4 by decide) h.lp,P,h.nd,h.ky⟩) (λA H ⟨b,h⟩=>h.wf) ?_ (λdone j V ⟨w,m⟩=>?_)
 ·refine⟨b,i _ _ (ol _ _ hm),i _ _ (ol _ _ N),i _ _ M,AG Y,s.symm.nodup r.ids,λz=>?_⟩;rw[s.mem_iff];exact⟨λh=>⟨h,by simp⟩,λh=>h.1⟩
 ·show IR j 3 _=_;rw[Bp m.lp];show XA4 j 3 .gone _=_;rw[Dg];have N:Ai (upd j 3 .gone) 1=some (c_ CV [.mp 0]):=by rw[Ag (by decide)];exact m.st
  have J:Ai (upd j 3 .gone) 0=some (.map false (Di uS w) none):=by rw[Ag (by decide)];exact m.mm
  show AD CJ (.ptr 1 0 0) (upd j 3 .gone) _=_;rw[AF (p:=0) rfl N (by simp)];have g:(w.map Prod.fst).Perm (Jw gs):=by
   refine(l35 m.nd (vF r.ids)).2 λz=>?_;rw[m.ky,mL];refine and_congr Iff.rfl ⟨λh c hc hz=>?_,λh e he=>?_⟩
   ·exact h (c.id,z) (Y!.2 ⟨c,V.mem_iff.2 hc,rfl,hz⟩) rfl
   ·obtain⟨c,hc,h1,h2⟩:=Y!.1 he;exact λe'=>h c (V.mem_iff.1 hc) (e'▸h2)
  have aa:w.length<1000:=by
   have h1:=g.length_eq;have h2:=A7z (gs:=gs);rw[UH]at h1;omega
  refine nZ (n:=n+73) w0 (by omega) (by omega) (Bj m.wf) J g (DR _) λv H hv O=>?_;exact B _ _ λbb=>by
   obtain⟨q,hq⟩:=iX (D:=depth-1) (b:=bb) hv O;exact⟨q,hq⟩
end
end
section
variable{q:Bool}{H1:Hp}{es:List wT}{f r u:Nat}{bo:Option (Hb×Nat)}
variable{L n:Nat}
abbrev iV:Nat->AV:=λk=>I (k:Int)
abbrev aV:AV->AV:=λa=>a
section
variable{H H':Hp}{K:KV}{x:Af}{v:AV}{l:List AR}
def A6a{α:Type}{f:α->AV}{b:List (AR×α)}{x:AR}{v:α}(h:Ai H r=some (.map false (Di f b) bo)):∃c,∀K:Ru,My (.mp r) (SV x) (f v) H K=K (upd H r (.map false (Di f (Ma b x v)) c)):=by
 have e:∀K:Ru,My (.mp r) (SV x) (f v) H K=IR H r λy=>mF y λes bo=>I9 (SV x) es λq=>match q with
  |none=>XA4 H r (.map false (es++[(SV x,f v)]) (wB bo)) K
  |some (i,_)=>XA4 H r (.map false (es.set i (SV x,f v)) bo) K:=λK=>rfl
 obtain⟨h1,h2⟩:=A1Y (x:=x) v b 0;cases a:YZ x b 0 with
 |none=>
  rw[a]at h1;refine⟨wB bo,λK=>?_⟩;rw[e,Bp h];show I9 (SV x) (Di f b) _=_;rw[kfK,a];show XA4 H r (.map false (Di f b++[(SV x,f v)]) (wB bo)) K=_;rw[Dg,<-h1,Di,Di,Z6];rfl
 |some p=>
  obtain⟨j,w⟩:=p;rw[a]at h1;refine⟨bo,λK=>?_⟩;rw[e,Bp h];show I9 (SV x) (Di f b) _=_;rw[kfK,a];show XA4 H r (.map false ((Di f b).set j (SV x,f v)) bo) K=_;rw[Dg,<-h1,Di,Di,List.map_set,Nat.sub_zero]
def uX{x:Row}{es:IH}(h:Ai H r=some x):Ai (upd H r (.map false es bo)) r=some (.map false es bo):=(BH h).trans rfl
def IN:¬A9 Av u:=λ⟨_,_,_,h⟩=>by cases h
def Bk.rq(h:Bk H Aq 1 v l.length (AE l)):NB H v l:=by
 rcases h with⟨h1,h2,_⟩|⟨r,q,h1,h2,_⟩
 ·exact .inl ⟨h1,mH h2⟩
 ·exact .inr ⟨r,q,[],h1,by rw[V0];exact h2⟩
def rO{e sz m:Nat}{cs:Is}(h:Bk H e sz v m cs):fF v v=true:=by
 rcases h with⟨rfl,_⟩|⟨r,q,rfl,_⟩
 ·rfl
 ·show(Nat.beq sz sz&&(Nat.beq r r&&(Nat.beq 0 0&&Nat.beq m m)))=true;rw[oG,oG,oG,oG];rfl
def okS{a:AV}{K:Af}(h:fF a a=true):Qq (Ba (some (a,H)) a) K=K:=by
 show Qq (some (.v (.bool (fF a a)),[])) K=K;rw[h];rfl
def C4t(b:AR)(h:NB H v l)(w:Wf H)(hn:l.length<1000000):∃m H',(∀K:KV,(FU Aq 1 Ah 1 [(0,1,S b)] H λv1 H1=>DK Aq 1 Ah Ac v v1 H1 K)=K m H')/\NB H' m (l++[b])/\Lat H H' (A9 v)/\(∀u,A9 m u->As H<=u):=by
 have main:∃H1,(∀K:KV,DK Aq 1 Ah Ac v (.sl 1 (As H) 0 1) ((As H,.cells false Aq [S b])::H) K=DK Aq 1 Ah Ac v (.sl 1 (As H) 0 1) H1 K)/\Bk H1 Aq 1 v l.length (AE l)/\Lat ((As H,.cells false Aq [S b])::H) H1 (A9 v)/\As H1=As H+1:=by
  rcases h with⟨rfl,rfl⟩|⟨r,q,c,rfl,F⟩
  ·exact⟨_,λK=>rfl,.inl ⟨rfl,rfl,rfl⟩,Lat.refl _ _,rfl⟩
  ·have A:=w.lt F;have a:=A7 (x:=.cells false Aq [S b]) A F;cases c with
   |nil=>
    rw[V0]at a;exact⟨_,λK=>rfl,.inr ⟨r,q,rfl,a,by rw[Bc];omega⟩,Lat.refl _ _,rfl⟩
   |cons t c=>
    have d:=AC (q:=false) (e:=Aq) (cs:=AE l) a;refine⟨upd ((As H,.cells false Aq [S b])::H) r (.cells false Aq (AE l)),λK=>?_,.inr ⟨r,false,rfl,d,by rw[Bc];omega⟩,Lat.upd _ _ _ ⟨1,0,_,rfl⟩,by rw[B4];rfl⟩;have e:∀H,DK Aq 1 Ah Ac (.sl 1 r 0 l.length) (.sl 1 (As H) 0 1) H K=DK Aq 1 Ah Ac (.sl 1 r 0 l.length) (.sl 1 (As H) 0 1) H K:=λ_=>rfl;have C:∀(j:Hp)(src:AV),DK Aq 1 Ah Ac (.sl 1 r 0 l.length) src j K=IR j r λx=>Ki x λE cs=>HK cs 0 λcl=>@Bool.rec (λ_=>Af) (SU (Nat.add 0 (Nat.mul l.length 1)) cs λg=>XA4 j r (.cells false E g) λH1=>VJ Aq 1 Ah Ac (.sl 1 r 0 l.length) src H1 K) (VJ Aq 1 Ah Ac (.sl 1 r 0 l.length) src j K) (Nat.beq (Nat.add 0 (Nat.mul l.length 1)) cl):=λj src=>rfl;have J:Nat.add 0 (Nat.mul l.length 1)=l.length:=by show 0+l.length*1=l.length;omega
    rw[C,C,Bp a,Bp d,J];show(HK (AE l++t::c) 0 λcl=>@Bool.rec (λ_=>Af) (SU l.length (AE l++t::c) λg=>XA4 _ r (.cells false Aq g) λH1=>VJ Aq 1 Ah Ac (.sl 1 r 0 l.length) _ H1 K) _ (Nat.beq l.length cl))=(HK (AE l) 0 λcl=>@Bool.rec (λ_=>Af) _ (VJ Aq 1 Ah Ac (.sl 1 r 0 l.length) _ _ K) (Nat.beq l.length cl))
    rw[Cy,Cy,Kd,Kd,Bc,oG,EK,Bc,Mi];have hb:Nat.beq l.length (l.length+(c.length+1))=false:=by
     cases hc:Nat.beq l.length (l.length+(c.length+1)) with
     |false=>rfl
     |true=>have:=Z5 hc;omega
    rw[hb];show SU l.length (AE l++t::c) _=_;rw[OJ];have M:(AE l++t::c).take l.length=AE l:=by
     have:=List.take_left (l₁:=AE l) (l₂:=t::c);rw[Bc]at this;exact this
    rw[M,Dg]
 obtain⟨H1,m1,Q,m3,V⟩:=main;have i:=Ob (H:=H) (e:=Aq) (n:=1) (cs:=[S b]) rfl;have B:∀u,A9 (.sl 1 (As H) 0 1) u->¬A9 v u:=λu ⟨_,_,_,h1⟩ d=>by
  injection h1 with _ h1
  have:=h.lt w d;omega
 have k:Bk H1 Aq 1 (.sl 1 (As H) 0 1) 1 [S b]:=i.kp λu y d P=>m3.keep (AG w) u y P (B u d);obtain⟨m,H',h1,h2,N,O⟩:=apt (ie:=Ah) (i2:=Ac) Q (λK=>R4 (K:=K) k) rfl rfl (by decide) rfl rfl (by show(l.length+1)*16<=_;omega) (by omega);refine⟨m,H',λK=>?_,?_,((Lat.cons H _ (A9 v)).trans m3 (R:=A9 v) (λ_ _ h=>h) (λ_ _ h=>h)).trans O (λ_ _ h=>h) (λ_ _ h=>h),λu d=>?_⟩
 ·rw[nP (z:=S []) (λ_=>rfl) (λ_=>rfl) rfl,m1];exact h1 K
 ·refine Bk.rq ?_;rw[EK,<-kP];exact h2
 ·rw[N u d,V];omega
end
section
variable{H:Hp}{K:KV}{D:Nat}{b:Bool}
def Xo{c:Nat}{q q':Bool}{e:TypeId}{cs cs':Is}(d:Ai H c=some (.cells q e cs))(h:R9 b D cs cs' H q'):Fx b (D+1) (.ptr c 0 0) (.iptr cs') H true:=λK=>by
 show IR H c (λx=>Ki x λ_ cs=>II (HV b H D) (Dn (Nat.add 0 0) cs) λ_ a=>K true (.iptr a))=_;rw[Bp d];show II (HV b H D) cs _=_;rw[h]
def zY{cs cs':Is}(h:R9 b D cs cs' H q):Fx b (D+1) (.fn (.func f) [] cs) (.fn (.func f) [] cs') H q:=λK=>h _
def C0g{ws:List (AR×Nat)}(h:Ai H r=some (.map false (Di iV ws) bo)):Fx true (D+1) (.mp r) (.imap (Di iV ws)) H true:=λK=>by
 show IR H r (λx=>qG x λes=>Rb (HV true H D) es λ_ c=>K true (.imap c))=_;rw[Bp h];show Rb (HV true H D) (Di iV ws) _=_;have e:∀(es:List (AR×Nat))(F:Bool->IH->Af),Rb (HV true H D) (Di iV es) F=F false (Di iV es):=by
  intro es
  induction es with
  |nil=>intro F;rfl
  |cons a es ih=>
   intro F;show HV true H D (.v (.int .i64 (a.2:Int))) (λq d=>Rb (HV true H D) (Di iV es) λi g=>F (@Bool.rec (λ_=>Bool) i true q) ((SV a.1,d)::g))=_;rw[CC,ih];rfl
 rw[e]
def I'{f N:Nat}{c:AV}{s:AR}(h1:(E (L+20)).ne f=false)(h2:(E (L+20)).imp f=false):C4 (E (L+20)) (rt (L+20) N) (.fn (.func f) [] [c]) [S s] H K=Ap (rt (L+20) N) f [S s,c] H λv=>K v H:=by
 show SX [S s] [c] (λa=>SX [] a λall=>A24 ((E (L+20)).ne f) all H K (@Bool.rec (λ_=>Af) (zpm (E (L+20)) f (rt (L+20) N) all H λv=>K v H) ((rt (L+20) N).call f all H K) ((E (L+20)).imp f)))=_;rw[Jx,Jx,h1,h2];show zpm (E (L+20)) f (rt (L+20) N) [S s,c] H (λv=>K v H)=_;rw[A2U (by simp)]
def C1O{m s:AR}:CS (r! L (n+1)) J2 [S s,.iptr [S m]] (Bo (decide (s=m))):=by
 intro K a;rw[ZY];unfold OB LR;rw[Ke,Mn];exact a _ _ λb=>⟨false,CC⟩
def A5f{ws:List (AR×Nat)}{s:AR}:CS (r! L (n+1)) Lp [S s,.iptr [.imap (Di iV ws)]] (Bo (decide (0<(MB ws s).getD 0))):=by
 intro K a;rw[ZZ];unfold OC LR;have el:∀{K:K2},AD DY (.iptr [.imap (Di iV ws)]) [] K=K (.imap (Di iV ws)):=λ{K}=>Ny rfl;have g:∀(F:Value->Af),Mj (S s) F=F (SV s):=λF=>id rfl;rw[el,g,rK (f:=iV) (b:=ws) (λK=>id rfl)];have c:∀(k:Nat)(K:K2),Ar Ab .gtr (iV k) (AV.v (.int .i64 0)) K=K (Bo (decide (0<k))):=λk K=>by
  have e:decide ((0:Int)<(k:Int))=decide (0<k):=decide_eq_decide.2 (by omega);rw[Ef,e]
 cases d:MB ws s with
 |none=>
  rw[d]at a;show Ar Ab .gtr (iV 0) (AV.v (.int .i64 0)) _=_;rw[c];exact a _ _ λb=>⟨false,CC⟩
 |some k=>
  rw[d]at a;show Ar Ab .gtr (iV k) (AV.v (.int .i64 0)) _=_;rw[c];exact a _ _ λb=>⟨false,CC⟩
end
structure OsK(gs:ed)(ws:List (AR×Nat))(ch:List (AR×AV))(b1 b3:Option (Hb×Nat))(wt:AR->Nat)(ct:AR->List AR)(H:Hp):Prop where
 net:Ai H 0=some (c_ CH [gV gs])
 m1:Ai H 1=some (.map false (Di iV ws) b1)
 p1:Ai H 2=some (c_ IL [.mp 1])
 m3:Ai H 3=some (.map false (Di aV ch) b3)
 p3:Ai H 4=some (c_ EU [.mp 3])
 wf:Wf H
 wv:∀x,(MB ws x).getD 0=wt x
 cv:∀p,Bk H Aq 1 ((MB ch p).getD Av) (ct p).length (AE (ct p))
 cr:∀p u,A9 ((MB ch p).getD Av) u->6<u
 cd:∀p p' u,A9 ((MB ch p).getD Av) u->A9 ((MB ch p').getD Av) u->p=p'
section
variable{gs:ed}{ws:List (AR×Nat)}{ch:List (AR×AV)}{b1 b3:Option (Hb×Nat)}{wt:AR->Nat}{ct:AR->List AR}{H H':Hp}{s p:AR}
theorem OsK.kp(h:OsK gs ws ch b1 b3 wt ct H)(w:Wf H')(k:∀u y,(u<5\/∃p,A9 ((MB ch p).getD Av) u)->Ai H u=some y->Ai H' u=some y):OsK gs ws ch b1 b3 wt ct H':=
 ⟨k _ _ (.inl (by decide)) h.net,k _ _ (.inl (by decide)) h.m1,k _ _ (.inl (by decide)) h.p1,k _ _ (.inl (by decide)) h.m3,k _ _ (.inl (by decide)) h.p3,w,h.wv,λp=>(h.cv p).kp λu y a c=>k u y (.inr ⟨p,a⟩) c,h.cr,h.cd⟩
def OsK.ne(h:OsK gs ws ch b1 b3 wt ct H)(a:u<5\/∃p,A9 ((MB ch p).getD Av) u):u≠5/\u≠6:=by
 rcases a with a|⟨q,a⟩
 ·omega
 ·have:=h.cr q u a;omega
def OsK.lw(h:OsK gs ws ch b1 b3 wt ct H){K:K2}:ZE Ab false (.mp 1) (SV s) H K=K (I (wt s:Int)):=by
 rw[rK (f:=iV) (b:=ws) (λK=>ZA h.m1),<-h.wv s];cases MB ws s<;>rfl
def OsK.lc(h:OsK gs ws ch b1 b3 wt ct H){K:K2}:ZE Ac false (.mp 3) (SV p) H K=K ((MB ch p).getD Av):=by
 rw[rK (f:=aV) (b:=ch) (λK=>ZA h.m3)];cases MB ch p<;>rfl
def OsK.put(h:OsK gs ws ch b1 b3 wt ct H)(k:Nat):∃a H',(∀K:Ru,My (.mp 1) (SV s) (I (k:Int)) H K=K H')/\OsK gs (Ma ws s k) ch a b3 (λx=>if s=x then k else wt x) ct H'/\H'=upd H 1 (.map false (Di iV (Ma ws s k)) a):=by
 obtain⟨a,e⟩:=A6a (f:=iV) (x:=s) (v:=k) h.m1;have n1:∀u,u≠1->Ai (upd H 1 (.map false (Di iV (Ma ws s k)) a)) u=Ai H u:=λu d=>Ag d;refine⟨a,_,e,⟨by rw[n1 _ (by decide)];exact h.net,uX h.m1,by rw[n1 _ (by decide)];exact h.p1,by rw[n1 _ (by decide)];exact h.m3,by rw[n1 _ (by decide)];exact h.p3,Bj h.wf,λx=>?_,λp=>?_,h.cr,h.cd⟩,rfl⟩
 ·rw[jA];by_cases c:s=x
  ·rw[Dq c,Dq c];rfl
  ·rw[CF c,CF c];exact h.wv x
 ·exact(h.cv p).kp λu y d g=>by rw[n1 _ (by have:=h.cr p u d;omega)];exact g
end
def kK(gs:ed)(es:List wT)(x:AR):Nat:=(es.filter λe=>decide (e.1=x)&&decide (e.2∈gs.map Cd.id)).length
def jQ(gs:ed)(es:List wT)(p:AR):List AR:=(es.filter λe=>decide (e.2=p)&&decide (p∈gs.map Cd.id)).map Prod.fst
def A5d{gs:ed}{s p x:AR}:kK gs (es++[(s,p)]) x=if p∈gs.map Cd.id then(if s=x then kK gs es s+1 else kK gs es x) else kK gs es x:=by
 unfold kK;rw[List.filter_append,EK];by_cases h1:p∈gs.map Cd.id
 ·rw[Dq h1];by_cases h2:s=x
  ·subst h2;rw[Dq rfl,List.filter_cons_of_pos (by simp only[HR h1,decide_true,Bool.and_self])];rfl
  ·rw[CF h2,List.filter_cons_of_neg (by simp only[HW h2,Bool.false_and];simp)];rfl
 ·rw[CF h1,List.filter_cons_of_neg (by simp only[HW h1,Bool.and_false];simp)];rfl
def A6f{gs:ed}{s p q:AR}:jQ gs (es++[(s,p)]) q=if p∈gs.map Cd.id then(if p=q then jQ gs es p++[s] else jQ gs es q) else jQ gs es q:=by
 unfold jQ;rw[List.filter_append,Z6];by_cases h1:p∈gs.map Cd.id
 ·rw[Dq h1];by_cases h2:p=q
  ·subst h2;rw[Dq rfl,List.filter_cons_of_pos (by simp only[HR h1,decide_true,Bool.and_self])];rfl
  ·rw[CF h2,List.filter_cons_of_neg (by simp only[HW h2,Bool.false_and];simp)];exact V0 _
 ·rw[CF h1,List.filter_cons_of_neg (by
   by_cases h2:p=q
   ·subst h2;simp only[HW h1,Bool.and_false];simp
   ·simp only[HW h2,Bool.false_and];simp)]
  exact V0 _
def B6V{gs:ed}{x:AR}:kK gs es x<=es.length:=l30 _ _
def A00{gs:ed}{p:AR}:(jQ gs es p).length<=es.length:=by
 unfold jQ;rw[UH];exact l30 _ _
def qY(gs:ed)(p:Option (Option Code)):Row:=.loop 86 [(2,Av),(3,.v (.int .i64 0)),(4,.ptr 0 0 0),(6,.ptr 2 0 0),(7,.ptr 4 0 0),(8,.dk),(9,.dk),(10,.dk),(11,.dk),(25,B1s gs),(26,.dk),(27,.dk),(28,.dk),(29,.dk),(30,.dk),(31,.dk),(32,.dk),(33,.dk),(34,.dk),(35,.dk),(36,.dk),(37,.dk),(38,.dk),(39,.dk),(40,.dk),(41,.dk),(42,.dk),(61,.dk),(62,.dk),(63,.dk)] (EX).2.1 (EX).2.2.1 (EX).2.2.2 p
def C4z(gs:ed)(es:List wT)(H:Hp):Prop:=Ai H 5=some (qY gs (some none))/\∃ws ch b1 b3,OsK gs ws ch b1 b3 (kK gs es) (jQ gs es) H
section
variable{gs:ed}
def B6l{K:Ru}(h:Ai H1 5=some (qY gs none)):EB H1 5 false (some none) K=K (upd H1 5 (qY gs (some none))):=Pz h
def C2X{K:Ru}(h:Ai H1 5=some (qY gs (some none))):EB H1 5 true none K=K (upd H1 5 (qY gs none)):=P0 h
def B3X:wL (r! L (n+2)) L 5 6 (C4z gs):=by
 intro es s p H K x ak ⟨J,ws,ch,b1,b3,h⟩ hx;show NY (r! L (n+2)) 5 [S s,S p] H K=x;rw[Pt J (by kernel_rfl)];have aa:(r! L (n+2)).run= λcf=>Mq (E (L+20)) (r! L (n+1)) cf:=rfl;rw[aa,lI,C2X J];simp only[BE];have h1:OsK gs ws ch b1 b3 (kK gs es) (jQ gs es) (upd H 5 (qY gs none)):=h.kp (Bj h.wf) λu y c g=>by
  rw[Ag (h.ne c).1];exact g
 have A:Ai (upd H 5 (qY gs none)) 5=some (qY gs none):=Fk J;have k1:∀y,Ai H 6=some y->Ai (upd H 5 (qY gs none)) 6=some y:=λy g=>by rw[Ag (by decide)];exact g
 generalize upd H 5 (qY gs none)=H1 at h1 A k1;show AD Aj (.ptr 0 0 0) H1 _=_;rw[AF (p:=0) rfl h1.net (by simp)];show Ap (r! L (n+1)) Fq [gV gs,S p] H1 _=_;rw[A5h];by_cases Q:p∈gs.map Cd.id
 ·rw[HR Q];show A1 (.v (.bool true)) _ _=_;rw[Cu];show AD DY (.ptr 2 0 0) H1 _=_;have R:∀(s:AR)(F:Value->Af),Mj (S s) F=F (SV s):=λs F=>id rfl;rw[AF (p:=0) rfl h1.p1 (by simp),R];show ZE Ab false (.mp 1) (SV s) H1 _=_;rw[h1.lw,Db (by have:=B6V (gs:=gs) (es:=es) (x:=s);omega),R];obtain⟨j,w,P,h2,C⟩:=h1.put (s:=s) (kK gs es s+1);show My (.mp 1) (SV s) (I ((kK gs es s+1:Nat):Int)) H1 _=_;rw[P];have Y:Ai w 5=some (qY gs none):=by rw[C,Ag (by decide)];exact A
  have k2:∀y,Ai H 6=some y->Ai w 6=some y:=λy g=>by rw[C,Ag (by decide)];exact k1 y g
  clear C P;have V:∀{H:Hp}{wt:AR->Nat}{j:Option (Hb×Nat)}{ac:List (AR×Nat)}{K:K2},OsK gs ac ch j b3 wt (jQ gs es) H->AD BI (.ptr 4 0 0) H K=K (.mp 3):=λ{H wt j ac K}h=>by
   rw[AF (p:=0) rfl h.p3 (by simp)];rfl
  rw[V h2,Bw,Bw,R];have aj:=h2.cv p;have ai:∀u,A9 ((MB ch p).getD Av) u->6<u:=h2.cr p;rw[h2.lc,Bw,nP (z:=S []) (λ_=>rfl) (λ_=>rfl) rfl,Tf];have d:OsK gs (Ma ws s (kK gs es s+1)) ch j b3 (λx=>if s=x then kK gs es s+1 else kK gs es x) (jQ gs es) ((As w,.cells false Aq [S s])::w):=h2.kp (AG h2.wf) λu y _ g=>A7 (h2.wf.lt g) g;have am:As ((As w,Row.cells false Aq [S s])::w)=As w+1:=rfl;have ah:=h2.wf.lt Y;have ab:=Ob (H:=w) (e:=Aq) (n:=1) (cs:=[S s]) rfl;obtain⟨N,B,a1,a2,a3,O⟩:=apt (ie:=Ah) (i2:=Ac) (d.cv p) (λK=>R4 (K:=K) ab) rfl rfl (by decide) rfl rfl (by have:=A00 (gs:=gs) (es:=es) (p:=p);show((jQ gs es p).length+1)*16<=_;omega) (by have:=A00 (gs:=gs) (es:=es) (p:=p);omega);rw[a1,Tf,R];have nr:∀{u:Nat},u<7->¬A9 ((MB ch p).getD Av) u:=λc h=>by have:=ai _ h;omega
  have X:=O.keep d.wf 3 _ d.m3 (nr (by decide));obtain⟨k,e5⟩:=A6a (f:=aV) (x:=p) (v:=N) X;show Dy (My (.mp 3) (SV p) (aV N) B λH=>some (AV.v undef,H)) _=_;rw[e5,Tf,V d];have M:∀{K:Af},Qq (Ba (some (AV.mp 3,[])) (.mp 3)) K=K:=λ{K}=>okS rfl;have ae:Ai B 4=some (c_ EU [.mp 3]):=O.keep d.wf 4 _ d.p3 (nr (by decide));have ad:∀{K:K2},AD BI (.ptr 4 0 0) B K=K (.mp 3):=λ{K}=>by
   rw[AF (p:=0) rfl ae (by simp)];rfl
  rw[M,ad,M,M,R,d.lc,okS (rO aj)];have w4:=O.wf d.wf;have af:=A7 (x:=.cells false Aq [S s]) ah Y;have ag:=O.keep d.wf 5 _ af (nr (by decide));have Z:Ai (upd B 3 (.map false (Di aV (Ma ch p N)) k)) 5=some (qY gs none):=by rw[Ag (by decide)];exact ag
  show EB (upd B 3 (.map false (Di aV (Ma ch p N)) k)) 5 false (some none) _=_;rw[B6l Z];have k6:∀u y,(u≠3/\u≠5)->Ai B u=some y->Ai (upd (upd B 3 (.map false (Di aV (Ma ch p N)) k)) 5 (qY gs (some none))) u=some y:=λu y c g=>by
   rw[Ag c.2,Ag c.1];exact g
  have t:∀u y,u≠3/\u≠5->u<7->Ai ((As w,Row.cells false Aq [S s])::w) u=some y->Ai (upd (upd B 3 (.map false (Di aV (Ma ch p N)) k)) 5 (qY gs (some none))) u=some y:=λu y c h7 g=>k6 u y c (O.keep d.wf u y g (nr h7));refine hx _ ⟨Fk Z,Ma ws s (kK gs es s+1),Ma ch p N,j,k,⟨t 0 _ (by decide) (by decide) d.net,t 1 _ (by decide) (by decide) d.m1,t 2 _ (by decide) (by decide) d.p1,?_,t 4 _ (by decide) (by decide) d.p3,Bj (Bj w4),λy=>?_,λq=>?_,λq u c=>?_,λq q' u c i=>?_⟩⟩ λy g=>?_
  ·rw[Ag (by decide)];exact uX X
  ·rw[d.wv,A5d,Dq Q]
  ·rw[jA,A6f,Dq Q];by_cases hq:p=q
   ·subst hq;rw[Dq rfl,Dq rfl,l1q,EK,<-kP];refine a2.kp λu y c g=>k6 u y ?_ g;have:=a3 u c;omega
   ·rw[CF hq,CF hq];refine(d.cv q).kp λu y c g=>k6 u y (by have:=d.cr q u c;omega) (O.keep d.wf u y g λhc=>hq (d.cd p q u hc c))
  ·rw[jA]at c;by_cases hq:p=q
   ·rw[Dq hq,l1q]at c;have:=a3 u c;omega
   ·rw[CF hq]at c;exact d.cr q u c
  ·rw[jA]at c i;by_cases hq:p=q
   ·by_cases m:p=q'
    ·exact hq.symm.trans m
    ·rw[Dq hq,l1q]at c;rw[CF m]at i;have e1:=a3 u c;have P:=(d.cv q').lt d.wf i;omega
   ·rw[CF hq]at c;by_cases m:p=q'
    ·rw[Dq m,l1q]at i;have e1:=a3 u i;have P:=(d.cv q).lt d.wf c;omega
    ·rw[CF m]at i;exact d.cd q q' u c i
  ·have a:=k2 y g;exact t 6 _ (by decide) (by decide) (A7 (h2.wf.lt a) a)
 ·rw[HW Q];show A1 (.v (.bool false)) _ _=_;rw[AZ];show EB H1 5 false (some none) _=_;rw[B6l A];have e1:kK gs (es++[(s,p)])=kK gs es:=funext λy=>by rw[A5d,CF Q]
  have P:jQ gs (es++[(s,p)])=jQ gs es:=funext λy=>by rw[A6f,CF Q]
  refine hx _ ⟨Fk A,ws,ch,b1,b3,?_⟩ λy g=>?_
  ·rw[e1,P];refine h1.kp (Bj h1.wf) λu y c g=>?_;rw[Ag (h1.ne c).1];exact g
  ·rw[Ag (by decide)];exact k1 y g
end
end
section
variable{a0 a1 d5 d6 e0 e1 e2 e3 e4 e5 e6 e7 e8 e9 f0 f1 f2 f3 f4 f5 f6 f7:AV}
variable{L n:Nat}
def VU(gs:ed)(es:List wT)(out rem:List AR)(x:AR):Nat:=(es.filter λe=>decide (e.1=x)&&(decide (e.2∈gs.map Cd.id)&&decide (e.2∉out))).length+rem.count x
section
variable{gs:ed}{es:List wT}{out rem l:List AR}{x c m:AR}
def Yg:VU gs es out (c::rem) x=VU gs es out rem x+if c=x then 1 else 0:=by
 unfold VU;rw[List.count_cons,kD]
 congr 2
 by_cases h:c=x<;>simp[h]
def A5c:VU gs es [] []=kK gs es:=by
 funext x
 unfold VU kK;simp
def B6U:VU gs es out rem x<=es.length+rem.length:=by
 have h1:=l30 (λe:wT=>decide (e.1=x)&&(decide (e.2∈gs.map Cd.id)&&decide (e.2∉out))) es;have h2:=List.count_le_length (a:=x) (l:=rem);unfold VU;omega
def A5b(h1:m∈gs.map Cd.id)(h2:m∉out):VU gs es (out++[m]) (jQ gs es m)=VU gs es out []:=by
 funext x
 unfold VU jQ;rw[List.count_nil,Nat.add_zero]
 induction es with
 |nil=>rfl
 |cons e es ih=>
  rw[l2m,l2m,l2m];by_cases hm:e.2=m
  ·have e1:(decide (e.1=x)&&(decide (e.2∈gs.map Cd.id)&&decide (e.2∉out++[m])))=false:=by simp[hm]
   have e2:(decide (e.2=m)&&decide (m∈gs.map Cd.id))=true:=by rw[HR hm,HR h1];rfl
   by_cases a:e.1=x
   ·have e3:(decide (e.1=x)&&(decide (e.2∈gs.map Cd.id)&&decide (e.2∉out)))=true:=by rw[HR a,hm,HR h1,HR h2];rfl
    have e4:(e.1==x)=true:=by simp[a]
    simp only[e1,e2,e3,e4,yG,if_false,if_true,XI,Mi,List.count_cons];omega
   ·have e3:(decide (e.1=x)&&(decide (e.2∈gs.map Cd.id)&&decide (e.2∉out)))=false:=by rw[HW a];rfl
    have e4:(e.1==x)=false:=by simp[a]
    simp only[e1,e2,e3,e4,yG,if_false,if_true,XI,List.count_cons];omega
  ·have e2:(decide (e.2=m)&&decide (m∈gs.map Cd.id))=false:=by rw[HW hm];rfl
   have e1:decide (e.2∉out++[m])=decide (e.2∉out):=by simp[hm]
   cases hb:(decide (e.1=x)&&(decide (e.2∈gs.map Cd.id)&&decide (e.2∉out))) with
   |true=>
    simp only[e1,e2,hb,yG,if_false,if_true,Mi];omega
   |false=>
    simp only[e1,e2,hb,yG,if_false];exact ih
structure Ri(gs:ed)(es:List wT)(out rem l:List AR):Prop where
 nd:l.Nodup
 mem:∀x,x∈l↔x∈gs.map Cd.id/\x∉out/\VU gs es out rem x=0
 jz:∀x∈out,VU gs es out rem x=0
 rid:∀x∈rem,x∈gs.map Cd.id
def Ri.len(h:Ri gs es out rem l):l.length<=gs.length:=by
 have:=YE h.nd λx a=>((h.mem x).1 a).1;rw[UH]at this;exact this
def Ri.pos:1<=VU gs es out (c::rem) c:=by rw[Yg,Dq rfl];omega
def Ri.dec:(λx=>if c=x then VU gs es out (c::rem) c-1 else VU gs es out (c::rem) x)=VU gs es out rem:=by
 funext x
 by_cases h:c=x
 ·subst h;rw[Dq rfl,Yg,Dq rfl];omega
 ·rw[CF h,Yg,CF h];rfl
def Ri.step(h:Ri gs es out (c::rem) l):(VU gs es out rem c=0->Ri gs es out rem (l++[c]))/\(VU gs es out rem c≠0->Ri gs es out rem l):=by
 have s:1<=VU gs es out (c::rem) c:=Ri.pos;have f:c∉l:=λhc=>by have:=((h.mem c).1 hc).2.2;omega
 have q:c∉out:=λhc=>by have:=h.jz c hc;omega
 have p:=h.rid c (by simp);have i:∀x∈out,VU gs es out rem x=0:=λx d=>by
  have:=h.jz x d;rw[Yg]at this;omega
 have j:∀x,c≠x->VU gs es out (c::rem) x=VU gs es out rem x:=λx d=>by rw[Yg,CF d];rfl
 refine⟨λk=>⟨l36.2 ⟨h.nd,by simp,λa r b hb=>by simp at hb;subst hb;exact λe=>f (e▸r)⟩,λx=>?_,i,λx d=>h.rid x (by simp[d])⟩,λk=>⟨h.nd,λx=>?_,i,λx d=>h.rid x (by simp[d])⟩⟩
 ·rw[kB,YR];by_cases d:c=x
  ·subst d;exact⟨λ_=>⟨p,q,k⟩,λ_=>.inr rfl⟩
  ·rw[h.mem,j x d];exact⟨λg=>g.elim id λe=>absurd e.symm d,.inl⟩
 ·by_cases d:c=x
  ·subst d;exact⟨λg=>absurd g f,λg=>absurd g.2.2 k⟩
  ·rw[h.mem,j x d]
def Ri.take(h:Ri gs es out [] l)(g:∀e∈es,e.1∈gs.map Cd.id)(hm:m∈l):Ri gs es (out++[m]) (jQ gs es m) (l.filter λs=>!decide (s=m)):=by
 obtain⟨h1,h2,k⟩:=(h.mem m).1 hm;have i:VU gs es (out++[m]) (jQ gs es m)=VU gs es out []:=A5b h1 h2;refine⟨h.nd.sublist List.filter_sublist,λx=>?_,λx a=>?_,λx a=>?_⟩
 ·rw[i,l2z,h.mem,kB,YR];constructor
  ·rintro⟨⟨a1,a2,d⟩,j⟩;have f:x≠m:=by simpa using j
   exact⟨a1,λb=>b.elim a2 f,d⟩
  ·rintro⟨a1,a2,d⟩;refine⟨⟨a1,λb=>a2 (.inl b),d⟩,?_⟩;have:x≠m:=λb=>a2 (.inr b);simp[this]
 ·rw[i];rcases kB.1 a with a|a
  ·exact h.jz x a
  ·rw[YR]at a;subst a;exact k
 ·obtain⟨e,he,rfl⟩:=Rc.1 a;exact g e (l2z.1 he).1
def Ri.perm(h:Ri gs es out [] l)(b:∀e:wT,e∈es↔e.1∈gs.map Cd.id/\e.2∈QJ gs e.1)(hn:(gs.map Cd.id).Nodup):l.Perm (lH gs out):=by
 refine(l35 h.nd (hn.sublist List.filter_sublist)).2 λx=>?_;rw[h.mem];show _↔x∈lH gs out;rw[Wm];refine and_congr_right λg=>and_congr_right λ_=>?_;unfold VU;rw[List.count_nil,Nat.add_zero,List.length_eq_zero_iff,List.filter_eq_nil_iff];constructor
 ·intro a p f d;have:=a (x,p) ((b _).2 ⟨g,f⟩);apply l37;intro hc;exact this (by rw[HR rfl,HR d,HR hc];rfl)
 ·intro a e he;obtain⟨h1,h2⟩:=(b e).1 he;intro hc;simp only[KF,decide_eq_true_eq]at hc;obtain⟨c1,c2,c3⟩:=hc;rw[c1]at h2;exact c3 (a _ h2 c2)
end
structure Mo(gs:ed)(out l:List AR)(wt:AR->Nat)(ct:AR->List AR)(ws:List (AR×Nat))(ch:List (AR×AV))(b1 b3:Option (Hb×Nat))(rv ov:AV)(H:Hp):Prop where
 os:OsK gs ws ch b1 b3 wt ct H
 rd:NB H rv l
 ot:Bk H Aq 1 ov out.length (AE out)
 rr:∀u,A9 rv u->4<u/\¬A9 ov u/\∀p,¬A9 ((MB ch p).getD Av) u
 oo:∀u,A9 ov u->4<u/\∀p,¬A9 ((MB ch p).getD Av) u
section
variable{H:Hp}{v:AV}{l:List AR}
def Bk.ia(h:Bk H Aq 1 v l.length (AE l)){i:Nat}(b:i<l.length):∃a,(∀K:K2,DC Ac v (I (i:Int)) K=K a)/\∀K:K2,AD Ah a H K=K (S l[i]):=by
 rcases h with⟨_,h2,_⟩|⟨r,q,rfl,h2,_⟩
 ·omega
 ·exact⟨.ptr r i 0,λK=>R5 b,λK=>Y? h2 b⟩
end
section
variable{gs:ed}{es:List wT}{out l:List AR}{ws:List (AR×Nat)}{ch:List (AR×AV)}{b1 b3:Option (Hb×Nat)}{rv ov:AV}{K:KV}{x:Af}{ct:AR->List AR}
def B9H{R:Rt}{q:AV->AV->AV->AV->AV->AV->AV->AV->AV->AV->AV->AV->AV->AV->AV->AV->AV->AV->AV->AV->AV->AV->AV->AV->AV->AV->AV->AV->AV->KV}{a0 a1 a2 d5 d6 e0 e1 e2 e3 e4 e5 e6 e7 e8 e9 f0 f1 f2 f3 f4 f5 f6 f7:AV}{m:AR}(hb:es.length<1000)(hg:gs.length<=8)(aa:(ct m).length<1000)(hx:∀Q N g A O,Mo gs out Q (VU gs es out []) ct N ch g b3 A ov O->Ri gs es out [] Q->q a0 a1 a2 (.ptr 2 0 0) (.ptr 4 0 0) d5 d6 A ov e0 e1 e2 e3 e4 e5 e6 e7 e8 e9 f0 f1 f2 f3 f4 f5 f6 f7 ((MB ch m).getD Av) (I (ct m).length) (I (ct m).length) O=x):
 ∀(f i:Nat)(l:List AR)(ws:List (AR×Nat))(b1:Option (Hb×Nat))(rv:AV)(H:Hp),i<=(ct m).length->(ct m).length-i<f->Mo gs out l (VU gs es out ((ct m).drop i)) ct ws ch b1 b3 rv ov H->Ri gs es out ((ct m).drop i) l->
 SP (L+20) R K q f a0 a1 a2 (.ptr 2 0 0) (.ptr 4 0 0) d5 d6 rv ov e0 e1 e2 e3 e4 e5 e6 e7 e8 e9 f0 f1 f2 f3 f4 f5 f6 f7 ((MB ch m).getD Av) (I (ct m).length) (I i) H=x:=by
 intro f
 induction f with
 |zero=>intro i l ws b1 rv H _ h;omega
 |succ f ih=>
  intro i l ws b1 rv H hi hf h hr;rw[mN];unfold SR IA A3;by_cases w:i<(ct m).length
  ·obtain⟨a,X,el⟩:=(h.os.cv m).ia w;rw[uZ w]at h hr;have ad:=B6U (gs:=gs) (es:=es) (out:=out) (rem:=(ct m)[i]::(ct m).drop (i+1)) (x:=(ct m)[i]);have P:1<=VU gs es out ((ct m)[i]::(ct m).drop (i+1)) (ct m)[i]:=Ri.pos;have ab:((ct m)[i]::(ct m).drop (i+1)).length<=(ct m).length:=by rw[Mi,l0u];omega
   rw[Fz (by omega),Cu];simp only[BE];have M:∀(s:AR)(F:Value->Af),Mj (S s) F=F (SV s):=λs F=>id rfl;rw[X,el];rw[AF (p:=0) rfl h.os.p1 (by simp),M];show ZE Ab false (.mp 1) (SV (ct m)[i]) H _=_;rw[h.os.lw,gK (by omega) (by omega),M];obtain⟨g,B,r,h2,t⟩:=h.os.put (s:=(ct m)[i]) (VU gs es out ((ct m)[i]::(ct m).drop (i+1)) (ct m)[i]-1);show My (.mp 1) (SV (ct m)[i]) (I ((VU gs es out ((ct m)[i]::(ct m).drop (i+1)) (ct m)[i]-1:Nat):Int)) H _=_;rw[r];rw[Ri.dec]at h2;have n1:∀u y,u≠1->Ai H u=some y->Ai B u=some y:=λu y d j=>by rw[t,Ag d];exact j
   rw[AF (p:=0) rfl h2.p1 (by simp),M];show ZE Ab false (.mp 1) (SV (ct m)[i]) B _=_;rw[h2.lw];have b:Mo gs out l (VU gs es out ((ct m).drop (i+1))) ct (Ma ws (ct m)[i] (VU gs es out ((ct m)[i]::(ct m).drop (i+1)) (ct m)[i]-1)) ch g b3 rv ov B:=
    ⟨h2,h.rd.kp λu y d j=>n1 u y (by have:=(h.rr u d).1;omega) j,h.ot.kp λu y d j=>n1 u y (by have:=(h.oo u d).1;omega) j,h.rr,h.oo⟩
   have Y:∀(k:Nat)(K:K2),Ar Ab .eql (I (k:Int)) (AV.v (.int .i64 0)) K=K (Bo (decide (k=0))):=λk K=>by
    have e:decide ((k:Int)=0)=decide (k=0):=decide_eq_decide.2 (by omega);rw[Cl,e]
   rw[Y];clear r t;by_cases C:VU gs es out ((ct m).drop (i+1)) (ct m)[i]=0
   ·rw[HR C,Cu];have ac:=hr.len;obtain⟨v',V,a1,a2,D,J⟩:=C4t (ct m)[i] b.rd b.os.wf (by omega);rw[a1,Db (by omega)];have h4:=b.os.wf.lt b.os.p3;refine ih (i+1) (l++[(ct m)[i]]) _ g v' V (by omega) (by omega) ⟨b.os.kp (D.wf b.os.wf) λu y d j=>D.keep b.os.wf u y j λhc=>?_,a2,b.ot.kp λu y d j=>D.keep b.os.wf u y j λhc=>(b.rr u hc).2.1 d,λu d=>⟨?_,λhc=>?_,λp hc=>?_⟩,b.oo⟩ (hr.step.1 C)
    ·rcases d with d|⟨p,hp⟩
     ·have:=(b.rr u hc).1;omega
     ·exact(b.rr u hc).2.2 p hp
    ·have:=J u d;omega
    ·have Z:=J u d;have g2:=b.ot.lt b.os.wf hc;omega
    ·have Z:=J u d;have g2:=(b.os.cv p).lt b.os.wf hc;omega
   ·rw[HW C,AZ,Db (by omega)];exact ih (i+1) l _ g rv B (by omega) (by omega) b (hr.step.2 C)
  ·rw[Fp (by omega),AZ];have:i=(ct m).length:=by omega
   subst this;rw[List.drop_length]at h hr;exact hx l ws b1 rv H h hr
def B1T{H:Hp}:Bx Aq Ah H K=K (.ptr (As H) 0 0) ((As H,c_ Aq [S []])::H):=by
 unfold Bx;rw[CP,Ca];rfl
def B0w(h:lH gs out=[]):∀N,lP gs N out=out:=by
 intro N;cases N with
 |zero=>rfl
 |succ N=>
  unfold lP;rw[h];rfl
def B9I{aa:AV->KV}(hb:es.length<1000)(hg:gs.length<=8)(hL:200000<L)(hn:(gs.map Cd.id).Nodup)(hE:∀e:wT,e∈es↔e.1∈gs.map Cd.id/\e.2∈QJ gs e.1){r:List AR}(hx:∀ov H,Bk H Aq 1 ov r.length (AE r)->(r=[]->ov=Av)->Ai H 0=some (c_ CH [gV gs])->aa (.ptr 0 0 0) ov H=x):
 ∀(N f:Nat)(out l:List AR)(ws:List (AR×Nat))(b1:Option (Hb×Nat))(rv ov:AV)(H:Hp)(z0 z1 z2:AV),N<f->gs.length<=out.length+N->OrdK gs out->Mo gs out l (VU gs es out []) (jQ gs es) ws ch b1 b3 rv ov H->Ri gs es out [] l->(out=[]->ov=Av)->lP gs N out=r->
 SQ (L+20) (r! L (n+4)) K aa f a0 a1 (.ptr 0 0 0) (.ptr 2 0 0) (.ptr 4 0 0) d5 d6 rv ov e0 e1 e2 e3 e4 e5 e6 e7 e8 e9 f0 f1 f2 f3 f4 f5 f6 f7 z0 z1 z2 H=x:=by
 intro N
 induction N with
 |zero=>
  intro f out l ws b1 rv ov H z0 z1 z2 hf R ho h hr h0 b;cases f with
  |zero=>omega
  |succ f=>
   have hl:l=[]:=by
    have i:=hr.perm hE hn;rw[A1a ho (by omega)]at i;exact i.eq_nil
   subst hl;rw[VC];unfold OH A3;have el:∀{K:K2},Bh Ac rv K=K (I ((0:Nat):Int)):=λ{K}=>h.rd.len;have O:∀{K:K2},Ar Ab .gtr (I ((0:Nat):Int)) (AV.v (.int .i64 0)) K=K (Bo false):=λ{K}=>by rw[Ef];rfl
   rw[el,O,AZ];rw[<-b]at hx;exact hx ov H h.ot h0 h.os.net
 |succ N ih=>
  intro f out l ws b1 rv ov H z0 z1 z2 hf R ho h hr h0 b;cases f with
  |zero=>omega
  |succ f=>
   have i:=hr.perm hE hn;rw[VC];unfold OH A3;rw[h.rd.len];cases Y:Et (lH gs out) with
   |nil=>
    have X:lH gs out=[]:=by
     have:=(Bq (lH gs out)).length_eq;rw[Y]at this;exact mH this.symm
    have hl:l=[]:=by rw[X]at i;exact i.eq_nil
    subst hl;have O:∀{K:K2},Ar Ab .gtr (I (([]:List AR).length:Int)) (AV.v (.int .i64 0)) K=K (Bo false):=λ{K}=>by rw[Ef];rfl
    rw[O,AZ];rw[B0w X]at b;subst b;exact hx ov H h.ot h0 h.os.net
   |cons m t=>
    have C:lP gs N (out++[m])=r:=by
     unfold lP at b;rw[Y]at b;exact b
    have B:m∈lH gs out:=(Bq _).mem_iff.1 (by rw[Y];simp);have hm:m∈l:=i.mem_iff.2 B;have V:∀y∈l,m<=y:=λy g=>by
     have h1:y∈m::t:=by rw[<-Y];exact(Bq _).mem_iff.2 (i.mem_iff.1 g)
     have h2:=DR (lH gs out);rw[Y,l2p]at h2;rcases Xh.1 h1 with rfl|h1
     ·exact(XA6 _ _).elim id id
     ·exact h2.1 y h1
    have ax:=hr.len;have ay:0<l.length:=List.length_pos_of_mem hm;have O:∀{K:K2},Ar Ab .gtr (I (l.length:Int)) (AV.v (.int .i64 0)) K=K (Bo true):=λ{K}=>by rw[Ef,HR (by omega)]
    rw[O,Cu];simp only[BE];obtain⟨a,q,ha,hq⟩:=h.rd.fx (D:=depth-1);have ae:a=Ls l:=by
     rcases ha with rfl|⟨rfl,_⟩
     ·rfl
     ·simp at hm
    subst ae;rw[AP (C1M (n:=n+3) hm V (by omega) (by omega)) (Ao hq AH)];obtain⟨M,w,A,w1,k1⟩:=Ip (e:=Aq) (zs:=[S []]) (vs:=[S m]) h.os.wf rfl;rw[B1T,D6 (cs:=[S []]) (Ax (by simp)) (by simp) rfl rfl rfl];show(r! L (n+4)).call Bn [rv,.fn (.func J2) [] [.ptr (As H) 0 0]] (upd ((As H,c_ Aq [S []])::H) (As H) (c_ Aq [S m])) _=_;rw[<-w];have aq:As M=As H+1:=by rw[w,B4];rfl
    have ah:OsK gs ws ch b1 b3 (VU gs es out []) (jQ gs es) M:=h.os.kp w1 λu y _ g=>(k1 u y g).1;have am:NB M rv l:=h.rd.kp λu y _ g=>(k1 u y g).1;have aj:Bk M Aq 1 ov out.length (AE out):=h.ot.kp λu y _ g=>(k1 u y g).1;have J:∀u,A9 rv u->u<As H:=λu d=>h.rd.lt h.os.wf d;clear w;refine A98 (n:=n+2) (P:=λs=>decide (s=m)) w1 am (by omega) hL ⟨.fn (.func J2) [] [.iptr [S m]],_,zY (D:=depth-1) (Ao (Xo (D:=depth-2) A (Ao (q:=false) CC AH)) AH),λs K=>?_⟩ (λH' hk s K=>?_) λv' H2 g1 g2 Q=>?_
    ·rw[I' rfl rfl];exact AP (C1O (n:=n+1)) (Ao (q:=false) CC (Ao (q:=false) Rq AH))
    ·rw[I' rfl rfl];have j:=hk.keep w1 _ _ A λhc=>by have:=J _ hc;omega
     exact AP (C1O (n:=n+2)) (Ao (q:=false) CC (Ao (Xo (D:=depth-1) j (Ao (q:=false) CC AH)) AH))
    ·have w2:=Q.wf w1;have j:=Q.keep w1 _ _ A λhc=>by have:=J _ hc;omega
     have ai:OsK gs ws ch b1 b3 (VU gs es out []) (jQ gs es) H2:=ah.kp w2 λu y d g=>Q.keep w1 u y g λhc=>by
      rcases d with d|⟨p,i⟩
      ·have:=(h.rr u hc).1;omega
      ·exact(h.rr u hc).2.2 p i
     have ak:Bk H2 Aq 1 ov out.length (AE out):=aj.kp λu y d g=>Q.keep w1 u y g λhc=>(h.rr u hc).2.1 d;have az:=ho.len;rw[AF (p:=0) rfl j (by simp)];show(FU Aq 1 Ah 1 [(0,1,S m)] H2 λv1 M=>DK Aq 1 Ah Ac ov v1 M _)=_;obtain⟨ab,H3,j1,j2,j3,j4,j5,j6⟩:=A6m m ak w2 (by omega);rw[j1];have ar:=Q.nx;have ag:∀u,(u<5\/∃p,A9 ((MB ch p).getD Av) u)->¬A9 ov u:=λu d hc=>by
      rcases d with d|⟨p,i⟩
      ·have:=(h.oo u hc).1;omega
      ·exact(h.oo u hc).2 p i
     have k:OsK gs ws ch b1 b3 (VU gs es out []) (jQ gs es) H3:=ai.kp j3 λu y d g=>j5 u y g (ag u d);have af:=j5 _ _ j λhc=>by have:=h.ot.lt h.os.wf hc;omega
     have ek:∀(s:AR)(F:Value->Af),Mj (S s) F=F (SV s):=λs F=>id rfl;rw[AF (p:=0) rfl k.p3 (by simp),AF (p:=0) rfl af (by simp)];show Mj (S m) (λq=>ZE Ac false (.mp 3) q H3 _)=_;rw[ek,k.lc,(k.cv m).rq.len];have Z:=(Wm.1 B)
     have hw:VU gs es out []=VU gs es (out++[m]) ((jQ gs es m).drop 0):=by rw[rB,A5b Z.1 Z.2.1]
     have h4:=h.os.wf.lt h.os.p3;have ad:(AV.v (.int .i64 0))=I ((0:Nat):Int):=rfl;rw[ad];refine B9H (L:=L) (es:=es) (out:=out++[m]) (ch:=ch) (b3:=b3) (ov:=ab) (ct:=jQ gs es) (m:=m) hb hg (by have:=A00 (gs:=gs) (es:=es) (p:=m);omega) (λl' ap ac ao H' hM hR=>?_) (L+20) 0 (l.filter λs=>!decide (s=m)) ws b1 v' H3 (by omega) (by have:=A00 (gs:=gs) (es:=es) (p:=m);omega) ?_ ?_
     ·exact ih f (out++[m]) l' ap ac ao ab H' _ _ _ (by omega) (by rw[EK,List.length_singleton];omega) (ho.step B) hM hR (by simp) C
     ·rw[<-hw];refine⟨k,g1.kp λu y d g=>j5 u y g λhc=>(h.rr u (g2 u d)).2.1 hc,j2,λu d=>⟨(h.rr u (g2 u d)).1,λhc=>?_,(h.rr u (g2 u d)).2.2⟩,λu d=>⟨?_,λp hc=>?_⟩⟩
      ·have b1:=j6 u hc;have b2:=J u (g2 u d);omega
      ·have b1:=j6 u d;omega
      ·have b1:=j6 u d;have b2:=(h.os.cv p).lt h.os.wf hc;omega
     ·rw[rB];exact hr.take (λe he=>((hE e).1 he).1) hm
end
end
section
variable{L n:Nat}
def hY(gs:ed):AV:=if gs.length<=(Wp gs).length then .tup [DD (Wp gs),.v (.int .i64 0)] else .tup [Av,.v (.int .i64 220)]
def B4J(gs:ed):pl 6 (hY gs)=true:=by
 unfold hY;split
 ·have:pl 5 (DD (Wp gs))=true:=by
   cases Wp gs with
   |nil=>rfl
   |cons a l=>
    show(AE (a::l)).all (pl 4)=true;rw[GG];intro y b;obtain⟨s,_,rfl⟩:=Rc.1 b;rfl
  show[DD (Wp gs),AV.v (.int .i64 0)].all (pl 5)=true;simp only[oF,this,l3a];rfl
 ·rfl
section
variable{gs:ed}{x:Af}
def B5x(hn:(gs.map Cd.id).Nodup){done:ed}(d:done.Perm gs)(e:wT):e∈Pp done↔e.1∈gs.map Cd.id/\e.2∈QJ gs e.1:=by
 rw[Y!];constructor
 ·rintro⟨c,hc,h1,h2⟩;have a:=d.mem_iff.1 hc;obtain⟨i,b,rfl⟩:=List.getElem_of_mem a;rw[h1];exact⟨Rc.2 ⟨_,a,rfl⟩,by rw[A5D hn b];exact h2⟩
 ·rintro⟨h1,h2⟩;obtain⟨c,hc,he⟩:=Rc.1 h1;obtain⟨i,b,rfl⟩:=List.getElem_of_mem hc;rw[<-he,A5D hn b]at h2;exact⟨gs[i],d.mem_iff.2 hc,he.symm,h2⟩
def B3a{a:AV}(t:GOk gs)(hL:200000<L)(Y:∀c∈gs,c.ps.length<100)(ha:LA gs a):CS (r! L (n+80)) Ql [a] (hY gs):=by
 intro K V;rw[qD];unfold UF A3;have aj:R9 true depth [a] [a] [] false:=by rcases ha with rfl|⟨_,rfl⟩<;>exact λK=>by kernel_rfl
 have of:∀{K:K2},Ap (r! L (n+79)) LL [a] [] K=K (.tup [gV gs,Bo true]):=λ{K}=>KG (λK V=>B78 (n:=n+15) t (by omega) ha K V) aj;have w0:VS 6 (hY gs) (hY gs)=true:=Tk 6 _ (B4J gs);have h8:=t.len;rw[of,FB,FA];have e0:∀{F:KV},(Bx CH Aj [] λv4 H5=>DF Aj v4 (gV gs) H5 λH6=>F v4 H6)=F (.ptr 0 0 0) [(0,c_ CH [gV gs])]:=λ{F}=>by kernel_rfl
 rw[e0,Eh];show A1 (.v (.bool false)) _ _=_;rw[AZ];have e1:∀{F:AV->KV},(LN Ab [(0,c_ CH [gV gs])] λv9 aa=>Bx IL DY aa λN ab=>DF DY N v9 ab λac=>LN Ac ac λam ad=>Bx EU BI ad λO ae=>DF BI O am ae λaf=>F N O af)=
  F (.ptr 2 0 0) (.ptr 4 0 0) [(4,c_ EU [.mp 3]),(3,.map false [] (some ([],0))),(2,c_ IL [.mp 1]),(1,.map false [] (some ([],0))),(0,c_ CH [gV gs])]:=λ{F}=>by kernel_rfl
 rw[e1];simp only[BE];generalize hH:([(4,c_ EU [.mp 3]),(3,.map false [] (some ([],0))),(2,c_ IL [.mp 1]),(1,.map false [] (some ([],0))),(0,c_ CH [gV gs])]:Hp)=g;have X:OsK gs [] [] (some ([],0)) (some ([],0)) (kK gs []) (jQ gs []) g:=by
  subst hH;exact⟨rfl,rfl,rfl,rfl,rfl,AG (AG (AG (AG (AG FH)))),λx=>rfl,λp=>.inl ⟨rfl,rfl,rfl⟩,λp u d=>absurd d IN,λp p' u d=>absurd d IN⟩
 have i:As g=5:=by subst hH;rfl
 clear hH;have en:∀{K:K2},AD Aj (.ptr 0 0 0) g K=K (gV gs):=λ{K}=>by
  rw[AF (p:=0) rfl X.net (by simp)];rfl
 rw[en,A94 (n:=n+78),Wb,i];have w:Ai ((5,qY gs (some none))::g) 5=some (qY gs (some none)):=by
  have:=Ax (H:=g) (x:=qY gs (some none)) (by simp[qY]);rw[i]at this;exact this
 have Z:Wf ((5,qY gs (some none))::g):=by
  have:=AG (x:=qY gs (some none)) X.wf;rw[i]at this;exact this
 have o5:OsK gs [] [] (some ([],0)) (some ([],0)) (kK gs []) (jQ gs []) ((5,qY gs (some none))::g):=X.kp Z λu y _ e=>by
  have:=A7 (x:=qY gs (some none)) (X.wf.lt e) e;rw[i]at this;exact this
 have ap:As ((5,qY gs (some none))::g)=6:=rfl;show(r! L (n+79)).call Fi [.yl 5,.iptr [gV gs]] ((5,qY gs (some none))::g) _=_;refine A5l (n:=n+76) (s0:=5) (Q:=C4z gs) w0 h8 Y (by omega) B3X (λes R j ⟨hl,ws,ch,b1,b3,h⟩ ao k=>⟨k _ _ (show 5≠6 by decide) hl,ws,ch,b1,b3,h.kp ao λu y d e=>k u y ?_ e⟩) (λes H ⟨_,_,_,_,_,h⟩=>h.wf) ?_ (λdone H hd ⟨hl,ws,ch,b1,b3,h⟩=>?_)
 ·exact(h.ne d).2
 ·refine⟨A7 (Z.lt w) w,[],[],_,_,o5.kp (AG Z) λu y _ e=>A7 (Z.lt e) e⟩
 ·show IR H 5 _=_;rw[Bp hl];show XA4 H 5 .gone _=_;rw[Dg];have ai:(Pp done).length<1000:=by
   have h1:=A25 done λc hc=>Y c (hd.mem_iff.1 hc);have h2:=hd.length_eq;omega
  have h1:OsK gs ws ch b1 b3 (kK gs (Pp done)) (jQ gs (Pp done)) (upd H 5 .gone):=h.kp (Bj h.wf) λu y d e=>by
   rw[Ag (h.ne d).1];exact e
  generalize upd H 5 .gone=R at h1;show AD Aj (.ptr 0 0 0) R _=_;have ag:∀{K:K2},AD Aj (.ptr 0 0 0) R K=K (gV gs):=λ{K}=>by
   rw[AF (p:=0) rfl h1.net (by simp)];rfl
  rw[ag];refine A8X (n:=n+73) w0 h8 (by omega) h1.wf λv H2 hv ar=>?_;have f:OsK gs ws ch b1 b3 (kK gs (Pp done)) (jQ gs (Pp done)) H2:=h1.kp hv.wf λu y _ e=>hv.keep u y e;have aq:(Et (gs.map Cd.id)).length=gs.length:=by rw[(Bq _).length_eq,UH]
  have m:∀(j:Hp)(D:Nat),Ai j 2=some (c_ IL [.mp 1])->Ai j 1=some (.map false (Di iV ws) b1)->Fx true (D+2) (.ptr 2 0 0) (.iptr [.imap (Di iV ws)]) j true:=λj D h2 h3=>
   Xo (D:=D+1) h2 (Ao (C0g (D:=D) h3) AH)
  have J:∀s,decide (0<(MB ws s).getD 0)=decide (0<kK gs (Pp done) s):=λs=>by rw[h1.wv]
  refine A98 (n:=n+77) (P:=λs=>decide (0<kK gs (Pp done) s)) hv.wf hv.sl.rq (by omega) hL ⟨.fn (.func Lp) [] [.iptr [.imap (Di iV ws)]],_,zY (D:=depth-1) (Ao (m H2 (depth-3) f.p1 f.m1) AH),λs K=>?_⟩ (λj hk s K=>?_) λv' H3 g1 g2 g3=>?_
  ·rw[I' rfl rfl];have:=AP (K:=λv=>K v []) (A5f (n:=n+76) (L:=L) (ws:=ws) (s:=s)) (Ao (q:=false) CC (Ao (q:=false) (Rq (H:=[])) AH));rw[J]at this;exact this
  ·rw[I' rfl rfl];have nr:∀u,u<5->¬A9 v u:=λu d hc=>by
    have g1:=hv.new u hc;have g2:=h1.wf.lt h1.p3;omega
   have a1:=hk.keep hv.wf _ _ f.p1 (nr 2 (by decide));have a2:=hk.keep hv.wf _ _ f.m1 (nr 1 (by decide));have:=AP (K:=λv=>K v j) (A5f (n:=n+77) (L:=L) (ws:=ws) (s:=s)) (Ao (q:=false) CC (Ao (m j (depth-2) a1 a2) AH));rw[J]at this;exact this
  ·have nr:∀u,A9 v' u->As R<=u:=λu d=>hv.new u (g2 u d);have h4:=h1.wf.lt h1.p3;have M:OsK gs ws ch b1 b3 (kK gs (Pp done)) (jQ gs (Pp done)) H3:=f.kp (g3.wf hv.wf) λu y d e=>g3.keep hv.wf u y e λhc=>by
    have b1:=hv.new u hc;rcases d with d|⟨p,Y⟩
    ·omega
    ·have b2:=(h1.cv p).lt h1.wf Y;omega
   have hR:Ri gs (Pp done) [] [] ((Et (gs.map Cd.id)).filter λs=>!decide (0<kK gs (Pp done) s)):=by
    refine⟨((Bq _).symm.nodup t.ids).sublist List.filter_sublist,λx=>?_,by simp,by simp⟩;rw[A5c,l2z,(Bq _).mem_iff];refine and_congr Iff.rfl ?_;constructor
    ·intro hh;have:¬0<kK gs (Pp done) x:=by simpa using hh
     exact⟨by simp,by omega⟩
    ·rintro⟨_,hh⟩;simp[hh]
   rw[<-A5c]at M;refine B9I (n:=n+75) (es:=Pp done) (r:=Wp gs) (ch:=ch) (b3:=b3) ai h8 hL t.ids (B5x t.ids hd) (λov H4 C ak B=>?_) gs.length (L+20) [] _ ws b1 v' Av H3 _ _ _ (by omega) (by simp) OrdK.nil ⟨M,g1,.inl ⟨rfl,rfl,rfl⟩,λu d=>⟨?_,IN,λp hc=>?_⟩,λu d=>absurd d IN⟩ hR (λ_=>rfl) rfl
   ·rw[C.rq.len];have ah:∀{K:K2},AD Aj (.ptr 0 0 0) H4 K=K (gV gs):=λ{K}=>by
     rw[AF (p:=0) rfl B (by simp)];rfl
    have em:∀{K:K2},Ze (gV gs) H4 K=K (I (gs.length:Int)):=λ{K}=>by
     show HK (Di DX (gE gs)) 0 (λn=>K (.v (.int .i64 (.ofNat n))))=_;rw[Cy,Kd];have:(Di DX (gE gs)).length=gs.length:=by simp[gE]
     rw[this];rfl
    rw[ah,em];by_cases A:gs.length<=(Wp gs).length
    ·have er:hY gs=.tup [DD (Wp gs),.v (.int .i64 0)]:=by unfold hY;rw[Dq A]
     rw[Fp (by omega),AZ];refine V _ _ λbb=>?_;rw[er];obtain⟨q,hq⟩:=iX (D:=depth-2) (b:=bb) C ak;exact⟨_,eV (D:=depth-1) (Ao hq (Ao (q:=false) CC AH))⟩
    ·have er:hY gs=.tup [Av,.v (.int .i64 220)]:=by unfold hY;rw[CF A]
     rw[Fz (by omega),Cu];refine V _ _ λbb=>?_;rw[er];exact⟨_,eV (D:=depth-1) (Ao (q:=false) CC (Ao (q:=false) CC AH))⟩
   ·have b1:=nr u d;omega
   ·have b1:=nr u d;have b2:=(h1.cv p).lt h1.wf hc;omega
end
end
end Go.Abs
end
