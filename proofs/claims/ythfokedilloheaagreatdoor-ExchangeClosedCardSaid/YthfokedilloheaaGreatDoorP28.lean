import Derived.Test.YthfokedilloheaaGreatDoorP27
set_option linter.all false
set_option maxHeartbeats 100000000
noncomputable section
namespace Go.Abs
open Go.RowKit Go.Proofs
set_option maxRecDepth 100000
section
variable{α:Type}
variable{L n:Nat}
def PX{F:α}{G:α->Af}{x:Af}(h:∀k,k=F->G k=x):jn F G=x:=by rw[BH];exact h F rfl
def AU.kp{H H':Hp}{e sz n:Nat}{v:AV}{cs:Is}(h:AU H e sz v n cs)(k:∀s x,A4 v s->Ai H s=some x->Ai H' s=some x):AU H' e sz v n cs:=by
 rcases h with h|⟨r,q,h1,h2,a⟩
 ·exact .inl h
 ·exact .inr ⟨r,q,h1,k r _ ⟨_,_,_,h1⟩ h2,a⟩
def C52(l:List Nd):∃vs:Hx,l.flatMap N?=vs.map λx=>.v x:=by
 induction l with
 |nil=>exact⟨[],rfl⟩
 |cons x l ih=>
  obtain⟨vs,h⟩:=ih;refine⟨[.int .i64 x.op,.string ⟨⟨x.vn⟩⟩,.string ⟨⟨x.vd⟩⟩,.int .i64 x.u.p0,.int .i64 x.u.q0,.int .i64 x.u.p1,.int .i64 x.u.q1,.int .i64 x.u.p2,.int .i64 x.u.q2,.int .i64 x.u.p3,.int .i64 x.u.q3,.int .i64 x.u.p4,.int .i64 x.u.q4,.int .i64 x.u.p5,.int .i64 x.u.q5,.int .i64 x.u.p6,.int .i64 x.u.q6,
   .string ⟨⟨x.u.fn⟩⟩,.string ⟨⟨x.u.fd⟩⟩,.string ⟨⟨x.u.on⟩⟩,.string ⟨⟨x.u.od⟩⟩,.int .i64 x.u.kd,.int .i64 x.u.sc,.int .i64 x.n,.int .i64 x.l,.int .i64 x.r]++vs,?_⟩
  rw[oK,h,XS];rfl
def ndL(l:List Nd):AV:=match l with
 |[]=>Av
 |x::l=>.list (x::l).length ((x::l).flatMap N?)
def B1a{D:Nat}{b:Bool}{H:Hp}{v:AV}{l:List Nd}(h:AU H AY 26 v l.length (l.flatMap N?))(d:l=[]->v=Av):∃q,Fx b (D+1) v (ndL l) H q:=by
 rcases h with⟨rfl,h2,_⟩|⟨r,q,rfl,h2,c⟩
 ·cases l with
  |nil=>exact⟨false,CA⟩
  |cons a l=>simp at h2
 ·cases l with
  |nil=>have:=d rfl;cases this
  |cons a l=>
   refine⟨true,?_⟩;show Fx b (D+1) _ (.list (a::l).length ((a::l).flatMap N?)) H true;obtain⟨vs,e⟩:=C52 (a::l);rw[e]at h2 c⊢;exact VA (q':=false) h2 c (K7 _root_.id _)
def C4g{y:Nd}{H:Hp}{K:KV}:FV AY 26 AN 1 [(0,26,.agg y.cs)] H K=K (.sl 26 (Ar H) 0 1) ((Ar H,.cells false AY (N? y))::H):=by
 have e:FV AY 26 AN 1 [(0,26,.agg y.cs)] H K=It H (λs=>K (.sl 26 s 0 1) ((s,.cells false AY (N? y))::H)):=r_ rfl;rw[e,Ca]
structure Md(b r z:Nat)(ins:List Int)(id:Int)(ks:Hb)(xs:List Nd)(us:Hb)(v w u:AV)(H:Hp):Prop where
 hb:Ai H b=some (c_ Ve (Fi ins))
 hr:Ai H r=some (Jc id v w u0)
 hz:∃cs,cs.length=23/\Ai H z=some (c_ C4 cs)
 sv:AU H AB 20 v ks.length (ks.flatMap HO)
 nv:ks=[]->v=Av
 sw:AU H AY 26 w xs.length (xs.flatMap N?)
 nw:xs=[]->w=Av
 su:AU H AB 20 u us.length (us.flatMap HO)
 nu:us=[]->u=Av
 br:b≠r
 zr:z≠r
 av:∀s,A4 v s->s≠b/\s≠r/\s≠z/\¬A4 w s/\¬A4 u s
 aw:∀s,A4 w s->s≠b/\s≠r/\s≠z/\¬A4 v s/\¬A4 u s
 au:∀s,A4 u s->s≠b/\s≠r/\s≠z/\¬A4 v s/\¬A4 w s
 wf:Wf H
section
variable{K:KV}{x:Af}{ins:List Int}{id:Int}{ks us:Hb}{xs:List Nd}{v w u:AV}{b r z m:Nat}{H H':Hp}
def Md.grow(h:Md b r z ins id ks xs us v w u H)(wf:Wf H')(kp:∀s x,Ai H s=some x->Ai H' s=some x):Md b r z ins id ks xs us v w u H':=by
 obtain⟨cs,c1,c2⟩:=h.hz;exact⟨kp _ _ h.hb,kp _ _ h.hr,⟨cs,c1,kp _ _ c2⟩,h.sv.kp λs x _=>kp s x,h.nv,h.sw.kp λs x _=>kp s x,h.nw,h.su.kp λs x _=>kp s x,h.nu,h.br,h.zr,h.av,h.aw,h.au,wf⟩
structure Oth(b r z:Nat)(v w u:AV)(m:Nat):Prop where
 b:m≠b
 r:m≠r
 z:m≠z
 v:¬A4 v m
 w:¬A4 w m
 u:¬A4 u m
def Md.oth(h:Md b r z ins id ks xs us v w u H):Oth b r z v w u (Ar H):=by
 obtain⟨cs,c1,c2⟩:=h.hz;have h1:=h.wf.lt h.hb;have h2:=h.wf.lt h.hr;have a:=h.wf.lt c2;exact⟨by omega,by omega,by omega,λe=>by have:=h.sv.lt h.wf e;omega,λe=>by have:=h.sw.lt h.wf e;omega,λe=>by have:=h.su.lt h.wf e;omega⟩
theorem Md.upd(h:Md b r z ins id ks xs us v w u H)(o:Oth b r z v w u m)(y:Row):Md b r z ins id ks xs us v w u (upd H m y):=by
 obtain⟨cs,c1,c2⟩:=h.hz;have kp:∀s x,s≠m->Ai H s=some x->Ai (Go.Abs.upd H m y) s=some x:=λs x a c=>by rw[Ag a];exact c
 exact⟨kp _ _ (Ne.symm o.b) h.hb,kp _ _ (Ne.symm o.r) h.hr,⟨cs,c1,kp _ _ (Ne.symm o.z) c2⟩,h.sv.kp λs x a=>kp s x (λe=>o.v (e▸a)),h.nv,h.sw.kp λs x a=>kp s x (λe=>o.w (e▸a)),h.nw,h.su.kp λs x a=>kp s x (λe=>o.u (e▸a)),h.nu,h.br,h.zr,h.av,h.aw,h.au,Bi h.wf⟩
def mT{α β:Type}(f:α->List β)(l:List α)(a:α):(l++[a]).flatMap f=l.flatMap f++f a:=by simp
def Md.v1(h:Md b r z ins id ks xs us v w u H)(k:Nat)(g:ks.length<100):∃c H',(∀K:KV,Dy AB 20 A0 Ap v (.sl 20 (Ar H) 0 1) ((Ar H,.cells false AB (HO k))::H) K=K c H')/\
 (∀K:Ru,DN Ap (.ptr r 1 0) c H' K=K (Go.Abs.upd H' r (Jc id c w u0)))/\Md b r z ins id (ks++[k]) xs us c w u (Go.Abs.upd H' r (Jc id c w u0)):=by
 obtain⟨c,H',a1,a2,j,p,i,f⟩:=vU (ie:=A0) (i2:=Ap) (ys:=HO k) h.sv h.wf rfl rfl (by decide) rfl (λ_=>rfl) (by show(_+1)*192<=_;omega) (by omega);obtain⟨cs,c1,c2⟩:=h.hz;have h1:=h.wf.lt h.hb;have h2:=h.wf.lt h.hr;have q:=h.wf.lt c2;have d:=i _ _ h.hr λe=>(h.av _ e).2.1 rfl;have kp:∀s x,s≠r->¬A4 v s->Ai H s=some x->Ai (Go.Abs.upd H' r (Jc id c w u0)) s=some x:=λs x a hn g=>by rw[Ag a];exact i s x g hn
 refine⟨c,H',a1,λK=>D5 d (show 1<23 by decide) rfl (AU.cell a2) (AU.one a2),kp _ _ h.br (λe=>(h.av _ e).1 rfl) h.hb,AC d,⟨cs,c1,kp _ _ h.zr (λe=>(h.av _ e).2.2.1 rfl) c2⟩,?_,λe=>by simp at e,
  h.sw.kp λs x a=>kp s x (h.aw s a).2.1 (h.aw s a).2.2.2.1,h.nw,h.su.kp λs x a=>kp s x (h.au s a).2.1 (h.au s a).2.2.2.1,h.nu,h.br,h.zr,λs a=>?_,λs a=>?_,λs a=>?_,Bi j⟩
 ·rw[Ez,mT];refine AU.kp a2 λs x a g=>?_;have:=f s a;rw[Ag (by omega)];exact g
 ·have:=f s a;exact⟨by omega,by omega,by omega,λe=>by have:=h.sw.lt h.wf e;omega,λe=>by have:=h.su.lt h.wf e;omega⟩
 ·obtain⟨q1,q2,q3,q4,q5⟩:=h.aw s a;exact⟨q1,q2,q3,λe=>by have:=f s e;have:=h.sw.lt h.wf a;omega,q5⟩
 ·obtain⟨q1,q2,q3,q4,q5⟩:=h.au s a;exact⟨q1,q2,q3,λe=>by have:=f s e;have:=h.su.lt h.wf a;omega,q5⟩
def Md.w1(h:Md b r z ins id ks xs us v w u H)(y:Nd)(g:xs.length<100):∃c H',(∀K:KV,Dy AY 26 AN Az w (.sl 26 (Ar H) 0 1) ((Ar H,.cells false AY (N? y))::H) K=K c H')/\
 (∀K:Ru,DN Az (.ptr r 2 0) c H' K=K (Go.Abs.upd H' r (Jc id v c u0)))/\Md b r z ins id ks (xs++[y]) us v c u (Go.Abs.upd H' r (Jc id v c u0))/\(∀s x,s≠r->¬A4 w s->Ai H s=some x->Ai (Go.Abs.upd H' r (Jc id v c u0)) s=some x):=by
 obtain⟨c,H',a1,a2,j,k,i,f⟩:=vU (ie:=AN) (i2:=Az) (ys:=N? y) h.sw h.wf rfl rfl (by decide) rfl (λ_=>rfl) (by show(_+1)*256<=_;omega) (by omega);obtain⟨cs,c1,c2⟩:=h.hz;have h1:=h.wf.lt h.hb;have h2:=h.wf.lt h.hr;have p:=h.wf.lt c2;have d:=i _ _ h.hr λe=>(h.aw _ e).2.1 rfl;have kp:∀s x,s≠r->¬A4 w s->Ai H s=some x->Ai (Go.Abs.upd H' r (Jc id v c u0)) s=some x:=λs x a hn g=>by rw[Ag a];exact i s x g hn
 refine⟨c,H',a1,λK=>D5 d (show 2<23 by decide) rfl (AU.cell a2) (AU.one a2),⟨kp _ _ h.br (λe=>(h.aw _ e).1 rfl) h.hb,AC d,⟨cs,c1,kp _ _ h.zr (λe=>(h.aw _ e).2.2.1 rfl) c2⟩,
  h.sv.kp λs x a=>kp s x (h.av s a).2.1 (h.av s a).2.2.2.1,h.nv,?_,λe=>by simp at e,h.su.kp λs x a=>kp s x (h.au s a).2.1 (h.au s a).2.2.2.2,h.nu,h.br,h.zr,λs a=>?_,λs a=>?_,λs a=>?_,Bi j⟩,kp⟩
 ·rw[Ez,mT];refine AU.kp a2 λs x a g=>?_;have:=f s a;rw[Ag (by omega)];exact g
 ·obtain⟨q1,q2,q3,q4,q5⟩:=h.av s a;exact⟨q1,q2,q3,λe=>by have:=f s e;have:=h.sv.lt h.wf a;omega,q5⟩
 ·have:=f s a;exact⟨by omega,by omega,by omega,λe=>by have:=h.sv.lt h.wf e;omega,λe=>by have:=h.su.lt h.wf e;omega⟩
 ·obtain⟨q1,q2,q3,q4,q5⟩:=h.au s a;exact⟨q1,q2,q3,q4,λe=>by have:=f s e;have:=h.su.lt h.wf a;omega⟩
def Md.u1(h:Md b r z ins id ks xs us v w u H)(k:Nat)(d:us.length<100):∃f H',(∀K:KV,Dy AB 20 A0 Ap u (.sl 20 (Ar H) 0 1) ((Ar H,.cells false AB (HO k))::H) K=K f H')/\Md b r z ins id ks xs (us++[k]) v w f H':=by
 obtain⟨f,H',a1,a2,i,j,c,g⟩:=vU (ie:=A0) (i2:=Ap) (ys:=HO k) h.su h.wf rfl rfl (by decide) rfl (λ_=>rfl) (by show(_+1)*192<=_;omega) (by omega);obtain⟨cs,c1,c2⟩:=h.hz;have h1:=h.wf.lt h.hb;have h2:=h.wf.lt h.hr;have p:=h.wf.lt c2;refine⟨f,H',a1,c _ _ h.hb (λe=>(h.au _ e).1 rfl),c _ _ h.hr (λe=>(h.au _ e).2.1 rfl),⟨cs,c1,c _ _ c2 (λe=>(h.au _ e).2.2.1 rfl)⟩,
  h.sv.kp λs x a d=>c s x d (h.av s a).2.2.2.2,h.nv,h.sw.kp λs x a d=>c s x d (h.aw s a).2.2.2.2,h.nw,?_,λe=>by simp at e,h.br,h.zr,λs a=>?_,λs a=>?_,λs a=>?_,i⟩
 ·rw[Ez,mT];exact a2
 ·obtain⟨q1,q2,q3,q4,q5⟩:=h.av s a;exact⟨q1,q2,q3,q4,λe=>by have:=g s e;have:=h.sv.lt h.wf a;omega⟩
 ·obtain⟨q1,q2,q3,q4,q5⟩:=h.aw s a;exact⟨q1,q2,q3,q4,λe=>by have:=g s e;have:=h.sw.lt h.wf a;omega⟩
 ·have:=g s a;exact⟨by omega,by omega,by omega,λe=>by have:=h.sv.lt h.wf e;omega,λe=>by have:=h.sw.lt h.wf e;omega⟩
def QD{s j:Nat}{K:K2}:CL j (.ptr s 0 0) K=K (.ptr s j 0):=by rw[fA,Kk]
def Md.ld1(h:Md b r z ins id ks xs us v w u H){K:K2}:AE Ap (.ptr r 1 0) H K=K v:=AL (p:=1) rfl h.hr (show 1<23 by decide)
def Md.ld2(h:Md b r z ins id ks xs us v w u H){K:K2}:AE Az (.ptr r 2 0) H K=K w:=AL (p:=2) rfl h.hr (show 2<23 by decide)
def ksM(ins:List Int)(i:Nat):Hb:=(ins.take i).map λc=>(pk c 7).toNat
def B4Y{i:Nat}(h:i<ins.length):ksM ins (i+1)=ksM ins i++[(pk ins[i] 7).toNat]:=by
 unfold ksM;rw[oJ h,XS];rfl
def C2K{count:Int}{t ex d0 d1 d2:AV}{d:AV->AV->AV->AV->AV->AV->AV->KV}(D:100<L)(hi:ins.length=3)(j:∀c∈ins,J8 c)(hc:J8 count)(g:∀v H,Md b r z ins id (ksM ins ((pk count 3).toNat+1)) [] [] v Av Av H->d (I count) t ex (.ptr b 0 0) (.ptr z 0 0) (.ptr r 0 0) (I (((pk count 3).toNat+1:Nat):Int)) d2 H=x):
 ∀(f i:Nat)(v:AV)(H:Hp),i<=(pk count 3).toNat+1->(pk count 3).toNat+1-i<f->Md b r z ins id (ksM ins i) [] [] v Av Av H->
 Uf (L+20) (r! L (n+42)) K d f (I count) t ex (.ptr b 0 0) (.ptr z 0 0) (.ptr r 0 0) (I i) d0 d1 d2 H=x:=by
 have pr:=Ft (c:=count) (n:=3) (by decide);intro f
 induction f with
 |zero=>intro i v H _ h;omega
 |succ f ih=>
  intro i v H y F a;rw[pG];unfold Uh Nc A2;have q:∀H K,Aq (r! L (n+42)) Ct [I count,.v (.int .i64 3)] H K=K (I (pk count 3)):=MO (n:=n+41) hc (by decide) (by decide);rw[q,jL];by_cases h:i<=(pk count 3).toNat
  ·have e:i<ins.length:=by omega
   have hb:=a.hb;have B:∀{K},AE Ac (.ptr b i 0) H K=K (I ins[i]):=λ{K}=>by rw[AL (p:=i) rfl a.hb (by simp[Fi];omega),Xg e]
   have ia:∀{K:K2},D1 RR (.ptr b 0 0) (I i) K=K (.ptr b i 0):=λ{K}=>EO i rfl rfl (by omega);have un:∀{H K},Aq (r! L (n+42)) Gu [I ins[i]] H K=K (.agg (CN (uu (pk ins[i] 7).toNat))):=λ{H K}=>A3x (n:=n) (j _ (NT e)) H K;have k:(ksM ins i).length<100:=by simp[ksM];omega
   obtain⟨C,H',a1,a2,s⟩:=a.v1 (pk ins[i] 7).toNat k;have ok:fB v v=true:=A0Q a.sv;have A:∀{K},AE Ap (.ptr r 1 0) ((Ar H,Row.cells false AB (HO (pk ins[i] 7).toNat))::H) K=K v:=λ{K}=>AL (p:=1) rfl (A6 (a.wf.lt a.hr) a.hr) (show 1<23 by decide);rw[GI (by omega),Co];simp only[QD,B6,a.ld1,ia,B,un,A81,BW,a1,a2,A];rw[B0D ok,Dd (by omega)];rw[<-B4Y e]at s;exact ih (i+1) C _ (by omega) (by omega) s
  ·have:i=(pk count 3).toNat+1:=by omega
   subst this;rw[HN (by omega),Ba];exact g v H a
def C2L{a1 a2 i k d0:AV}{c:AV->AV->AV->AV->AV->AV->AV->AV->KV}(J:100<L)(hb:ks.length<=3)(e:∀w u H,Md b r z ins id ks (L2 ks) ks v w u H->c a1 a2 i (.ptr b 0 0) (.ptr z 0 0) (.ptr r 0 0) k u (I ks.length) H=x):
 ∀(f j:Nat)(w u:AV)(H:Hp),j<=ks.length->ks.length-j<f->Md b r z ins id ks ((List.range j).map ZZ) (ks.take j) v w u H->
 Ug (L+20) (r! L (n+42)) K c f a1 a2 i (.ptr b 0 0) (.ptr z 0 0) (.ptr r 0 0) k u (I j) d0 H=x:=by
 intro f
 induction f with
 |zero=>intro j w u H _ h;omega
 |succ f ih=>
  intro j w u H C M d;rw[pH];unfold Ui DI HV A2;rw[QD,d.ld1,Ly (t:=Ap) rfl d.sv];by_cases h:j<ks.length
  ·have q:∀{K:K2},BR AN [(0,1,.v (.int .i64 2)),(23,1,I j)] K=K (.agg (ZZ j).cs):=λ{K}=>r_ rfl;obtain⟨F,H',b1,b2,g, -⟩:=d.w1 (ZZ j) (by simp;omega);obtain⟨a,A,B⟩:=A5i g.sv h;obtain⟨D,p,s,y⟩:=g.u1 ks[j] (by simp;omega);rw[FG (by omega),Co,QD,d.ld2,q,C4g,b1,QD,b2,QD,g.ld1,A,B,A81,s,Dd (by omega)];refine ih (j+1) F D p (by omega) (by omega) ?_;rw[List.range_succ,XS,oJ h];exact y
  ·have:j=ks.length:=by omega
   subst this;rw[FB (by omega),Ba];rw[wC]at d;exact e w u H d
end
end
section
variable{D:Nat}{y:Nd}
variable{L n:Nat}
def exO(ks:Hb)(q a13 b4 k7 e5 l r:Nat):Ex:=match q with
 |0=>.cn (mR a13 b4) k7
 |1=>.inp l
 |6=>match Yh (ks.getD l 0) e5 with
  |some k=>.po l e5 k
  |none=>.no
 |7=>.no
 |q=>match VM (q-2) (ks.getD l 0) (ks.getD r 0) with
  |some k=>.bi (q+1) l r k
  |none=>.no
def exM(ks:Hb)(y0 y1 y2 y3:Int):Ex:=exO ks (pk y0 8).toNat (pk y1 13).toNat (pk y2 4).toNat (pk y3 7).toNat (pk y2 5).toNat (pk y1 ks.length).toNat (pk y2 ks.length).toNat
theorem B1p{ks:Hb}{q a13 b4 k7 e5 l r:Nat}(h:2<=q)(a:q<6):exO ks q a13 b4 k7 e5 l r=match VM (q-2) (ks.getD l 0) (ks.getD r 0) with
 |some k=>.bi (q+1) l r k
 |none=>.no:=by
 obtain rfl|rfl|rfl|rfl:q=2\/q=3\/q=4\/q=5:=by omega
 all_goals rfl
def A1I{a b:Nat}(c:a<13)(hb:b<4):mR a b<33:=by
 have:=G9.1 (show((List.range 52).all λi=>decide (mR (i/4) (i%4)<33))=true by kernel_rfl) (4*a+b) (KT.2 (by omega));rw[show(4*a+b)/4=a by omega,show(4*a+b)%4=b by omega]at this;simpa using this
def Oi{c m:Int}(h:0<m):∃k:Nat,pk c m=k/\(k:Int)<m/\(pk c m).toNat=k:=by
 have:=Ft (c:=c) h;exact⟨(pk c m).toNat,by omega,by omega,rfl⟩
def C0t{ks:Hb}{y0 y1 y2 y3:Int}(h1:1<=ks.length):(exM ks y0 y1 y2 y3).Ok ks:=by
 obtain⟨q, -,h2,f⟩:=Oi (c:=y0) (m:=8) (by decide);obtain⟨a, -,s,g⟩:=Oi (c:=y1) (m:=13) (by decide);obtain⟨b, -,hb,h⟩:=Oi (c:=y2) (m:=4) (by decide);obtain⟨k, -,t,j⟩:=Oi (c:=y3) (m:=7) (by decide);obtain⟨e, -,he,i⟩:=Oi (c:=y2) (m:=5) (by decide);obtain⟨l, -,A,el⟩:=Oi (c:=y1) (m:=ks.length) (by omega);obtain⟨r, -,hr,p⟩:=Oi (c:=y2) (m:=ks.length) (by omega);unfold exM;rw[f,g,h,j,i,el,p];by_cases hq:2<=q/\q<6
 ·rw[B1p hq.1 hq.2];cases d:VM (q-2) (ks.getD l 0) (ks.getD r 0) with
  |none=>exact trivial
  |some k=>exact⟨by omega,by omega,by omega,by omega,d⟩
 ·obtain rfl|rfl|rfl|rfl:q=0\/q=1\/q=6\/q=7:=by omega
  ·exact⟨A1I (by omega) (by omega),by omega⟩
  ·show l<ks.length;omega
  ·show(match Yh (ks.getD l 0) e with
    |some k=>Ex.po l e k
    |none=>.no).Ok ks
   cases d:Yh (ks.getD l 0) e with
   |none=>exact trivial
   |some k=>exact⟨by omega,by omega,d⟩
  ·exact trivial
section
variable{K:KV}{x:Af}{ins:List Int}{id:Int}{ks us:Hb}{xs:List Nd}{v w u:AV}{b r z m:Nat}{H H':Hp}{y0 y1 y2 y3:Int}
def A5j(h:1<=ks.length):RO ks=BS ks:=by cases ks with|nil=>simp at h|cons _ _=>rfl
def A5H(h:1<=xs.length):ndL xs=Cx xs:=by cases xs with|nil=>simp at h|cons _ _=>rfl
def Md.proc(h:Md b r z ins id ks xs us v w u H)(h1:1<=ks.length)(h2:1<=xs.length){bb:Bool}:∃q,Fx bb (D+2) (.agg (BL id v w u0)) (.agg (BL id (BS ks) (Cx xs) u0)) H q:=by
 obtain⟨q1,a⟩:=mQ (D:=D) (b:=bb) h.sv h.nv;obtain⟨q2,c⟩:=B1a (D:=D) (b:=bb) h.sw h.nw;rw[A5j h1]at a;rw[A5H h2]at c;exact⟨_,LL (D:=D+1) (Ao (q:=false) CA (Ao a (Ao c (K7 (b:=bb) (D:=D+1) (H:=H) (λx:Value=>x) [.int .i64 u0.p0,.int .i64 u0.q0,.int .i64 u0.p1,.int .i64 u0.q1,.int .i64 u0.p2,.int .i64 u0.q2,.int .i64 u0.p3,.int .i64 u0.q3,.int .i64 u0.p4,.int .i64 u0.q4,.int .i64 u0.p5,.int .i64 u0.q5,.int .i64 u0.p6,.int .i64 u0.q6,
  .string ⟨⟨u0.fn⟩⟩,.string ⟨⟨u0.fd⟩⟩,.string ⟨⟨u0.on⟩⟩,.string ⟨⟨u0.od⟩⟩,.int .i64 u0.kd,.int .i64 u0.sc]))))⟩
def B9N{b:Bool}:Fx b (D+1) (.agg y.cs) (.agg y.cs) H false:=λK=>by cases D<;>cases b<;>kernel_rfl
def Md.ty(h:Md b r z ins id ks (L2 ks) ks v w u H)(h1:1<=ks.length){t:AV}(d:CS (r! L (n+42)) CJ [.agg (BL id (BS ks) (Cx (L2 ks)) u0),.agg y.cs,I ks.length,RO ks] t){K:K2}:
 Aq (r! L (n+42)) CJ [.agg (BL id v w u0),.agg y.cs,I ks.length,u] H K=K t:=by
 obtain⟨q1,a⟩:=h.proc h1 (by rw[Ed];exact h1) (D:=depth-2) (bb:=true);obtain⟨q2,c⟩:=B6x (b:=true) h.su h.nu;exact AQ d (Ao a (Ao (B9N (D:=depth-1)) (Ao (q:=false) CA (Ao c AI))))
end
end
section
variable{L n:Nat}
section
variable{K:KV}{x:Af}{ins:List Int}{id:Int}{ks us:Hb}{xs:List Nd}{v w u:AV}{b r z m:Nat}{H H':Hp}{y0 y1 y2 y3:Int}
def C2M{a1 i4 j5:AV}{ah:AV->AV->KV}(h:Md b r z ins id ks (L2 ks) ks v w u H)(k1:1<=ks.length)(k3:ks.length<=3)(k7:∀k∈ks,k<7)(i0:J8 y0)(i1:J8 y1)(i2:J8 y2)(i3:J8 y3)(ac:∀J F H',Md b r z ins id ks (L2 ks++(exM ks y0 y1 y2 y3).nd) (ks++(exM ks y0 y1 y2 y3).ty ks) v J F H'->ah (.ptr z 0 0) (.ptr r 0 0) F H'=x)(f:Nat):
 ML (L+20) (r! L (n+42)) K ah (f+2) a1 (.list 1 [I y0,I y1,I y2,I y3]) (Bo true) (.ptr b 0 0) (.ptr z 0 0) (.ptr r 0 0) i4 u j5 (I ((0:Nat):Int)) H=x:=by
 have ex:∀J F H',Md b r z ins id ks (L2 ks++(exM ks y0 y1 y2 y3).nd) (ks++(exM ks y0 y1 y2 y3).ty ks) v J F H'->ML (L+20) (r! L (n+42)) K ah (f+1) a1 (.list 1 [I y0,I y1,I y2,I y3]) (Bo true) (.ptr b 0 0) (.ptr z 0 0) (.ptr r 0 0) i4 F j5 (I ((0+1:Nat):Int)) H'=x:=by
  intro J F H' j;rw[QG];unfold MM DI XT eN HV Dm G8 A2 MF Hv;have el:∀{K:K2},Bp J9 (.list 1 [I y0,I y1,I y2,I y3]) K=K (I ((1:Nat):Int)):=λ{K}=>r_ rfl;rw[el,FB (by omega)];simp only[eP,BW,RF];rw[Ba];exact ac J F H' j
 rw[QG];unfold MM DI XT eN HV Dm G8 A2 MF Hv;have el:∀{K:K2},Bp J9 (.list 1 [I y0,I y1,I y2,I y3]) K=K (I ((1:Nat):Int)):=λ{K}=>r_ rfl;have ba:(AV.v (.int .i64 14))=I ((14:Nat):Int):=rfl;have hw:=h.sw;rw[Ed]at hw;rw[el,FG (by omega),ba];simp only[gT,BW,QD,h.ld2,Ly (t:=Az) rfl hw];rw[FG (by omega),BW,Ul,Co];refine PX λbs ak=>?_;refine PX λbk am=>?_;have B:∀J F H',Md b r z ins id ks (L2 ks++(exM ks y0 y1 y2 y3).nd) (ks++(exM ks y0 y1 y2 y3).ty ks) v J F H'->bk F H'=x:=by
  intro J F H' j;rw[am,ak];have ad:∀{K:K2},As Ac .add (I ((0:Nat):Int)) (.v (.int .i64 1)) K=K (I ((0+1:Nat):Int)):=λ{K}=>Dd (by omega);simp only[ad];exact ex J F H' j
 clear ak am ex ac;have bf:∀{K:K2},D1 J9 (.list 1 [I y0,I y1,I y2,I y3]) (I ((0:Nat):Int)) K=K (.iptr [I y0,I y1,I y2,I y3]):=λ{K}=>r_ rfl;have bm:∀{H}{K:K2},AE CO (.iptr [I y0,I y1,I y2,I y3]) H K=K (.agg [I y0,I y1,I y2,I y3]):=λ{H K}=>r_ rfl;obtain⟨H1,e1,m1,w1,a5⟩:=HF (e:=XA3) (zs:=[zI,zI,zI,zI]) (vs:=[I y0,I y1,I y2,I y3]) h.wf rfl;rw[bf,bm,Bv (cs:=[zI,zI,zI,zI]) rfl,BQ (cs:=[zI,zI,zI,zI]) (vs:=[I y0,I y1,I y2,I y3]) (Ax (by simp)) rfl rfl rfl,<-e1];have o4:=h.oth;have h1:=h.grow w1 λs x hs=>(a5 s x hs).1;generalize Ar H=q4 at m1 o4;clear a5 e1;have ay:=h1.sw;rw[Ed]at ay;rw[h1.ld2,Ly (t:=Az) rfl ay];have y4:∀{A:Hp}{K:K2},Ai A q4=some (c_ XA3 [I y0,I y1,I y2,I y3])->(D1 CO (.ptr q4 0 0) (.v (.int .i64 0)) λp=>AE Ac p A K)=K (I y0):=λ{A K}P=>by
  rw[EO (z:=0) 0 rfl rfl (by decide),AL (p:=0) rfl P (by simp)];rfl
 have Y:∀{A:Hp}{K:K2},Ai A q4=some (c_ XA3 [I y0,I y1,I y2,I y3])->(D1 CO (.ptr q4 0 0) (.v (.int .i64 1)) λp=>AE Ac p A K)=K (I y1):=λ{A K}P=>by
  rw[EO (z:=1) 1 rfl rfl (by decide),AL (p:=1) rfl P (by simp)];rfl
 have a7:∀{A:Hp}{K:K2},Ai A q4=some (c_ XA3 [I y0,I y1,I y2,I y3])->(D1 CO (.ptr q4 0 0) (.v (.int .i64 2)) λp=>AE Ac p A K)=K (I y2):=λ{A K}P=>by
  rw[EO (z:=2) 2 rfl rfl (by decide),AL (p:=2) rfl P (by simp)];rfl
 have bq:∀{A:Hp}{K:K2},Ai A q4=some (c_ XA3 [I y0,I y1,I y2,I y3])->(D1 CO (.ptr q4 0 0) (.v (.int .i64 3)) λp=>AE Ac p A K)=K (I y3):=λ{A K}P=>by
  rw[EO (z:=3) 3 rfl rfl (by decide),AL (p:=3) rfl P (by simp)];rfl
 obtain⟨q,pq,hq,eq⟩:=Oi (c:=y0) (m:=8) (by decide);obtain⟨a13,pa,ha,ea⟩:=Oi (c:=y1) (m:=13) (by decide);obtain⟨b4,pb,hb,eb⟩:=Oi (c:=y2) (m:=4) (by decide);obtain⟨d,bp,hk,ek⟩:=Oi (c:=y3) (m:=7) (by decide);obtain⟨e5,pe,he,ee⟩:=Oi (c:=y2) (m:=5) (by decide);obtain⟨l,pl,P,el⟩:=Oi (c:=y1) (m:=ks.length) (by omega);obtain⟨rr,pr,hr,er⟩:=Oi (c:=y2) (m:=ks.length) (by omega);have ap:∀H K,Aq (r! L (n+42)) Ct [I y0,.v (.int .i64 8)] H K=K (I (q:Int)):=by rw[<-pq];exact MO (n:=n+41) i0 (by decide) (by decide)
 have ag:∀H K,Aq (r! L (n+42)) Ct [I y1,.v (.int .i64 13)] H K=K (I (a13:Int)):=by rw[<-pa];exact MO (n:=n+41) i1 (by decide) (by decide)
 have aq:∀H K,Aq (r! L (n+42)) Ct [I y2,.v (.int .i64 4)] H K=K (I (b4:Int)):=by rw[<-pb];exact MO (n:=n+41) i2 (by decide) (by decide)
 have ar:∀H K,Aq (r! L (n+42)) Ct [I y2,.v (.int .i64 5)] H K=K (I (e5:Int)):=by rw[<-pe];exact MO (n:=n+41) i2 (by decide) (by decide)
 have D:∀H K,Aq (r! L (n+42)) Ct [I y1,I ks.length] H K=K (I (l:Int)):=by rw[<-pl];exact MO (n:=n+41) i1 (by omega) (by omega)
 have ax:∀H K,Aq (r! L (n+42)) Ct [I y2,I ks.length] H K=K (I (rr:Int)):=by rw[<-pr];exact MO (n:=n+41) i2 (by omega) (by omega)
 have be:∀H K,Aq (r! L (n+42)) Gu [I y3] H K=K (.agg (CN (uu d))):=by rw[<-ek];exact A3x (n:=n) i3
 have ao:exM ks y0 y1 y2 y3=exO ks q a13 b4 d e5 l rr:=by unfold exM;rw[eq,ea,eb,ek,ee,el,er]
 rw[ao]at B;clear ao pq pa pb bp pe pl pr eq ea eb ek ee el er;have bd:∀{z:Int}{K:K2},BR AN [(0,1,I z)] K=K (.agg (Nd.mk z [] [] u0 0 0 0).cs):=λ{z K}=>r_ rfl;have ad:∀{K:K2},As Ac .add (.v (.int .i64 1)) (I (q:Int)) K=K (I ((q+1:Nat):Int)):=λ{K}=>by
  rw[Dl,CX (by omega) (by omega)];rw[show(1:Int)+(q:Int)=((q+1:Nat):Int) by omega]
 rw[y4 m1,ap,ad,bd];obtain⟨A,e2,C,w2,ai⟩:=HF (e:=AY) (zs:=(Nd.mk 0 [] [] u0 0 0 0).cs) (vs:=(Nd.mk ((q+1:Nat):Int) [] [] u0 0 0 0).cs) h1.wf rfl;rw[Bv (cs:=(Nd.mk 0 [] [] u0 0 0 0).cs) rfl,BQ (cs:=(Nd.mk 0 [] [] u0 0 0 0).cs) (vs:=(Nd.mk ((q+1:Nat):Int) [] [] u0 0 0 0).cs) (Ax (by simp)) rfl rfl rfl,<-e2];have o:=h1.oth;have h2:=h1.grow w2 λs x hs=>(ai s x hs).1;obtain⟨V,a6⟩:=ai _ _ m1;generalize Ar H1=m at C o a6;clear ai e2;refine PX λaf Z=>?_;have tail:∀(nd:Nd)(Hm:Hp)(U:UD)(e:Int),Md b r z ins id ks (L2 ks) ks v w u Hm->Ai Hm m=some (c_ AY nd.cs)->
  CS (r! L (n+42)) CJ [.agg (BL id (BS ks) (Cx (L2 ks)) u0),.agg nd.cs,I ks.length,RO ks] (.tup [.agg (CN U),I e])->
  (e=0/\nd.op≠8->∃k,U=uu k/\(exO ks q a13 b4 d e5 l rr).nd=[nd]/\(exO ks q a13 b4 d e5 l rr).ty ks=[k])->(¬(e=0/\nd.op≠8)->(exO ks q a13 b4 d e5 l rr).nd=[]/\(exO ks q a13 b4 d e5 l rr).ty ks=[])->af Hm=x:=by
  intro nd Hm U e hm mm y hg ab;have lp:∀{K},AE AW (.ptr r 0 0) Hm K=K (.agg (BL id v w u0)):=λ{K}=>Br rfl rfl hm.hr;have ln:∀{K},AE AN (.ptr m 0 0) Hm K=K (.agg nd.cs):=λ{K}=>Br rfl rfl mm;rw[Z];simp only[lp,ln,hm.ty k1 y];obtain⟨M,e3,m3,w3,aj⟩:=HF (e:=AB) (zs:=Ga) (vs:=CN U) hm.wf rfl;rw[Fl,Fk,Bv (cs:=Ga) rfl,BQ (cs:=Ga) (vs:=CN U) (Ax (by simp)) rfl rfl rfl,<-e3];have o3:=hm.oth;have O:=hm.grow w3 λs x hs=>(aj s x hs).1;obtain⟨m5, -⟩:=aj _ _ mm;generalize Ar Hm=q3 at m3 o3;clear aj e3;have bn:∀{K},AE AN (.ptr m 0 0) M K=K (.agg nd.cs):=λ{K}=>Br rfl rfl m5;have bo:∀{K},AE Ac (.ptr m 0 0) M K=K (I nd.op):=λ{K}=>AL (p:=0) rfl m5 (show 0<26 by decide);rw[Cv];by_cases Q:e=0
  ·rw[GI Q];simp only[gT,BW,ntT,QD,bo,I6,Ul,RF];by_cases h8:nd.op=8
   ·obtain⟨g1,g2⟩:=ab λj=>j.2 h8;rw[GI h8];show A1 (Bo false) _ _=_;rw[Ba];refine B w u M ?_;rw[g1,g2,US,US];exact O
   ·obtain⟨k,rfl,g1,g2⟩:=hg ⟨Q,h8⟩;rw[HN h8];show A1 (Bo true) _ _=_;obtain⟨J,H4,a1,a2,a3,a4⟩:=O.w1 nd (by rw[Ed];omega);obtain⟨F,H5,b1,b2⟩:=a3.u1 k (by omega);have lu:∀{K},AE A0 (.ptr q3 0 0) (Go.Abs.upd H4 r (Jc id v J u0)) K=K (.agg (CN (uu k))):=λ{K}=>Br rfl rfl (a4 _ _ o3.r o3.w m3);rw[Co,O.ld2,bn,C4g,a1,a2,lu,A81,b1];refine B J F H5 ?_;rw[g1,g2];exact b2
  ·obtain⟨g1,g2⟩:=ab λj=>Q j.1;rw[HN Q];simp only[eP,BW,gU,RF];rw[Ba];refine B w u M ?_;rw[g1,g2,US,US];exact O
 clear Z B;have lo:∀{K},AE Ac (.ptr m 0 0) A K=K (I ((q+1:Nat):Int)):=λ{K}=>AL (p:=0) rfl C (show 0<26 by decide);rw[QD,lo];refine PX λaz aa=>?_;have g:∀H,az H=af H:=λH=>by rw[aa]
 clear aa;have sm:∀{cs:Is}{N:Hp},Ai N q4=some (c_ XA3 [I y0,I y1,I y2,I y3])->Ai (Go.Abs.upd N m (c_ AY cs)) q4=some (c_ XA3 [I y0,I y1,I y2,I y3]):=λP=>by rw[Ag a6];exact P
 rw[Cv];by_cases ae:2<=q/\q<6
 ·have y:=A5s (L:=L) (n:=n) (id:=id) (o:=u0) (xs:=L2 ks) (op:=q+1) k1 k3 k7 (show l<ks.length by omega) (show rr<ks.length by omega) (by omega) (by omega);rw[show q+1-3=q-2 by omega]at y;rw[HN (by omega),Ba,Cv,HN (by omega),Ba,Cv,HN (by omega),Ba,Cv,HN (by omega),Ba,
   Y V,D,QD,D5 C (show 24<26 by decide) rfl rfl rfl,a7 (sm V),ax,QD,D5 (AC C) (show 25<26 by decide) rfl rfl rfl,g]
  have R:=B1p (ks:=ks) (a13:=a13) (b4:=b4) (k7:=d) (e5:=e5) (l:=l) (r:=rr) ae.1 ae.2;have hm:=(h2.upd o (c_ AY ((Nd.mk ((q+1:Nat):Int) [] [] u0 0 0 0).cs.set 24 (I (l:Int))))).upd o (c_ AY (((Nd.mk ((q+1:Nat):Int) [] [] u0 0 0 0).cs.set 24 (I (l:Int))).set 25 (I (rr:Int))));cases hu:VM (q-2) (ks.getD l 0) (ks.getD rr 0) with
  |none=>
   rw[hu]at y R;exact tail (wE (q+1) l rr) _ u0 90 hm (AC (AC C)) y (λj=>absurd j.1 (by decide)) (λ_=>by rw[R];exact⟨rfl,rfl⟩)
  |some k=>
   rw[hu]at y R;refine tail (wE (q+1) l rr) _ (uu k) 0 hm (AC (AC C)) y (λ_=>⟨k,rfl,by rw[R];exact⟨rfl,rfl⟩⟩) (λj=>absurd ⟨rfl,?_⟩ j);show((q+1:Nat):Int)≠8;omega
 ·obtain rfl|rfl|rfl|rfl:q=0\/q=1\/q=6\/q=7:=by omega
  ·have bg:∀{K:K2},D1 CO (.ptr q4 0 0) (.v (.int .i64 1)) K=K (.ptr q4 1 0):=λ{K}=>EO (z:=1) 1 rfl rfl (by decide);have bh:∀{K:K2},D1 CO (.ptr q4 0 0) (.v (.int .i64 2)) K=K (.ptr q4 2 0):=λ{K}=>EO (z:=2) 2 rfl rfl (by decide);have d1:∀{K:K2},AE Ac (.ptr q4 1 0) A K=K (I y1):=λ{K}=>AL (p:=1) rfl V (by simp);have d2:∀{K:K2},AE Ac (.ptr q4 2 0) A K=K (I y2):=λ{K}=>AL (p:=2) rfl V (by simp);have sb:∀{K:K2},As Ac .sub (I (a13:Int)) (.v (.int .i64 6)) K=K (I ((a13:Int)-6)):=λ{K}=>by rw[J6,CX (by omega) (by omega)]
   have a8:∀{K:K2},As Ac .add (.v (.int .i64 1)) (I (b4:Int)) K=K (I (1+(b4:Int))):=λ{K}=>by rw[Dl,CX (by omega) (by omega)]
   have bc:∀H K,Aq (r! L (n+42)) Gv [I ((a13:Int)-6),I (1+(b4:Int))] H K=K (.tup [.agg (fK (mR a13 b4)),I 0]):=by
    have:=B9l L (n+2) (4*a13+b4) (by omega);rw[show(4*a13+b4)/4=a13 by omega,show(4*a13+b4)%4=b4 by omega]at this;exact this
   have y:=A11 (L:=L) (n:=n) (id:=id) (o:=u0) (xs:=L2 ks) (ks:=ks) (at_:=ks.length) (w:=RO ks) (A1I (a:=a13) (b:=b4) (by omega) (by omega)) (show d<7 by omega);rw[GI (by rfl),Co];simp only[bg,bh,d1,d2,ag,aq,sb,a8,bc,Fl,Fk,QD,B6];rw[mY (vs:=fK (mR a13 b4)) C (show 1+2<=26 by decide) rfl rfl,BW,bq (sm V),be,mY (vs:=CN (uu d)) (AC C) (show 3+20<=26 by decide) rfl rfl,g];have hm:=(h2.upd o (c_ AY (splice (Nd.mk ((0+1:Nat):Int) [] [] u0 0 0 0).cs 1 (fK (mR a13 b4))))).upd o (c_ AY (splice (splice (Nd.mk ((0+1:Nat):Int) [] [] u0 0 0 0).cs 1 (fK (mR a13 b4))) 3 (CN (uu d))));exact tail (cnN (mR a13 b4) d) _ (uu d) 0 hm (AC (AC C)) y (λ_=>⟨d,rfl,rfl,rfl⟩) (λj=>absurd ⟨rfl,show(1:Int)≠8 by decide⟩ j)
  ·have y:=Zp (L:=L) (n:=n+39) (id:=id) (o:=u0) (xs:=L2 ks) (ks:=ks) (i:=l) (by omega) (by omega) (at_:=ks.length) (w:=RO ks);have eg:ks[l]'(by omega)=ks.getD l 0:=by simp[List.getD,KL (show l<ks.length by omega)]
   rw[eg]at y;rw[HN (by decide),Ba,Cv,GI (by rfl),Co,Y V,h2.ld1,Ly (t:=Ap) rfl h2.sv,D,QD,D5 C (show 23<26 by decide) rfl rfl rfl,g];have hm:=h2.upd o (c_ AY ((Nd.mk ((1+1:Nat):Int) [] [] u0 0 0 0).cs.set 23 (I (l:Int))));exact tail (ZZ l) _ (uu (ks.getD l 0)) 0 hm (AC C) y (λ_=>⟨ks.getD l 0,rfl,rfl,rfl⟩) (λj=>absurd ⟨rfl,show(2:Int)≠8 by decide⟩ j)
  ·have y:=A5r (L:=L) (n:=n) (id:=id) (o:=u0) (xs:=L2 ks) k1 k3 k7 (show l<ks.length by omega) (show e5<5 by omega);have a9:∀{N:Hp}{K:KV},FV GL 1 Ac 5 [(0,1,(AV.v (.int .i64 2))),(1,1,(AV.v (.int .i64 (-1)))),(2,1,(AV.v (.int .i64 3))),(3,1,(AV.v (.int .i64 (-2)))),(4,1,(AV.v (.int .i64 1)))] N K=K (.sl 1 (Ar N) 0 5) ((Ar N,.cells false GL [I 2,I (-1),I 3,I (-2),I 1])::N):=λ{N K}=>by
    have e:FV GL 1 Ac 5 [(0,1,(AV.v (.int .i64 2))),(1,1,(AV.v (.int .i64 (-1)))),(2,1,(AV.v (.int .i64 3))),(3,1,(AV.v (.int .i64 (-2)))),(4,1,(AV.v (.int .i64 1)))] N K=It N (λs=>K (.sl 1 s 0 5) ((s,.cells false GL [I 2,I (-1),I 3,I (-2),I 1])::N)):=r_ rfl;rw[e,Ca]
   have bj:∀{s:Nat}{K:K2},D1 Bs (.sl 1 s 0 5) (I (e5:Int)) K=K (.ptr s e5 0):=λ{s K}=>by
    have e1:D1 Bs (.sl 1 s 0 5) (I (e5:Int)) K=iN (e5:Int) λm=>ck (Nat.blt m 5) (fN (Nat.add 0 (Nat.mul m 1)) λp=>K (.ptr s p 0)):=r_ rfl;rw[e1,Kr,Ef];have O:Nat.blt e5 5=true:=by rw[Xe];omega
    rw[O];show K (.ptr s (0+e5*1) 0)=_;rw[Kk,oI]
   have gd:([I 2,I (-1),I 3,I (-2),I 1]:Is).getD e5 .dk=I (mW e5):=by
    obtain rfl|rfl|rfl|rfl|rfl:e5=0\/e5=1\/e5=2\/e5=3\/e5=4:=by omega
    all_goals rfl
   rw[HN (by decide),Ba,Cv,HN (by decide),Ba,Cv,GI (by rfl),Co,Y V,D,QD,D5 C (show 24<26 by decide) rfl rfl rfl,a9];have m3:=AC (q:=true) (e:=AY) (cs:=(Nd.mk ((6+1:Nat):Int) [] [] u0 0 0 0).cs.set 24 (I (l:Int))) C;have O:=h2.upd o (c_ AY ((Nd.mk ((6+1:Nat):Int) [] [] u0 0 0 0).cs.set 24 (I (l:Int))));have s3:=sm (cs:=(Nd.mk ((6+1:Nat):Int) [] [] u0 0 0 0).cs.set 24 (I (l:Int))) V;generalize Go.Abs.upd A m (c_ AY ((Nd.mk ((6+1:Nat):Int) [] [] u0 0 0 0).cs.set 24 (I (l:Int))))=M at m3 O s3;have w4:=AF (x:=.cells false GL [I 2,I (-1),I 3,I (-2),I 1]) O.wf;have k4:∀s x,Ai M s=some x->Ai ((Ar M,.cells false GL [I 2,I (-1),I 3,I (-2),I 1])::M) s=some x:=λs x hs=>A6 (O.wf.lt hs) hs;have h4:=O.grow w4 k4;have X:=k4 _ _ m3;have s4:=k4 _ _ s3;have n4:=Ax (H:=M) (x:=.cells false GL [I 2,I (-1),I 3,I (-2),I 1]) (by simp);generalize ((Ar M,Row.cells false GL [I 2,I (-1),I 3,I (-2),I 1])::M)=H4 at h4 X s4 n4;rw[a7 s4,ar,bj,AL (p:=e5) rfl n4 (show e5<5 by omega),gd,QD,D5 X (show 23<26 by decide) rfl rfl rfl,g];have hm:=h4.upd o (c_ AY (((Nd.mk ((6+1:Nat):Int) [] [] u0 0 0 0).cs.set 24 (I (l:Int))).set 23 (I (mW e5))));have R:exO ks 6 a13 b4 d e5 l rr=match Yh (ks.getD l 0) e5 with
    |some k=>.po l e5 k
    |none=>.no:=rfl
   cases hu:Yh (ks.getD l 0) e5 with
   |none=>
    rw[hu]at y R;exact tail (poN l e5) _ u0 90 hm (AC X) y (λj=>absurd j.1 (by decide)) (λ_=>by rw[R];exact⟨rfl,rfl⟩)
   |some k=>
    rw[hu]at y R;exact tail (poN l e5) _ (uu k) 0 hm (AC X) y (λ_=>⟨k,rfl,by rw[R];exact⟨rfl,rfl⟩⟩) (λj=>absurd ⟨rfl,show(7:Int)≠8 by decide⟩ j)
  ·have g7:=MY k7 (show l<ks.length by omega);have he:=G9.1 (show((List.range 7).all λk=>decide ((usq k).2=0\/(usq k).2=70))=true by kernel_rfl) (ks.getD l 0) (KT.2 g7);have y:=B4h (L:=L) (n:=n) (id:=id) (o:=u0) (xs:=L2 ks) (l2y he) k1 k3 (show l<ks.length by omega) (C2s L (n+1) _ g7).o;rw[HN (by decide),Ba,Cv,HN (by decide),Ba,Cv,HN (by decide),Ba,Cv,GI (by rfl),Co,Y V,D,QD,D5 C (show 24<26 by decide) rfl rfl rfl,g];have hm:=h2.upd o (c_ AY ((Nd.mk ((7+1:Nat):Int) [] [] u0 0 0 0).cs.set 24 (I (l:Int))));by_cases h0:(usq (ks.getD l 0)).2=0
   ·rw[Dr h0]at y;exact tail (sqN l) _ _ 0 hm (AC C) y (λj=>absurd rfl j.2) (λ_=>⟨rfl,rfl⟩)
   ·rw[CD h0]at y;exact tail (sqN l) _ u0 90 hm (AC C) y (λj=>absurd rfl j.2) (λ_=>⟨rfl,rfl⟩)
end
end
section
variable{L n:Nat}
abbrev Y4:=Option (Int×Int×Int×Int)
def exY(ks:Hb):Y4->Ex
 |none=>.no
 |some (a,b,c,d)=>exM ks a b c d
def yA:Y4->AV
 |none=>Av
 |some (a,b,c,d)=>.list 1 [I a,I b,I c,I d]
def yI:Y4->Prop
 |none=>True
 |some (a,b,c,d)=>J8 a/\J8 b/\J8 c/\J8 d
def qZ(ins:List Int)(count:Int)(y:Y4):Pr:=⟨1+(pk count 900).toNat,ksM ins ((pk count 3).toNat+1),exY (ksM ins ((pk count 3).toNat+1)) y⟩
section
variable{K:KV}{x:Af}{ins:List Int}{id:Int}{ks us:Hb}{xs:List Nd}{v w u:AV}{b r z m:Nat}{H H':Hp}{count:Int}{y:Y4}
def A5P(h:ins.length=3):(ksM ins ((pk count 3).toNat+1)).length=(pk count 3).toNat+1/\(pk count 3).toNat<3:=by
 have pr:=Ft (c:=count) (n:=3) (by decide);unfold ksM;rw[Po,zF];omega
def B6r{i:Nat}:∀k∈ksM ins i,k<7:=by
 intro k a;obtain⟨c,_,rfl⟩:=PW.1 a;have pr:=Ft (c:=c) (n:=7) (by decide);omega
def A3H(h:ins.length=3):(qZ ins count y).Ok:=by
 have pr:=Ft (c:=count) (n:=900) (by decide);obtain⟨h1,h2⟩:=A5P (count:=count) h;have e:(qZ ins count y).ks.length=(pk count 3).toNat+1:=h1;refine⟨by show 1<=1+_;omega,by show 1+_<950;omega,by rw[e];omega,by rw[e];omega,B6r,?_⟩
 match y with
 |none=>exact trivial
 |some (a,b,c,d)=>exact C0t (by show 1<=(ksM ins ((pk count 3).toNat+1)).length;rw[h1];omega)
def B0l(sv:AU H AB 20 v ks.length (ks.flatMap HO))(nv:ks=[]->v=Av)(sw:AU H AY 26 w xs.length (xs.flatMap N?))(nw:xs=[]->w=Av)(h1:1<=ks.length)(h2:1<=xs.length){D:Nat}{bb:Bool}{o:UD}:∃q,Fx bb (D+2) (.agg (BL id v w o)) (.agg (BL id (BS ks) (Cx xs) o)) H q:=by
 obtain⟨q1,a⟩:=mQ (D:=D) (b:=bb) sv nv;obtain⟨q2,c⟩:=B1a (D:=D) (b:=bb) sw nw;rw[A5j h1]at a;rw[A5H h2]at c;exact⟨_,LL (D:=D+1) (Ao (q:=false) CA (Ao a (Ao c (K7 (b:=bb) (D:=D+1) (H:=H) (λx:Value=>x) [.int .i64 o.p0,.int .i64 o.q0,.int .i64 o.p1,.int .i64 o.q1,.int .i64 o.p2,.int .i64 o.q2,.int .i64 o.p3,.int .i64 o.q3,.int .i64 o.p4,.int .i64 o.q4,.int .i64 o.p5,.int .i64 o.q5,.int .i64 o.p6,.int .i64 o.q6,
  .string ⟨⟨o.fn⟩⟩,.string ⟨⟨o.fd⟩⟩,.string ⟨⟨o.on⟩⟩,.string ⟨⟨o.od⟩⟩,.int .i64 o.kd,.int .i64 o.sc]))))⟩
def yW{o:UD}(h1:AV.one v=true)(h2:AV.one w=true):(BL id v w o).all AV.one=true:=by
 show(true&&(AV.one v&&(AV.one w&&true)))=true;rw[h1,h2];rfl
def B9O(h:Md b r z ins id ks xs us v w u H)(h1:1<=ks.length)(h2:1<=xs.length)(Y:us.length=xs.length)(Z:us.length<1000)(O:∀P N,(∀b,∃q,Fx b depth P (.agg (BL id (BS ks) (Cx xs) (uu (us.getD (xs.length-1) 0)))) N q)->K P N=x):
 (Bp Ap u λp=>
  As Ac .sub p (AV.v (.int .i64 1)) λA=>
  D1 Ap u A λB=>
  AE A0 B H λC=>
  CL 3 (.ptr r 0 0) λF=>
  DN A0 F C H λc=>
  AE AW (.ptr r 0 0) c λJ=>
  DN AW (.ptr z 0 0) J c λd=>
  AE AW (.ptr z 0 0) d λM=>
  K M d)=x:=by
 have f:us.length-1<us.length:=by omega
 obtain⟨a,X,g⟩:=A5i h.su f;have R:us[us.length-1]=us.getD (xs.length-1) 0:=by rw[<-Y];simp[List.getD,KL f]
 rw[R]at g;generalize us.getD (xs.length-1) 0=k at g O;obtain⟨cs,c1,c2⟩:=h.hz;rw[Ly (t:=Ap) rfl h.su,gF (by omega) (by omega),X,g,QD,mY (vs:=CN (uu k)) h.hr (show 3+20<=23 by decide) rfl rfl];have r1:=AC (q:=true) (e:=C4) (cs:=BL id v w (uu k)) h.hr;have Q:Ai (Go.Abs.upd H r (Jc id v w (uu k))) z=some (c_ C4 cs):=by rw[Ag h.zr];exact c2
 have V:splice (BL id v w u0) 3 (CN (uu k))=BL id v w (uu k):=rfl;rw[V,Br (cs:=BL id v w (uu k)) rfl rfl r1,BQ Q (by exact c1.symm) (by exact c1.symm) (yW (AU.one h.sv) (AU.one h.sw)),Br (cs:=BL id v w (uu k)) rfl rfl (AC Q)];refine O _ _ λq=>?_;refine B0l (D:=depth-2) (h.sv.kp λs x j i=>?_) h.nv (h.sw.kp λs x j i=>?_) h.nw h1 h2
 ·have:=h.av s j;rw[Ag this.2.2.1,Ag this.2.1];exact i
 ·have:=h.aw s j;rw[Ag this.2.2.1,Ag this.2.1];exact i
def B08(D:100<L)(hi:ins.length=3)(d:∀c∈ins,J8 c)(hc:J8 count)(p:yI y):
 CS (r! L (n+43)) Rz [.agg (Fi ins),I count,yA y,Bo true] (.agg (BL (qZ ins count y).id (BS (qZ ins count y).ks) (Cx (qZ ins count y).xs) (uu (qZ ins count y).out))):=by
 intro K V;have F:=A3H (count:=count) (y:=y) hi;obtain⟨p1,p2,p3⟩:=lO F;obtain⟨B,Z⟩:=A5P (count:=count) hi;have pr:=Ft (c:=count) (n:=900) (by decide);rw[tX];unfold Wx HV A2;have k1:∀H K,Aq (r! L (n+42)) Ct [I count,.v (.int .i64 900)] H K=K (I (pk count 900)):=MO (n:=n+41) hc (by decide) (by decide);have A:((qZ ins count y).id:Int)=1+pk count 900:=by show((1+(pk count 900).toNat:Nat):Int)=_;omega
 have M:∀{K:K2},As Ac .add (.v (.int .i64 1)) (I (pk count 900)) K=K (I ((qZ ins count y).id:Int)):=λ{K}=>by rw[Dl,CX (by omega) (by omega),A]
 have N:∀{i:Int}{K:K2},BR AW [(0,1,I i)] K=K (.agg (BL i Av Av u0)):=λ{i K}=>r_ rfl;rw[Es (zJ ins)];have hb:=Ax (H:=[]) (x:=.cells true Ve (Fi ins)) (by simp);have w0:=AF (x:=.cells true Ve (Fi ins)) Fq;generalize ((Ar [],c_ Ve (Fi ins))::([]:Hp))=j at hb w0;generalize Ar []=b at hb;rw[Bv (cs:=BL 0 Av Av u0) rfl];have hz:=Ax (H:=j) (x:=.cells true C4 (BL 0 Av Av u0)) (by simp);have b1:=A6 (x:=.cells true C4 (BL 0 Av Av u0)) (w0.lt hb) hb;have w1:=AF (x:=.cells true C4 (BL 0 Av Av u0)) w0;generalize ((Ar j,c_ C4 (BL 0 Av Av u0))::j)=J at hz w1 b1;generalize Ar j=z at hz;rw[k1,M,N,Bv (cs:=BL 0 Av Av u0) rfl];obtain⟨C,Q,r2,X,kp⟩:=HF (e:=C4) (zs:=BL 0 Av Av u0) (vs:=BL (qZ ins count y).id Av Av u0) w1 rfl;rw[BQ (cs:=BL 0 Av Av u0) (vs:=BL (qZ ins count y).id Av Av u0) (Ax (by simp)) rfl rfl rfl,<-Q];obtain⟨b2,f⟩:=kp _ _ b1;obtain⟨Y,g⟩:=kp _ _ hz;generalize Ar J=r at r2 f g;have no:∀{s:Nat}{P:Prop},A4 Av s->P:=λ⟨_,_,_,h⟩=>by cases h
 have R:Md b r z ins (qZ ins count y).id (ksM ins 0) [] [] Av Av Av C:=⟨b2,r2,⟨_,rfl,Y⟩,.inl ⟨rfl,rfl,rfl⟩,λ_=>rfl,.inl ⟨rfl,rfl,rfl⟩,λ_=>rfl,.inl ⟨rfl,rfl,rfl⟩,λ_=>rfl,f,g,λ_=>no,λ_=>no,λ_=>no,X⟩
 simp only[BH];refine C2K D hi d hc (λv H k=>?_) (L+20) 0 Av C (by omega) (by omega) R;refine C2L (n:=n) D (by rw[B];omega) (λw u H k=>?_) (L+20) 0 Av Av H (by omega) (by omega) k;have fin:∀t q H',Md b r z ins (qZ ins count y).id (qZ ins count y).ks (qZ ins count y).xs (qZ ins count y).ty v t q H'->_:=λt q H' a=>B9O (K:=K) a F.k1 p2 p1 (by omega) V
 match y with
 |none=>
  show ML (L+20) (r! L (n+42)) K _ ((L+19)+1) _ Av _ _ _ _ _ _ _ _ H=_;rw[QG];unfold MM DI XT eN HV Dm G8 A2 MF Hv;have el:∀{K:K2},Bp J9 Av K=K (I ((0:Nat):Int)):=λ{K}=>r_ rfl;have O:(AV.v (.int .i64 0))=I ((0:Nat):Int):=rfl;rw[el,O,FB (by omega)];simp only[eP,BW,RF];rw[Ba];refine fin w u H ?_;show Md b r z ins _ _ (L2 _++[]) (_++[]) v w u H;rw[US,US];exact k
 |some (y0,y1,y2,y3)=>
  exact C2M (n:=n) k (by rw[B];omega) (by rw[B];omega) B6r p.1 p.2.1 p.2.2.1 p.2.2.2 (λt q H' a=>fin t q H' a) (L+18)
end
end
section
variable{x1:Int}{ks:Hb}{i:Nat}
variable{L n:Nat}
def PL(H:Hp)(l:List Ha)(a:AV):Prop:=SA l a\/AU H Al 1 a l.length (A9 l)
section
variable{H H':Hp}{l:List Ha}{a:AV}{K:K2}
theorem PL.len(h:PL H l a):Bp Ab a K=K (I l.length):=by
 rcases h with h|h
 ·exact h.len
 ·exact Ly (t:=Ab) rfl h
def A9u(h:AU H Al 1 a l.length (A9 l))(hi:i<l.length):(D1 Ab a (I i) λp=>AE Ah p H K)=K (S l[i]):=by
 rcases h with⟨_,h2,_⟩|⟨r,q,rfl,h2,b⟩
 ·omega
 ·have c:∀K:K2,D1 Ab (.sl 1 r 0 l.length) (I (i:Int)) K=iN (i:Int) λm=>ck (Nat.blt m l.length) (fN (Nat.add 0 (Nat.mul m 1)) λp=>K (.ptr r p 0)):=λK=>r_ rfl;rw[c,Kr,Ef];have b:Nat.blt i l.length=true:=by rw[Xe];exact hi
  rw[b];show AE Ah (.ptr r (0+i*1) 0) H K=_;rw[Kk,oI,AL rfl h2 (by simp[A9];exact hi),Px hi]
def PL.at(h:PL H l a)(hi:i<l.length):(D1 Ab a (I i) λp=>AE Ah p H K)=K (S l[i]):=by
 rcases h with h|h
 ·rw[h.ia hi,KD]
 ·exact A9u h hi
def PL.at2(h:PL H l a)(hi:i<l.length):∃p,(∀K:K2,D1 Ab a (I i) K=K p)/\∀K:K2,AE Ah p H K=K (S l[i]):=by
 rcases h with h|h
 ·exact⟨_,λK=>h.ia hi,λK=>KD⟩
 ·rcases h with⟨_,h2,_⟩|⟨r,q,rfl,h2,b⟩
  ·omega
  ·refine⟨.ptr r i 0,λK=>?_,λK=>by rw[AL rfl h2 (by simp[A9];exact hi),Px hi]⟩;have c:∀K:K2,D1 Ab (.sl 1 r 0 l.length) (I (i:Int)) K=iN (i:Int) λm=>ck (Nat.blt m l.length) (fN (Nat.add 0 (Nat.mul m 1)) λp=>K (.ptr r p 0)):=λK=>r_ rfl;rw[c,Kr,Ef];have b:Nat.blt i l.length=true:=by rw[Xe];exact hi
   rw[b];show K (.ptr r (0+i*1) 0)=_;rw[Kk,oI]
theorem PL.kp(h:PL H l a)(k:∀s x,Ai H s=some x->Ai H' s=some x):PL H' l a:=by
 rcases h with h|h
 ·exact .inl h
 ·exact .inr (h.kp λs x _=>k s x)
end
def YA(H:Hp)(y:Y4)(a:AV):Prop:=∀H',(∀s x,Ai H s=some x->Ai H' s=some x)->∃q,Fx true depth a (yA y) H' q
def gR(i:Int)(p:Ha)(ps:List Ha):Ha:=ps.foldl (λp q=>if q=p then M_ (-1-i) else p) p
def M!(x1:Int)(l:List Ha):Nat->List Ha
 |0=>[]
 |i+1=>M! x1 l i++[gR i (if h:i<l.length then l[i] else M_ (pk (x1.tdiv 3) 1000+i)) (M! x1 l i)]
def gL{l:List Ha}:∀i,(M! x1 l i).length=i:=by
 intro i
 induction i with
 |zero=>rfl
 |succ i ih=>simp[M!,ih]
def A1g(c:Int):(M_ c).length=32:=Yw _ 8
def A7g{i:Int}:∀(ps:List Ha)(p:Ha),p.length=32->(gR i p ps).length=32:=by
 intro ps
 induction ps with
 |nil=>intro p h;exact h
 |cons q ps ih=>
  intro p h;show(gR i (if q=p then M_ (-1-i) else p) ps).length=32;by_cases hq:q=p
  ·rw[Dr hq];exact ih _ (A1g _)
  ·rw[CD hq];exact ih _ h
def B9x{l:List Ha}(c:∀s∈l,s.length=32):∀i,∀s∈M! x1 l i,s.length=32:=by
 intro i
 induction i with
 |zero=>intro s b;simp[M!]at b
 |succ i ih=>
  intro s b;rcases Zx.1 b with b|b
  ·exact ih s b
  ·rw[XR]at b;subst b;apply A7g;by_cases h:i<l.length
   ·rw[dif_pos h];exact c _ (NT h)
   ·rw[dif_neg h];exact A1g _
def NW{a b:Int}(h:J8 a)(hb:1<=b):J8 (a.tdiv b):=by
 unfold J8 at h⊢;by_cases c:0<=a
 ·have h1:=Int.tdiv_nonneg c (by omega:0<=b);have h2:a.tdiv b<=a:=Int.tdiv_le_self b c;omega
 ·have e:a.tdiv b= -((-a).tdiv b):=by rw[Int.neg_tdiv,Int.neg_neg]
  have h1:=Int.tdiv_nonneg (by omega:0<= -a) (by omega:0<=b);have h2:(-a).tdiv b<= -a:=Int.tdiv_le_self b (by omega);omega
def oC{a b:Int}{K:K2}(h:J8 a)(hb:1<=b):As Ac .quo (I a) (.v (.int .i64 b)) K=K (I (a.tdiv b)):=by
 have h1:=NW h hb;rw[A2b (by omega),CX h1.1 h1.2]
structure Mc(H0:Hp)(b1 b2 r z:Nat)(X F:Is)(H:Hp):Prop where
 h1:Ai H b1=some (c_ Jr X)
 h2:Ai H b2=some (c_ Jr F)
 hz:∃cs,cs.length=68/\Ai H z=some (c_ Ad cs)
 wf:Wf H
 n1:b1≠r
 n2:b2≠r
 nz:z≠r
 f1:Ar H0<=b1
 f2:Ar H0<=b2
 f3:Ar H0<=r
 f4:Ar H0<=z
 w0:Wf H0
 kp:∀s x,Ai H0 s=some x->Ai H s=some x
section
variable{K:KV}{x:Af}{H0 H H':Hp}{b1 b2 r z:Nat}{X F:Is}{ps l:List Ha}{v a3:AV}{cR:AV->Is}
theorem Mc.upd(h:Mc H0 b1 b2 r z X F H)(y:Row):Mc H0 b1 b2 r z X F (upd H r y):=by
 obtain⟨cs,c1,c2⟩:=h.hz;exact⟨by rw[Ag h.n1];exact h.h1,by rw[Ag h.n2];exact h.h2,⟨cs,c1,by rw[Ag h.nz];exact c2⟩,Bi h.wf,h.n1,h.n2,h.nz,h.f1,h.f2,h.f3,h.f4,h.w0,λs x b=>by
  have:=h.w0.lt b;have:=h.f3;rw[Ag (by omega)];exact h.kp s x b⟩
structure Pl(H0:Hp)(b1 b2 r z:Nat)(X F:Is)(cR:AV->Is)(ps:List Ha)(v:AV)(H:Hp):Prop where
 mc:Mc H0 b1 b2 r z X F H
 hr:Ai H r=some (c_ Ad (cR v))
 sv:AU H Al 1 v ps.length (A9 ps)
 nv:ps=[]->v=Av
 fr:∀s,A4 v s->Ar H0<=s/\s≠b1/\s≠b2/\s≠r/\s≠z
structure CR(cR:AV->Is)(ks:Hb):Prop where
 len:∀v,(cR v).length=68
 set:∀v v',(cR v).set 31 v'=cR v'
 get:∀v,(cR v).getD 31 .dk=v
 ins:∀v,(cR v).getD 33 .dk=BS ks
def C2z{b:AV->AV->AV->AV->AV->AV->KV}(q:40000<L)(hc:CR cR ks)(hi:i<3)(g:Pl H0 b1 b2 r z X F cR ps v H)(hb:ps.length<=3):
 ∀(f k:Nat)(p:Ha),k<=ps.length->ps.length-k<f->b a3 (.ptr b1 0 0) (.ptr z 0 0) (.ptr r 0 0) (I i) (S (gR i p (ps.drop k))) (I ps.length) H=x->
 Ub (L+20) (r! L (n+43)) K b f a3 (.ptr b1 0 0) (.ptr z 0 0) (.ptr r 0 0) (I i) (S p) (I k) H=x:=by
 intro f
 induction f with
 |zero=>intro k p _ h;omega
 |succ f ih=>
  intro k p w u e;rw[pE];unfold Ud DI HV A2;have d:∀{K},AE Ab (.ptr r 31 0) H K=K v:=λ{K}=>by rw[AL (p:=31) rfl g.hr (by rw[hc.len];decide),hc.get]
  rw[QD,d,Ly (t:=Ab) rfl g.sv];by_cases h:k<ps.length
  ·rw[FG (by omega),Co];simp only[BH];have j:∀{K:K2},As Ac .add (I k) (.v (.int .i64 1)) K=K (I ((k+1:Nat):Int)):=λ{K}=>Dd (by omega);have sb:∀{K:K2},As Ac .sub (.v (.int .i64 (-1))) (I (i:Int)) K=K (I (-1-(i:Int))):=λ{K}=>by rw[J6,CX (by omega) (by omega)]
   have s:∀{K:K2},Aq (r! L (n+43)) Gt [I (-1-(i:Int))] H K=K (S (M_ (-1-(i:Int)))):=λ{K}=>A15 (n:=n+23) q (by omega) (by omega) H K;have m:ps.drop k=ps[k]::ps.drop (k+1):=rF h;rw[m]at e;have c:b a3 (.ptr b1 0 0) (.ptr z 0 0) (.ptr r 0 0) (I i) (S (gR i (if ps[k]=p then M_ (-1-i) else p) (ps.drop (k+1)))) (I ps.length) H=x:=e;rw[QD,d,A9u g.sv h,Lb];by_cases hq:ps[k]=p
   ·rw[GI hq,Co,sb,s,j];rw[Dr hq]at c;exact ih (k+1) _ (by omega) (by omega) c
   ·rw[HN hq,Ba,j];rw[CD hq]at c;exact ih (k+1) _ (by omega) (by omega) c
  ·have:k=ps.length:=by omega
   subst this;rw[List.drop_length]at e;rw[FB (by omega),Ba];exact e
def C2A{g:AV->AV->KV}{Z x1 x2 x3 x4 x5:Int}(V:40000<L)(hc:CR cR ks)(h1:J8 x1)(aa:ks.length<=3)(J:PL H0 l a3)(hb:l.length<1000)(D:∀s∈l,s.length=32)(m:∀v H,Pl H0 b1 b2 r z [I Z,I x1,I x2,I x3,I x4,I x5] F cR (M! x1 l ks.length) v H->g (.ptr b1 0 0) (.ptr z 0 0) (.ptr r 0 0) H=x):
 ∀(f i:Nat)(v d0 d1:AV)(H:Hp),i<=ks.length->ks.length-i<f->Pl H0 b1 b2 r z [I Z,I x1,I x2,I x3,I x4,I x5] F cR (M! x1 l i) v H->
 Uc (L+20) (r! L (n+43)) K g f a3 (.ptr b1 0 0) (.ptr z 0 0) (.ptr r 0 0) (I i) d0 d1 H=x:=by
 intro f
 induction f with
 |zero=>intro i v d0 d1 H _ h;omega
 |succ f ih=>
  intro i v d0 d1 H hi hf b;rw[pF];unfold Ue DI HV Dm A2 Hv;have N:∀{K},AE Ap (.ptr r 33 0) H K=K (BS ks):=λ{K}=>by rw[AL (p:=33) rfl b.hr (by rw[hc.len];decide),hc.ins]
  have fa:∀{K:K2},CL 1 (.ptr r 32 0) K=K (.ptr r 33 0):=λ{K}=>by rw[fA]
  rw[QD,fa,N,Q8];by_cases h:i<ks.length
  ·have pr:=Ft (c:=x1.tdiv 3) (n:=1000) (by decide);have ia:∀{K:K2},D1 B8 (.ptr b1 0 0) (.v (.int .i64 1)) K=K (.ptr b1 1 0):=λ{K}=>EO (z:=1) 1 rfl rfl (by decide);have d1:∀{K:K2},AE Ac (.ptr b1 1 0) H K=K (I x1):=λ{K}=>AL (p:=1) rfl b.mc.h1 (by simp);have O:∀{H K},Aq (r! L (n+43)) BN [I (x1.tdiv 3),.v (.int .i64 1000)] H K=K (I (pk (x1.tdiv 3) 1000)):=λ{H K}=>MN (n:=n+42) (NW h1 (by decide)) (by decide) (by decide) H K;have ad:∀{K:K2},As Ac .add (I (pk (x1.tdiv 3) 1000)) (I (i:Int)) K=K (I (pk (x1.tdiv 3) 1000+i)):=λ{K}=>by rw[Dl,CX (by omega) (by omega)]
   have pa:∀{K:K2},Aq (r! L (n+43)) Gt [I (pk (x1.tdiv 3) 1000+i)] H K=K (S (M_ (pk (x1.tdiv 3) 1000+i))):=λ{K}=>A15 (n:=n+23) V (by omega) (by omega) H K;rw[FG (by omega),Co,ia,d1,oC h1 (by decide),O,ad,pa];refine PX λw d=>?_;have Y:∀p:Ha,p=(if h:i<l.length then l[i] else M_ (pk (x1.tdiv 3) 1000+i))->w (S p) H=x:=by
    intro p hp;rw[d];simp only[BH];refine C2z V hc (by omega) b (by rw[gL];omega) (L+20) 0 p (by omega) (by rw[gL];omega) ?_;rw[rC];have M:∀{K},AE Ab (.ptr r 31 0) H K=K v:=λ{K}=>by rw[AL (p:=31) rfl b.hr (by rw[hc.len];decide),hc.get]
    obtain⟨v',H',a1,a2,B,a4,k,P⟩:=vU (ie:=Ah) (i2:=Ab) (ys:=A9 [gR i p (M! x1 l i)]) b.sv b.mc.wf rfl rfl (by decide) rfl (λ_=>rfl) (by rw[gL];show(i+1)*16<=_;omega) (by rw[gL];omega);obtain⟨cs,c1,c2⟩:=b.mc.hz;have u:=k _ _ b.hr λe=>(b.fr _ e).2.2.2.1 rfl;have q1:=b.mc.wf.lt b.mc.h1;have q2:=b.mc.wf.lt b.mc.h2;have q3:=b.mc.wf.lt b.hr;have q4:=b.mc.wf.lt c2;have q0:=b.mc.f1;rw[QD,M,ZF,a1,QD,D5 u (by rw[hc.len];decide) rfl (AU.cell a2) (AU.one a2),hc.set,Dd (by omega)];have y:M! x1 l (i+1)=M! x1 l i++[gR i p (M! x1 l i)]:=by rw[hp];rfl
    refine ih (i+1) v' _ _ _ (by omega) (by omega) ⟨?_,AC u,?_,λe=>?_,λs j=>?_⟩
    ·refine⟨by rw[Ag b.mc.n1];exact k _ _ b.mc.h1 (λe=>(b.fr _ e).2.1 rfl),by rw[Ag b.mc.n2];exact k _ _ b.mc.h2 (λe=>(b.fr _ e).2.2.1 rfl),⟨cs,c1,by rw[Ag b.mc.nz];exact k _ _ c2 (λe=>(b.fr _ e).2.2.2.2 rfl)⟩,Bi B,b.mc.n1,b.mc.n2,b.mc.nz,b.mc.f1,b.mc.f2,b.mc.f3,b.mc.f4,b.mc.w0,λs x j=>?_⟩;have Q:=b.mc.w0.lt j;have R:=b.mc.f3;rw[Ag (by omega)];exact k _ _ (b.mc.kp s x j) (λe=>by have:=(b.fr _ e).1;omega)
    ·rw[y,Ez];have:A9 (M! x1 l i++[gR i p (M! x1 l i)])=A9 (M! x1 l i)++A9 [gR i p (M! x1 l i)]:=by simp[A9]
     rw[this];refine AU.kp a2 λs x j J=>?_;have:=P s j;rw[Ag (by omega)];exact J
    ·rw[y]at e;simp at e
    ·have:=P s j;omega
   clear d;have q:=J.kp b.mc.kp;rw[q.len];by_cases A:i<l.length
   ·obtain⟨p,Q,R⟩:=q.at2 A;have C:∀{K:K2},As Ac .eql (I ((l[i].length:Nat):Int)) (.v (.int .i64 32)) K=K (Bo true):=λ{K}=>by
     rw[Cv,D _ (NT A)];rfl
    rw[FG (by omega)];simp only[gT,BW,Q,R,Qf (t:=Ah) rfl,C,Ul];rw[Co];exact Y _ (by rw[dif_pos A])
   ·rw[FB (by omega)];simp only[eP,BW,RF];rw[Ba];exact Y _ (by rw[dif_neg A])
  ·have:i=ks.length:=by omega
   subst this;rw[FB (by omega),Ba];exact m v H b
end
end
section
variable{b:Nat}
variable{L n:Nat}
def Cd.csP(c:Cd)(P:AV):Is:=match c with
 |.re b u=>E4 1 b.m (uu u) (qn b.c) (qd b.c) (FI b.ts) (qn b.r) (qd b.r) P 0 Av Av u0 r0 0
 |.co b p _ none=>E4 2 b.m (uu p.out) (qn b.c) (qd b.c) (FI b.ts) (qn b.r) (qd b.r) P p.id (BS p.ks) (Cx p.xs) (uu p.out) r0 0
 |.co b p _ (some (k,vd))=>E4 3 b.m (uu p.out) (qn b.c) (qd b.c) (FI b.ts) (qn b.r) (qd b.r) P p.id (BS p.ks) (Cx p.xs) (uu p.out) (rr k) vd
def A4C(c:Cd):c.csP (DV c.ps)=c.cs:=by
 match c with
 |.re b u=>rfl
 |.co b p ps none=>rfl
 |.co b p ps (some (k,vd))=>rfl
def cbM(x1 x2 x3 x4 x5:Int)(a:List Int):CB:=⟨⟨1+pk x1 3,1+pk x2 9,1+pk x3 4,pk x4 50,pk x5 30⟩,pk (x3.tdiv 4) 161-80,pk (x4.tdiv 50) 9,L7 a 6⟩
def cdM(x0 x1 x2 x3 x4 x5 f0 f1 f2 f3 f4 f5:Int)(y:Y4)(l:List Ha):Cd:=
 if pk x0 3=0 then .re (cbM x1 x2 x3 x4 x5 [f0,f1,f2,f3,f4,f5]) (pk (x5.tdiv 30) 7).toNat
 else .co (cbM x1 x2 x3 x4 x5 [f0,f1,f2,f3,f4,f5]) (qZ [f0,f1,f2] (x2.tdiv 9) y) (M! x1 l (qZ [f0,f1,f2] (x2.tdiv 9) y).ks.length)
  (if pk x0 3=1 then none else some (1+(pk (x0.tdiv 3) 3).toNat,1+pk (x0.tdiv 9) 3))
def A4I{x0 x1 x2 x3 x4 x5 f0 f1 f2 f3 f4 f5:Int}{y:Y4}{l:List Ha}(a:∀s∈l,s.length=32):(cdM x0 x1 x2 x3 x4 x5 f0 f1 f2 f3 f4 f5 y l).Ok:=by
 have p1:=Ft (c:=x1) (n:=3) (by decide);have p2:=Ft (c:=x2) (n:=9) (by decide);have p3:=Ft (c:=x3) (n:=4) (by decide);have p4:=Ft (c:=x4) (n:=50) (by decide);have p5:=Ft (c:=x5) (n:=30) (by decide);have p6:=Ft (c:=x3.tdiv 4) (n:=161) (by decide);have d:=Ft (c:=x4.tdiv 50) (n:=9) (by decide);have e:=Ft (c:=x5.tdiv 30) (n:=7) (by decide);have f:=Ft (c:=x0.tdiv 3) (n:=3) (by decide);have g:=Ft (c:=x0.tdiv 9) (n:=3) (by decide);have hb:(cbM x1 x2 x3 x4 x5 [f0,f1,f2,f3,f4,f5]).Ok:=by
  refine⟨?_,?_,?_,?_,?_,(A5l _ 6 (by omega)).1⟩
  ·refine⟨?_,?_,?_,?_,?_,?_,?_,?_,?_,?_⟩
   all_goals (simp only[cbM];omega)
  all_goals (simp only[cbM];omega)
 unfold cdM;by_cases h:pk x0 3=0
 ·rw[Dr h];exact⟨hb,by omega⟩
 ·rw[CD h];refine⟨hb,A3H rfl,gL _,B9x a _,?_⟩;by_cases h1:pk x0 3=1
  ·rw[Dr h1];exact trivial
  ·rw[CD h1];exact⟨by omega,by omega,by omega⟩
def okI{z:Int}{H:Hp}{K:Af}:QB (Bc (some (I z,H)) (I z)) K=K:=Vp rfl
def C51{k:IntKind}{z:Int}:AV.one (.v (.int k z))=true:=rfl
def C4Z{l:Ha}:AV.one (S l)=true:=rfl
def C50:AV.one (.v (.slice none 0 0))=true:=rfl
def VW(ts:kG):AV.one (FI ts)=true:=by cases ts<;>rfl
section
variable{K:KV}{x:Af}{H0 H H':Hp}{b1 b2 r z:Nat}{X F:Is}{ps l:List Ha}{v a2 a3:AV}{cR:AV->Is}{y:Y4}{x0 x1 x2 x3 x4 x5 f0 f1 f2 f3 f4 f5:Int}
def RK{kd:Int}{m:ND}{u o:UD}{ca cb ra rb:Ha}{T P ins a:AV}{id vd:Int}{rd:RD}(h1:AV.one T=true)(h2:AV.one P=true)(c:AV.one ins=true)(d:AV.one a=true):(E4 kd m u ca cb T ra rb P id ins a o rd vd).all AV.one=true:=by
 simp only[oG,l3a,C51,C4Z,C50,h1,h2,c,d,l1b,l1g]
def A1p(h:Mc H0 b1 b2 r z X F H){cs:Is}(hr:Ai H r=some (c_ Ad cs))(h1:cs.length=68)(h2:cs.all AV.one=true)(e:∀H',Wf H'->(∀s q,s≠z->Ai H s=some q->Ai H' s=some q)->K (.agg cs) H'=x):
 (AE Ae (.ptr r 0 0) H λc=>
  DN Ae (.ptr z 0 0) c H λa=>
  AE Ae (.ptr z 0 0) a λd=>
  K d a)=x:=by
 obtain⟨i,c1,c2⟩:=h.hz;rw[Br (cs:=cs) rfl (by exact h1.symm) hr,BQ c2 (by rw[c1,h1]) (by exact c1.symm) h2,Br (cs:=cs) rfl (by exact h1.symm) (AC c2)];exact e _ (Bi h.wf) λs q g f=>by rw[Ag g];exact f
def push(w:Wf H)(x:Row)(a:x≠.gone):∃H' s,H'=(s,x)::H/\s=Ar H/\Ai H' s=some x/\Wf H'/\∀t q,Ai H t=some q->Ai H' t=some q/\t≠s:=
 ⟨_,_,rfl,rfl,Ax a,AF w,λt q h=>⟨A6 (w.lt h) h,by have:=w.lt h;omega⟩⟩
def C07{K:K2}:D1 B8 (.ptr b 0 0) (.v (.int .i64 0)) K=K (.ptr b 0 0):=EO (z:=0) 0 rfl rfl (by decide)
def C5m{K:K2}:D1 B8 (.ptr b 0 0) (.v (.int .i64 1)) K=K (.ptr b 1 0):=EO (z:=1) 1 rfl rfl (by decide)
def C5l{K:K2}:D1 B8 (.ptr b 0 0) (.v (.int .i64 2)) K=K (.ptr b 2 0):=EO (z:=2) 2 rfl rfl (by decide)
def C5k{K:K2}:D1 B8 (.ptr b 0 0) (.v (.int .i64 3)) K=K (.ptr b 3 0):=EO (z:=3) 3 rfl rfl (by decide)
def C5j{K:K2}:D1 B8 (.ptr b 0 0) (.v (.int .i64 4)) K=K (.ptr b 4 0):=EO (z:=4) 4 rfl rfl (by decide)
def C5i{K:K2}:D1 B8 (.ptr b 0 0) (.v (.int .i64 5)) K=K (.ptr b 5 0):=EO (z:=5) 5 rfl rfl (by decide)
def rd6{a0 a1 a2 a3 a c:Int}(h:Ai H b=some (c_ Jr [I a0,I a1,I a2,I a3,I a,I c])):
 (∀{K},AE Ac (.ptr b 0 0) H K=K (I a0))/\(∀{K},AE Ac (.ptr b 1 0) H K=K (I a1))/\(∀{K},AE Ac (.ptr b 2 0) H K=K (I a2))/\(∀{K},AE Ac (.ptr b 3 0) H K=K (I a3))/\(∀{K},AE Ac (.ptr b 4 0) H K=K (I a))/\(∀{K},AE Ac (.ptr b 5 0) H K=K (I c)):=
 ⟨λ{K}=>AL (p:=0) rfl h (by simp),λ{K}=>AL (p:=1) rfl h (by simp),λ{K}=>AL (p:=2) rfl h (by simp),λ{K}=>AL (p:=3) rfl h (by simp),λ{K}=>AL (p:=4) rfl h (by simp),λ{K}=>AL (p:=5) rfl h (by simp)⟩
def A9r(mc:Mc H0 b1 b2 r z X F H){cs cs' vs:Is}(hr:Ai H r=some (c_ Ad cs)){i:TI}{p:Nat}(a:cs.length=68)(d:p+vs.length<=68)(hz:i.size=vs.length)(h1:vs.all AV.one=true)(es:splice cs p vs=cs'):
 ∃H',(∀K:Ru,DN i (.ptr r p 0) (.agg vs) H K=K H')/\Mc H0 b1 b2 r z X F H'/\Ai H' r=some (c_ Ad cs')/\(∀s q,s≠r->Ai H s=some q->Ai H' s=some q):=
 ⟨_,λK=>mY hr (by rw[a];exact d) hz h1,mc.upd _,by rw[es];exact AC hr,λs q e c=>by rw[Ag e];exact c⟩
def tI(hL:40000<L)(w:Wf H0)(i0:J8 x0)(i1:J8 x1)(i2:J8 x2)(i3:J8 x3)(i4:J8 x4)(i5:J8 x5)(j0:J8 f0)(j1:J8 f1)(j2:J8 f2)(j3:J8 f3)(j4:J8 f4)(j5:J8 f5)(hy:YA H0 y a2)(az:yI y)(hl:PL H0 l a3)(hb:l.length<1000)(ar:∀s∈l,s.length=32)(R:∀v H',AU H' Al 1 v (cdM x0 x1 x2 x3 x4 x5 f0 f1 f2 f3 f4 f5 y l).ps.length (A9 (cdM x0 x1 x2 x3 x4 x5 f0 f1 f2 f3 f4 f5 y l).ps)->((cdM x0 x1 x2 x3 x4 x5 f0 f1 f2 f3 f4 f5 y l).ps=[]->v=Av)->Wf H'->(∀s q,Ai H0 s=some q->Ai H' s=some q)->(∀s,A4 v s->Ar H0<=s)->
  K (.agg ((cdM x0 x1 x2 x3 x4 x5 f0 f1 f2 f3 f4 f5 y l).csP v)) H'=x):
 (r! L (n+44)).call ID [.agg [I x0,I x1,I x2,I x3,I x4,I x5],.agg [I f0,I f1,I f2,I f3,I f4,I f5],a2,a3] H0 K=x:=by
 rw[tV];unfold Wt DI A2 MF;obtain⟨H1,b1,N,s1,l1,w1,k1⟩:=push w (c_ Jr [I x0,I x1,I x2,I x3,I x4,I x5]) (by simp);rw[Es (cs:=[I x0,I x1,I x2,I x3,I x4,I x5]) rfl,<-s1,<-N];obtain⟨H2,b2,e2,s2,l2,w2,k2⟩:=push w1 (c_ Jr [I f0,I f1,I f2,I f3,I f4,I f5]) (by simp);rw[Es (cs:=[I f0,I f1,I f2,I f3,I f4,I f5]) rfl,<-s2,<-e2];obtain⟨H3,z,O,s3,l3,w3,k3⟩:=push w2 (c_ Ad C7) (by simp);rw[Bv (cs:=C7) rfl,<-s3,<-O];obtain⟨H4,r,e4,s4,l4,w4,k4⟩:=push w3 (c_ Ad C7) (by simp);have m1:=k2 _ _ l1;have m2:=k3 _ _ m1.1;have m3:=k3 _ _ l2;have q1:=k4 _ _ m2.1;have q2:=k4 _ _ m3.1;have q3:=k4 _ _ l3;have g1:Ar H0<=b1:=by omega
 have g2:Ar H0<=b2:=by have:=w1.lt l1;omega
 have g3:Ar H0<=z:=by have:=w2.lt l2;omega
 have g4:Ar H0<=r:=by have:=w3.lt l3;omega
 have ae:∀s q,Ai H0 s=some q->Ai H4 s=some q:=λs q j=>(k4 _ _ (k3 _ _ (k2 _ _ (k1 _ _ j).1).1).1).1;clear N e2 O s1 s2 s3 k1 k2 k3 m1 m3 l1 l2 w1 w2;have p0:=Ft (c:=x0) (n:=3) (by decide);have p1:=Ft (c:=x1) (n:=3) (by decide);have p2:=Ft (c:=x2) (n:=9) (by decide);have p3:=Ft (c:=x3) (n:=4) (by decide);have c0:∀{H K},Aq (r! L (n+43)) BN [I x0,.v (.int .i64 3)] H K=K (I (pk x0 3)):=λ{H K}=>MN (n:=n+42) i0 (by decide) (by decide) H K;have c1:∀{H K},Aq (r! L (n+43)) BN [I x1,.v (.int .i64 3)] H K=K (I (pk x1 3)):=λ{H K}=>MN (n:=n+42) i1 (by decide) (by decide) H K;have c2:∀{H K},Aq (r! L (n+43)) BN [I x2,.v (.int .i64 9)] H K=K (I (pk x2 9)):=λ{H K}=>MN (n:=n+42) i2 (by decide) (by decide) H K;have c3:∀{H K},Aq (r! L (n+43)) BN [I x3,.v (.int .i64 4)] H K=K (I (pk x3 4)):=λ{H K}=>MN (n:=n+42) i3 (by decide) (by decide) H K;have c4:∀{H K},Aq (r! L (n+43)) BN [I x4,.v (.int .i64 50)] H K=K (I (pk x4 50)):=λ{H K}=>MN (n:=n+42) i4 (by decide) (by decide) H K;have c5:∀{H K},Aq (r! L (n+43)) BN [I x5,.v (.int .i64 30)] H K=K (I (pk x5 30)):=λ{H K}=>MN (n:=n+42) i5 (by decide) (by decide) H K;have a0:∀{K:K2},As Ac .add (.v (.int .i64 1)) (I (pk x0 3)) K=K (I (1+pk x0 3)):=λ{K}=>by rw[Dl,CX (by omega) (by omega)]
 have a1:∀{K:K2},As Ac .add (.v (.int .i64 1)) (I (pk x1 3)) K=K (I (1+pk x1 3)):=λ{K}=>by rw[Dl,CX (by omega) (by omega)]
 have Y:∀{K:K2},As Ac .add (.v (.int .i64 1)) (I (pk x2 9)) K=K (I (1+pk x2 9)):=λ{K}=>by rw[Dl,CX (by omega) (by omega)]
 have Z:∀{K:K2},As Ac .add (.v (.int .i64 1)) (I (pk x3 4)) K=K (I (1+pk x3 4)):=λ{K}=>by rw[Dl,CX (by omega) (by omega)]
 obtain⟨d0,d1,d2,u,A,B⟩:=rd6 m2.1;simp only[C07,C5m,C5l,C5k,C5j,C5i,d0,d1,d2,u,A,B,c0,c1,c2,c3,c4,c5,a0,a1,Y,Z,B6];clear d0 d1 d2 u A B;have bd:∀{a b c d e f:Int}{K:K2},BR Ae [(0,1,I a),(1,1,I b),(2,1,I c),(3,1,I d),(4,1,I e),(5,1,I f)] K=K (.agg (E4 a ⟨b,c,d,e,f⟩ u0 [] [] Av [] [] Av 0 Av Av u0 r0 0)):=λ{a b c d e f K}=>r_ rfl;rw[bd,B6,Bv (cs:=C7) rfl,BW,<-s4,<-e4,BQ (vs:=E4 (1+pk x0 3) ⟨1+pk x1 3,1+pk x2 9,1+pk x3 4,pk x4 50,pk x5 30⟩ u0 [] [] Av [] [] Av 0 Av Av u0 r0 0) l4 rfl rfl rfl,BW];clear e4 s4;obtain⟨d0,d1,d2,u,A,B⟩:=rd6 q1.1;simp only[d0,d1,d2,u,A,B,c0,c1,c2,c3,c4,c5,okI];clear d0 d1 d2 u A B c0 c1 c2 c3 c4 c5 a0 a1 Y Z bd;have mc:Mc H0 b1 b2 r z [I x0,I x1,I x2,I x3,I x4,I x5] [I f0,I f1,I f2,I f3,I f4,I f5] H4:=⟨q1.1,q2.1,⟨_,rfl,q3.1⟩,w4,q1.2,q2.2,q3.2,g1,g2,g4,g3,w,ae⟩
 have t:=mc.upd (c_ Ad (E4 (1+pk x0 3) ⟨1+pk x1 3,1+pk x2 9,1+pk x3 4,pk x4 50,pk x5 30⟩ u0 [] [] Av [] [] Av 0 Av Av u0 r0 0));have r5:=AC (q:=true) (e:=Ad) (cs:=E4 (1+pk x0 3) ⟨1+pk x1 3,1+pk x2 9,1+pk x3 4,pk x4 50,pk x5 30⟩ u0 [] [] Av [] [] Av 0 Av Av u0 r0 0) l4;generalize Go.Abs.upd H4 r (c_ Ad (E4 (1+pk x0 3) ⟨1+pk x1 3,1+pk x2 9,1+pk x3 4,pk x4 50,pk x5 30⟩ u0 [] [] Av [] [] Av 0 Av Av u0 r0 0))=H5 at t r5;clear mc ae q1 q2 q3 k4 l4 w4 l3 w3 m2 g1 g2 g3 g4 H4 H3 H2 H1;have af:∀{H K},Aq (r! L (n+43)) R4 [I (x3.tdiv 4),I (x4.tdiv 50),.agg [I f0,I f1,I f2,I f3,I f4,I f5]] H K=K (.agg [S (qn (pk (x3.tdiv 4) 161-80)),S (qd (pk (x3.tdiv 4) 161-80)),FI (L7 [f0,f1,f2,f3,f4,f5] 6),S (qn (pk (x4.tdiv 50) 9)),S (qd (pk (x4.tdiv 50) 9))]):=λ{H K}=>
  AQ (B09 (n:=n+2) (xs:=[f0,f1,f2,f3,f4,f5]) (by omega) (NW i3 (by decide)) (NW i4 (by decide)) rfl (by simp[j0,j1,j2,j3,j4,j5]))
   (Ao (q:=false) CA (Ao (q:=false) CA (Ao (LL (D:=depth-1) (K7 (λz:Int=>Value.int .i64 z) [f0,f1,f2,f3,f4,f5])) AI)))
 have lF:∀{K},AE B8 (.ptr b2 0 0) H5 K=K (.agg [I f0,I f1,I f2,I f3,I f4,I f5]):=λ{K}=>Br rfl rfl t.h2;obtain⟨d0,d1,d2,u,A,B⟩:=rd6 t.h1;obtain⟨H6,aj,Q,r6, -⟩:=A9r (i:=Fh) (p:=26) (vs:=[S (qn (pk (x3.tdiv 4) 161-80)),S (qd (pk (x3.tdiv 4) 161-80)),FI (L7 [f0,f1,f2,f3,f4,f5] 6),S (qn (pk (x4.tdiv 50) 9)),S (qd (pk (x4.tdiv 50) 9))]) t r5 rfl (by show 26+5<=68;decide) rfl (by show(true&&(true&&(AV.one (FI (L7 [f0,f1,f2,f3,f4,f5] 6))&&(true&&(true&&true)))))=true;rw[VW];rfl)
  (cs':=E4 (1+pk x0 3) ⟨1+pk x1 3,1+pk x2 9,1+pk x3 4,pk x4 50,pk x5 30⟩ u0 (qn (pk (x3.tdiv 4) 161-80)) (qd (pk (x3.tdiv 4) 161-80)) (FI (L7 [f0,f1,f2,f3,f4,f5] 6)) (qn (pk (x4.tdiv 50) 9)) (qd (pk (x4.tdiv 50) 9)) Av 0 Av Av u0 r0 0) rfl
 rw[u,oC i3 (by decide),A,oC i4 (by decide),lF,af,QD,aj];clear d0 d1 d2 u A B lF aj t r5 af;have ac:∀{H K},Aq (r! L (n+43)) Gu [I (x5.tdiv 30)] H K=K (.agg (CN (uu (pk (x5.tdiv 30) 7).toNat))):=λ{H K}=>A3x (n:=n+1) (NW i5 (by decide)) H K;obtain⟨d0,d1,d2,u,A,B⟩:=rd6 Q.h1;obtain⟨H7,ak,g,r7, -⟩:=A9r (i:=A0) (p:=6) (vs:=CN (uu (pk (x5.tdiv 30) 7).toNat)) Q r6 rfl (by show 6+20<=68;decide) rfl rfl
  (cs':=E4 (1+pk x0 3) ⟨1+pk x1 3,1+pk x2 9,1+pk x3 4,pk x4 50,pk x5 30⟩ (uu (pk (x5.tdiv 30) 7).toNat) (qn (pk (x3.tdiv 4) 161-80)) (qd (pk (x3.tdiv 4) 161-80)) (FI (L7 [f0,f1,f2,f3,f4,f5] 6)) (qn (pk (x4.tdiv 50) 9)) (qd (pk (x4.tdiv 50) 9)) Av 0 Av Av u0 r0 0) rfl
 have lk:∀{K},AE Ac (.ptr r 0 0) H7 K=K (I (1+pk x0 3)):=λ{K}=>AL (p:=0) rfl r7 (show 0<68 by decide);rw[B,oC i5 (by decide),ac,QD,ak,QD,lk,Cv];clear d0 d1 d2 u A B ak Q r6 ac lk;by_cases h0:pk x0 3=0
 ·have C:cdM x0 x1 x2 x3 x4 x5 f0 f1 f2 f3 f4 f5 y l=.re (cbM x1 x2 x3 x4 x5 [f0,f1,f2,f3,f4,f5]) (pk (x5.tdiv 30) 7).toNat:=Dr h0;have N:1+pk x0 3=1:=by omega
  rw[GI N,Co];rw[C]at R;rw[N]at r7;refine A1p g r7 rfl (RK (VW _) rfl rfl rfl) λH' w' kp=>?_;exact R Av H' (.inl ⟨rfl,rfl,rfl⟩) (λ_=>rfl) w' (λs q j=>kp s q (by have:=g.w0.lt j;have:=g.f4;omega) (g.kp s q j)) (λs ⟨_,_,_,h⟩=>by cases h)
 ·have C:cdM x0 x1 x2 x3 x4 x5 f0 f1 f2 f3 f4 f5 y l=.co (cbM x1 x2 x3 x4 x5 [f0,f1,f2,f3,f4,f5]) (qZ [f0,f1,f2] (x2.tdiv 9) y) (M! x1 l (qZ [f0,f1,f2] (x2.tdiv 9) y).ks.length) (if pk x0 3=1 then none else some (1+(pk (x0.tdiv 3) 3).toNat,1+pk (x0.tdiv 9) 3)):=CD h0;rw[C]at R;clear C;have P:∀{K},Aq (r! L (n+43)) Rz [.agg [I f0,I f1,I f2],I (x2.tdiv 9),a2,.v (.bool true)] H7 K=K (.agg (BL (qZ [f0,f1,f2] (x2.tdiv 9) y).id (BS (qZ [f0,f1,f2] (x2.tdiv 9) y).ks) (Cx (qZ [f0,f1,f2] (x2.tdiv 9) y).xs) (uu (qZ [f0,f1,f2] (x2.tdiv 9) y).out))):=λ{K}=>by
   obtain⟨q,hq⟩:=hy H7 g.kp;exact AQ (B08 (n:=n) (ins:=[f0,f1,f2]) (by omega) rfl (by simp[j0,j1,j2]) (NW i2 (by decide)) az) (Ao (LL (D:=depth-1) (K7 (λz:Int=>Value.int .i64 z) [f0,f1,f2])) (Ao (q:=false) CA (Ao hq (Ao (q:=false) CA AI))))
  have hp:=A3H (ins:=[f0,f1,f2]) (count:=x2.tdiv 9) (y:=y) rfl;generalize qZ [f0,f1,f2] (x2.tdiv 9) y=p at R P hp;have N:¬(1+pk x0 3=1):=by omega
  rw[HN N,Ba];obtain⟨g0,g1,g2, -, -, -⟩:=rd6 g.h2;obtain⟨d0,d1,d2, -, -, -⟩:=rd6 g.h1;have b3:∀{K:K2},BR RR [(0,1,I f0),(1,1,I f1),(2,1,I f2)] K=K (.agg [I f0,I f1,I f2]):=λ{K}=>r_ rfl;obtain⟨H8,am,ag,r8, -⟩:=A9r (i:=AW) (p:=32) (vs:=BL p.id (BS p.ks) (Cx p.xs) (uu p.out)) g r7 rfl (by show 32+23<=68;decide) rfl (yW rfl rfl)
   (cs':=E4 (1+pk x0 3) ⟨1+pk x1 3,1+pk x2 9,1+pk x3 4,pk x4 50,pk x5 30⟩ (uu (pk (x5.tdiv 30) 7).toNat) (qn (pk (x3.tdiv 4) 161-80)) (qd (pk (x3.tdiv 4) 161-80)) (FI (L7 [f0,f1,f2,f3,f4,f5] 6)) (qn (pk (x4.tdiv 50) 9)) (qd (pk (x4.tdiv 50) 9)) Av p.id (BS p.ks) (Cx p.xs) (uu p.out) r0 0) rfl
  have lu:∀{K},AE A0 (.ptr r 35 0) H8 K=K (.agg (CN (uu p.out))):=λ{K}=>GE (p:=35) rfl r8 (show 55<=68 by decide);obtain⟨H9,ao,ah,r9, -⟩:=A9r (i:=A0) (p:=6) (vs:=CN (uu p.out)) ag r8 rfl (by show 6+20<=68;decide) rfl rfl
   (cs':=E4 (1+pk x0 3) ⟨1+pk x1 3,1+pk x2 9,1+pk x3 4,pk x4 50,pk x5 30⟩ (uu p.out) (qn (pk (x3.tdiv 4) 161-80)) (qd (pk (x3.tdiv 4) 161-80)) (FI (L7 [f0,f1,f2,f3,f4,f5] 6)) (qn (pk (x4.tdiv 50) 9)) (qd (pk (x4.tdiv 50) 9)) Av p.id (BS p.ks) (Cx p.xs) (uu p.out) r0 0) rfl
  have f35:∀{K:K2},CL 3 (.ptr r 32 0) K=K (.ptr r 35 0):=λ{K}=>by rw[fA]
  rw[g0,g1,g2,b3,d2,oC i2 (by decide),P,QD,am,QD,f35,lu,QD,ao];clear g0 g1 g2 d0 d1 d2 b3 am ag r8 lu ao f35 P g r7;refine PX λa7 aa=>?_;refine PX λa6 M=>?_;have hc:CR (λv=>E4 (1+pk x0 3) ⟨1+pk x1 3,1+pk x2 9,1+pk x3 4,pk x4 50,pk x5 30⟩ (uu p.out) (qn (pk (x3.tdiv 4) 161-80)) (qd (pk (x3.tdiv 4) 161-80)) (FI (L7 [f0,f1,f2,f3,f4,f5] 6)) (qn (pk (x4.tdiv 50) 9)) (qd (pk (x4.tdiv 50) 9)) v p.id (BS p.ks) (Cx p.xs) (uu p.out) r0 0) p.ks:=⟨λ_=>rfl,λ_ _=>rfl,λ_=>rfl,λ_=>rfl⟩
  refine C2A (n:=n) (l:=l) hL hc i1 hp.k3 hl hb ar ?_ (L+20) 0 Av _ _ H9 (by omega) (by have:=hp.k3;omega) ⟨ah,r9,.inl ⟨rfl,rfl,rfl⟩,λ_=>rfl,λs ⟨_,_,_,h⟩=>by cases h⟩;intro v H m;rw[M,aa];clear M aa ah r9;refine PX λa4 ab=>?_;have k:∀(cs:Is)(V:Hp),Mc H0 b1 b2 r z [I x0,I x1,I x2,I x3,I x4,I x5] [I f0,I f1,I f2,I f3,I f4,I f5] V->Ai V r=some (c_ Ad cs)->cs.length=68->cs.all AV.one=true->cs=(Cd.co (cbM x1 x2 x3 x4 x5 [f0,f1,f2,f3,f4,f5]) p (M! x1 l p.ks.length) (if pk x0 3=1 then none else some (1+(pk (x0.tdiv 3) 3).toNat,1+pk (x0.tdiv 9) 3))).csP v->(∀s q,s≠r->Ai H s=some q->Ai V s=some q)->a4 V=x:=by
   intro cs V J rx c1 c2 aq kx;rw[ab];refine A1p J rx c1 c2 λH' w' kp=>?_;rw[aq];refine R v H' ?_ m.nv w' (λs q j=>kp s q (by have:=J.w0.lt j;have:=J.f4;omega) (J.kp s q j)) (λs j=>(m.fr s j).1);exact m.sv.kp λs q j hl=>kp s q (m.fr s j).2.2.2.2 (kx s q (m.fr s j).2.2.2.1 hl)
  clear ab R;have lk:∀{K},AE Ac (.ptr r 0 0) H K=K (I (1+pk x0 3)):=λ{K}=>AL (p:=0) rfl m.hr (show 0<68 by decide);rw[QD,lk,Cv];by_cases h1:pk x0 3=1
  ·have O:¬(1+pk x0 3=3):=by omega
   rw[HN O,Ba];rw[Dr h1]at k;have e2:1+pk x0 3=2:=by omega
   have hr:=m.hr;rw[e2]at hr;exact k _ H m.mc hr rfl (RK (VW _) (AU.one m.sv) rfl rfl) rfl (λs q _ h=>h)
  ·have O:1+pk x0 3=3:=by omega
   have pv:=Ft (c:=x0.tdiv 9) (n:=3) (by decide);rw[GI O,Co];rw[CD h1]at k;have hr:=m.hr;rw[O]at hr;have ay:∀{H K},Aq (r! L (n+43)) K8 [I (x0.tdiv 3)] H K=K (.agg (rr (1+(pk (x0.tdiv 3) 3).toNat)).cs):=λ{H K}=>B4o (n:=n+41) (NW i0 (by decide)) H K;have ax:∀{H K},Aq (r! L (n+43)) BN [I (x0.tdiv 9),.v (.int .i64 3)] H K=K (I (pk (x0.tdiv 9) 3)):=λ{H K}=>MN (n:=n+42) (NW i0 (by decide)) (by decide) (by decide) H K;have ad:∀{K:K2},As Ac .add (.v (.int .i64 1)) (I (pk (x0.tdiv 9) 3)) K=K (I (1+pk (x0.tdiv 9) 3)):=λ{K}=>by rw[Dl,CX (by omega) (by omega)]
   obtain⟨d0, -⟩:=rd6 m.mc.h1;obtain⟨HA,a5,ai,rA,kA⟩:=A9r (i:=Ec) (p:=55) (vs:=(rr (1+(pk (x0.tdiv 3) 3).toNat)).cs) m.mc hr rfl (by show 55+9<=68;decide) rfl rfl
    (cs':=E4 3 ⟨1+pk x1 3,1+pk x2 9,1+pk x3 4,pk x4 50,pk x5 30⟩ (uu p.out) (qn (pk (x3.tdiv 4) 161-80)) (qd (pk (x3.tdiv 4) 161-80)) (FI (L7 [f0,f1,f2,f3,f4,f5] 6)) (qn (pk (x4.tdiv 50) 9)) (qd (pk (x4.tdiv 50) 9)) v p.id (BS p.ks) (Cx p.xs) (uu p.out) (rr (1+(pk (x0.tdiv 3) 3).toNat)) 0) rfl
   obtain⟨ap, -⟩:=rd6 ai.h1;rw[C07,d0,oC i0 (by decide),ay,QD,a5,C07,ap,oC i0 (by decide),ax,ad,QD,D5 rA (show 64<68 by decide) rfl rfl rfl];exact k _ _ (ai.upd _) (AC rA) rfl (RK (VW _) (AU.one m.sv) rfl rfl) rfl (λs q j h=>by rw[Ag j];exact kA s q j h)
end
end
section
variable{P:AV}{y6:Int}
variable{L n:Nat}
def A7q{f:AV->(Bool->K2)->Af}:∀(l m:Is)(K:Bool->Is->Af),IK f (l++m) K=IK f l λq c=>IK f m λd h=>K (q||d) (c++h):=by
 intro l
 induction l with
 |nil=>intro m K;rfl
 |cons a l ih=>
  intro m K;have e:∀(l:Is)(K:Bool->Is->Af),IK f (a::l) K=f a λq g=>IK f l λd c=>K (@Bool.rec (λ_=>Bool) d true q) (g::c):=λ_ _=>rfl;rw[List.cons_append,e,e]
  congr 1
  funext q g
  rw[ih]
  congr 1
  funext q1 i
  congr 1
  funext q2 j
  cases q<;>rfl
def S!{b:Bool}{D:Nat}{l a m c:Is}{H:Hp}{q q':Bool}(h:Rm b D l a H q)(k:Rm b D m c H q'):Rm b D (l++m) (a++c) H (q||q'):=λK=>by
 rw[A7q,h,k]
def fixB:AV->Bool
 |.v _=>true
 |.list _ _=>true
 |_=>false
def Zz{D:Nat}{H:Hp}:∀l:Is,l.all fixB=true->Rm true D l l H false:=by
 intro l
 induction l with
 |nil=>intro _;exact AI
 |cons a l ih=>
  intro h;simp only[oG,KK]at h;have h2:=ih h.2;cases a with
  |v x=>exact Ao (q:=false) CA h2
  |list n cs=>exact Ao (q:=false) OD h2
  |_=>cases h.1
def J_(ts:kG):fixB (FI ts)=true:=by cases ts<;>rfl
def A7F{k:IntKind}{z:Int}:fixB (.v (.int k z))=true:=rfl
def zQ{l:Ha}:fixB (S l)=true:=rfl
def C0o:fixB (.v (.slice none 0 0))=true:=rfl
def C3P{l:Is}:fixB (.list n l)=true:=rfl
def nL(c:Cd):∃A B:Is,(∀P,c.csP P=A++P::B)/\A.all fixB=true/\B.all fixB=true:=by
 match c with
 |.re b u=>
  refine⟨((Cd.re b u).csP Av).take 31,((Cd.re b u).csP Av).drop 32,λ_=>rfl,?_,?_⟩
  ·simp only[Cd.csP,List.take_succ_cons,List.take_zero,oG,l3a,A7F,zQ,J_,l1g,l1b]
  ·simp only[Cd.csP,List.drop_succ_cons,rC,oG,l3a,A7F,zQ,C0o,l1g,l1b]
 |.co b p ps none=>
  refine⟨((Cd.co b p ps none).csP Av).take 31,((Cd.co b p ps none).csP Av).drop 32,λ_=>rfl,?_,?_⟩
  ·simp only[Cd.csP,List.take_succ_cons,List.take_zero,oG,l3a,A7F,zQ,J_,l1g,l1b]
  ·simp only[Cd.csP,List.drop_succ_cons,rC,oG,l3a,A7F,zQ,C0o,C3P,l1g,l1b]
 |.co b p ps (some (k,vd))=>
  refine⟨((Cd.co b p ps (some (k,vd))).csP Av).take 31,((Cd.co b p ps (some (k,vd))).csP Av).drop 32,λ_=>rfl,?_,?_⟩
  ·simp only[Cd.csP,List.take_succ_cons,List.take_zero,oG,l3a,A7F,zQ,J_,l1g,l1b]
  ·simp only[Cd.csP,List.drop_succ_cons,rC,oG,l3a,A7F,zQ,C0o,C3P,l1g,l1b]
def rM(c:Cd)(h:AV.one P=true):(c.csP P).all AV.one=true:=by
 match c with
 |.re b u=>exact RK (VW _) h rfl rfl
 |.co b p ps none=>exact RK (VW _) h rfl rfl
 |.co b p ps (some (k,vd))=>exact RK (VW _) h rfl rfl
def OV(c:Cd):(c.csP P).length=68:=by
 match c with
 |.re b u=>rfl
 |.co b p ps none=>rfl
 |.co b p ps (some (k,vd))=>rfl
section
variable{H H':Hp}{v:AV}{l:List Ha}{D:Nat}{b:Bool}
def iU(h:AU H Al 1 v l.length (A9 l))(c:l=[]->v=Av):∃q,Fx b (D+1) v (DV l) H q:=by
 rcases h with⟨rfl,h2,_⟩|⟨r,q,rfl,h2,d⟩
 ·cases l with
  |nil=>exact⟨false,CA⟩
  |cons a l=>simp at h2
 ·cases l with
  |nil=>have:=c rfl;cases this
  |cons a l=>
   refine⟨true,?_⟩;show Fx b (D+1) _ (.list (a::l).length (A9 (a::l))) H true;exact VA (q':=false) h2 d (K7 (λs=>Value.string ⟨⟨s⟩⟩) (a::l))
def X'{c:Cd}(h:AU H Al 1 v c.ps.length (A9 c.ps))(a:c.ps=[]->v=Av):∃q,Rm true (D+1) (c.csP v) c.cs H q:=by
 obtain⟨q,hq⟩:=iU (D:=D) (b:=true) h a;obtain⟨A,B,e,f1,f2⟩:=nL c;rw[<-A4C c,e,e];exact⟨_,S! (Zz A f1) (Ao hq (Zz B f2))⟩
abbrev GV:=List (Cd×AV)
def gvC(g:GV):Is:=g.flatMap λp=>p.1.csP p.2
structure GvOk(g:GV)(H:Hp):Prop where
 sl:∀p∈g,AU H Al 1 p.2 p.1.ps.length (A9 p.1.ps)
 nl:∀p∈g,p.1.ps=[]->p.2=Av
def C3w{g:GV}(h:GvOk g H):∃q,Rm true (D+1) (gvC g) ((g.map Prod.fst).flatMap Cd.cs) H q:=by
 induction g with
 |nil=>exact⟨_,AI⟩
 |cons p g ih=>
  obtain⟨q1,h1⟩:=ih ⟨λr hr=>h.sl r (by simp[hr]),λr hr=>h.nl r (by simp[hr])⟩;obtain⟨q2,h2⟩:=X' (D:=D) (h.sl p (by simp)) (h.nl p (by simp));exact⟨_,S! h2 h1⟩
def eH(gs:eo):AV:=match gs with
 |[]=>Av
 |c::gs=>.list (c::gs).length ((c::gs).flatMap Cd.cs)
def Xb(gs:eo):LA gs (eH gs):=by cases gs with|nil=>exact .inr ⟨rfl,rfl⟩|cons _ _=>exact .inl rfl
def C0a{g:GV}{lv:AV}(h:GvOk g H)(f:AU H Ad 68 lv g.length (gvC g))(c:g=[]->lv=Av):∃q,Fx true (D+2) lv (eH (g.map Prod.fst)) H q:=by
 rcases f with⟨rfl,h2,_⟩|⟨r,q,rfl,h2,d⟩
 ·cases g with
  |nil=>exact⟨false,CA⟩
  |cons a l=>simp at h2
 ·cases g with
  |nil=>have:=c rfl;cases this
  |cons p g=>
   obtain⟨q1,h1⟩:=C3w (D:=D) h;refine⟨true,?_⟩;have e:eH ((p::g).map Prod.fst)=.list (p::g).length (((p::g).map Prod.fst).flatMap Cd.cs):=by
    show AV.list _ _=_;rw[show(p.1::g.map Prod.fst).length=(p::g).length by simp];rfl
   rw[e];exact VA h2 d h1
end
structure Y7 where
 (y0 y1 y2 y3 y4 y5 y6:Int)
def Y7.cs(y:Y7):Is:=[I y.y0,I y.y1,I y.y2,I y.y3,I y.y4,I y.y5,I y.y6]
def Y7.Ok(y:Y7):Prop:=J8 y.y0/\J8 y.y1/\J8 y.y2/\J8 y.y3/\J8 y.y4/\J8 y.y5/\J8 y.y6
def wZ(ids:List Ha)(y6:Int):Nat->List Ha
 |0=>[]
 |k+1=>if 0<ids.length/\pk (y6.fdiv (2^(4*k))) 16<14 then wZ ids y6 k++[ids.getD ((pk (y6.fdiv (2^(4*k))) 16).toNat%ids.length) []] else wZ ids y6 k
def A5D{ids:List Ha}:∀k,∀s∈wZ ids y6 k,s∈ids:=by
 intro k
 induction k with
 |zero=>intro s a;simp[wZ]at a
 |succ k ih=>
  intro s a;unfold wZ at a;split at a
  ·rename_i h;rcases Zx.1 a with a|a
   ·exact ih s a
   ·rw[XR]at a;subst a;have:=Nat.mod_lt (pk (y6.fdiv (2^(4*k))) 16).toNat h.1;rw[UT,KL this];exact NT this
  ·exact ih s a
def A5E{ids:List Ha}:∀k,(wZ ids y6 k).length<=k:=by
 intro k
 induction k with
 |zero=>simp[wZ]
 |succ k ih=>
  unfold wZ;split
  ·simp;omega
  ·omega
def kdM(i:Nat)(y:Y7):Int:=if i<2/\0<pk (y.y0.tdiv 3) 4 then 0 else y.y0
def cM(i:Nat)(y:Y7)(ids:List Ha):Cd:=cdM (kdM i y) y.y1 y.y2 y.y3 y.y4 y.y5 y.y1 y.y2 y.y3 y.y4 y.y5 y.y6 (some (y.y3,y.y4,y.y5,y.y6)) (wZ ids y.y6 3)
def QC(xs:List Y7):Nat->eo
 |0=>[]
 |i+1=>
  if(cM i (xs.getD i ⟨0,0,0,0,0,0,0⟩) ((QC xs i).map Cd.id)).ps.Nodup/\(cM i (xs.getD i ⟨0,0,0,0,0,0,0⟩) ((QC xs i).map Cd.id)).id∉(QC xs i).map Cd.id
  then QC xs i++[cM i (xs.getD i ⟨0,0,0,0,0,0,0⟩) ((QC xs i).map Cd.id)] else QC xs i
def B6M{i:Nat}{y:Y7}{gs:eo}:(cM i y (gs.map Cd.id)).Ok:=by
 refine A4I λs a=>?_;obtain⟨c,_,rfl⟩:=PW.1 (A5D _ s a);exact A4G c
def B16(xs:List Y7):∀i,i<=8->GOk (QC xs i)/\(QC xs i).length<=i:=by
 intro i
 induction i with
 |zero=>intro _;exact⟨⟨by simp[QC],by simp[QC],by simp[QC],by simp[QC]⟩,by simp[QC]⟩
 |succ i ih=>
  intro hi;obtain⟨h,f⟩:=ih (by omega);unfold QC;split
  ·rename_i hc;refine⟨⟨λc hm=>?_,λc hm=>?_,?_,by simp;omega⟩,by simp;omega⟩
   ·rcases Zx.1 hm with hm|hm
    ·exact h.ok c hm
    ·rw[XR]at hm;subst hm;exact B6M
   ·rcases Zx.1 hm with hm|hm
    ·exact h.nd c hm
    ·rw[XR]at hm;subst hm;exact hc.1
   ·rw[XS,l36];refine⟨h.ids,by simp,λa g b hb e=>?_⟩;obtain⟨j,d,rfl⟩:=PW.1 hb;rw[XR]at d;subst d;exact hc.2 (e▸g)
  ·exact⟨h,by omega⟩
end
section
variable{L n:Nat}
abbrev AP:=Ha
section
variable{gs:eo}{b:List (AP×Unit)}{p:AP}{ids:List AP}
def Z_(ids:List AP)(b:List (AP×Unit)):List AP->List (AP×Unit)
 |[]=>b
 |p::ps=>Z_ ids (if p∈ids then b else Ml b p ()) ps
def yV:∀b:List (AP×Unit),(Ml b p ()).map Prod.fst=if p∈b.map Prod.fst then b.map Prod.fst else b.map Prod.fst++[p]:=by
 intro b
 induction b with
 |nil=>rfl
 |cons e b ih=>
  unfold Ml;by_cases h:e.1=p
  ·simp[h]
  ·rw[CD h,XC,ih,XC];have hm:(p∈e.1::b.map Prod.fst)↔p∈b.map Prod.fst:=by simp[Ne.symm h]
   by_cases h2:p∈b.map Prod.fst
   ·rw[Dr h2,Dr (hm.2 h2)]
   ·rw[CD h2,CD (λa=>h2 (hm.1 a))];rfl
def nX:∀(ps:List AP)(b:List (AP×Unit)),(b.map Prod.fst).Nodup->((Z_ ids b ps).map Prod.fst).Nodup/\∀x,x∈(Z_ ids b ps).map Prod.fst↔x∈b.map Prod.fst\/(x∈ps/\x∉ids):=by
 intro ps
 induction ps with
 |nil=>intro b h;exact⟨h,λx=>by simp[Z_]⟩
 |cons p ps ih=>
  intro b h;have h1:((if p∈ids then b else Ml b p ()).map Prod.fst).Nodup/\∀x,x∈(if p∈ids then b else Ml b p ()).map Prod.fst↔x∈b.map Prod.fst\/(x=p/\x∉ids):=by
   by_cases f:p∈ids
   ·rw[Dr f];refine⟨h,λx=>⟨.inl,λd=>d.elim id λ⟨e,hn⟩=>absurd (e▸f) hn⟩⟩
   ·rw[CD f,yV];by_cases hm:p∈b.map Prod.fst
    ·rw[Dr hm];exact⟨h,λx=>⟨.inl,λd=>d.elim id λ⟨e,_⟩=>e▸hm⟩⟩
    ·rw[CD hm];refine⟨l36.2 ⟨h,by simp,λa j c hc=>by simp at hc;subst hc;exact λe=>hm (e▸j)⟩,λx=>?_⟩;rw[Zx,XR];exact⟨λd=>d.imp id λe=>⟨e,e▸f⟩,λd=>d.imp id λe=>e.1⟩
  obtain⟨h2,i⟩:=ih _ h1.1;refine⟨h2,λx=>?_⟩;show x∈(Z_ ids (if p∈ids then b else Ml b p ()) ps).map Prod.fst↔_;rw[i,h1.2,Xd];constructor
  ·rintro((h|h)|h)
   ·exact .inl h
   ·exact .inr ⟨.inl h.1,h.2⟩
   ·exact .inr ⟨.inr h.1,h.2⟩
  ·rintro(h|⟨h|h,g⟩)
   ·exact .inl (.inl h)
   ·exact .inl (.inr ⟨h,g⟩)
   ·exact .inr ⟨h,g⟩
def JN(gs:eo):List AP:=Et ((Z_ (gs.map Cd.id) [] (gs.flatMap Cd.ps)).map Prod.fst)
def uJ:(JN gs).Nodup:=(Bl _).symm.nodup (nX _ [] (by simp)).1
def P':(JN gs).Pairwise (· <= ·):=DM _
def RG{x:AP}:x∈JN gs↔x∉gs.map Cd.id/\∃c∈gs,x∈c.ps:=by
 rw[JN,(Bl _).mem_iff,(nX _ [] (by simp)).2];simp only[List.map_nil,List.not_mem_nil,false_or,l39];exact and_comm
def A5b{H:Hp}{K:K2}:Aq (r! L (n+1)) Fo [gV gs,S p] H K=K (Bo (decide (p∈gs.map Cd.id))):=by
 refine AQ (λK a=>?_) (Ao iW (Ao (q:=false) CA AI));rw[Vu];unfold Lm L8;have d:∀(F:Value->Af),Mt (S p) F=F (SV p):=λF=>id rfl;rw[d,A4p (f:=DU) (b:=gE gs) (λK=>id rfl)];by_cases h:p∈gs.map Cd.id
 ·obtain⟨c,hc⟩:∃c,MG (gE gs) p=some c:=by
   rcases A5W (gs:=gs) (s:=p) with⟨_,k,e,h1,_⟩|⟨h1,_⟩
   ·exact⟨_,h1⟩
   ·exact absurd h h1
  rw[hc];simp only[];rw[Fl,Fk,Bv (cs:=C7) rfl,BQ (cs:=C7) (vs:=c.cs) (Ax (by simp)) Eb rfl Ma];rw[GI h]at a⊢;exact a _ _ λb=>⟨false,CA⟩
 ·rw[YV (by rw[Xi];exact h)];simp only[];rw[Fl,Fk,Bv (cs:=C7) rfl]
  erw[BQ (cs:=C7) (vs:=C7) (Ax (by simp)) rfl rfl rfl]
  rw[HN h]at a⊢;exact a _ _ λb=>⟨false,CA⟩
end
section
variable{gs:eo}{ids:List AP}
def A2z:∀(ps:List AP)(b:List (AP×Unit)),(Z_ ids b ps).length<=b.length+ps.length:=by
 intro ps
 induction ps with
 |nil=>intro b;exact LH _
 |cons p ps ih=>
  intro b;have h1:(if p∈ids then b else Ml b p ()).length<=b.length+1:=by
   split
   ·omega
   ·have:=congrArg List.length (yV (p:=p) b);rw[Po]at this;rw[this];split<;>simp
  have h2:=ih (if p∈ids then b else Ml b p ());show(Z_ ids (if p∈ids then b else Ml b p ()) ps).length<=_;rw[Mr];omega
def B5o:∀gs:eo,(∀c∈gs,c.ps.length<100)->(gs.flatMap Cd.ps).length<=gs.length*100:=by
 intro gs
 induction gs with
 |nil=>intro _;simp
 |cons c gs ih=>
  intro h;have h1:=h c (by simp);have h2:=ih λd a=>h d (by simp[a]);rw[oK,Ez,Mr,l1e];omega
def A7n(a:GOk gs)(d:∀c∈gs,c.ps.length<100):(JN gs).length<1000:=by
 have h1:=A2z (ids:=gs.map Cd.id) (gs.flatMap Cd.ps) [];have h2:=B5o gs d;have e:=a.len;rw[JN,(Bl _).length_eq,Po];simp at h1;simp at h2;omega
def B0r:∀l:List AP,pl 6 (DV l)=true:=by
 intro l;cases l with
 |nil=>rfl
 |cons a l=>
  show(A9 (a::l)).all (pl 5)=true;rw[G9];intro y c;obtain⟨s,_,rfl⟩:=PW.1 c;rfl
def vK{ty:Nat}{es:IH}{H:Hp}{K:KV}:GZ ty (.imap es) H K=K (.ptr (Ar H) 0 0) ((Ar H,c_ ty [.imap es])::H):=by
 unfold GZ;rw[CM,FN,Ca];rfl
end
abbrev B1u(gs:eo):AV:=.fn (.func XA1) [] [.iptr [gV gs]]
def lpM(gs:eo)(p:Option (Option Code)):Row:=.loop 27 [(2,Av),(3,.ptr 0 0 0),(5,.ptr 2 0 0),(7,.dk),(15,B1u gs),(17,.dk),(18,.dk),(19,.dk),(20,.dk),(21,.dk),(22,.dk),(23,.dk),(24,.dk)] (Ek).2.1 (Ek).2.2.1 (Ek).2.2.2 p
structure Ms(gs:eo)(b:List (AP×Unit))(H:Hp):Prop where
 net:Ai H 0=some (c_ CH [gV gs])
 mm:Ai H 1=some (.map false (Df uS b) none)
 st:Ai H 2=some (c_ CP [.mp 1])
 lp:Ai H 3=some (lpM gs (some none))
 wf:Wf H
section
variable{gs:eo}{b:List (AP×Unit)}{H:Hp}{K:KV}{x:Af}{p s:AP}
def Ms.kp{H':Hp}(h:Ms gs b H)(w:Wf H')(k:∀u y,u<4->Ai H u=some y->Ai H' u=some y):Ms gs b H':=
 ⟨k _ _ (by decide) h.net,k _ _ (by decide) h.mm,k _ _ (by decide) h.st,k _ _ (by decide) h.lp,w⟩
def B6n{a:Hp}{K:Ru}(h:Ai a 3=some (lpM gs none)):EB a 3 false (some none) K=K (upd a 3 (lpM gs (some none))):=Pz h
def B45(h:Ms gs b H)(r:∀t,Ms gs (if p∈gs.map Cd.id then b else Ml b p ()) t->(∀u y,3<u->Ai H u=some y->Ai t u=some y)->K (Bo true) t=x):
 Cw (E (L+20)) (r! L (n+2)) (.yl 3) [S s,S p] H K=x:=by
 show NV (r! L (n+2)) 3 [S s,S p] H K=x;rw[Pq h.lp (by kernel_rfl)];have j:(r! L (n+2)).run= λw=>Pt (E (L+20)) (r! L (n+1)) w:=rfl;rw[j,dX,P0 h.lp];simp only[BH];have d:Ai (upd H 3 (lpM gs none)) 0=some (c_ CH [gV gs]):=by rw[Ag (by decide)];exact h.net
 have c:Ai (upd H 3 (lpM gs none)) 1=some (.map false (Df uS b) none):=by rw[Ag (by decide)];exact h.mm
 have e:Ai (upd H 3 (lpM gs none)) 2=some (c_ CP [.mp 1]):=by rw[Ag (by decide)];exact h.st
 have a:Ai (upd H 3 (lpM gs none)) 3=some (lpM gs none):=Fg h.lp;have g:∀u y,3<u->Ai H u=some y->Ai (upd H 3 (lpM gs none)) u=some y:=λu y q k=>by rw[Ag (by omega)];exact k
 have w1:Wf (upd H 3 (lpM gs none)):=Bi h.wf;show AE Aj (.ptr 0 0 0) (upd H 3 (lpM gs none)) _=_;rw[AL (p:=0) rfl d (by simp)];show Aq (r! L (n+1)) Fo [gV gs,S p] (upd H 3 (lpM gs none)) _=_;rw[A5b,DR];by_cases m:p∈gs.map Cd.id
 ·rw[Dr m]at r;rw[GI m];show A1 (.v (.bool false)) _ _=_;rw[Ba];show EB (upd H 3 (lpM gs none)) 3 false (some none) _=_;rw[B6n a];refine r _ ⟨?_,?_,?_,Fg a,Bi w1⟩ λu y q k=>?_
  ·rw[Ag (by decide)];exact d
  ·rw[Ag (by decide)];exact c
  ·rw[Ag (by decide)];exact e
  ·rw[Ag (by omega)];exact g u y q k
 ·rw[CD m]at r;rw[HN m];show A1 (.v (.bool true)) _ _=_;rw[Co];show AE CI (.ptr 2 0 0) (upd H 3 (lpM gs none)) _=_;rw[AL (p:=0) rfl e (by simp)];have A:∀{K:K2},BR F8 [] K=K (.agg []):=λ{K}=>id rfl;have B:∀(F:Value->Af),Mt (S p) F=F (SV p):=λF=>id rfl;rw[A,B];show MC (.mp 1) (SV p) (uS ()) (upd H 3 (lpM gs none)) _=_;rw[jE (f:=uS) (v:=()) c];have i:Ai (upd (upd H 3 (lpM gs none)) 1 (.map false (Df uS (Ml b p ())) none)) 3=some (lpM gs none):=by rw[Ag (by decide)];exact a
  show EB (upd (upd H 3 (lpM gs none)) 1 (.map false (Df uS (Ml b p ())) none)) 3 false (some none) _=_;rw[B6n i];refine r _ ⟨?_,?_,?_,Fg i,Bi (Bi w1)⟩ λu y q k=>?_
  ·rw[Ag (by decide),Ag (by decide)];exact d
  ·rw[Ag (by decide)];exact(BF c).trans rfl
  ·rw[Ag (by decide),Ag (by decide)];exact e
  ·rw[Ag (by omega),Ag (by omega)];exact g u y q k
def C0v{c:AV->AV->AV->AV->AV->KV}{j:AV}{y:Row}{ps:List AP}(hb:ps.length<100):∀(f i:Nat)(b:List (AP×Unit))(H:Hp),i<=ps.length->ps.length-i<f->Ms gs b H->Ai H 4=some y->
 (∀d a,Ms gs (Z_ (gs.map Cd.id) b (ps.drop i)) a->Ai a 4=some y->c (.yl 3) (S s) j (DV ps) (I ps.length) d a=x)->
 Gk (L+20) (r! L (n+2)) K c f (.yl 3) (S s) j (DV ps) (I ps.length) (I i) H=x:=by
 intro f
 induction f with
 |zero=>intro i b H _ h;omega
 |succ f ih=>
  intro i b H hi q hm k e;rw[KU];unfold Gp HV A2;by_cases h:i<ps.length
  ·rw[FG (by omega),Co,(My ps).ia h,KD];rw[rF h]at e;refine B45 hm λa g m=>?_;rw[DR];show A1 (.v (.bool false)) _ _=_;rw[Ba,Dd (by omega)];exact ih (i+1) _ a (by omega) (by omega) g (m 4 y (by decide) k) e
  ·rw[FB (by omega),Ba];have:i=ps.length:=by omega
   subst this;rw[List.drop_length]at e;exact e _ H hm k
def C0w{X:Ru}{w:AV}(hw:VQ 6 w w=true)(R:∀c∈gs,c.ps.length<100)(hL:100<L)(r:∀b H,Ms gs b H->(b.map Prod.fst).Perm (JN gs)->X H=some (w,[])):
 ∀(f:Nat)(es:List (AP×Cd))(b:List (AP×Unit))(H:Hp)(o:Option (Value×AV))(d0 d1 d2 B:AV),es.length<f->(∀e∈es,e∈gE gs)->Ms gs b H->Ai H 4=some (.iter (Df DU es) o)->
 (b.map Prod.fst).Nodup->(∀q∈b.map Prod.fst,q∈JN gs)->(∀q∈JN gs,q∈b.map Prod.fst\/∃e∈es,q∈e.2.ps)->
 Gn (L+20) (r! L (n+2)) K X f (.yl 3) d0 (.it 4) d1 d2 B H=some (w,[]):=by
 intro f
 induction f with
 |zero=>intro es b H o d0 d1 d2 B h;omega
 |succ f ih=>
  intro es b H o d0 d1 d2 B hf he hm Q A h1 h2;rw[KW];unfold Gq DI A2;refine Y0 (f:=DU) hw Q (λe=>?_) (λa e c J=>?_)
  ·subst e;rw[Gz,Ba];refine r b H hm ((l35 A uJ).2 λq=>⟨h1 q,λhq=>(h2 q hq).elim id λ⟨e,he,_⟩=>absurd he (by simp)⟩)
  ·subst J;obtain⟨cd,i,F⟩:=PW.1 (he e (by simp));subst F;have j:=LG (es:=Df DU (a++c)) (o:=some (.string ⟨⟨cd.id⟩⟩,DU cd)) Q;have k:Ms gs b (upd H 4 (.iter (Df DU (a++c)) (some (.string ⟨⟨cd.id⟩⟩,DU cd)))):=hm.kp (Bi hm.wf) λu y hu P=>by rw[Ag (by omega)];exact P
   rw[Gz,Co];simp only[BH];rw[NK j,Gz,UJ];generalize upd H 4 (.iter (Df DU (a++c)) (some (.string ⟨⟨cd.id⟩⟩,DU cd)))=H1 at j k;obtain⟨Z,e2,D,w2,V⟩:=HF (e:=Ad) (zs:=C7) (vs:=cd.cs) k.wf Eb;rw[Bv (cs:=C7) rfl,BQ (cs:=C7) (vs:=cd.cs) (Ax (by simp)) Eb rfl Ma,<-e2,fA,Kk,B2b D,jG];have O:=k.kp w2 λu y _ P=>(V u y P).1;have N:=(V _ _ j).1;have e0:(AV.v (.int .i64 0))=I ((0:Nat):Int):=rfl;rw[e0];refine C0v (n:=n) (R cd i) (L+20) 0 b Z (by omega) (by have:=R cd i;omega) O N λd Y t M=>?_;rw[rC]at t;obtain⟨g1,C⟩:=nX (ids:=gs.map Cd.id) cd.ps b A;refine ih (a++c) _ Y _ _ _ _ _ (by simp at hf⊢;omega) (λe g=>he e (by simp at g⊢;rcases g with g|g;exact .inl g;exact .inr (.inr g))) t M g1 (λq hq=>?_) (λq hq=>?_)
   ·rcases(C q).1 hq with hq|⟨hq,hn⟩
    ·exact h1 q hq
    ·exact RG.2 ⟨hn,cd,i,hq⟩
   ·rcases h2 q hq with h|⟨e,g,m⟩
    ·exact .inl ((C q).2 (.inl h))
    ·simp at g;rcases g with g|g|g
     ·exact .inr ⟨e,by simp[g],m⟩
     ·subst g;exact .inl ((C q).2 (.inr ⟨m,(RG.1 hq).1⟩))
     ·exact .inr ⟨e,by simp[g],m⟩
def yJ{a:AV}(m:GOk gs)(O:40000<L)(w:∀c∈gs,c.ps.length<100)(u:LA gs a):CS (r! L (n+80)) Js [a] (DV (JN gs)):=by
 intro K d;rw[iC];unfold QO;have k:Rm true depth [a] [a] [] false:=by rcases u with rfl|⟨_,rfl⟩<;>exact λK=>by kernel_rfl
 have of:∀{K:K2},Aq (r! L (n+79)) KB [a] [] K=K (.tup [gV gs,Bo true]):=λ{K}=>JT (λK d=>B3j (n:=n+15) m O u K d) k;have j:∀{H}{K:K2},Aq (r! L (n+79)) Fp [gV gs] H K=K (B1u gs):=λ{H K}=>by
  refine JT (λK d=>?_) (Ao (q:=false) iW AI);rw[show n+79=(n+78)+1 from rfl,NG];unfold Ja HX;rw[vK];exact d _ _ ⟨true,λK=>by kernel_rfl⟩
 rw[of,Fl,Fk];have w0:VQ 6 (DV (JN gs)) (DV (JN gs))=true:=Tq 6 _ (B0r _);have J:∀{F:AV->KV},(Bw CH Aj [] λy A=>DN Aj y (gV gs) A λB=>LX F8 B λR C=>Bw CP CI C λg h=>DN CI g R h λi=>F y g i)=
  F (.ptr 0 0 0) (.ptr 2 0 0) [(2,c_ CP [.mp 1]),(1,.map false [] none),(0,c_ CH [gV gs])]:=λ{F}=>by kernel_rfl
 rw[J];simp only[BH];have M:∀{K:K2},AE Aj (.ptr 0 0 0) [(2,c_ CP [.mp 1]),(1,.map false [] none),(0,c_ CH [gV gs])] K=K (gV gs):=λ{K}=>by kernel_rfl
 rw[M,j,Wa,show n+79=(n+78)+1 from rfl,Lt];unfold GH;have N:∀{H:Hp}{K:K2},AE Aj (.iptr [gV gs]) H K=K (gV gs):=λ{H K}=>by kernel_rfl
 rw[N,Xr];simp only[BH];refine C0w (n:=n+76) w0 w (by omega) (λb H hm f=>?_) (L+20) (gE gs) [] _ none _ _ _ _ (by have:=m.len;simp[gE];omega) (λe he=>he)
  ⟨rfl,rfl,rfl,rfl,AF (AF (AF (AF (AF Fq))))⟩ rfl (by simp) (by simp) (λq hq=>.inr ?_)
 ·show IQ H 3 _=_;rw[Bn hm.lp];show LJ H 3 .gone _=_;rw[Dg];have Q:Ai (upd H 3 .gone) 2=some (c_ CP [.mp 1]):=by rw[Ag (by decide)];exact hm.st
  have r:Ai (upd H 3 .gone) 1=some (.map false (Df uS b) none):=by rw[Ag (by decide)];exact hm.mm
  show AE CI (.ptr 2 0 0) (upd H 3 .gone) _=_;rw[AL (p:=0) rfl Q (by simp)];have P:b.length<1000:=by
   have:=f.length_eq;rw[Po]at this;rw[this];exact A7n m w
  refine oA (n:=n+73) w0 (by omega) (by omega) (Bi hm.wf) r f P' λv V hv t=>?_;exact d _ _ λbb=>by
   obtain⟨q,hq⟩:=iU (D:=depth-1) (b:=bb) hv t;exact⟨q,hq⟩
 ·obtain⟨_,c,hc,hq⟩:=RG.1 hq;exact⟨(c.id,c),PW.2 ⟨c,hc,rfl⟩,hq⟩
end
end
def QK(gs:eo)(s:AP):List AP:=match MG (gE gs) s with
 |some c=>c.ps
 |none=>[]
inductive Anc(gs:eo)(s:AP):AP->Prop
 |one {x:AP}:x∈gs.map Cd.id->x∈QK gs s->Anc gs s x
 |more {x y:AP}:Anc gs s y->x∈gs.map Cd.id->x∈QK gs y->Anc gs s x
section
variable{gs:eo}{s x y p:AP}
def Anc.ids(h:Anc gs s x):x∈gs.map Cd.id:=by
 cases h with
 |one h _=>exact h
 |more _ h _=>exact h
def A88:Anc gs s x↔(x∈gs.map Cd.id/\x∈QK gs s)\/∃p∈QK gs s,p∈gs.map Cd.id/\Anc gs p x:=by
 constructor
 ·intro h
  induction h with
  |one h1 h2=>exact .inl ⟨h1,h2⟩
  |@more x y d h1 h2 ih=>
   rcases ih with⟨b,a⟩|⟨p,b,a,c⟩
   ·exact .inr ⟨y,a,b,.one h1 h2⟩
   ·exact .inr ⟨p,b,a,.more c h1 h2⟩
 ·rintro(⟨h1,h2⟩|⟨p,h1,h2,b⟩)
  ·exact .one h1 h2
  ·induction b with
   |one a c=>exact .more (.one h2 h1) a c
   |more _ a c ih=>exact .more ih a c
end
open Classical in
def A2u(gs:eo)(s:AP):List AP:=Et ((gs.map Cd.id).filter λx=>decide (Anc gs s x))
section
variable{gs:eo}{s x p:AP}
def A2t:x∈A2u gs s↔Anc gs s x:=by
 rw[A2u,(Bl _).mem_iff,l2z,@decide_eq_true_iff _ (_)];exact⟨λh=>h.2,λh=>⟨h.ids,h⟩⟩
def B5Q(h:(gs.map Cd.id).Nodup):(A2u gs s).Nodup:=(Bl _).symm.nodup (h.sublist List.filter_sublist)
structure An(gs:eo)(s:AP)(b ns:List AP):Prop where
 nd:b.Nodup
 an:∀q∈b,Anc gs s q
 nx:∀q∈ns,q∈QK gs s\/∃y∈b,q∈QK gs y
 cl:∀q∈gs.map Cd.id,(q∈QK gs s\/∃y∈b,q∈QK gs y)->q∈b\/q∈ns
def An.start:An gs s [] (QK gs s):=⟨List.nodup_nil,by simp,λq h=>.inl h,λq _ h=>h.elim .inr λ⟨_,h,_⟩=>absurd h (by simp)⟩
def An.fin{b:List AP}(hn:(gs.map Cd.id).Nodup)(h:An gs s b []):b.Perm (A2u gs s):=by
 refine(l35 h.nd (B5Q hn)).2 λq=>⟨λhq=>A2t.2 (h.an q hq),λhq=>?_⟩
 rw[A2t]at hq
 induction hq with
 |one h1 h2=>exact(h.cl _ h1 (.inl h2)).elim id λh=>absurd h (by simp)
 |more _ h1 h2 ih=>exact(h.cl _ h1 (.inr ⟨_,ih,h2⟩)).elim id λh=>absurd h (by simp)
end
def UR(H:Hp)(v:AV)(l:List AP):Prop:=(v=Av/\l=[])\/∃r o q cs,v=.sl 1 r o l.length/\Ai H r=some (.cells q Al cs)/\cs.drop o=A9 l/\o+l.length=cs.length
section
variable{H:Hp}{v:AV}{l ps:List AP}{K:K2}{p:AP}
def UR.len(h:UR H v l):Bp Ab v K=K (I l.length):=by
 rcases h with⟨rfl,rfl⟩|⟨r,o,q,cs,rfl,_⟩<;>exact r_ rfl
theorem UR.lt(h:UR H v l)(w:Wf H){u:Nat}(d:A4 v u):u<Ar H:=by
 obtain⟨a,b,c,rfl⟩:=d;rcases h with⟨h,_⟩|⟨r,o,q,cs,h1,h2,e⟩
 ·cases h
 ·injection h1 with _ h1;subst h1;exact w.lt h2
def A1V{K:Nat->Is->Af}:T7 H (DV ps) K=K ps.length (A9 ps):=by
 cases ps with
 |nil=>exact B1z
 |cons a l=>exact VD
def A0P:(A9 ps).all AV.one=true:=by
 rw[G9];intro y a;obtain⟨s,_,rfl⟩:=PW.1 a;rfl
def yR:(dG Ab.d&&RW 1 (DV ps))=true:=by
 cases ps<;>rfl
def UR.app(h:UR H v l)(hn:l.length+ps.length<1000000):∃k f,(∀K:KV,Dy Al 1 Ah Ab v (DV ps) H K=K k f)/\UR f k (l++ps)/\(∀u,A4 k u->u=Ar H)/\Lat H f (A4 v):=by
 have hb:(l.length+ps.length)*Ah.bytes<=70368744177664:=by
  have:Ah.bytes<=100000:=by decide
  exact fG (Nat.mul_le_mul (show l.length+ps.length<=1000000 by omega) this) (by decide)
 rcases h with⟨rfl,rfl⟩|⟨r,o,q,cs,rfl,h1,h2,O⟩
 ·obtain⟨k,f,J,L,M,N⟩:=apt (H:=H) (e:=Al) (sz:=1) (n:=0) (m:=ps.length) (ie:=Ah) (i2:=Ab) (v:=Av) (src:=DV ps) (cs:=[]) (ys:=A9 ps) (.inl ⟨rfl,rfl,rfl⟩) (λK=>A1V) (by rw[AZ];omega) A0P (by decide) rfl yR (by simpa using hb) (by omega);refine⟨k,f,J,?_,M,N⟩;rcases L with⟨rfl,a,b⟩|⟨r,q,rfl,a,b⟩
  ·left;refine⟨rfl,?_⟩;have:ps.length=0:=by omega
   rw[l3b];exact kC this
  ·exact .inr ⟨r,0,q,_,by simp,a,by simp,by simp[AZ]⟩
 ·have j:∀K:KV,VH Al 1 Ah Ab (.sl 1 r o l.length) (DV ps) H K=IQ H r λx=>Kq x λE cs=>HQ cs 0 λcl=>
   ck (Nat.beq E Al&&(Nat.beq 1 1&&(Nat.beq (Nat.add o (Nat.mul l.length 1)) cl&&(Nat.ble (Nat.mul (Nat.add l.length ps.length) Ah.bytes) 70368744177664&&Nat.ble (Nat.add l.length ps.length) 70368744177664))))
    (YX (Do o cs) (A9 ps) λg=>LJ H r .gone λf=>It H λr=>fN (Nat.add l.length ps.length) λnm=>K (.sl 1 r 0 nm) ((r,.cells false Al g)::f)):=λK=>by
   unfold VH;rw[A1V,Cs,CM,Cs];have c:(Nat.beq (0+(A9 ps).length) (Nat.mul ps.length 1)&&(NQ (A9 ps)&&(!Nat.beq 1 0&&(Nat.beq (0+(B0 Ah.zero).length) 1&&(dG Ab.d&&RW 1 (DV ps))))))=true:=by
    rw[FN,A0P,yR,AZ];have t:Nat.beq (0+ps.length) (Nat.mul ps.length 1)=true:=by
     rw[Kk];show Nat.beq ps.length (ps.length*1)=true;rw[oI];exact oH _
    rw[t];rfl
   rw[c];rfl
  refine⟨.sl 1 (Ar H) 0 (l.length+ps.length),(Ar H,.cells false Al (A9 (l++ps)))::upd H r .gone,λK=>?_,?_,λu ⟨a,b,c,w⟩=>by injection w with _ w;exact w.symm,?_⟩
  ·have t:Dy Al 1 Ah Ab (.sl 1 r o l.length) (DV ps) H K=IQ H r λx=>Kq x λE cs=>HQ cs 0 λcl=>@Bool.rec (λ_=>Af) (SY (Nat.add o (Nat.mul l.length 1)) cs λg=>LJ H r (.cells false E g) λC=>VH Al 1 Ah Ab (.sl 1 r o l.length) (DV ps) C K) (VH Al 1 Ah Ab (.sl 1 r o l.length) (DV ps) H K) (Nat.beq (Nat.add o (Nat.mul l.length 1)) cl):=rfl;rw[t,Bn h1];have B:∀F:TypeId->Is->Af,Kq (.cells q Al cs) F=F Al cs:=λ_=>rfl;rw[B,Cs];have A:Nat.beq (Nat.add o (Nat.mul l.length 1)) (0+cs.length)=true:=by
    show Nat.beq (o+l.length*1) (0+cs.length)=true;rw[oI,O,Kk];exact oH _
   rw[A];show VH Al 1 Ah Ab (.sl 1 r o l.length) (DV ps) H K=_;rw[j K];rw[Bn h1,B,Cs];have c:(Nat.beq Al Al&&(Nat.beq 1 1&&(Nat.beq (Nat.add o (Nat.mul l.length 1)) (0+cs.length)&&(Nat.ble (Nat.mul (Nat.add l.length ps.length) Ah.bytes) 70368744177664&&Nat.ble (Nat.add l.length ps.length) 70368744177664))))=true:=by
    rw[A,oH,oH];simp only[l1b,KK,kD];exact⟨hb,show l.length+ps.length<=_ by omega⟩
   rw[c];show YX (Do o cs) (A9 ps) _=_;rw[MZ,Dg,Ca,Ef,C9,h2];have D:A9 l++A9 ps=A9 (l++ps):=by simp[A9]
   rw[D];rfl
  ·have i:=Ax (H:=upd H r .gone) (x:=.cells false Al (A9 (l++ps))) (by simp);rw[B1]at i;exact .inr ⟨Ar H,0,false,_,by rw[Ez],i,rfl,by rw[AZ];omega⟩
  ·have P:Lat H (upd H r .gone) (A4 (.sl 1 r o l.length)):=Lat.upd H r .gone ⟨1,o,_,rfl⟩;have i:=Lat.cons (upd H r .gone) (.cells false Al (A9 (l++ps))) (A4 (.sl 1 r o l.length));rw[B1]at i;exact P.trans i (λ_ _ h=>h) (λ_ _ h=>h)
end
section
variable{L n:Nat}
section
variable{gs:eo}{s p:AP}{H:Hp}{K:KV}{x:Af}{ps:List AP}
def B2e:FV Al 1 Ah 0 [] H K=K (.sl 1 (Ar H) 0 0) ((Ar H,.cells false Al [])::H):=by
 have e:FV Al 1 Ah 0 [] H K=It H (λs=>K (.sl 1 s 0 0) ((s,.cells false Al [])::H)):=r_ rfl;rw[e,Ca]
def B3w(wf:Wf H)(hn:ps.length<100)(f:∀v b,UR b v ps->(∀u y,Ai H u=some y->Ai b u=some y)->(∀u,A4 v u->Ar H<=u)->Wf b->K v b=x):
 (r! L (n+1)).call Bk [DV ps] H K=x:=by
 rw[FU];unfold DF HX;cases ps with
 |nil=>
  have e:∀{K:K2},As Ab .eql (DV []) (AV.v (.slice none 0 0)) K=K (Bo true):=λ{K}=>id rfl;rw[e,Co];exact f Av H (.inl ⟨rfl,rfl⟩) (λu y h=>h) (λu ⟨_,_,_,h⟩=>by cases h) wf
 |cons a l=>
  have e:∀{K:K2},As Ab .eql (DV (a::l)) (AV.v (.slice none 0 0)) K=K (Bo false):=λ{K}=>id rfl;rw[e,Ba,B2e];have hb:=Ax (H:=H) (x:=.cells false Al []) (by simp);have w1:=AF (x:=.cells false Al []) wf;obtain⟨m,b,g,i,j,d⟩:=UR.app (H:=(Ar H,.cells false Al [])::H) (v:=.sl 1 (Ar H) 0 0) (l:=[]) (ps:=a::l) (.inr ⟨Ar H,0,false,[],rfl,hb,rfl,rfl⟩) (by simp at hn⊢;omega);rw[g];refine f m b i (λu y c=>?_) (λu c=>?_) (d.wf w1)
  ·have k:=wf.lt c;refine d.keep w1 u y (A6 k c) λ⟨_,_,_,h⟩=>?_;injection h with _ h;omega
  ·have:=j u c;have h2:Ar ((Ar H,Row.cells false Al [])::H)=Ar H+1:=rfl;omega
end
end
section
variable{a:Int}{b k:Nat}
variable{L n:Nat}
def B1h(h:J8 a)(c:k<3):J8 (a.fdiv (2^(4*k))):=by
 unfold J8 at h⊢;have e:a.fdiv (2^(4*k))=a/(2^(4*k)):=Int.fdiv_eq_ediv_of_nonneg _ (Int.le_of_lt (Int.pow_pos (by decide)));rw[e];obtain rfl|rfl|rfl:k=0\/k=1\/k=2:=by omega
 ·rw[show(2:Int)^(4*0)=1 by decide];omega
 ·rw[show(2:Int)^(4*1)=16 by decide];omega
 ·rw[show(2:Int)^(4*2)=256 by decide];omega
def A9w{j:TI}{K:K2}(c:k<=64):As j .shr (I a) (I k) K=K (I (a.fdiv (2^k))):=by
 have:As j .shr (I a) (I k) K=ck (qL 0 (k:Int)) (fI (a.fdiv (2^(min (k:Int).toNat 64))) λz=>K (.v (.int .i64 z))):=rfl;rw[this,VC,mI,l22 c];have h1:qL 0 (k:Int)=true:=by rw[LI];simp
 rw[h1];rfl
def rd7{H:Hp}{y:Y7}(h:Ai H b=some (c_ Zn y.cs)):
 (∀{K},AE Ac (.ptr b 0 0) H K=K (I y.y0))/\(∀{K},AE Ac (.ptr b 1 0) H K=K (I y.y1))/\(∀{K},AE Ac (.ptr b 2 0) H K=K (I y.y2))/\(∀{K},AE Ac (.ptr b 3 0) H K=K (I y.y3))/\(∀{K},AE Ac (.ptr b 4 0) H K=K (I y.y4))/\(∀{K},AE Ac (.ptr b 5 0) H K=K (I y.y5))/\(∀{K},AE Ac (.ptr b 6 0) H K=K (I y.y6)):=
 ⟨λ{K}=>AL (p:=0) rfl h (by simp[Y7.cs]),λ{K}=>AL (p:=1) rfl h (by simp[Y7.cs]),λ{K}=>AL (p:=2) rfl h (by simp[Y7.cs]),λ{K}=>AL (p:=3) rfl h (by simp[Y7.cs]),λ{K}=>AL (p:=4) rfl h (by simp[Y7.cs]),λ{K}=>AL (p:=5) rfl h (by simp[Y7.cs]),λ{K}=>AL (p:=6) rfl h (by simp[Y7.cs])⟩
def C3g{K:K2}:D1 Cq (.ptr b 0 0) (.v (.int .i64 0)) K=K (.ptr b 0 0):=EO (z:=0) 0 rfl rfl (by decide)
def C5h{K:K2}:D1 Cq (.ptr b 0 0) (.v (.int .i64 1)) K=K (.ptr b 1 0):=EO (z:=1) 1 rfl rfl (by decide)
def C5g{K:K2}:D1 Cq (.ptr b 0 0) (.v (.int .i64 2)) K=K (.ptr b 2 0):=EO (z:=2) 2 rfl rfl (by decide)
def C5f{K:K2}:D1 Cq (.ptr b 0 0) (.v (.int .i64 3)) K=K (.ptr b 3 0):=EO (z:=3) 3 rfl rfl (by decide)
def C5e{K:K2}:D1 Cq (.ptr b 0 0) (.v (.int .i64 4)) K=K (.ptr b 4 0):=EO (z:=4) 4 rfl rfl (by decide)
def C5d{K:K2}:D1 Cq (.ptr b 0 0) (.v (.int .i64 5)) K=K (.ptr b 5 0):=EO (z:=5) 5 rfl rfl (by decide)
def C3f{K:K2}:D1 Cq (.ptr b 0 0) (.v (.int .i64 6)) K=K (.ptr b 6 0):=EO (z:=6) 6 rfl rfl (by decide)
structure Pa(H0:Hp)(ps:List Ha)(u:AV)(H:Hp):Prop where
 sl:AU H Al 1 u ps.length (A9 ps)
 nl:ps=[]->u=Av
 fr:∀s,A4 u s->Ar H0<=s
 wf:Wf H
 w0:Wf H0
 nx:Ar H0<=Ar H
 kp:∀s q,Ai H0 s=some q->Ai H s=some q
section
variable{K:KV}{x:Af}{H0 H H':Hp}{y:Y7}{ids:List Ha}{a0 lv iv kd:AV}{q7 i:Nat}
def C2C{m:AV->AV->AV->AV->AV->AV->AV->KV}(hL:100<L)(Z:J8 y.y6)(hq:Ai H0 q7=some (c_ Zn y.cs))(hi:AU H0 Al 1 iv ids.length (A9 ids))(hb:ids.length<100)(j:∀u k H,Pa H0 (wZ ids y.y6 3) u H->m a0 lv iv (I i) (.ptr q7 0 0) kd u k H=x):
 ∀(f k:Nat)(u:AV)(H:Hp),k<=3->3-k<f->Pa H0 (wZ ids y.y6 k) u H->
 TV (L+20) (r! L (n+64)) K m f a0 lv iv (I i) (.ptr q7 0 0) kd u (I k) H=x:=by
 intro f
 induction f with
 |zero=>intro k u H _ h;omega
 |succ f ih=>
  intro k u H hk hf d;rw[pA];unfold TX HV Dm A2 Hv;have V:(AV.v (.int .i64 3))=I ((3:Nat):Int):=rfl;have w:=hi.kp λs q _=>d.kp s q;rw[V];by_cases h:k<3
  ·rw[FG (by omega)];simp only[gT,BW,Ly (t:=Ab) rfl w,DT];by_cases B:0<ids.length
   ·have hm:=Nat.mod_lt (pk (y.y6.fdiv (2^(4*k))) 16).toNat B;have pr:=Ft (c:=y.y6.fdiv (2^(4*k))) (n:=16) (by decide);obtain⟨-, -, -, -, -, -,P⟩:=rd7 (d.kp _ _ hq);have ml:∀{K:K2},As Ac .mul (.v (.int .i64 4)) (I (k:Int)) K=K (I ((4*k:Nat):Int)):=λ{K}=>by
     rw[OU,CX (by omega) (by omega)];rw[show(4:Int)*(k:Int)=((4*k:Nat):Int) by omega]
    have C:∀{H K},Aq (r! L (n+64)) Mv [I (y.y6.fdiv (2^(4*k))),.v (.int .i64 16)] H K=K (I (pk (y.y6.fdiv (2^(4*k))) 16)):=λ{H K}=>A1e (n:=n+63) (B1h Z h) (by decide) (by decide) H K;have J:∀{K:K2},As Ac .add (I k) (.v (.int .i64 1)) K=K (I ((k+1:Nat):Int)):=λ{K}=>Dd (by omega);rw[GI (by omega),Ul,Co];simp only[BH];rw[C3f,P,ml,A9w (by omega),C,Dk];have r:wZ ids y.y6 (k+1)=if 0<ids.length/\pk (y.y6.fdiv (2^(4*k))) 16<14 then wZ ids y.y6 k++[ids.getD ((pk (y.y6.fdiv (2^(4*k))) 16).toNat%ids.length) []] else wZ ids y.y6 k:=rfl
    by_cases g:pk (y.y6.fdiv (2^(4*k))) 16<14
    ·rw[Dr ⟨B,g⟩]at r;have D:PL H ids iv:=.inr w;obtain⟨p,X,Y⟩:=D.at2 hm;have rm:∀{K:K2},As Ac .rem (I (pk (y.y6.fdiv (2^(4*k))) 16)) (I (ids.length:Int)) K=K (I (((pk (y.y6.fdiv (2^(4*k))) 16).toNat%ids.length:Nat):Int)):=λ{K}=>by
      rw[Q9 (by omega),Int.tmod_eq_emod_of_nonneg pr.1];have:(pk (y.y6.fdiv (2^(4*k))) 16)=(((pk (y.y6.fdiv (2^(4*k))) 16).toNat:Nat):Int):=by omega
      rw[this,mI];rfl
     have aa:=A5E (ids:=ids) (y6:=y.y6) k;obtain⟨u',H',a1,a2,M,a4,N,O⟩:=vU (ie:=Ah) (i2:=Ab) (ys:=A9 [ids[(pk (y.y6.fdiv (2^(4*k))) 16).toNat%ids.length]]) d.sl d.wf rfl rfl (by decide) rfl (λ_=>rfl) (by show(_+1)*16<=_;omega) (by omega);have R:ids.getD ((pk (y.y6.fdiv (2^(4*k))) 16).toNat%ids.length) []=ids[(pk (y.y6.fdiv (2^(4*k))) 16).toNat%ids.length]:=by simp[List.getD,KL hm]
     rw[R]at r;have g0:=d.nx;rw[GI g,Co,rm,X,Y,ZF,a1,J];refine ih (k+1) u' H' (by omega) (by omega) ⟨?_,λe=>?_,λs A=>?_,M,d.w0,by omega,λs q A=>?_⟩
     ·rw[r,Ez];have:A9 (wZ ids y.y6 k++[ids[(pk (y.y6.fdiv (2^(4*k))) 16).toNat%ids.length]])=A9 (wZ ids y.y6 k)++A9 [ids[(pk (y.y6.fdiv (2^(4*k))) 16).toNat%ids.length]]:=by simp[A9]
      rw[this];exact a2
     ·rw[r]at e;simp at e
     ·have:=O s A;omega
     ·exact N _ _ (d.kp s q A) λe=>by have:=d.fr s e;have:=d.w0.lt A;omega
    ·rw[CD λhc=>g hc.2]at r;rw[HN g,Ba,J];exact ih (k+1) u H (by omega) (by omega) (by rw[r];exact d)
   ·rw[HN (by omega),Ul,Ba];have Q:∀k,wZ ids y.y6 k=[]:=by
     intro k
     induction k with
     |zero=>rfl
     |succ k F=>unfold wZ;rw[CD λhc=>B hc.1];exact F
    refine j u _ H ?_;rw[Q]at d⊢;exact d
  ·have:k=3:=by omega
   subst this;rw[FB (by omega)];simp only[eP,BW,RF];rw[Ba];exact j u _ H d
end
end
end Go.Abs
end
