import Derived.Test.YtdaajghondabnaaGreatDoorP27
set_option linter.all false
set_option maxHeartbeats 100000000
noncomputable section
namespace Go.Abs
open Go.RowKit Go.Proofs
set_option maxRecDepth 100000
section
variable{α:Type}
variable{L n:Nat}
def PW{F:α}{G:α->Af}{x:Af}(h:∀k,k=F->G k=x):jn F G=x:=by rw[BE];exact h F rfl
def Bk.kp{H H':Hp}{e sz n:Nat}{v:AV}{cs:Is}(h:Bk H e sz v n cs)(k:∀s x,A9 v s->Ai H s=some x->Ai H' s=some x):Bk H' e sz v n cs:=by
 rcases h with h|⟨r,q,h1,h2,a⟩
 ·exact .inl h
 ·exact .inr ⟨r,q,h1,k r _ ⟨_,_,_,h1⟩ h2,a⟩
def C5d(l:List Nd):∃vs:Hx,l.flatMap Q! =vs.map λx=>.v x:=by
 induction l with
 |nil=>exact⟨[],rfl⟩
 |cons x l ih=>
  obtain⟨vs,h⟩:=ih;refine⟨[.int .i64 x.op,.string ⟨⟨x.vn⟩⟩,.string ⟨⟨x.vd⟩⟩,.int .i64 x.u.p0,.int .i64 x.u.q0,.int .i64 x.u.p1,.int .i64 x.u.q1,.int .i64 x.u.p2,.int .i64 x.u.q2,.int .i64 x.u.p3,.int .i64 x.u.q3,.int .i64 x.u.p4,.int .i64 x.u.q4,.int .i64 x.u.p5,.int .i64 x.u.q5,.int .i64 x.u.p6,.int .i64 x.u.q6,
   .string ⟨⟨x.u.fn⟩⟩,.string ⟨⟨x.u.fd⟩⟩,.string ⟨⟨x.u.on⟩⟩,.string ⟨⟨x.u.od⟩⟩,.int .i64 x.u.kd,.int .i64 x.u.sc,.int .i64 x.n,.int .i64 x.l,.int .i64 x.r]++vs,?_⟩
  rw[rE,h,Z6];rfl
def ndL(l:List Nd):AV:=match l with
 |[]=>Av
 |x::l=>.list (x::l).length ((x::l).flatMap Q!)
def B17{D:Nat}{b:Bool}{H:Hp}{v:AV}{l:List Nd}(h:Bk H AY 26 v l.length (l.flatMap Q!))(d:l=[]->v=Av):∃q,Fx b (D+1) v (ndL l) H q:=by
 rcases h with⟨rfl,h2,_⟩|⟨r,q,rfl,h2,c⟩
 ·cases l with
  |nil=>exact⟨false,CC⟩
  |cons a l=>simp at h2
 ·cases l with
  |nil=>have:=d rfl;cases this
  |cons a l=>
   refine⟨true,?_⟩;show Fx b (D+1) _ (.list (a::l).length ((a::l).flatMap Q!)) H true;obtain⟨vs,e⟩:=C5d (a::l);rw[e]at h2 c⊢;exact VE (q':=false) h2 c (K1 _root_.id _)
def C4q{y:Nd}{H:Hp}{K:KV}:FU AY 26 AM 1 [(0,26,.agg y.cs)] H K=K (.sl 26 (As H) 0 1) ((As H,.cells false AY (Q! y))::H):=by
 have e:FU AY 26 AM 1 [(0,26,.agg y.cs)] H K=Io H (λs=>K (.sl 26 s 0 1) ((s,.cells false AY (Q! y))::H)):=r_ rfl;rw[e,Ca]
structure Md(b r z:Nat)(ins:List Int)(id:Int)(ks:Hb)(xs:List Nd)(us:Hb)(v w u:AV)(H:Hp):Prop where
 hb:Ai H b=some (c_ Vh (Fl ins))
 hr:Ai H r=some (Je id v w u0)
 hz:∃cs,cs.length=23/\Ai H z=some (c_ Cm cs)
 sv:Bk H AB 20 v ks.length (ks.flatMap HI)
 nv:ks=[]->v=Av
 sw:Bk H AY 26 w xs.length (xs.flatMap Q!)
 nw:xs=[]->w=Av
 su:Bk H AB 20 u us.length (us.flatMap HI)
 nu:us=[]->u=Av
 br:b≠r
 zr:z≠r
 av:∀s,A9 v s->s≠b/\s≠r/\s≠z/\¬A9 w s/\¬A9 u s
 aw:∀s,A9 w s->s≠b/\s≠r/\s≠z/\¬A9 v s/\¬A9 u s
 au:∀s,A9 u s->s≠b/\s≠r/\s≠z/\¬A9 v s/\¬A9 w s
 wf:Wf H
section
variable{K:KV}{x:Af}{ins:List Int}{id:Int}{ks us:Hb}{xs:List Nd}{v w u:AV}{b r z m:Nat}{H H':Hp}
def Md.grow(h:Md b r z ins id ks xs us v w u H)(wf:Wf H')(kp:∀s x,Ai H s=some x->Ai H' s=some x):Md b r z ins id ks xs us v w u H':=by
 obtain⟨cs,c1,c2⟩:=h.hz;exact⟨kp _ _ h.hb,kp _ _ h.hr,⟨cs,c1,kp _ _ c2⟩,h.sv.kp λs x _=>kp s x,h.nv,h.sw.kp λs x _=>kp s x,h.nw,h.su.kp λs x _=>kp s x,h.nu,h.br,h.zr,h.av,h.aw,h.au,wf⟩
structure Oth(b r z:Nat)(v w u:AV)(m:Nat):Prop where
 b:m≠b
 r:m≠r
 z:m≠z
 v:¬A9 v m
 w:¬A9 w m
 u:¬A9 u m
def Md.oth(h:Md b r z ins id ks xs us v w u H):Oth b r z v w u (As H):=by
 obtain⟨cs,c1,c2⟩:=h.hz;have h1:=h.wf.lt h.hb;have h2:=h.wf.lt h.hr;have a:=h.wf.lt c2;exact⟨by omega,by omega,by omega,λe=>by have:=h.sv.lt h.wf e;omega,λe=>by have:=h.sw.lt h.wf e;omega,λe=>by have:=h.su.lt h.wf e;omega⟩
theorem Md.upd(h:Md b r z ins id ks xs us v w u H)(o:Oth b r z v w u m)(y:Row):Md b r z ins id ks xs us v w u (upd H m y):=by
 obtain⟨cs,c1,c2⟩:=h.hz;have kp:∀s x,s≠m->Ai H s=some x->Ai (Go.Abs.upd H m y) s=some x:=λs x a c=>by rw[Ag a];exact c
 exact⟨kp _ _ (Ne.symm o.b) h.hb,kp _ _ (Ne.symm o.r) h.hr,⟨cs,c1,kp _ _ (Ne.symm o.z) c2⟩,h.sv.kp λs x a=>kp s x (λe=>o.v (e▸a)),h.nv,h.sw.kp λs x a=>kp s x (λe=>o.w (e▸a)),h.nw,h.su.kp λs x a=>kp s x (λe=>o.u (e▸a)),h.nu,h.br,h.zr,h.av,h.aw,h.au,Bj h.wf⟩
def mS{α β:Type}(f:α->List β)(l:List α)(a:α):(l++[a]).flatMap f=l.flatMap f++f a:=by simp
def Md.v1(h:Md b r z ins id ks xs us v w u H)(k:Nat)(g:ks.length<100):∃c H',(∀K:KV,DK AB 20 A0 Al v (.sl 20 (As H) 0 1) ((As H,.cells false AB (HI k))::H) K=K c H')/\
 (∀K:Ru,DF Al (.ptr r 1 0) c H' K=K (Go.Abs.upd H' r (Je id c w u0)))/\Md b r z ins id (ks++[k]) xs us c w u (Go.Abs.upd H' r (Je id c w u0)):=by
 obtain⟨c,H',a1,a2,j,p,i,f⟩:=wE (ie:=A0) (i2:=Al) (ys:=HI k) h.sv h.wf rfl rfl (by decide) rfl (λ_=>rfl) (by show(_+1)*192<=_;omega) (by omega);obtain⟨cs,c1,c2⟩:=h.hz;have h1:=h.wf.lt h.hb;have h2:=h.wf.lt h.hr;have q:=h.wf.lt c2;have d:=i _ _ h.hr λe=>(h.av _ e).2.1 rfl;have kp:∀s x,s≠r->¬A9 v s->Ai H s=some x->Ai (Go.Abs.upd H' r (Je id c w u0)) s=some x:=λs x a hn g=>by rw[Ag a];exact i s x g hn
 refine⟨c,H',a1,λK=>D6 d (show 1<23 by decide) rfl (Bk.cell a2) (Bk.one a2),kp _ _ h.br (λe=>(h.av _ e).1 rfl) h.hb,AC d,⟨cs,c1,kp _ _ h.zr (λe=>(h.av _ e).2.2.1 rfl) c2⟩,?_,λe=>by simp at e,
  h.sw.kp λs x a=>kp s x (h.aw s a).2.1 (h.aw s a).2.2.2.1,h.nw,h.su.kp λs x a=>kp s x (h.au s a).2.1 (h.au s a).2.2.2.1,h.nu,h.br,h.zr,λs a=>?_,λs a=>?_,λs a=>?_,Bj j⟩
 ·rw[EK,mS];refine Bk.kp a2 λs x a g=>?_;have:=f s a;rw[Ag (by omega)];exact g
 ·have:=f s a;exact⟨by omega,by omega,by omega,λe=>by have:=h.sw.lt h.wf e;omega,λe=>by have:=h.su.lt h.wf e;omega⟩
 ·obtain⟨q1,q2,q3,q4,q5⟩:=h.aw s a;exact⟨q1,q2,q3,λe=>by have:=f s e;have:=h.sw.lt h.wf a;omega,q5⟩
 ·obtain⟨q1,q2,q3,q4,q5⟩:=h.au s a;exact⟨q1,q2,q3,λe=>by have:=f s e;have:=h.su.lt h.wf a;omega,q5⟩
def Md.w1(h:Md b r z ins id ks xs us v w u H)(y:Nd)(g:xs.length<100):∃c H',(∀K:KV,DK AY 26 AM Aw w (.sl 26 (As H) 0 1) ((As H,.cells false AY (Q! y))::H) K=K c H')/\
 (∀K:Ru,DF Aw (.ptr r 2 0) c H' K=K (Go.Abs.upd H' r (Je id v c u0)))/\Md b r z ins id ks (xs++[y]) us v c u (Go.Abs.upd H' r (Je id v c u0))/\(∀s x,s≠r->¬A9 w s->Ai H s=some x->Ai (Go.Abs.upd H' r (Je id v c u0)) s=some x):=by
 obtain⟨c,H',a1,a2,j,k,i,f⟩:=wE (ie:=AM) (i2:=Aw) (ys:=Q! y) h.sw h.wf rfl rfl (by decide) rfl (λ_=>rfl) (by show(_+1)*256<=_;omega) (by omega);obtain⟨cs,c1,c2⟩:=h.hz;have h1:=h.wf.lt h.hb;have h2:=h.wf.lt h.hr;have p:=h.wf.lt c2;have d:=i _ _ h.hr λe=>(h.aw _ e).2.1 rfl;have kp:∀s x,s≠r->¬A9 w s->Ai H s=some x->Ai (Go.Abs.upd H' r (Je id v c u0)) s=some x:=λs x a hn g=>by rw[Ag a];exact i s x g hn
 refine⟨c,H',a1,λK=>D6 d (show 2<23 by decide) rfl (Bk.cell a2) (Bk.one a2),⟨kp _ _ h.br (λe=>(h.aw _ e).1 rfl) h.hb,AC d,⟨cs,c1,kp _ _ h.zr (λe=>(h.aw _ e).2.2.1 rfl) c2⟩,
  h.sv.kp λs x a=>kp s x (h.av s a).2.1 (h.av s a).2.2.2.1,h.nv,?_,λe=>by simp at e,h.su.kp λs x a=>kp s x (h.au s a).2.1 (h.au s a).2.2.2.2,h.nu,h.br,h.zr,λs a=>?_,λs a=>?_,λs a=>?_,Bj j⟩,kp⟩
 ·rw[EK,mS];refine Bk.kp a2 λs x a g=>?_;have:=f s a;rw[Ag (by omega)];exact g
 ·obtain⟨q1,q2,q3,q4,q5⟩:=h.av s a;exact⟨q1,q2,q3,λe=>by have:=f s e;have:=h.sv.lt h.wf a;omega,q5⟩
 ·have:=f s a;exact⟨by omega,by omega,by omega,λe=>by have:=h.sv.lt h.wf e;omega,λe=>by have:=h.su.lt h.wf e;omega⟩
 ·obtain⟨q1,q2,q3,q4,q5⟩:=h.au s a;exact⟨q1,q2,q3,q4,λe=>by have:=f s e;have:=h.su.lt h.wf a;omega⟩
def Md.u1(h:Md b r z ins id ks xs us v w u H)(k:Nat)(d:us.length<100):∃f H',(∀K:KV,DK AB 20 A0 Al u (.sl 20 (As H) 0 1) ((As H,.cells false AB (HI k))::H) K=K f H')/\Md b r z ins id ks xs (us++[k]) v w f H':=by
 obtain⟨f,H',a1,a2,i,j,c,g⟩:=wE (ie:=A0) (i2:=Al) (ys:=HI k) h.su h.wf rfl rfl (by decide) rfl (λ_=>rfl) (by show(_+1)*192<=_;omega) (by omega);obtain⟨cs,c1,c2⟩:=h.hz;have h1:=h.wf.lt h.hb;have h2:=h.wf.lt h.hr;have p:=h.wf.lt c2;refine⟨f,H',a1,c _ _ h.hb (λe=>(h.au _ e).1 rfl),c _ _ h.hr (λe=>(h.au _ e).2.1 rfl),⟨cs,c1,c _ _ c2 (λe=>(h.au _ e).2.2.1 rfl)⟩,
  h.sv.kp λs x a d=>c s x d (h.av s a).2.2.2.2,h.nv,h.sw.kp λs x a d=>c s x d (h.aw s a).2.2.2.2,h.nw,?_,λe=>by simp at e,h.br,h.zr,λs a=>?_,λs a=>?_,λs a=>?_,i⟩
 ·rw[EK,mS];exact a2
 ·obtain⟨q1,q2,q3,q4,q5⟩:=h.av s a;exact⟨q1,q2,q3,q4,λe=>by have:=g s e;have:=h.sv.lt h.wf a;omega⟩
 ·obtain⟨q1,q2,q3,q4,q5⟩:=h.aw s a;exact⟨q1,q2,q3,q4,λe=>by have:=g s e;have:=h.sw.lt h.wf a;omega⟩
 ·have:=g s a;exact⟨by omega,by omega,by omega,λe=>by have:=h.sv.lt h.wf e;omega,λe=>by have:=h.sw.lt h.wf e;omega⟩
def Po{s j:Nat}{K:K2}:CD j (.ptr s 0 0) K=K (.ptr s j 0):=by rw[fA,Kd]
def Md.ld1(h:Md b r z ins id ks xs us v w u H){K:K2}:AD Al (.ptr r 1 0) H K=K v:=AF (p:=1) rfl h.hr (show 1<23 by decide)
def Md.ld2(h:Md b r z ins id ks xs us v w u H){K:K2}:AD Aw (.ptr r 2 0) H K=K w:=AF (p:=2) rfl h.hr (show 2<23 by decide)
def ksM(ins:List Int)(i:Nat):Hb:=(ins.take i).map λc=>(pk c 7).toNat
def B4X{i:Nat}(h:i<ins.length):ksM ins (i+1)=ksM ins i++[(pk ins[i] 7).toNat]:=by
 unfold ksM;rw[oH h,Z6];rfl
def C2Q{count:Int}{t ex d0 d1 d2:AV}{d:AV->AV->AV->AV->AV->AV->AV->KV}(D:100<L)(J:ins.length=3)(j:∀c∈ins,J7 c)(hc:J7 count)(g:∀v H,Md b r z ins id (ksM ins ((pk count 3).toNat+1)) [] [] v Av Av H->d (I count) t ex (.ptr b 0 0) (.ptr z 0 0) (.ptr r 0 0) (I (((pk count 3).toNat+1:Nat):Int)) d2 H=x):
 ∀(f i:Nat)(v:AV)(H:Hp),i<=(pk count 3).toNat+1->(pk count 3).toNat+1-i<f->Md b r z ins id (ksM ins i) [] [] v Av Av H->
 Ug (L+20) (r! L (n+42)) K d f (I count) t ex (.ptr b 0 0) (.ptr z 0 0) (.ptr r 0 0) (I i) d0 d1 d2 H=x:=by
 have pr:=EN (c:=count) (n:=3) (by decide);intro f
 induction f with
 |zero=>intro i v H _ h;omega
 |succ f ih=>
  intro i v H y F a;rw[pD];unfold Ui Km A3;have q:∀H K,Ap (r! L (n+42)) Cz [I count,.v (.int .i64 3)] H K=K (I (pk count 3)):=MK (n:=n+41) hc (by decide) (by decide);rw[q,jO];by_cases h:i<=(pk count 3).toNat
  ·have e:i<ins.length:=by omega
   have hb:=a.hb;have B:∀{K},AD Ab (.ptr b i 0) H K=K (I ins[i]):=λ{K}=>by rw[AF (p:=i) rfl a.hb (by simp[Fl];omega),Xk e]
   have ia:∀{K:K2},DC RP (.ptr b 0 0) (I i) K=K (.ptr b i 0):=λ{K}=>ER i rfl rfl (by omega);have un:∀{H K},Ap (r! L (n+42)) Gx [I ins[i]] H K=K (.agg (Cx (uu (pk ins[i] 7).toNat))):=λ{H K}=>A3F (n:=n) (j _ (Qk e)) H K;have k:(ksM ins i).length<100:=by simp[ksM];omega
   obtain⟨C,H',a1,a2,s⟩:=a.v1 (pk ins[i] 7).toNat k;have ok:fF v v=true:=A10 a.sv;have A:∀{K},AD Al (.ptr r 1 0) ((As H,Row.cells false AB (HI (pk ins[i] 7).toNat))::H) K=K v:=λ{K}=>AF (p:=1) rfl (A7 (a.wf.lt a.hr) a.hr) (show 1<23 by decide);rw[HR (by omega),Cu];simp only[Po,Bw,a.ld1,ia,B,un,A82,Cb,a1,a2,A];rw[B0y ok,Db (by omega)];rw[<-B4X e]at s;exact ih (i+1) C _ (by omega) (by omega) s
  ·have:i=(pk count 3).toNat+1:=by omega
   subst this;rw[HW (by omega),AZ];exact g v H a
def C2R{a1 a2 i k d0:AV}{c:AV->AV->AV->AV->AV->AV->AV->AV->KV}(J:100<L)(hb:ks.length<=3)(e:∀w u H,Md b r z ins id ks (Lg ks) ks v w u H->c a1 a2 i (.ptr b 0 0) (.ptr z 0 0) (.ptr r 0 0) k u (I ks.length) H=x):
 ∀(f j:Nat)(w u:AV)(H:Hp),j<=ks.length->ks.length-j<f->Md b r z ins id ks ((List.range j).map dC) (ks.take j) v w u H->
 Uh (L+20) (r! L (n+42)) K c f a1 a2 i (.ptr b 0 0) (.ptr z 0 0) (.ptr r 0 0) k u (I j) d0 H=x:=by
 intro f
 induction f with
 |zero=>intro j w u H _ h;omega
 |succ f ih=>
  intro j w u H C M d;rw[pE];unfold Uj Dz IA A3;rw[Po,d.ld1,Lr (t:=Al) rfl d.sv];by_cases h:j<ks.length
  ·have q:∀{K:K2},BP AM [(0,1,.v (.int .i64 2)),(23,1,I j)] K=K (.agg (dC j).cs):=λ{K}=>r_ rfl;obtain⟨F,H',b1,b2,g, -⟩:=d.w1 (dC j) (by simp;omega);obtain⟨a,A,B⟩:=A5m g.sv h;obtain⟨D,p,s,y⟩:=g.u1 ks[j] (by simp;omega);rw[Fz (by omega),Cu,Po,d.ld2,q,C4q,b1,Po,b2,Po,g.ld1,A,B,A82,s,Db (by omega)];refine ih (j+1) F D p (by omega) (by omega) ?_;rw[List.range_succ,Z6,oH h];exact y
  ·have:j=ks.length:=by omega
   subst this;rw[Fp (by omega),AZ];rw[wQ]at d;exact e w u H d
end
end
section
variable{D:Nat}{y:Nd}
variable{L n:Nat}
def exO(ks:Hb)(q a13 b4 k7 e5 l r:Nat):Ex:=match q with
 |0=>.cn (mQ a13 b4) k7
 |1=>.inp l
 |6=>match Yk (ks.getD l 0) e5 with
  |some k=>.po l e5 k
  |none=>.no
 |7=>.no
 |q=>match VO (q-2) (ks.getD l 0) (ks.getD r 0) with
  |some k=>.bi (q+1) l r k
  |none=>.no
def exM(ks:Hb)(y0 y1 y2 y3:Int):Ex:=exO ks (pk y0 8).toNat (pk y1 13).toNat (pk y2 4).toNat (pk y3 7).toNat (pk y2 5).toNat (pk y1 ks.length).toNat (pk y2 ks.length).toNat
theorem B1n{ks:Hb}{q a13 b4 k7 e5 l r:Nat}(h:2<=q)(a:q<6):exO ks q a13 b4 k7 e5 l r=match VO (q-2) (ks.getD l 0) (ks.getD r 0) with
 |some k=>.bi (q+1) l r k
 |none=>.no:=by
 obtain rfl|rfl|rfl|rfl:q=2\/q=3\/q=4\/q=5:=by omega
 all_goals rfl
def A1W{a b:Nat}(c:a<13)(hb:b<4):mQ a b<33:=by
 have:=GG.1 (show((List.range 52).all λi=>decide (mQ (i/4) (i%4)<33))=true by kernel_rfl) (4*a+b) (KR.2 (by omega));rw[show(4*a+b)/4=a by omega,show(4*a+b)%4=b by omega]at this;simpa using this
def Om{c m:Int}(h:0<m):∃k:Nat,pk c m=k/\(k:Int)<m/\(pk c m).toNat=k:=by
 have:=EN (c:=c) h;exact⟨(pk c m).toNat,by omega,by omega,rfl⟩
def C0s{ks:Hb}{y0 y1 y2 y3:Int}(h1:1<=ks.length):(exM ks y0 y1 y2 y3).Ok ks:=by
 obtain⟨q, -,h2,f⟩:=Om (c:=y0) (m:=8) (by decide);obtain⟨a, -,s,g⟩:=Om (c:=y1) (m:=13) (by decide);obtain⟨b, -,hb,h⟩:=Om (c:=y2) (m:=4) (by decide);obtain⟨k, -,t,j⟩:=Om (c:=y3) (m:=7) (by decide);obtain⟨e, -,he,i⟩:=Om (c:=y2) (m:=5) (by decide);obtain⟨l, -,A,el⟩:=Om (c:=y1) (m:=ks.length) (by omega);obtain⟨r, -,hr,p⟩:=Om (c:=y2) (m:=ks.length) (by omega);unfold exM;rw[f,g,h,j,i,el,p];by_cases hq:2<=q/\q<6
 ·rw[B1n hq.1 hq.2];cases d:VO (q-2) (ks.getD l 0) (ks.getD r 0) with
  |none=>exact trivial
  |some k=>exact⟨by omega,by omega,by omega,by omega,d⟩
 ·obtain rfl|rfl|rfl|rfl:q=0\/q=1\/q=6\/q=7:=by omega
  ·exact⟨A1W (by omega) (by omega),by omega⟩
  ·show l<ks.length;omega
  ·show(match Yk (ks.getD l 0) e with
    |some k=>Ex.po l e k
    |none=>.no).Ok ks
   cases d:Yk (ks.getD l 0) e with
   |none=>exact trivial
   |some k=>exact⟨by omega,by omega,d⟩
  ·exact trivial
section
variable{K:KV}{x:Af}{ins:List Int}{id:Int}{ks us:Hb}{xs:List Nd}{v w u:AV}{b r z m:Nat}{H H':Hp}{y0 y1 y2 y3:Int}
def A5n(h:1<=ks.length):RM ks=BC ks:=by cases ks with|nil=>simp at h|cons _ _=>rfl
def A5L(h:1<=xs.length):ndL xs=Ci xs:=by cases xs with|nil=>simp at h|cons _ _=>rfl
def Md.proc(h:Md b r z ins id ks xs us v w u H)(h1:1<=ks.length)(h2:1<=xs.length){bb:Bool}:∃q,Fx bb (D+2) (.agg (B0 id v w u0)) (.agg (B0 id (BC ks) (Ci xs) u0)) H q:=by
 obtain⟨q1,a⟩:=mP (D:=D) (b:=bb) h.sv h.nv;obtain⟨q2,c⟩:=B17 (D:=D) (b:=bb) h.sw h.nw;rw[A5n h1]at a;rw[A5L h2]at c;exact⟨_,LF (D:=D+1) (Ao (q:=false) CC (Ao a (Ao c (K1 (b:=bb) (D:=D+1) (H:=H) (λx:Value=>x) [.int .i64 u0.p0,.int .i64 u0.q0,.int .i64 u0.p1,.int .i64 u0.q1,.int .i64 u0.p2,.int .i64 u0.q2,.int .i64 u0.p3,.int .i64 u0.q3,.int .i64 u0.p4,.int .i64 u0.q4,.int .i64 u0.p5,.int .i64 u0.q5,.int .i64 u0.p6,.int .i64 u0.q6,
  .string ⟨⟨u0.fn⟩⟩,.string ⟨⟨u0.fd⟩⟩,.string ⟨⟨u0.on⟩⟩,.string ⟨⟨u0.od⟩⟩,.int .i64 u0.kd,.int .i64 u0.sc]))))⟩
def B9M{b:Bool}:Fx b (D+1) (.agg y.cs) (.agg y.cs) H false:=λK=>by cases D<;>cases b<;>kernel_rfl
def Md.ty(h:Md b r z ins id ks (Lg ks) ks v w u H)(h1:1<=ks.length){t:AV}(d:CS (r! L (n+42)) CK [.agg (B0 id (BC ks) (Ci (Lg ks)) u0),.agg y.cs,I ks.length,RM ks] t){K:K2}:
 Ap (r! L (n+42)) CK [.agg (B0 id v w u0),.agg y.cs,I ks.length,u] H K=K t:=by
 obtain⟨q1,a⟩:=h.proc h1 (by rw[DT];exact h1) (D:=depth-2) (bb:=true);obtain⟨q2,c⟩:=B6w (b:=true) h.su h.nu;exact AP d (Ao a (Ao (B9M (D:=depth-1)) (Ao (q:=false) CC (Ao c AH))))
end
end
section
variable{L n:Nat}
section
variable{K:KV}{x:Af}{ins:List Int}{id:Int}{ks us:Hb}{xs:List Nd}{v w u:AV}{b r z m:Nat}{H H':Hp}{y0 y1 y2 y3:Int}
def C2S{a1 i4 j5:AV}{ah:AV->AV->KV}(h:Md b r z ins id ks (Lg ks) ks v w u H)(k1:1<=ks.length)(k3:ks.length<=3)(k7:∀k∈ks,k<7)(i0:J7 y0)(i1:J7 y1)(i2:J7 y2)(i3:J7 y3)(ac:∀J F H',Md b r z ins id ks (Lg ks++(exM ks y0 y1 y2 y3).nd) (ks++(exM ks y0 y1 y2 y3).ty ks) v J F H'->ah (.ptr z 0 0) (.ptr r 0 0) F H'=x)(f:Nat):
 MH (L+20) (r! L (n+42)) K ah (f+2) a1 (.list 1 [I y0,I y1,I y2,I y3]) (Bo true) (.ptr b 0 0) (.ptr z 0 0) (.ptr r 0 0) i4 u j5 (I ((0:Nat):Int)) H=x:=by
 have ex:∀J F H',Md b r z ins id ks (Lg ks++(exM ks y0 y1 y2 y3).nd) (ks++(exM ks y0 y1 y2 y3).ty ks) v J F H'->MH (L+20) (r! L (n+42)) K ah (f+1) a1 (.list 1 [I y0,I y1,I y2,I y3]) (Bo true) (.ptr b 0 0) (.ptr z 0 0) (.ptr r 0 0) i4 F j5 (I ((0+1:Nat):Int)) H'=x:=by
  intro J F H' j;rw[QF];unfold MI Dz XW Qa IA Dk FQ A3 Kn Ga;have el:∀{K:K2},Bh J8 (.list 1 [I y0,I y1,I y2,I y3]) K=K (I ((1:Nat):Int)):=λ{K}=>r_ rfl;rw[el,Fp (by omega)];simp only[iW,Cb,RC];rw[AZ];exact ac J F H' j
 rw[QF];unfold MI Dz XW Qa IA Dk FQ A3 Kn Ga;have el:∀{K:K2},Bh J8 (.list 1 [I y0,I y1,I y2,I y3]) K=K (I ((1:Nat):Int)):=λ{K}=>r_ rfl;have ba:(AV.v (.int .i64 14))=I ((14:Nat):Int):=rfl;have hw:=h.sw;rw[DT]at hw;rw[el,Fz (by omega),ba];simp only[gT,Cb,Po,h.ld2,Lr (t:=Aw) rfl hw];rw[Fz (by omega),Cb,UV,Cu];refine PW λbs ak=>?_;refine PW λbk am=>?_;have B:∀J F H',Md b r z ins id ks (Lg ks++(exM ks y0 y1 y2 y3).nd) (ks++(exM ks y0 y1 y2 y3).ty ks) v J F H'->bk F H'=x:=by
  intro J F H' j;rw[am,ak];have ad:∀{K:K2},Ar Ab .add (I ((0:Nat):Int)) (.v (.int .i64 1)) K=K (I ((0+1:Nat):Int)):=λ{K}=>Db (by omega);simp only[ad];exact ex J F H' j
 clear ak am ex ac;have bf:∀{K:K2},DC J8 (.list 1 [I y0,I y1,I y2,I y3]) (I ((0:Nat):Int)) K=K (.iptr [I y0,I y1,I y2,I y3]):=λ{K}=>r_ rfl;have bm:∀{H}{K:K2},AD CU (.iptr [I y0,I y1,I y2,I y3]) H K=K (.agg [I y0,I y1,I y2,I y3]):=λ{H K}=>r_ rfl;obtain⟨H1,e1,m1,w1,a5⟩:=Ip (e:=HZ) (zs:=[zI,zI,zI,zI]) (vs:=[I y0,I y1,I y2,I y3]) h.wf rfl;rw[bf,bm,B1 (cs:=[zI,zI,zI,zI]) rfl,BX (cs:=[zI,zI,zI,zI]) (vs:=[I y0,I y1,I y2,I y3]) (Ax (by simp)) rfl rfl rfl,<-e1];have o4:=h.oth;have h1:=h.grow w1 λs x hs=>(a5 s x hs).1;generalize As H=q4 at m1 o4;clear a5 e1;have ay:=h1.sw;rw[DT]at ay;rw[h1.ld2,Lr (t:=Aw) rfl ay];have y4:∀{A:Hp}{K:K2},Ai A q4=some (c_ HZ [I y0,I y1,I y2,I y3])->(DC CU (.ptr q4 0 0) (.v (.int .i64 0)) λp=>AD Ab p A K)=K (I y0):=λ{A K}P=>by
  rw[ER (z:=0) 0 rfl rfl (by decide),AF (p:=0) rfl P (by simp)];rfl
 have Y:∀{A:Hp}{K:K2},Ai A q4=some (c_ HZ [I y0,I y1,I y2,I y3])->(DC CU (.ptr q4 0 0) (.v (.int .i64 1)) λp=>AD Ab p A K)=K (I y1):=λ{A K}P=>by
  rw[ER (z:=1) 1 rfl rfl (by decide),AF (p:=1) rfl P (by simp)];rfl
 have a7:∀{A:Hp}{K:K2},Ai A q4=some (c_ HZ [I y0,I y1,I y2,I y3])->(DC CU (.ptr q4 0 0) (.v (.int .i64 2)) λp=>AD Ab p A K)=K (I y2):=λ{A K}P=>by
  rw[ER (z:=2) 2 rfl rfl (by decide),AF (p:=2) rfl P (by simp)];rfl
 have bq:∀{A:Hp}{K:K2},Ai A q4=some (c_ HZ [I y0,I y1,I y2,I y3])->(DC CU (.ptr q4 0 0) (.v (.int .i64 3)) λp=>AD Ab p A K)=K (I y3):=λ{A K}P=>by
  rw[ER (z:=3) 3 rfl rfl (by decide),AF (p:=3) rfl P (by simp)];rfl
 obtain⟨q,pq,hq,eq⟩:=Om (c:=y0) (m:=8) (by decide);obtain⟨a13,pa,ha,ea⟩:=Om (c:=y1) (m:=13) (by decide);obtain⟨b4,pb,hb,eb⟩:=Om (c:=y2) (m:=4) (by decide);obtain⟨d,bp,hk,ek⟩:=Om (c:=y3) (m:=7) (by decide);obtain⟨e5,pe,he,ee⟩:=Om (c:=y2) (m:=5) (by decide);obtain⟨l,pl,P,el⟩:=Om (c:=y1) (m:=ks.length) (by omega);obtain⟨rr,pr,hr,er⟩:=Om (c:=y2) (m:=ks.length) (by omega);have ap:∀H K,Ap (r! L (n+42)) Cz [I y0,.v (.int .i64 8)] H K=K (I (q:Int)):=by rw[<-pq];exact MK (n:=n+41) i0 (by decide) (by decide)
 have ag:∀H K,Ap (r! L (n+42)) Cz [I y1,.v (.int .i64 13)] H K=K (I (a13:Int)):=by rw[<-pa];exact MK (n:=n+41) i1 (by decide) (by decide)
 have aq:∀H K,Ap (r! L (n+42)) Cz [I y2,.v (.int .i64 4)] H K=K (I (b4:Int)):=by rw[<-pb];exact MK (n:=n+41) i2 (by decide) (by decide)
 have ar:∀H K,Ap (r! L (n+42)) Cz [I y2,.v (.int .i64 5)] H K=K (I (e5:Int)):=by rw[<-pe];exact MK (n:=n+41) i2 (by decide) (by decide)
 have D:∀H K,Ap (r! L (n+42)) Cz [I y1,I ks.length] H K=K (I (l:Int)):=by rw[<-pl];exact MK (n:=n+41) i1 (by omega) (by omega)
 have ax:∀H K,Ap (r! L (n+42)) Cz [I y2,I ks.length] H K=K (I (rr:Int)):=by rw[<-pr];exact MK (n:=n+41) i2 (by omega) (by omega)
 have be:∀H K,Ap (r! L (n+42)) Gx [I y3] H K=K (.agg (Cx (uu d))):=by rw[<-ek];exact A3F (n:=n) i3
 have ao:exM ks y0 y1 y2 y3=exO ks q a13 b4 d e5 l rr:=by unfold exM;rw[eq,ea,eb,ek,ee,el,er]
 rw[ao]at B;clear ao pq pa pb bp pe pl pr eq ea eb ek ee el er;have bd:∀{z:Int}{K:K2},BP AM [(0,1,I z)] K=K (.agg (Nd.mk z [] [] u0 0 0 0).cs):=λ{z K}=>r_ rfl;have ad:∀{K:K2},Ar Ab .add (.v (.int .i64 1)) (I (q:Int)) K=K (I ((q+1:Nat):Int)):=λ{K}=>by
  rw[CY,CQ (by omega) (by omega)];rw[show(1:Int)+(q:Int)=((q+1:Nat):Int) by omega]
 rw[y4 m1,ap,ad,bd];obtain⟨A,e2,C,w2,ai⟩:=Ip (e:=AY) (zs:=(Nd.mk 0 [] [] u0 0 0 0).cs) (vs:=(Nd.mk ((q+1:Nat):Int) [] [] u0 0 0 0).cs) h1.wf rfl;rw[B1 (cs:=(Nd.mk 0 [] [] u0 0 0 0).cs) rfl,BX (cs:=(Nd.mk 0 [] [] u0 0 0 0).cs) (vs:=(Nd.mk ((q+1:Nat):Int) [] [] u0 0 0 0).cs) (Ax (by simp)) rfl rfl rfl,<-e2];have o:=h1.oth;have h2:=h1.grow w2 λs x hs=>(ai s x hs).1;obtain⟨V,a6⟩:=ai _ _ m1;generalize As H1=m at C o a6;clear ai e2;refine PW λaf Z=>?_;have tail:∀(nd:Nd)(Hm:Hp)(U:UD)(e:Int),Md b r z ins id ks (Lg ks) ks v w u Hm->Ai Hm m=some (c_ AY nd.cs)->
  CS (r! L (n+42)) CK [.agg (B0 id (BC ks) (Ci (Lg ks)) u0),.agg nd.cs,I ks.length,RM ks] (.tup [.agg (Cx U),I e])->
  (e=0/\nd.op≠8->∃k,U=uu k/\(exO ks q a13 b4 d e5 l rr).nd=[nd]/\(exO ks q a13 b4 d e5 l rr).ty ks=[k])->(¬(e=0/\nd.op≠8)->(exO ks q a13 b4 d e5 l rr).nd=[]/\(exO ks q a13 b4 d e5 l rr).ty ks=[])->af Hm=x:=by
  intro nd Hm U e hm mm y hg ab;have lp:∀{K},AD AT (.ptr r 0 0) Hm K=K (.agg (B0 id v w u0)):=λ{K}=>Bu rfl rfl hm.hr;have ln:∀{K},AD AM (.ptr m 0 0) Hm K=K (.agg nd.cs):=λ{K}=>Bu rfl rfl mm;rw[Z];simp only[lp,ln,hm.ty k1 y];obtain⟨M,e3,m3,w3,aj⟩:=Ip (e:=AB) (zs:=Gf) (vs:=Cx U) hm.wf rfl;rw[FB,FA,B1 (cs:=Gf) rfl,BX (cs:=Gf) (vs:=Cx U) (Ax (by simp)) rfl rfl rfl,<-e3];have o3:=hm.oth;have O:=hm.grow w3 λs x hs=>(aj s x hs).1;obtain⟨m5, -⟩:=aj _ _ mm;generalize As Hm=q3 at m3 o3;clear aj e3;have bn:∀{K},AD AM (.ptr m 0 0) M K=K (.agg nd.cs):=λ{K}=>Bu rfl rfl m5;have bo:∀{K},AD Ab (.ptr m 0 0) M K=K (I nd.op):=λ{K}=>AF (p:=0) rfl m5 (show 0<26 by decide);rw[Cl];by_cases Q:e=0
  ·rw[HR Q];simp only[gT,Cb,ntT,Po,bo,I3,UV,RC];by_cases h8:nd.op=8
   ·obtain⟨g1,g2⟩:=ab λj=>j.2 h8;rw[HR h8];show A1 (Bo false) _ _=_;rw[AZ];refine B w u M ?_;rw[g1,g2,V0,V0];exact O
   ·obtain⟨k,rfl,g1,g2⟩:=hg ⟨Q,h8⟩;rw[HW h8];show A1 (Bo true) _ _=_;obtain⟨J,H4,a1,a2,a3,a4⟩:=O.w1 nd (by rw[DT];omega);obtain⟨F,H5,b1,b2⟩:=a3.u1 k (by omega);have lu:∀{K},AD A0 (.ptr q3 0 0) (Go.Abs.upd H4 r (Je id v J u0)) K=K (.agg (Cx (uu k))):=λ{K}=>Bu rfl rfl (a4 _ _ o3.r o3.w m3);rw[Cu,O.ld2,bn,C4q,a1,a2,lu,A82,b1];refine B J F H5 ?_;rw[g1,g2];exact b2
  ·obtain⟨g1,g2⟩:=ab λj=>Q j.1;rw[HW Q];simp only[iW,Cb,gU,RC];rw[AZ];refine B w u M ?_;rw[g1,g2,V0,V0];exact O
 clear Z B;have lo:∀{K},AD Ab (.ptr m 0 0) A K=K (I ((q+1:Nat):Int)):=λ{K}=>AF (p:=0) rfl C (show 0<26 by decide);rw[Po,lo];refine PW λaz aa=>?_;have g:∀H,az H=af H:=λH=>by rw[aa]
 clear aa;have sm:∀{cs:Is}{N:Hp},Ai N q4=some (c_ HZ [I y0,I y1,I y2,I y3])->Ai (Go.Abs.upd N m (c_ AY cs)) q4=some (c_ HZ [I y0,I y1,I y2,I y3]):=λP=>by rw[Ag a6];exact P
 rw[Cl];by_cases ae:2<=q/\q<6
 ·have y:=A5w (L:=L) (n:=n) (id:=id) (o:=u0) (xs:=Lg ks) (op:=q+1) k1 k3 k7 (show l<ks.length by omega) (show rr<ks.length by omega) (by omega) (by omega);rw[show q+1-3=q-2 by omega]at y;rw[HW (by omega),AZ,Cl,HW (by omega),AZ,Cl,HW (by omega),AZ,Cl,HW (by omega),AZ,
   Y V,D,Po,D6 C (show 24<26 by decide) rfl rfl rfl,a7 (sm V),ax,Po,D6 (AC C) (show 25<26 by decide) rfl rfl rfl,g]
  have R:=B1n (ks:=ks) (a13:=a13) (b4:=b4) (k7:=d) (e5:=e5) (l:=l) (r:=rr) ae.1 ae.2;have hm:=(h2.upd o (c_ AY ((Nd.mk ((q+1:Nat):Int) [] [] u0 0 0 0).cs.set 24 (I (l:Int))))).upd o (c_ AY (((Nd.mk ((q+1:Nat):Int) [] [] u0 0 0 0).cs.set 24 (I (l:Int))).set 25 (I (rr:Int))));cases hu:VO (q-2) (ks.getD l 0) (ks.getD rr 0) with
  |none=>
   rw[hu]at y R;exact tail (wS (q+1) l rr) _ u0 90 hm (AC (AC C)) y (λj=>absurd j.1 (by decide)) (λ_=>by rw[R];exact⟨rfl,rfl⟩)
  |some k=>
   rw[hu]at y R;refine tail (wS (q+1) l rr) _ (uu k) 0 hm (AC (AC C)) y (λ_=>⟨k,rfl,by rw[R];exact⟨rfl,rfl⟩⟩) (λj=>absurd ⟨rfl,?_⟩ j);show((q+1:Nat):Int)≠8;omega
 ·obtain rfl|rfl|rfl|rfl:q=0\/q=1\/q=6\/q=7:=by omega
  ·have bg:∀{K:K2},DC CU (.ptr q4 0 0) (.v (.int .i64 1)) K=K (.ptr q4 1 0):=λ{K}=>ER (z:=1) 1 rfl rfl (by decide);have bh:∀{K:K2},DC CU (.ptr q4 0 0) (.v (.int .i64 2)) K=K (.ptr q4 2 0):=λ{K}=>ER (z:=2) 2 rfl rfl (by decide);have d1:∀{K:K2},AD Ab (.ptr q4 1 0) A K=K (I y1):=λ{K}=>AF (p:=1) rfl V (by simp);have d2:∀{K:K2},AD Ab (.ptr q4 2 0) A K=K (I y2):=λ{K}=>AF (p:=2) rfl V (by simp);have sb:∀{K:K2},Ar Ab .sub (I (a13:Int)) (.v (.int .i64 6)) K=K (I ((a13:Int)-6)):=λ{K}=>by rw[J6,CQ (by omega) (by omega)]
   have a8:∀{K:K2},Ar Ab .add (.v (.int .i64 1)) (I (b4:Int)) K=K (I (1+(b4:Int))):=λ{K}=>by rw[CY,CQ (by omega) (by omega)]
   have bc:∀H K,Ap (r! L (n+42)) Gy [I ((a13:Int)-6),I (1+(b4:Int))] H K=K (.tup [.agg (fR (mQ a13 b4)),I 0]):=by
    have:=B9k L (n+2) (4*a13+b4) (by omega);rw[show(4*a13+b4)/4=a13 by omega,show(4*a13+b4)%4=b4 by omega]at this;exact this
   have y:=A1d (L:=L) (n:=n) (id:=id) (o:=u0) (xs:=Lg ks) (ks:=ks) (at_:=ks.length) (w:=RM ks) (A1W (a:=a13) (b:=b4) (by omega) (by omega)) (show d<7 by omega);rw[HR (by rfl),Cu];simp only[bg,bh,d1,d2,ag,aq,sb,a8,bc,FB,FA,Po,Bw];rw[mY (vs:=fR (mQ a13 b4)) C (show 1+2<=26 by decide) rfl rfl,Cb,bq (sm V),be,mY (vs:=Cx (uu d)) (AC C) (show 3+20<=26 by decide) rfl rfl,g];have hm:=(h2.upd o (c_ AY (splice (Nd.mk ((0+1:Nat):Int) [] [] u0 0 0 0).cs 1 (fR (mQ a13 b4))))).upd o (c_ AY (splice (splice (Nd.mk ((0+1:Nat):Int) [] [] u0 0 0 0).cs 1 (fR (mQ a13 b4))) 3 (Cx (uu d))));exact tail (cnN (mQ a13 b4) d) _ (uu d) 0 hm (AC (AC C)) y (λ_=>⟨d,rfl,rfl,rfl⟩) (λj=>absurd ⟨rfl,show(1:Int)≠8 by decide⟩ j)
  ·have y:=Zt (L:=L) (n:=n+39) (id:=id) (o:=u0) (xs:=Lg ks) (ks:=ks) (i:=l) (by omega) (by omega) (at_:=ks.length) (w:=RM ks);have eg:ks[l]'(by omega)=ks.getD l 0:=by simp[List.getD,KL (show l<ks.length by omega)]
   rw[eg]at y;rw[HW (by decide),AZ,Cl,HR (by rfl),Cu,Y V,h2.ld1,Lr (t:=Al) rfl h2.sv,D,Po,D6 C (show 23<26 by decide) rfl rfl rfl,g];have hm:=h2.upd o (c_ AY ((Nd.mk ((1+1:Nat):Int) [] [] u0 0 0 0).cs.set 23 (I (l:Int))));exact tail (dC l) _ (uu (ks.getD l 0)) 0 hm (AC C) y (λ_=>⟨ks.getD l 0,rfl,rfl,rfl⟩) (λj=>absurd ⟨rfl,show(2:Int)≠8 by decide⟩ j)
  ·have y:=A5v (L:=L) (n:=n) (id:=id) (o:=u0) (xs:=Lg ks) k1 k3 k7 (show l<ks.length by omega) (show e5<5 by omega);have a9:∀{N:Hp}{K:KV},FU GJ 1 Ab 5 [(0,1,(AV.v (.int .i64 2))),(1,1,(AV.v (.int .i64 (-1)))),(2,1,(AV.v (.int .i64 3))),(3,1,(AV.v (.int .i64 (-2)))),(4,1,(AV.v (.int .i64 1)))] N K=K (.sl 1 (As N) 0 5) ((As N,.cells false GJ [I 2,I (-1),I 3,I (-2),I 1])::N):=λ{N K}=>by
    have e:FU GJ 1 Ab 5 [(0,1,(AV.v (.int .i64 2))),(1,1,(AV.v (.int .i64 (-1)))),(2,1,(AV.v (.int .i64 3))),(3,1,(AV.v (.int .i64 (-2)))),(4,1,(AV.v (.int .i64 1)))] N K=Io N (λs=>K (.sl 1 s 0 5) ((s,.cells false GJ [I 2,I (-1),I 3,I (-2),I 1])::N)):=r_ rfl;rw[e,Ca]
   have bj:∀{s:Nat}{K:K2},DC Bs (.sl 1 s 0 5) (I (e5:Int)) K=K (.ptr s e5 0):=λ{s K}=>by
    have e1:DC Bs (.sl 1 s 0 5) (I (e5:Int)) K=iN (e5:Int) λm=>ck (Nat.blt m 5) (fN (Nat.add 0 (Nat.mul m 1)) λp=>K (.ptr s p 0)):=r_ rfl;rw[e1,Kk,Ee];have O:Nat.blt e5 5=true:=by rw[Xi];omega
    rw[O];show K (.ptr s (0+e5*1) 0)=_;rw[Kd,qZ]
   have gd:([I 2,I (-1),I 3,I (-2),I 1]:Is).getD e5 .dk=I (mV e5):=by
    obtain rfl|rfl|rfl|rfl|rfl:e5=0\/e5=1\/e5=2\/e5=3\/e5=4:=by omega
    all_goals rfl
   rw[HW (by decide),AZ,Cl,HW (by decide),AZ,Cl,HR (by rfl),Cu,Y V,D,Po,D6 C (show 24<26 by decide) rfl rfl rfl,a9];have m3:=AC (q:=true) (e:=AY) (cs:=(Nd.mk ((6+1:Nat):Int) [] [] u0 0 0 0).cs.set 24 (I (l:Int))) C;have O:=h2.upd o (c_ AY ((Nd.mk ((6+1:Nat):Int) [] [] u0 0 0 0).cs.set 24 (I (l:Int))));have s3:=sm (cs:=(Nd.mk ((6+1:Nat):Int) [] [] u0 0 0 0).cs.set 24 (I (l:Int))) V;generalize Go.Abs.upd A m (c_ AY ((Nd.mk ((6+1:Nat):Int) [] [] u0 0 0 0).cs.set 24 (I (l:Int))))=M at m3 O s3;have w4:=AG (x:=.cells false GJ [I 2,I (-1),I 3,I (-2),I 1]) O.wf;have k4:∀s x,Ai M s=some x->Ai ((As M,.cells false GJ [I 2,I (-1),I 3,I (-2),I 1])::M) s=some x:=λs x hs=>A7 (O.wf.lt hs) hs;have h4:=O.grow w4 k4;have X:=k4 _ _ m3;have s4:=k4 _ _ s3;have n4:=Ax (H:=M) (x:=.cells false GJ [I 2,I (-1),I 3,I (-2),I 1]) (by simp);generalize ((As M,Row.cells false GJ [I 2,I (-1),I 3,I (-2),I 1])::M)=H4 at h4 X s4 n4;rw[a7 s4,ar,bj,AF (p:=e5) rfl n4 (show e5<5 by omega),gd,Po,D6 X (show 23<26 by decide) rfl rfl rfl,g];have hm:=h4.upd o (c_ AY (((Nd.mk ((6+1:Nat):Int) [] [] u0 0 0 0).cs.set 24 (I (l:Int))).set 23 (I (mV e5))));have R:exO ks 6 a13 b4 d e5 l rr=match Yk (ks.getD l 0) e5 with
    |some k=>.po l e5 k
    |none=>.no:=rfl
   cases hu:Yk (ks.getD l 0) e5 with
   |none=>
    rw[hu]at y R;exact tail (poN l e5) _ u0 90 hm (AC X) y (λj=>absurd j.1 (by decide)) (λ_=>by rw[R];exact⟨rfl,rfl⟩)
   |some k=>
    rw[hu]at y R;exact tail (poN l e5) _ (uu k) 0 hm (AC X) y (λ_=>⟨k,rfl,by rw[R];exact⟨rfl,rfl⟩⟩) (λj=>absurd ⟨rfl,show(7:Int)≠8 by decide⟩ j)
  ·have g7:=MW k7 (show l<ks.length by omega);have he:=GG.1 (show((List.range 7).all λk=>decide ((usq k).2=0\/(usq k).2=70))=true by kernel_rfl) (ks.getD l 0) (KR.2 g7);have y:=B4a (L:=L) (n:=n) (id:=id) (o:=u0) (xs:=Lg ks) (l2y he) k1 k3 (show l<ks.length by omega) (C2w L (n+1) _ g7).o;rw[HW (by decide),AZ,Cl,HW (by decide),AZ,Cl,HW (by decide),AZ,Cl,HR (by rfl),Cu,Y V,D,Po,D6 C (show 24<26 by decide) rfl rfl rfl,g];have hm:=h2.upd o (c_ AY ((Nd.mk ((7+1:Nat):Int) [] [] u0 0 0 0).cs.set 24 (I (l:Int))));by_cases h0:(usq (ks.getD l 0)).2=0
   ·rw[Dq h0]at y;exact tail (sqN l) _ _ 0 hm (AC C) y (λj=>absurd rfl j.2) (λ_=>⟨rfl,rfl⟩)
   ·rw[CF h0]at y;exact tail (sqN l) _ u0 90 hm (AC C) y (λj=>absurd rfl j.2) (λ_=>⟨rfl,rfl⟩)
end
end
section
variable{L n:Nat}
abbrev Y4:=Option (Int×Int×Int×Int)
def exY(ks:Hb):Y4->Ex
 |none=>.no
 |some (a,b,c,d)=>exM ks a b c d
def yA:Y4->AV
 |none=>Av
 |some (a,b,c,d)=>.list 1 [I a,I b,I c,I d]
def yI:Y4->Prop
 |none=>True
 |some (a,b,c,d)=>J7 a/\J7 b/\J7 c/\J7 d
def qX(ins:List Int)(count:Int)(y:Y4):Pr:=⟨1+(pk count 900).toNat,ksM ins ((pk count 3).toNat+1),exY (ksM ins ((pk count 3).toNat+1)) y⟩
section
variable{K:KV}{x:Af}{ins:List Int}{id:Int}{ks us:Hb}{xs:List Nd}{v w u:AV}{b r z m:Nat}{H H':Hp}{count:Int}{y:Y4}
def A5T(h:ins.length=3):(ksM ins ((pk count 3).toNat+1)).length=(pk count 3).toNat+1/\(pk count 3).toNat<3:=by
 have pr:=EN (c:=count) (n:=3) (by decide);unfold ksM;rw[UH,l0h];omega
def B6q{i:Nat}:∀k∈ksM ins i,k<7:=by
 intro k a;obtain⟨c,_,rfl⟩:=Rc.1 a;have pr:=EN (c:=c) (n:=7) (by decide);omega
def A3P(h:ins.length=3):(qX ins count y).Ok:=by
 have pr:=EN (c:=count) (n:=900) (by decide);obtain⟨h1,h2⟩:=A5T (count:=count) h;have e:(qX ins count y).ks.length=(pk count 3).toNat+1:=h1;refine⟨by show 1<=1+_;omega,by show 1+_<950;omega,by rw[e];omega,by rw[e];omega,B6q,?_⟩
 match y with
 |none=>exact trivial
 |some (a,b,c,d)=>exact C0s (by show 1<=(ksM ins ((pk count 3).toNat+1)).length;rw[h1];omega)
def B0h(sv:Bk H AB 20 v ks.length (ks.flatMap HI))(nv:ks=[]->v=Av)(sw:Bk H AY 26 w xs.length (xs.flatMap Q!))(nw:xs=[]->w=Av)(h1:1<=ks.length)(h2:1<=xs.length){D:Nat}{bb:Bool}{o:UD}:∃q,Fx bb (D+2) (.agg (B0 id v w o)) (.agg (B0 id (BC ks) (Ci xs) o)) H q:=by
 obtain⟨q1,a⟩:=mP (D:=D) (b:=bb) sv nv;obtain⟨q2,c⟩:=B17 (D:=D) (b:=bb) sw nw;rw[A5n h1]at a;rw[A5L h2]at c;exact⟨_,LF (D:=D+1) (Ao (q:=false) CC (Ao a (Ao c (K1 (b:=bb) (D:=D+1) (H:=H) (λx:Value=>x) [.int .i64 o.p0,.int .i64 o.q0,.int .i64 o.p1,.int .i64 o.q1,.int .i64 o.p2,.int .i64 o.q2,.int .i64 o.p3,.int .i64 o.q3,.int .i64 o.p4,.int .i64 o.q4,.int .i64 o.p5,.int .i64 o.q5,.int .i64 o.p6,.int .i64 o.q6,
  .string ⟨⟨o.fn⟩⟩,.string ⟨⟨o.fd⟩⟩,.string ⟨⟨o.on⟩⟩,.string ⟨⟨o.od⟩⟩,.int .i64 o.kd,.int .i64 o.sc]))))⟩
def zJ{o:UD}(h1:AV.one v=true)(h2:AV.one w=true):(B0 id v w o).all AV.one=true:=by
 show(true&&(AV.one v&&(AV.one w&&true)))=true;rw[h1,h2];rfl
def B9N(h:Md b r z ins id ks xs us v w u H)(h1:1<=ks.length)(h2:1<=xs.length)(Y:us.length=xs.length)(Z:us.length<1000)(O:∀P N,(∀b,∃q,Fx b depth P (.agg (B0 id (BC ks) (Ci xs) (uu (us.getD (xs.length-1) 0)))) N q)->K P N=x):
 (Bh Al u λp=>
  Ar Ab .sub p (AV.v (.int .i64 1)) λA=>
  DC Al u A λB=>
  AD A0 B H λC=>
  CD 3 (.ptr r 0 0) λF=>
  DF A0 F C H λc=>
  AD AT (.ptr r 0 0) c λJ=>
  DF AT (.ptr z 0 0) J c λd=>
  AD AT (.ptr z 0 0) d λM=>
  K M d)=x:=by
 have f:us.length-1<us.length:=by omega
 obtain⟨a,X,g⟩:=A5m h.su f;have R:us[us.length-1]=us.getD (xs.length-1) 0:=by rw[<-Y];simp[List.getD,KL f]
 rw[R]at g;generalize us.getD (xs.length-1) 0=k at g O;obtain⟨cs,c1,c2⟩:=h.hz;rw[Lr (t:=Al) rfl h.su,gK (by omega) (by omega),X,g,Po,mY (vs:=Cx (uu k)) h.hr (show 3+20<=23 by decide) rfl rfl];have r1:=AC (q:=true) (e:=Cm) (cs:=B0 id v w (uu k)) h.hr;have Q:Ai (Go.Abs.upd H r (Je id v w (uu k))) z=some (c_ Cm cs):=by rw[Ag h.zr];exact c2
 have V:splice (B0 id v w u0) 3 (Cx (uu k))=B0 id v w (uu k):=rfl;rw[V,Bu (cs:=B0 id v w (uu k)) rfl rfl r1,BX Q (by exact c1.symm) (by exact c1.symm) (zJ (Bk.one h.sv) (Bk.one h.sw)),Bu (cs:=B0 id v w (uu k)) rfl rfl (AC Q)];refine O _ _ λq=>?_;refine B0h (D:=depth-2) (h.sv.kp λs x j i=>?_) h.nv (h.sw.kp λs x j i=>?_) h.nw h1 h2
 ·have:=h.av s j;rw[Ag this.2.2.1,Ag this.2.1];exact i
 ·have:=h.aw s j;rw[Ag this.2.2.1,Ag this.2.1];exact i
def B02(F:100<L)(B:ins.length=3)(d:∀c∈ins,J7 c)(hc:J7 count)(p:yI y):
 CS (r! L (n+43)) Rs [.agg (Fl ins),I count,yA y,Bo true] (.agg (B0 (qX ins count y).id (BC (qX ins count y).ks) (Ci (qX ins count y).xs) (uu (qX ins count y).out))):=by
 intro K X;have J:=A3P (count:=count) (y:=y) B;obtain⟨p1,p2,p3⟩:=lN J;obtain⟨C,l2⟩:=A5T (count:=count) B;have pr:=EN (c:=count) (n:=900) (by decide);rw[uC];unfold WN IA A3;have k1:∀H K,Ap (r! L (n+42)) Cz [I count,.v (.int .i64 900)] H K=K (I (pk count 900)):=MK (n:=n+41) hc (by decide) (by decide);have A:((qX ins count y).id:Int)=1+pk count 900:=by show((1+(pk count 900).toNat:Nat):Int)=_;omega
 have N:∀{K:K2},Ar Ab .add (.v (.int .i64 1)) (I (pk count 900)) K=K (I ((qX ins count y).id:Int)):=λ{K}=>by rw[CY,CQ (by omega) (by omega),A]
 have O:∀{i:Int}{K:K2},BP AT [(0,1,I i)] K=K (.agg (B0 i Av Av u0)):=λ{i K}=>r_ rfl;rw[DN (zW ins)];have hb:=Ax (H:=[]) (x:=.cells true Vh (Fl ins)) (by simp);have w0:=AG (x:=.cells true Vh (Fl ins)) FH;generalize ((As [],c_ Vh (Fl ins))::([]:Hp))=j at hb w0;generalize As []=b at hb;rw[B1 (cs:=B0 0 Av Av u0) rfl];have hz:=Ax (H:=j) (x:=.cells true Cm (B0 0 Av Av u0)) (by simp);have b1:=A7 (x:=.cells true Cm (B0 0 Av Av u0)) (w0.lt hb) hb;have w1:=AG (x:=.cells true Cm (B0 0 Av Av u0)) w0;generalize ((As j,c_ Cm (B0 0 Av Av u0))::j)=M at hz w1 b1;generalize As j=z at hz;rw[k1,N,O,B1 (cs:=B0 0 Av Av u0) rfl];obtain⟨D,R,r2,Y,kp⟩:=Ip (e:=Cm) (zs:=B0 0 Av Av u0) (vs:=B0 (qX ins count y).id Av Av u0) w1 rfl;rw[BX (cs:=B0 0 Av Av u0) (vs:=B0 (qX ins count y).id Av Av u0) (Ax (by simp)) rfl rfl rfl,<-R];obtain⟨b2,f⟩:=kp _ _ b1;obtain⟨Z,g⟩:=kp _ _ hz;generalize As M=r at r2 f g;have no:∀{s:Nat}{P:Prop},A9 Av s->P:=λ⟨_,_,_,h⟩=>by cases h
 have V:Md b r z ins (qX ins count y).id (ksM ins 0) [] [] Av Av Av D:=⟨b2,r2,⟨_,rfl,Z⟩,.inl ⟨rfl,rfl,rfl⟩,λ_=>rfl,.inl ⟨rfl,rfl,rfl⟩,λ_=>rfl,.inl ⟨rfl,rfl,rfl⟩,λ_=>rfl,f,g,λ_=>no,λ_=>no,λ_=>no,Y⟩
 simp only[BE];refine C2Q F B d hc (λv H k=>?_) (L+20) 0 Av D (by omega) (by omega) V;refine C2R (n:=n) F (by rw[C];omega) (λw u H k=>?_) (L+20) 0 Av Av H (by omega) (by omega) k;have fin:∀t q H',Md b r z ins (qX ins count y).id (qX ins count y).ks (qX ins count y).xs (qX ins count y).ty v t q H'->_:=λt q H' a=>B9N (K:=K) a J.k1 p2 p1 (by omega) X
 match y with
 |none=>
  show MH (L+20) (r! L (n+42)) K _ ((L+19)+1) _ Av _ _ _ _ _ _ _ _ H=_;rw[QF];unfold MI Dz XW Qa IA Dk FQ A3 Kn Ga;have el:∀{K:K2},Bh J8 Av K=K (I ((0:Nat):Int)):=λ{K}=>r_ rfl;have Q:(AV.v (.int .i64 0))=I ((0:Nat):Int):=rfl;rw[el,Q,Fp (by omega)];simp only[iW,Cb,RC];rw[AZ];refine fin w u H ?_;show Md b r z ins _ _ (Lg _++[]) (_++[]) v w u H;rw[V0,V0];exact k
 |some (y0,y1,y2,y3)=>
  exact C2S (n:=n) k (by rw[C];omega) (by rw[C];omega) B6q p.1 p.2.1 p.2.2.1 p.2.2.2 (λt q H' a=>fin t q H' a) (L+18)
end
end
section
variable{x1:Int}{ks:Hb}{i:Nat}
variable{L n:Nat}
def PL(H:Hp)(l:List Ha)(a:AV):Prop:=SA l a\/Bk H Aq 1 a l.length (AE l)
section
variable{H H':Hp}{l:List Ha}{a:AV}{K:K2}
theorem PL.len(h:PL H l a):Bh Ac a K=K (I l.length):=by
 rcases h with h|h
 ·exact h.len
 ·exact Lr (t:=Ac) rfl h
def A9p(h:Bk H Aq 1 a l.length (AE l))(b:i<l.length):(DC Ac a (I i) λp=>AD Ah p H K)=K (S l[i]):=by
 rcases h with⟨_,h2,_⟩|⟨r,q,rfl,h2,c⟩
 ·omega
 ·have d:∀K:K2,DC Ac (.sl 1 r 0 l.length) (I (i:Int)) K=iN (i:Int) λm=>ck (Nat.blt m l.length) (fN (Nat.add 0 (Nat.mul m 1)) λp=>K (.ptr r p 0)):=λK=>r_ rfl;rw[d,Kk,Ee];have c:Nat.blt i l.length=true:=by rw[Xi];exact b
  rw[c];show AD Ah (.ptr r (0+i*1) 0) H K=_;rw[Kd,qZ,AF rfl h2 (by simp[AE];exact b),Px b]
def PL.at(h:PL H l a)(b:i<l.length):(DC Ac a (I i) λp=>AD Ah p H K)=K (S l[i]):=by
 rcases h with h|h
 ·rw[h.ia b,Ke]
 ·exact A9p h b
def PL.at2(h:PL H l a)(b:i<l.length):∃p,(∀K:K2,DC Ac a (I i) K=K p)/\∀K:K2,AD Ah p H K=K (S l[i]):=by
 rcases h with h|h
 ·exact⟨_,λK=>h.ia b,λK=>Ke⟩
 ·rcases h with⟨_,h2,_⟩|⟨r,q,rfl,h2,c⟩
  ·omega
  ·refine⟨.ptr r i 0,λK=>?_,λK=>by rw[AF rfl h2 (by simp[AE];exact b),Px b]⟩;have d:∀K:K2,DC Ac (.sl 1 r 0 l.length) (I (i:Int)) K=iN (i:Int) λm=>ck (Nat.blt m l.length) (fN (Nat.add 0 (Nat.mul m 1)) λp=>K (.ptr r p 0)):=λK=>r_ rfl;rw[d,Kk,Ee];have c:Nat.blt i l.length=true:=by rw[Xi];exact b
   rw[c];show K (.ptr r (0+i*1) 0)=_;rw[Kd,qZ]
theorem PL.kp(h:PL H l a)(k:∀s x,Ai H s=some x->Ai H' s=some x):PL H' l a:=by
 rcases h with h|h
 ·exact .inl h
 ·exact .inr (h.kp λs x _=>k s x)
end
def YA(H:Hp)(y:Y4)(a:AV):Prop:=∀H',(∀s x,Ai H s=some x->Ai H' s=some x)->∃q,Fx true depth a (yA y) H' q
def hJ(i:Int)(p:Ha)(ps:List Ha):Ha:=ps.foldl (λp q=>if q=p then P? (-1-i) else p) p
def O?(x1:Int)(l:List Ha):Nat->List Ha
 |0=>[]
 |i+1=>O? x1 l i++[hJ i (if h:i<l.length then l[i] else P? (pk (x1.tdiv 3) 1000+i)) (O? x1 l i)]
def gR{l:List Ha}:∀i,(O? x1 l i).length=i:=by
 intro i
 induction i with
 |zero=>rfl
 |succ i ih=>simp[O?,ih]
def A1t(c:Int):(P? c).length=32:=Yz _ 8
def A7j{i:Int}:∀(ps:List Ha)(p:Ha),p.length=32->(hJ i p ps).length=32:=by
 intro ps
 induction ps with
 |nil=>intro p h;exact h
 |cons q ps ih=>
  intro p h;show(hJ i (if q=p then P? (-1-i) else p) ps).length=32;by_cases hq:q=p
  ·rw[Dq hq];exact ih _ (A1t _)
  ·rw[CF hq];exact ih _ h
def B9w{l:List Ha}(c:∀s∈l,s.length=32):∀i,∀s∈O? x1 l i,s.length=32:=by
 intro i
 induction i with
 |zero=>intro s b;simp[O?]at b
 |succ i ih=>
  intro s b;rcases kB.1 b with b|b
  ·exact ih s b
  ·rw[YR]at b;subst b;apply A7j;by_cases h:i<l.length
   ·rw[dif_pos h];exact c _ (Qk h)
   ·rw[dif_neg h];exact A1t _
def NZ{a b:Int}(h:J7 a)(hb:1<=b):J7 (a.tdiv b):=by
 unfold J7 at h⊢;by_cases c:0<=a
 ·have h1:=Int.tdiv_nonneg c (by omega:0<=b);have h2:a.tdiv b<=a:=Int.tdiv_le_self b c;omega
 ·have e:a.tdiv b= -((-a).tdiv b):=by rw[Int.neg_tdiv,Int.neg_neg]
  have h1:=Int.tdiv_nonneg (by omega:0<= -a) (by omega:0<=b);have h2:(-a).tdiv b<= -a:=Int.tdiv_le_self b (by omega);omega
def oB{a b:Int}{K:K2}(h:J7 a)(hb:1<=b):Ar Ab .quo (I a) (.v (.int .i64 b)) K=K (I (a.tdiv b)):=by
 have h1:=NZ h hb;rw[A2o (by omega),CQ h1.1 h1.2]
structure Mc(H0:Hp)(b1 b2 r z:Nat)(X F:Is)(H:Hp):Prop where
 h1:Ai H b1=some (c_ Js X)
 h2:Ai H b2=some (c_ Js F)
 hz:∃cs,cs.length=68/\Ai H z=some (c_ Ad cs)
 wf:Wf H
 n1:b1≠r
 n2:b2≠r
 nz:z≠r
 f1:As H0<=b1
 f2:As H0<=b2
 f3:As H0<=r
 f4:As H0<=z
 w0:Wf H0
 kp:∀s x,Ai H0 s=some x->Ai H s=some x
section
variable{K:KV}{x:Af}{H0 H H':Hp}{b1 b2 r z:Nat}{X F:Is}{ps l:List Ha}{v a3:AV}{cR:AV->Is}
theorem Mc.upd(h:Mc H0 b1 b2 r z X F H)(y:Row):Mc H0 b1 b2 r z X F (upd H r y):=by
 obtain⟨cs,c1,c2⟩:=h.hz;exact⟨by rw[Ag h.n1];exact h.h1,by rw[Ag h.n2];exact h.h2,⟨cs,c1,by rw[Ag h.nz];exact c2⟩,Bj h.wf,h.n1,h.n2,h.nz,h.f1,h.f2,h.f3,h.f4,h.w0,λs x b=>by
  have:=h.w0.lt b;have:=h.f3;rw[Ag (by omega)];exact h.kp s x b⟩
structure Pl(H0:Hp)(b1 b2 r z:Nat)(X F:Is)(cR:AV->Is)(ps:List Ha)(v:AV)(H:Hp):Prop where
 mc:Mc H0 b1 b2 r z X F H
 hr:Ai H r=some (c_ Ad (cR v))
 sv:Bk H Aq 1 v ps.length (AE ps)
 nv:ps=[]->v=Av
 fr:∀s,A9 v s->As H0<=s/\s≠b1/\s≠b2/\s≠r/\s≠z
structure CR(cR:AV->Is)(ks:Hb):Prop where
 len:∀v,(cR v).length=68
 set:∀v v',(cR v).set 31 v'=cR v'
 get:∀v,(cR v).getD 31 .dk=v
 ins:∀v,(cR v).getD 33 .dk=BC ks
def C2E{b:AV->AV->AV->AV->AV->AV->KV}(q:40000<L)(hc:CR cR ks)(w:i<3)(g:Pl H0 b1 b2 r z X F cR ps v H)(hb:ps.length<=3):
 ∀(f k:Nat)(p:Ha),k<=ps.length->ps.length-k<f->b a3 (.ptr b1 0 0) (.ptr z 0 0) (.ptr r 0 0) (I i) (S (hJ i p (ps.drop k))) (I ps.length) H=x->
 TY (L+20) (r! L (n+43)) K b f a3 (.ptr b1 0 0) (.ptr z 0 0) (.ptr r 0 0) (I i) (S p) (I k) H=x:=by
 intro f
 induction f with
 |zero=>intro k p _ h;omega
 |succ f ih=>
  intro k p y u e;rw[oY];unfold Ua Dz IA A3;have d:∀{K},AD Ac (.ptr r 31 0) H K=K v:=λ{K}=>by rw[AF (p:=31) rfl g.hr (by rw[hc.len];decide),hc.get]
  rw[Po,d,Lr (t:=Ac) rfl g.sv];by_cases h:k<ps.length
  ·rw[Fz (by omega),Cu];simp only[BE];have j:∀{K:K2},Ar Ab .add (I k) (.v (.int .i64 1)) K=K (I ((k+1:Nat):Int)):=λ{K}=>Db (by omega);have sb:∀{K:K2},Ar Ab .sub (.v (.int .i64 (-1))) (I (i:Int)) K=K (I (-1-(i:Int))):=λ{K}=>by rw[J6,CQ (by omega) (by omega)]
   have s:∀{K:K2},Ap (r! L (n+43)) F3 [I (-1-(i:Int))] H K=K (S (P? (-1-(i:Int)))):=λ{K}=>A1i (n:=n+23) q (by omega) (by omega) H K;have m:ps.drop k=ps[k]::ps.drop (k+1):=uZ h;rw[m]at e;have c:b a3 (.ptr b1 0 0) (.ptr z 0 0) (.ptr r 0 0) (I i) (S (hJ i (if ps[k]=p then P? (-1-i) else p) (ps.drop (k+1)))) (I ps.length) H=x:=e;rw[Po,d,A9p g.sv h,Mn];by_cases hq:ps[k]=p
   ·rw[HR hq,Cu,sb,s,j];rw[Dq hq]at c;exact ih (k+1) _ (by omega) (by omega) c
   ·rw[HW hq,AZ,j];rw[CF hq]at c;exact ih (k+1) _ (by omega) (by omega) c
  ·have:k=ps.length:=by omega
   subst this;rw[List.drop_length]at e;rw[Fp (by omega),AZ];exact e
def C2F{g:AV->AV->KV}{Z x1 x2 x3 x4 x5:Int}(V:40000<L)(hc:CR cR ks)(h1:J7 x1)(aa:ks.length<=3)(J:PL H0 l a3)(hb:l.length<1000)(D:∀s∈l,s.length=32)(m:∀v H,Pl H0 b1 b2 r z [I Z,I x1,I x2,I x3,I x4,I x5] F cR (O? x1 l ks.length) v H->g (.ptr b1 0 0) (.ptr z 0 0) (.ptr r 0 0) H=x):
 ∀(f i:Nat)(v d0 d1:AV)(H:Hp),i<=ks.length->ks.length-i<f->Pl H0 b1 b2 r z [I Z,I x1,I x2,I x3,I x4,I x5] F cR (O? x1 l i) v H->
 TZ (L+20) (r! L (n+43)) K g f a3 (.ptr b1 0 0) (.ptr z 0 0) (.ptr r 0 0) (I i) d0 d1 H=x:=by
 intro f
 induction f with
 |zero=>intro i v d0 d1 H _ h;omega
 |succ f ih=>
  intro i v d0 d1 H hi hf b;rw[oZ];unfold Ub Dz IA Dk A3 Ga;have N:∀{K},AD Al (.ptr r 33 0) H K=K (BC ks):=λ{K}=>by rw[AF (p:=33) rfl b.hr (by rw[hc.len];decide),hc.ins]
  have fa:∀{K:K2},CD 1 (.ptr r 32 0) K=K (.ptr r 33 0):=λ{K}=>by rw[fA]
  rw[Po,fa,N,MQ];by_cases h:i<ks.length
  ·have pr:=EN (c:=x1.tdiv 3) (n:=1000) (by decide);have ia:∀{K:K2},DC BA (.ptr b1 0 0) (.v (.int .i64 1)) K=K (.ptr b1 1 0):=λ{K}=>ER (z:=1) 1 rfl rfl (by decide);have d1:∀{K:K2},AD Ab (.ptr b1 1 0) H K=K (I x1):=λ{K}=>AF (p:=1) rfl b.mc.h1 (by simp);have O:∀{H K},Ap (r! L (n+43)) BQ [I (x1.tdiv 3),.v (.int .i64 1000)] H K=K (I (pk (x1.tdiv 3) 1000)):=λ{H K}=>MJ (n:=n+42) (NZ h1 (by decide)) (by decide) (by decide) H K;have ad:∀{K:K2},Ar Ab .add (I (pk (x1.tdiv 3) 1000)) (I (i:Int)) K=K (I (pk (x1.tdiv 3) 1000+i)):=λ{K}=>by rw[CY,CQ (by omega) (by omega)]
   have pa:∀{K:K2},Ap (r! L (n+43)) F3 [I (pk (x1.tdiv 3) 1000+i)] H K=K (S (P? (pk (x1.tdiv 3) 1000+i))):=λ{K}=>A1i (n:=n+23) V (by omega) (by omega) H K;rw[Fz (by omega),Cu,ia,d1,oB h1 (by decide),O,ad,pa];refine PW λw d=>?_;have Y:∀p:Ha,p=(if h:i<l.length then l[i] else P? (pk (x1.tdiv 3) 1000+i))->w (S p) H=x:=by
    intro p hp;rw[d];simp only[BE];refine C2E V hc (by omega) b (by rw[gR];omega) (L+20) 0 p (by omega) (by rw[gR];omega) ?_;rw[rB];have M:∀{K},AD Ac (.ptr r 31 0) H K=K v:=λ{K}=>by rw[AF (p:=31) rfl b.hr (by rw[hc.len];decide),hc.get]
    obtain⟨v',H',a1,a2,B,a4,k,P⟩:=wE (ie:=Ah) (i2:=Ac) (ys:=AE [hJ i p (O? x1 l i)]) b.sv b.mc.wf rfl rfl (by decide) rfl (λ_=>rfl) (by rw[gR];show(i+1)*16<=_;omega) (by rw[gR];omega);obtain⟨cs,c1,c2⟩:=b.mc.hz;have u:=k _ _ b.hr λe=>(b.fr _ e).2.2.2.1 rfl;have q1:=b.mc.wf.lt b.mc.h1;have q2:=b.mc.wf.lt b.mc.h2;have q3:=b.mc.wf.lt b.hr;have q4:=b.mc.wf.lt c2;have q0:=b.mc.f1;rw[Po,M,ZJ,a1,Po,D6 u (by rw[hc.len];decide) rfl (Bk.cell a2) (Bk.one a2),hc.set,Db (by omega)];have y:O? x1 l (i+1)=O? x1 l i++[hJ i p (O? x1 l i)]:=by rw[hp];rfl
    refine ih (i+1) v' _ _ _ (by omega) (by omega) ⟨?_,AC u,?_,λe=>?_,λs j=>?_⟩
    ·refine⟨by rw[Ag b.mc.n1];exact k _ _ b.mc.h1 (λe=>(b.fr _ e).2.1 rfl),by rw[Ag b.mc.n2];exact k _ _ b.mc.h2 (λe=>(b.fr _ e).2.2.1 rfl),⟨cs,c1,by rw[Ag b.mc.nz];exact k _ _ c2 (λe=>(b.fr _ e).2.2.2.2 rfl)⟩,Bj B,b.mc.n1,b.mc.n2,b.mc.nz,b.mc.f1,b.mc.f2,b.mc.f3,b.mc.f4,b.mc.w0,λs x j=>?_⟩;have Q:=b.mc.w0.lt j;have R:=b.mc.f3;rw[Ag (by omega)];exact k _ _ (b.mc.kp s x j) (λe=>by have:=(b.fr _ e).1;omega)
    ·rw[y,EK];have:AE (O? x1 l i++[hJ i p (O? x1 l i)])=AE (O? x1 l i)++AE [hJ i p (O? x1 l i)]:=by simp[AE]
     rw[this];refine Bk.kp a2 λs x j J=>?_;have:=P s j;rw[Ag (by omega)];exact J
    ·rw[y]at e;simp at e
    ·have:=P s j;omega
   clear d;have q:=J.kp b.mc.kp;rw[q.len];by_cases A:i<l.length
   ·obtain⟨p,Q,R⟩:=q.at2 A;have C:∀{K:K2},Ar Ab .eql (I ((l[i].length:Nat):Int)) (.v (.int .i64 32)) K=K (Bo true):=λ{K}=>by
     rw[Cl,D _ (Qk A)];rfl
    rw[Fz (by omega)];simp only[gT,Cb,Q,R,Qf (t:=Ah) rfl,C,UV];rw[Cu];exact Y _ (by rw[dif_pos A])
   ·rw[Fp (by omega)];simp only[iW,Cb,RC];rw[AZ];exact Y _ (by rw[dif_neg A])
  ·have:i=ks.length:=by omega
   subst this;rw[Fp (by omega),AZ];exact m v H b
end
end
section
variable{b:Nat}
variable{L n:Nat}
def Cd.csP(c:Cd)(P:AV):Is:=match c with
 |.re b u=>DW 1 b.m (uu u) (qn b.c) (qd b.c) (E4 b.ts) (qn b.r) (qd b.r) P 0 Av Av u0 r0 0
 |.co b p _ none=>DW 2 b.m (uu p.out) (qn b.c) (qd b.c) (E4 b.ts) (qn b.r) (qd b.r) P p.id (BC p.ks) (Ci p.xs) (uu p.out) r0 0
 |.co b p _ (some (k,vd))=>DW 3 b.m (uu p.out) (qn b.c) (qd b.c) (E4 b.ts) (qn b.r) (qd b.r) P p.id (BC p.ks) (Ci p.xs) (uu p.out) (rr k) vd
def A4J(c:Cd):c.csP (DD c.ps)=c.cs:=by
 match c with
 |.re b u=>rfl
 |.co b p ps none=>rfl
 |.co b p ps (some (k,vd))=>rfl
def cbM(x1 x2 x3 x4 x5:Int)(a:List Int):CB:=⟨⟨1+pk x1 3,1+pk x2 9,1+pk x3 4,pk x4 50,pk x5 30⟩,pk (x3.tdiv 4) 161-80,pk (x4.tdiv 50) 9,L1 a 6⟩
def cdM(x0 x1 x2 x3 x4 x5 f0 f1 f2 f3 f4 f5:Int)(y:Y4)(l:List Ha):Cd:=
 if pk x0 3=0 then .re (cbM x1 x2 x3 x4 x5 [f0,f1,f2,f3,f4,f5]) (pk (x5.tdiv 30) 7).toNat
 else .co (cbM x1 x2 x3 x4 x5 [f0,f1,f2,f3,f4,f5]) (qX [f0,f1,f2] (x2.tdiv 9) y) (O? x1 l (qX [f0,f1,f2] (x2.tdiv 9) y).ks.length)
  (if pk x0 3=1 then none else some (1+(pk (x0.tdiv 3) 3).toNat,1+pk (x0.tdiv 9) 3))
def A4P{x0 x1 x2 x3 x4 x5 f0 f1 f2 f3 f4 f5:Int}{y:Y4}{l:List Ha}(a:∀s∈l,s.length=32):(cdM x0 x1 x2 x3 x4 x5 f0 f1 f2 f3 f4 f5 y l).Ok:=by
 have p1:=EN (c:=x1) (n:=3) (by decide);have p2:=EN (c:=x2) (n:=9) (by decide);have p3:=EN (c:=x3) (n:=4) (by decide);have p4:=EN (c:=x4) (n:=50) (by decide);have p5:=EN (c:=x5) (n:=30) (by decide);have p6:=EN (c:=x3.tdiv 4) (n:=161) (by decide);have d:=EN (c:=x4.tdiv 50) (n:=9) (by decide);have e:=EN (c:=x5.tdiv 30) (n:=7) (by decide);have f:=EN (c:=x0.tdiv 3) (n:=3) (by decide);have g:=EN (c:=x0.tdiv 9) (n:=3) (by decide);have hb:(cbM x1 x2 x3 x4 x5 [f0,f1,f2,f3,f4,f5]).Ok:=by
  refine⟨?_,?_,?_,?_,?_,(A5p _ 6 (by omega)).1⟩
  ·refine⟨?_,?_,?_,?_,?_,?_,?_,?_,?_,?_⟩
   all_goals (simp only[cbM];omega)
  all_goals (simp only[cbM];omega)
 unfold cdM;by_cases h:pk x0 3=0
 ·rw[Dq h];exact⟨hb,by omega⟩
 ·rw[CF h];refine⟨hb,A3P rfl,gR _,B9w a _,?_⟩;by_cases h1:pk x0 3=1
  ·rw[Dq h1];exact trivial
  ·rw[CF h1];exact⟨by omega,by omega,by omega⟩
def okI{z:Int}{H:Hp}{K:Af}:Qq (Ba (some (I z,H)) (I z)) K=K:=Vr rfl
def C5c{k:IntKind}{z:Int}:AV.one (.v (.int k z))=true:=rfl
def C5a{l:Ha}:AV.one (S l)=true:=rfl
def C5b:AV.one (.v (.slice none 0 0))=true:=rfl
def VX(ts:dQ):AV.one (E4 ts)=true:=by cases ts<;>rfl
section
variable{K:KV}{x:Af}{H0 H H':Hp}{b1 b2 r z:Nat}{X F:Is}{ps l:List Ha}{v a2 a3:AV}{cR:AV->Is}{y:Y4}{x0 x1 x2 x3 x4 x5 f0 f1 f2 f3 f4 f5:Int}
def RI{kd:Int}{m:ND}{u o:UD}{ca cb ra rb:Ha}{T P ins a:AV}{id vd:Int}{rd:RD}(h1:AV.one T=true)(h2:AV.one P=true)(c:AV.one ins=true)(d:AV.one a=true):(DW kd m u ca cb T ra rb P id ins a o rd vd).all AV.one=true:=by
 simp only[oF,l3a,C5c,C5a,C5b,h1,h2,c,d,l1b,l1g]
def A1C(h:Mc H0 b1 b2 r z X F H){cs:Is}(hr:Ai H r=some (c_ Ad cs))(h1:cs.length=68)(h2:cs.all AV.one=true)(e:∀H',Wf H'->(∀s q,s≠z->Ai H s=some q->Ai H' s=some q)->K (.agg cs) H'=x):
 (AD Ae (.ptr r 0 0) H λc=>
  DF Ae (.ptr z 0 0) c H λa=>
  AD Ae (.ptr z 0 0) a λd=>
  K d a)=x:=by
 obtain⟨i,c1,c2⟩:=h.hz;rw[Bu (cs:=cs) rfl (by exact h1.symm) hr,BX c2 (by rw[c1,h1]) (by exact c1.symm) h2,Bu (cs:=cs) rfl (by exact h1.symm) (AC c2)];exact e _ (Bj h.wf) λs q g f=>by rw[Ag g];exact f
def push(w:Wf H)(x:Row)(a:x≠.gone):∃H' s,H'=(s,x)::H/\s=As H/\Ai H' s=some x/\Wf H'/\∀t q,Ai H t=some q->Ai H' t=some q/\t≠s:=
 ⟨_,_,rfl,rfl,Ax a,AG w,λt q h=>⟨A7 (w.lt h) h,by have:=w.lt h;omega⟩⟩
def C07{K:K2}:DC BA (.ptr b 0 0) (.v (.int .i64 0)) K=K (.ptr b 0 0):=ER (z:=0) 0 rfl rfl (by decide)
def C5x{K:K2}:DC BA (.ptr b 0 0) (.v (.int .i64 1)) K=K (.ptr b 1 0):=ER (z:=1) 1 rfl rfl (by decide)
def C5w{K:K2}:DC BA (.ptr b 0 0) (.v (.int .i64 2)) K=K (.ptr b 2 0):=ER (z:=2) 2 rfl rfl (by decide)
def C5v{K:K2}:DC BA (.ptr b 0 0) (.v (.int .i64 3)) K=K (.ptr b 3 0):=ER (z:=3) 3 rfl rfl (by decide)
def C5u{K:K2}:DC BA (.ptr b 0 0) (.v (.int .i64 4)) K=K (.ptr b 4 0):=ER (z:=4) 4 rfl rfl (by decide)
def C5t{K:K2}:DC BA (.ptr b 0 0) (.v (.int .i64 5)) K=K (.ptr b 5 0):=ER (z:=5) 5 rfl rfl (by decide)
def rd6{a0 a1 a2 a3 a c:Int}(h:Ai H b=some (c_ Js [I a0,I a1,I a2,I a3,I a,I c])):
 (∀{K},AD Ab (.ptr b 0 0) H K=K (I a0))/\(∀{K},AD Ab (.ptr b 1 0) H K=K (I a1))/\(∀{K},AD Ab (.ptr b 2 0) H K=K (I a2))/\(∀{K},AD Ab (.ptr b 3 0) H K=K (I a3))/\(∀{K},AD Ab (.ptr b 4 0) H K=K (I a))/\(∀{K},AD Ab (.ptr b 5 0) H K=K (I c)):=
 ⟨λ{K}=>AF (p:=0) rfl h (by simp),λ{K}=>AF (p:=1) rfl h (by simp),λ{K}=>AF (p:=2) rfl h (by simp),λ{K}=>AF (p:=3) rfl h (by simp),λ{K}=>AF (p:=4) rfl h (by simp),λ{K}=>AF (p:=5) rfl h (by simp)⟩
def A9m(mc:Mc H0 b1 b2 r z X F H){cs cs' vs:Is}(hr:Ai H r=some (c_ Ad cs)){i:TI}{p:Nat}(a:cs.length=68)(d:p+vs.length<=68)(hz:i.size=vs.length)(h1:vs.all AV.one=true)(es:splice cs p vs=cs'):
 ∃H',(∀K:Ru,DF i (.ptr r p 0) (.agg vs) H K=K H')/\Mc H0 b1 b2 r z X F H'/\Ai H' r=some (c_ Ad cs')/\(∀s q,s≠r->Ai H s=some q->Ai H' s=some q):=
 ⟨_,λK=>mY hr (by rw[a];exact d) hz h1,mc.upd _,by rw[es];exact AC hr,λs q e c=>by rw[Ag e];exact c⟩
def tJ(hL:40000<L)(w:Wf H0)(i0:J7 x0)(i1:J7 x1)(i2:J7 x2)(i3:J7 x3)(i4:J7 x4)(i5:J7 x5)(j0:J7 f0)(j1:J7 f1)(j2:J7 f2)(j3:J7 f3)(j4:J7 f4)(j5:J7 f5)(hy:YA H0 y a2)(az:yI y)(hl:PL H0 l a3)(hb:l.length<1000)(ar:∀s∈l,s.length=32)(R:∀v H',Bk H' Aq 1 v (cdM x0 x1 x2 x3 x4 x5 f0 f1 f2 f3 f4 f5 y l).ps.length (AE (cdM x0 x1 x2 x3 x4 x5 f0 f1 f2 f3 f4 f5 y l).ps)->((cdM x0 x1 x2 x3 x4 x5 f0 f1 f2 f3 f4 f5 y l).ps=[]->v=Av)->Wf H'->(∀s q,Ai H0 s=some q->Ai H' s=some q)->(∀s,A9 v s->As H0<=s)->
  K (.agg ((cdM x0 x1 x2 x3 x4 x5 f0 f1 f2 f3 f4 f5 y l).csP v)) H'=x):
 (r! L (n+44)).call IB [.agg [I x0,I x1,I x2,I x3,I x4,I x5],.agg [I f0,I f1,I f2,I f3,I f4,I f5],a2,a3] H0 K=x:=by
 rw[tY];unfold Ww Dz A3 Kn;obtain⟨H1,b1,N,s1,l1,w1,k1⟩:=push w (c_ Js [I x0,I x1,I x2,I x3,I x4,I x5]) (by simp);rw[DN (cs:=[I x0,I x1,I x2,I x3,I x4,I x5]) rfl,<-s1,<-N];obtain⟨H2,b2,e2,s2,l2,w2,k2⟩:=push w1 (c_ Js [I f0,I f1,I f2,I f3,I f4,I f5]) (by simp);rw[DN (cs:=[I f0,I f1,I f2,I f3,I f4,I f5]) rfl,<-s2,<-e2];obtain⟨H3,z,O,s3,l3,w3,k3⟩:=push w2 (c_ Ad CN) (by simp);rw[B1 (cs:=CN) rfl,<-s3,<-O];obtain⟨H4,r,e4,s4,l4,w4,k4⟩:=push w3 (c_ Ad CN) (by simp);have m1:=k2 _ _ l1;have m2:=k3 _ _ m1.1;have m3:=k3 _ _ l2;have q1:=k4 _ _ m2.1;have q2:=k4 _ _ m3.1;have q3:=k4 _ _ l3;have g1:As H0<=b1:=by omega
 have g2:As H0<=b2:=by have:=w1.lt l1;omega
 have g3:As H0<=z:=by have:=w2.lt l2;omega
 have g4:As H0<=r:=by have:=w3.lt l3;omega
 have ae:∀s q,Ai H0 s=some q->Ai H4 s=some q:=λs q j=>(k4 _ _ (k3 _ _ (k2 _ _ (k1 _ _ j).1).1).1).1;clear N e2 O s1 s2 s3 k1 k2 k3 m1 m3 l1 l2 w1 w2;have p0:=EN (c:=x0) (n:=3) (by decide);have p1:=EN (c:=x1) (n:=3) (by decide);have p2:=EN (c:=x2) (n:=9) (by decide);have p3:=EN (c:=x3) (n:=4) (by decide);have c0:∀{H K},Ap (r! L (n+43)) BQ [I x0,.v (.int .i64 3)] H K=K (I (pk x0 3)):=λ{H K}=>MJ (n:=n+42) i0 (by decide) (by decide) H K;have c1:∀{H K},Ap (r! L (n+43)) BQ [I x1,.v (.int .i64 3)] H K=K (I (pk x1 3)):=λ{H K}=>MJ (n:=n+42) i1 (by decide) (by decide) H K;have c2:∀{H K},Ap (r! L (n+43)) BQ [I x2,.v (.int .i64 9)] H K=K (I (pk x2 9)):=λ{H K}=>MJ (n:=n+42) i2 (by decide) (by decide) H K;have c3:∀{H K},Ap (r! L (n+43)) BQ [I x3,.v (.int .i64 4)] H K=K (I (pk x3 4)):=λ{H K}=>MJ (n:=n+42) i3 (by decide) (by decide) H K;have c4:∀{H K},Ap (r! L (n+43)) BQ [I x4,.v (.int .i64 50)] H K=K (I (pk x4 50)):=λ{H K}=>MJ (n:=n+42) i4 (by decide) (by decide) H K;have c5:∀{H K},Ap (r! L (n+43)) BQ [I x5,.v (.int .i64 30)] H K=K (I (pk x5 30)):=λ{H K}=>MJ (n:=n+42) i5 (by decide) (by decide) H K;have a0:∀{K:K2},Ar Ab .add (.v (.int .i64 1)) (I (pk x0 3)) K=K (I (1+pk x0 3)):=λ{K}=>by rw[CY,CQ (by omega) (by omega)]
 have a1:∀{K:K2},Ar Ab .add (.v (.int .i64 1)) (I (pk x1 3)) K=K (I (1+pk x1 3)):=λ{K}=>by rw[CY,CQ (by omega) (by omega)]
 have Y:∀{K:K2},Ar Ab .add (.v (.int .i64 1)) (I (pk x2 9)) K=K (I (1+pk x2 9)):=λ{K}=>by rw[CY,CQ (by omega) (by omega)]
 have Z:∀{K:K2},Ar Ab .add (.v (.int .i64 1)) (I (pk x3 4)) K=K (I (1+pk x3 4)):=λ{K}=>by rw[CY,CQ (by omega) (by omega)]
 obtain⟨d0,d1,d2,u,A,B⟩:=rd6 m2.1;simp only[C07,C5x,C5w,C5v,C5u,C5t,d0,d1,d2,u,A,B,c0,c1,c2,c3,c4,c5,a0,a1,Y,Z,Bw];clear d0 d1 d2 u A B;have bd:∀{a b c d e f:Int}{K:K2},BP Ae [(0,1,I a),(1,1,I b),(2,1,I c),(3,1,I d),(4,1,I e),(5,1,I f)] K=K (.agg (DW a ⟨b,c,d,e,f⟩ u0 [] [] Av [] [] Av 0 Av Av u0 r0 0)):=λ{a b c d e f K}=>r_ rfl;rw[bd,Bw,B1 (cs:=CN) rfl,Cb,<-s4,<-e4,BX (vs:=DW (1+pk x0 3) ⟨1+pk x1 3,1+pk x2 9,1+pk x3 4,pk x4 50,pk x5 30⟩ u0 [] [] Av [] [] Av 0 Av Av u0 r0 0) l4 rfl rfl rfl,Cb];clear e4 s4;obtain⟨d0,d1,d2,u,A,B⟩:=rd6 q1.1;simp only[d0,d1,d2,u,A,B,c0,c1,c2,c3,c4,c5,okI];clear d0 d1 d2 u A B c0 c1 c2 c3 c4 c5 a0 a1 Y Z bd;have mc:Mc H0 b1 b2 r z [I x0,I x1,I x2,I x3,I x4,I x5] [I f0,I f1,I f2,I f3,I f4,I f5] H4:=⟨q1.1,q2.1,⟨_,rfl,q3.1⟩,w4,q1.2,q2.2,q3.2,g1,g2,g4,g3,w,ae⟩
 have t:=mc.upd (c_ Ad (DW (1+pk x0 3) ⟨1+pk x1 3,1+pk x2 9,1+pk x3 4,pk x4 50,pk x5 30⟩ u0 [] [] Av [] [] Av 0 Av Av u0 r0 0));have r5:=AC (q:=true) (e:=Ad) (cs:=DW (1+pk x0 3) ⟨1+pk x1 3,1+pk x2 9,1+pk x3 4,pk x4 50,pk x5 30⟩ u0 [] [] Av [] [] Av 0 Av Av u0 r0 0) l4;generalize Go.Abs.upd H4 r (c_ Ad (DW (1+pk x0 3) ⟨1+pk x1 3,1+pk x2 9,1+pk x3 4,pk x4 50,pk x5 30⟩ u0 [] [] Av [] [] Av 0 Av Av u0 r0 0))=H5 at t r5;clear mc ae q1 q2 q3 k4 l4 w4 l3 w3 m2 g1 g2 g3 g4 H4 H3 H2 H1;have af:∀{H K},Ap (r! L (n+43)) Rv [I (x3.tdiv 4),I (x4.tdiv 50),.agg [I f0,I f1,I f2,I f3,I f4,I f5]] H K=K (.agg [S (qn (pk (x3.tdiv 4) 161-80)),S (qd (pk (x3.tdiv 4) 161-80)),E4 (L1 [f0,f1,f2,f3,f4,f5] 6),S (qn (pk (x4.tdiv 50) 9)),S (qd (pk (x4.tdiv 50) 9))]):=λ{H K}=>
  AP (B03 (n:=n+2) (xs:=[f0,f1,f2,f3,f4,f5]) (by omega) (NZ i3 (by decide)) (NZ i4 (by decide)) rfl (by simp[j0,j1,j2,j3,j4,j5]))
   (Ao (q:=false) CC (Ao (q:=false) CC (Ao (LF (D:=depth-1) (K1 (λz:Int=>Value.int .i64 z) [f0,f1,f2,f3,f4,f5])) AH)))
 have lF:∀{K},AD BA (.ptr b2 0 0) H5 K=K (.agg [I f0,I f1,I f2,I f3,I f4,I f5]):=λ{K}=>Bu rfl rfl t.h2;obtain⟨d0,d1,d2,u,A,B⟩:=rd6 t.h1;obtain⟨H6,aj,Q,r6, -⟩:=A9m (i:=E0) (p:=26) (vs:=[S (qn (pk (x3.tdiv 4) 161-80)),S (qd (pk (x3.tdiv 4) 161-80)),E4 (L1 [f0,f1,f2,f3,f4,f5] 6),S (qn (pk (x4.tdiv 50) 9)),S (qd (pk (x4.tdiv 50) 9))]) t r5 rfl (by show 26+5<=68;decide) rfl (by show(true&&(true&&(AV.one (E4 (L1 [f0,f1,f2,f3,f4,f5] 6))&&(true&&(true&&true)))))=true;rw[VX];rfl)
  (cs':=DW (1+pk x0 3) ⟨1+pk x1 3,1+pk x2 9,1+pk x3 4,pk x4 50,pk x5 30⟩ u0 (qn (pk (x3.tdiv 4) 161-80)) (qd (pk (x3.tdiv 4) 161-80)) (E4 (L1 [f0,f1,f2,f3,f4,f5] 6)) (qn (pk (x4.tdiv 50) 9)) (qd (pk (x4.tdiv 50) 9)) Av 0 Av Av u0 r0 0) rfl
 rw[u,oB i3 (by decide),A,oB i4 (by decide),lF,af,Po,aj];clear d0 d1 d2 u A B lF aj t r5 af;have ac:∀{H K},Ap (r! L (n+43)) Gx [I (x5.tdiv 30)] H K=K (.agg (Cx (uu (pk (x5.tdiv 30) 7).toNat))):=λ{H K}=>A3F (n:=n+1) (NZ i5 (by decide)) H K;obtain⟨d0,d1,d2,u,A,B⟩:=rd6 Q.h1;obtain⟨H7,ak,g,r7, -⟩:=A9m (i:=A0) (p:=6) (vs:=Cx (uu (pk (x5.tdiv 30) 7).toNat)) Q r6 rfl (by show 6+20<=68;decide) rfl rfl
  (cs':=DW (1+pk x0 3) ⟨1+pk x1 3,1+pk x2 9,1+pk x3 4,pk x4 50,pk x5 30⟩ (uu (pk (x5.tdiv 30) 7).toNat) (qn (pk (x3.tdiv 4) 161-80)) (qd (pk (x3.tdiv 4) 161-80)) (E4 (L1 [f0,f1,f2,f3,f4,f5] 6)) (qn (pk (x4.tdiv 50) 9)) (qd (pk (x4.tdiv 50) 9)) Av 0 Av Av u0 r0 0) rfl
 have lk:∀{K},AD Ab (.ptr r 0 0) H7 K=K (I (1+pk x0 3)):=λ{K}=>AF (p:=0) rfl r7 (show 0<68 by decide);rw[B,oB i5 (by decide),ac,Po,ak,Po,lk,Cl];clear d0 d1 d2 u A B ak Q r6 ac lk;by_cases h0:pk x0 3=0
 ·have C:cdM x0 x1 x2 x3 x4 x5 f0 f1 f2 f3 f4 f5 y l=.re (cbM x1 x2 x3 x4 x5 [f0,f1,f2,f3,f4,f5]) (pk (x5.tdiv 30) 7).toNat:=Dq h0;have N:1+pk x0 3=1:=by omega
  rw[HR N,Cu];rw[C]at R;rw[N]at r7;refine A1C g r7 rfl (RI (VX _) rfl rfl rfl) λH' w' kp=>?_;exact R Av H' (.inl ⟨rfl,rfl,rfl⟩) (λ_=>rfl) w' (λs q j=>kp s q (by have:=g.w0.lt j;have:=g.f4;omega) (g.kp s q j)) (λs ⟨_,_,_,h⟩=>by cases h)
 ·have C:cdM x0 x1 x2 x3 x4 x5 f0 f1 f2 f3 f4 f5 y l=.co (cbM x1 x2 x3 x4 x5 [f0,f1,f2,f3,f4,f5]) (qX [f0,f1,f2] (x2.tdiv 9) y) (O? x1 l (qX [f0,f1,f2] (x2.tdiv 9) y).ks.length) (if pk x0 3=1 then none else some (1+(pk (x0.tdiv 3) 3).toNat,1+pk (x0.tdiv 9) 3)):=CF h0;rw[C]at R;clear C;have P:∀{K},Ap (r! L (n+43)) Rs [.agg [I f0,I f1,I f2],I (x2.tdiv 9),a2,.v (.bool true)] H7 K=K (.agg (B0 (qX [f0,f1,f2] (x2.tdiv 9) y).id (BC (qX [f0,f1,f2] (x2.tdiv 9) y).ks) (Ci (qX [f0,f1,f2] (x2.tdiv 9) y).xs) (uu (qX [f0,f1,f2] (x2.tdiv 9) y).out))):=λ{K}=>by
   obtain⟨q,hq⟩:=hy H7 g.kp;exact AP (B02 (n:=n) (ins:=[f0,f1,f2]) (by omega) rfl (by simp[j0,j1,j2]) (NZ i2 (by decide)) az) (Ao (LF (D:=depth-1) (K1 (λz:Int=>Value.int .i64 z) [f0,f1,f2])) (Ao (q:=false) CC (Ao hq (Ao (q:=false) CC AH))))
  have hp:=A3P (ins:=[f0,f1,f2]) (count:=x2.tdiv 9) (y:=y) rfl;generalize qX [f0,f1,f2] (x2.tdiv 9) y=p at R P hp;have N:¬(1+pk x0 3=1):=by omega
  rw[HW N,AZ];obtain⟨g0,g1,g2, -, -, -⟩:=rd6 g.h2;obtain⟨d0,d1,d2, -, -, -⟩:=rd6 g.h1;have b3:∀{K:K2},BP RP [(0,1,I f0),(1,1,I f1),(2,1,I f2)] K=K (.agg [I f0,I f1,I f2]):=λ{K}=>r_ rfl;obtain⟨H8,am,ag,r8, -⟩:=A9m (i:=AT) (p:=32) (vs:=B0 p.id (BC p.ks) (Ci p.xs) (uu p.out)) g r7 rfl (by show 32+23<=68;decide) rfl (zJ rfl rfl)
   (cs':=DW (1+pk x0 3) ⟨1+pk x1 3,1+pk x2 9,1+pk x3 4,pk x4 50,pk x5 30⟩ (uu (pk (x5.tdiv 30) 7).toNat) (qn (pk (x3.tdiv 4) 161-80)) (qd (pk (x3.tdiv 4) 161-80)) (E4 (L1 [f0,f1,f2,f3,f4,f5] 6)) (qn (pk (x4.tdiv 50) 9)) (qd (pk (x4.tdiv 50) 9)) Av p.id (BC p.ks) (Ci p.xs) (uu p.out) r0 0) rfl
  have lu:∀{K},AD A0 (.ptr r 35 0) H8 K=K (.agg (Cx (uu p.out))):=λ{K}=>D7 (p:=35) rfl r8 (show 55<=68 by decide);obtain⟨H9,ao,ah,r9, -⟩:=A9m (i:=A0) (p:=6) (vs:=Cx (uu p.out)) ag r8 rfl (by show 6+20<=68;decide) rfl rfl
   (cs':=DW (1+pk x0 3) ⟨1+pk x1 3,1+pk x2 9,1+pk x3 4,pk x4 50,pk x5 30⟩ (uu p.out) (qn (pk (x3.tdiv 4) 161-80)) (qd (pk (x3.tdiv 4) 161-80)) (E4 (L1 [f0,f1,f2,f3,f4,f5] 6)) (qn (pk (x4.tdiv 50) 9)) (qd (pk (x4.tdiv 50) 9)) Av p.id (BC p.ks) (Ci p.xs) (uu p.out) r0 0) rfl
  have f35:∀{K:K2},CD 3 (.ptr r 32 0) K=K (.ptr r 35 0):=λ{K}=>by rw[fA]
  rw[g0,g1,g2,b3,d2,oB i2 (by decide),P,Po,am,Po,f35,lu,Po,ao];clear g0 g1 g2 d0 d1 d2 b3 am ag r8 lu ao f35 P g r7;refine PW λa7 aa=>?_;refine PW λa6 M=>?_;have hc:CR (λv=>DW (1+pk x0 3) ⟨1+pk x1 3,1+pk x2 9,1+pk x3 4,pk x4 50,pk x5 30⟩ (uu p.out) (qn (pk (x3.tdiv 4) 161-80)) (qd (pk (x3.tdiv 4) 161-80)) (E4 (L1 [f0,f1,f2,f3,f4,f5] 6)) (qn (pk (x4.tdiv 50) 9)) (qd (pk (x4.tdiv 50) 9)) v p.id (BC p.ks) (Ci p.xs) (uu p.out) r0 0) p.ks:=⟨λ_=>rfl,λ_ _=>rfl,λ_=>rfl,λ_=>rfl⟩
  refine C2F (n:=n) (l:=l) hL hc i1 hp.k3 hl hb ar ?_ (L+20) 0 Av _ _ H9 (by omega) (by have:=hp.k3;omega) ⟨ah,r9,.inl ⟨rfl,rfl,rfl⟩,λ_=>rfl,λs ⟨_,_,_,h⟩=>by cases h⟩;intro v H m;rw[M,aa];clear M aa ah r9;refine PW λa4 ab=>?_;have k:∀(cs:Is)(V:Hp),Mc H0 b1 b2 r z [I x0,I x1,I x2,I x3,I x4,I x5] [I f0,I f1,I f2,I f3,I f4,I f5] V->Ai V r=some (c_ Ad cs)->cs.length=68->cs.all AV.one=true->cs=(Cd.co (cbM x1 x2 x3 x4 x5 [f0,f1,f2,f3,f4,f5]) p (O? x1 l p.ks.length) (if pk x0 3=1 then none else some (1+(pk (x0.tdiv 3) 3).toNat,1+pk (x0.tdiv 9) 3))).csP v->(∀s q,s≠r->Ai H s=some q->Ai V s=some q)->a4 V=x:=by
   intro cs V J rx c1 c2 aq kx;rw[ab];refine A1C J rx c1 c2 λH' w' kp=>?_;rw[aq];refine R v H' ?_ m.nv w' (λs q j=>kp s q (by have:=J.w0.lt j;have:=J.f4;omega) (J.kp s q j)) (λs j=>(m.fr s j).1);exact m.sv.kp λs q j hl=>kp s q (m.fr s j).2.2.2.2 (kx s q (m.fr s j).2.2.2.1 hl)
  clear ab R;have lk:∀{K},AD Ab (.ptr r 0 0) H K=K (I (1+pk x0 3)):=λ{K}=>AF (p:=0) rfl m.hr (show 0<68 by decide);rw[Po,lk,Cl];by_cases h1:pk x0 3=1
  ·have O:¬(1+pk x0 3=3):=by omega
   rw[HW O,AZ];rw[Dq h1]at k;have e2:1+pk x0 3=2:=by omega
   have hr:=m.hr;rw[e2]at hr;exact k _ H m.mc hr rfl (RI (VX _) (Bk.one m.sv) rfl rfl) rfl (λs q _ h=>h)
  ·have O:1+pk x0 3=3:=by omega
   have pv:=EN (c:=x0.tdiv 9) (n:=3) (by decide);rw[HR O,Cu];rw[CF h1]at k;have hr:=m.hr;rw[O]at hr;have ay:∀{H K},Ap (r! L (n+43)) K3 [I (x0.tdiv 3)] H K=K (.agg (rr (1+(pk (x0.tdiv 3) 3).toNat)).cs):=λ{H K}=>B4h (n:=n+41) (NZ i0 (by decide)) H K;have ax:∀{H K},Ap (r! L (n+43)) BQ [I (x0.tdiv 9),.v (.int .i64 3)] H K=K (I (pk (x0.tdiv 9) 3)):=λ{H K}=>MJ (n:=n+42) (NZ i0 (by decide)) (by decide) (by decide) H K;have ad:∀{K:K2},Ar Ab .add (.v (.int .i64 1)) (I (pk (x0.tdiv 9) 3)) K=K (I (1+pk (x0.tdiv 9) 3)):=λ{K}=>by rw[CY,CQ (by omega) (by omega)]
   obtain⟨d0, -⟩:=rd6 m.mc.h1;obtain⟨HA,a5,ai,rA,kA⟩:=A9m (i:=D2) (p:=55) (vs:=(rr (1+(pk (x0.tdiv 3) 3).toNat)).cs) m.mc hr rfl (by show 55+9<=68;decide) rfl rfl
    (cs':=DW 3 ⟨1+pk x1 3,1+pk x2 9,1+pk x3 4,pk x4 50,pk x5 30⟩ (uu p.out) (qn (pk (x3.tdiv 4) 161-80)) (qd (pk (x3.tdiv 4) 161-80)) (E4 (L1 [f0,f1,f2,f3,f4,f5] 6)) (qn (pk (x4.tdiv 50) 9)) (qd (pk (x4.tdiv 50) 9)) v p.id (BC p.ks) (Ci p.xs) (uu p.out) (rr (1+(pk (x0.tdiv 3) 3).toNat)) 0) rfl
   obtain⟨ap, -⟩:=rd6 ai.h1;rw[C07,d0,oB i0 (by decide),ay,Po,a5,C07,ap,oB i0 (by decide),ax,ad,Po,D6 rA (show 64<68 by decide) rfl rfl rfl];exact k _ _ (ai.upd _) (AC rA) rfl (RI (VX _) (Bk.one m.sv) rfl rfl) rfl (λs q j h=>by rw[Ag j];exact kA s q j h)
end
end
section
variable{P:AV}{y6:Int}
variable{L n:Nat}
def A7t{f:AV->(Bool->K2)->Af}:∀(l m:Is)(K:Bool->Is->Af),II f (l++m) K=II f l λq c=>II f m λd h=>K (q||d) (c++h):=by
 intro l
 induction l with
 |nil=>intro m K;rfl
 |cons a l ih=>
  intro m K;have e:∀(l:Is)(K:Bool->Is->Af),II f (a::l) K=f a λq g=>II f l λd c=>K (@Bool.rec (λ_=>Bool) d true q) (g::c):=λ_ _=>rfl;rw[List.cons_append,e,e]
  congr 1
  funext q g
  rw[ih]
  congr 1
  funext q1 i
  congr 1
  funext q2 j
  cases q<;>rfl
def V'{b:Bool}{D:Nat}{l a m c:Is}{H:Hp}{q q':Bool}(h:R9 b D l a H q)(k:R9 b D m c H q'):R9 b D (l++m) (a++c) H (q||q'):=λK=>by
 rw[A7t,h,k]
def fixB:AV->Bool
 |.v _=>true
 |.list _ _=>true
 |_=>false
def Z7{D:Nat}{H:Hp}:∀l:Is,l.all fixB=true->R9 true D l l H false:=by
 intro l
 induction l with
 |nil=>intro _;exact AH
 |cons a l ih=>
  intro h;simp only[oF,KF]at h;have h2:=ih h.2;cases a with
  |v x=>exact Ao (q:=false) CC h2
  |list n cs=>exact Ao (q:=false) OI h2
  |_=>cases h.1
def M'(ts:dQ):fixB (E4 ts)=true:=by cases ts<;>rfl
def A7H{k:IntKind}{z:Int}:fixB (.v (.int k z))=true:=rfl
def A_{l:Ha}:fixB (S l)=true:=rfl
def C0o:fixB (.v (.slice none 0 0))=true:=rfl
def C3V{l:Is}:fixB (.list n l)=true:=rfl
def nL(c:Cd):∃A B:Is,(∀P,c.csP P=A++P::B)/\A.all fixB=true/\B.all fixB=true:=by
 match c with
 |.re b u=>
  refine⟨((Cd.re b u).csP Av).take 31,((Cd.re b u).csP Av).drop 32,λ_=>rfl,?_,?_⟩
  ·simp only[Cd.csP,List.take_succ_cons,List.take_zero,oF,l3a,A7H,A_,M',l1g,l1b]
  ·simp only[Cd.csP,List.drop_succ_cons,rB,oF,l3a,A7H,A_,C0o,l1g,l1b]
 |.co b p ps none=>
  refine⟨((Cd.co b p ps none).csP Av).take 31,((Cd.co b p ps none).csP Av).drop 32,λ_=>rfl,?_,?_⟩
  ·simp only[Cd.csP,List.take_succ_cons,List.take_zero,oF,l3a,A7H,A_,M',l1g,l1b]
  ·simp only[Cd.csP,List.drop_succ_cons,rB,oF,l3a,A7H,A_,C0o,C3V,l1g,l1b]
 |.co b p ps (some (k,vd))=>
  refine⟨((Cd.co b p ps (some (k,vd))).csP Av).take 31,((Cd.co b p ps (some (k,vd))).csP Av).drop 32,λ_=>rfl,?_,?_⟩
  ·simp only[Cd.csP,List.take_succ_cons,List.take_zero,oF,l3a,A7H,A_,M',l1g,l1b]
  ·simp only[Cd.csP,List.drop_succ_cons,rB,oF,l3a,A7H,A_,C0o,C3V,l1g,l1b]
def rL(c:Cd)(h:AV.one P=true):(c.csP P).all AV.one=true:=by
 match c with
 |.re b u=>exact RI (VX _) h rfl rfl
 |.co b p ps none=>exact RI (VX _) h rfl rfl
 |.co b p ps (some (k,vd))=>exact RI (VX _) h rfl rfl
def Pb(c:Cd):(c.csP P).length=68:=by
 match c with
 |.re b u=>rfl
 |.co b p ps none=>rfl
 |.co b p ps (some (k,vd))=>rfl
section
variable{H H':Hp}{v:AV}{l:List Ha}{D:Nat}{b:Bool}
def iX(h:Bk H Aq 1 v l.length (AE l))(c:l=[]->v=Av):∃q,Fx b (D+1) v (DD l) H q:=by
 rcases h with⟨rfl,h2,_⟩|⟨r,q,rfl,h2,d⟩
 ·cases l with
  |nil=>exact⟨false,CC⟩
  |cons a l=>simp at h2
 ·cases l with
  |nil=>have:=c rfl;cases this
  |cons a l=>
   refine⟨true,?_⟩;show Fx b (D+1) _ (.list (a::l).length (AE (a::l))) H true;exact VE (q':=false) h2 d (K1 (λs=>Value.string ⟨⟨s⟩⟩) (a::l))
def Z?{c:Cd}(h:Bk H Aq 1 v c.ps.length (AE c.ps))(a:c.ps=[]->v=Av):∃q,R9 true (D+1) (c.csP v) c.cs H q:=by
 obtain⟨q,hq⟩:=iX (D:=D) (b:=true) h a;obtain⟨A,B,e,f1,f2⟩:=nL c;rw[<-A4J c,e,e];exact⟨_,V' (Z7 A f1) (Ao hq (Z7 B f2))⟩
abbrev GV:=List (Cd×AV)
def gvC(g:GV):Is:=g.flatMap λp=>p.1.csP p.2
structure GvOk(g:GV)(H:Hp):Prop where
 sl:∀p∈g,Bk H Aq 1 p.2 p.1.ps.length (AE p.1.ps)
 nl:∀p∈g,p.1.ps=[]->p.2=Av
def C3C{g:GV}(h:GvOk g H):∃q,R9 true (D+1) (gvC g) ((g.map Prod.fst).flatMap Cd.cs) H q:=by
 induction g with
 |nil=>exact⟨_,AH⟩
 |cons p g ih=>
  obtain⟨q1,h1⟩:=ih ⟨λr hr=>h.sl r (by simp[hr]),λr hr=>h.nl r (by simp[hr])⟩;obtain⟨q2,h2⟩:=Z? (D:=D) (h.sl p (by simp)) (h.nl p (by simp));exact⟨_,V' h2 h1⟩
def eP(gs:ed):AV:=match gs with
 |[]=>Av
 |c::gs=>.list (c::gs).length ((c::gs).flatMap Cd.cs)
def Rp(gs:ed):LA gs (eP gs):=by cases gs with|nil=>exact .inr ⟨rfl,rfl⟩|cons _ _=>exact .inl rfl
def C0a{g:GV}{lv:AV}(h:GvOk g H)(f:Bk H Ad 68 lv g.length (gvC g))(c:g=[]->lv=Av):∃q,Fx true (D+2) lv (eP (g.map Prod.fst)) H q:=by
 rcases f with⟨rfl,h2,_⟩|⟨r,q,rfl,h2,d⟩
 ·cases g with
  |nil=>exact⟨false,CC⟩
  |cons a l=>simp at h2
 ·cases g with
  |nil=>have:=c rfl;cases this
  |cons p g=>
   obtain⟨q1,h1⟩:=C3C (D:=D) h;refine⟨true,?_⟩;have e:eP ((p::g).map Prod.fst)=.list (p::g).length (((p::g).map Prod.fst).flatMap Cd.cs):=by
    show AV.list _ _=_;rw[show(p.1::g.map Prod.fst).length=(p::g).length by simp];rfl
   rw[e];exact VE h2 d h1
end
structure Y7 where
 (y0 y1 y2 y3 y4 y5 y6:Int)
def Y7.cs(y:Y7):Is:=[I y.y0,I y.y1,I y.y2,I y.y3,I y.y4,I y.y5,I y.y6]
def Y7.Ok(y:Y7):Prop:=J7 y.y0/\J7 y.y1/\J7 y.y2/\J7 y.y3/\J7 y.y4/\J7 y.y5/\J7 y.y6
def xM(ids:List Ha)(y6:Int):Nat->List Ha
 |0=>[]
 |k+1=>if 0<ids.length/\pk (y6.fdiv (2^(4*k))) 16<14 then xM ids y6 k++[ids.getD ((pk (y6.fdiv (2^(4*k))) 16).toNat%ids.length) []] else xM ids y6 k
def A5H{ids:List Ha}:∀k,∀s∈xM ids y6 k,s∈ids:=by
 intro k
 induction k with
 |zero=>intro s a;simp[xM]at a
 |succ k ih=>
  intro s a;unfold xM at a;split at a
  ·rename_i h;rcases kB.1 a with a|a
   ·exact ih s a
   ·rw[YR]at a;subst a;have:=Nat.mod_lt (pk (y6.fdiv (2^(4*k))) 16).toNat h.1;rw[UW,KL this];exact Qk this
  ·exact ih s a
def A5I{ids:List Ha}:∀k,(xM ids y6 k).length<=k:=by
 intro k
 induction k with
 |zero=>simp[xM]
 |succ k ih=>
  unfold xM;split
  ·simp;omega
  ·omega
def kdM(i:Nat)(y:Y7):Int:=if i<2/\0<pk (y.y0.tdiv 3) 4 then 0 else y.y0
def cM(i:Nat)(y:Y7)(ids:List Ha):Cd:=cdM (kdM i y) y.y1 y.y2 y.y3 y.y4 y.y5 y.y1 y.y2 y.y3 y.y4 y.y5 y.y6 (some (y.y3,y.y4,y.y5,y.y6)) (xM ids y.y6 3)
def QC(xs:List Y7):Nat->ed
 |0=>[]
 |i+1=>
  if(cM i (xs.getD i ⟨0,0,0,0,0,0,0⟩) ((QC xs i).map Cd.id)).ps.Nodup/\(cM i (xs.getD i ⟨0,0,0,0,0,0,0⟩) ((QC xs i).map Cd.id)).id∉(QC xs i).map Cd.id
  then QC xs i++[cM i (xs.getD i ⟨0,0,0,0,0,0,0⟩) ((QC xs i).map Cd.id)] else QC xs i
def B6K{i:Nat}{y:Y7}{gs:ed}:(cM i y (gs.map Cd.id)).Ok:=by
 refine A4P λs a=>?_;obtain⟨c,_,rfl⟩:=Rc.1 (A5H _ s a);exact A4N c
def B13(xs:List Y7):∀i,i<=8->GOk (QC xs i)/\(QC xs i).length<=i:=by
 intro i
 induction i with
 |zero=>intro _;exact⟨⟨by simp[QC],by simp[QC],by simp[QC],by simp[QC]⟩,by simp[QC]⟩
 |succ i ih=>
  intro k;obtain⟨h,f⟩:=ih (by omega);unfold QC;split
  ·rename_i hc;refine⟨⟨λc hm=>?_,λc hm=>?_,?_,by simp;omega⟩,by simp;omega⟩
   ·rcases kB.1 hm with hm|hm
    ·exact h.ok c hm
    ·rw[YR]at hm;subst hm;exact B6K
   ·rcases kB.1 hm with hm|hm
    ·exact h.nd c hm
    ·rw[YR]at hm;subst hm;exact hc.1
   ·rw[Z6,l36];refine⟨h.ids,by simp,λa g b hb e=>?_⟩;obtain⟨j,d,rfl⟩:=Rc.1 hb;rw[YR]at d;subst d;exact hc.2 (e▸g)
  ·exact⟨h,by omega⟩
end
section
variable{L n:Nat}
abbrev AR:=Ha
section
variable{gs:ed}{b:List (AR×Unit)}{p:AR}{ids:List AR}
def A08(ids:List AR)(b:List (AR×Unit)):List AR->List (AR×Unit)
 |[]=>b
 |p::ps=>A08 ids (if p∈ids then b else Ma b p ()) ps
def zH:∀b:List (AR×Unit),(Ma b p ()).map Prod.fst=if p∈b.map Prod.fst then b.map Prod.fst else b.map Prod.fst++[p]:=by
 intro b
 induction b with
 |nil=>rfl
 |cons e b ih=>
  unfold Ma;by_cases h:e.1=p
  ·simp[h]
  ·rw[CF h,XI,ih,XI];have hm:(p∈e.1::b.map Prod.fst)↔p∈b.map Prod.fst:=by simp[Ne.symm h]
   by_cases h2:p∈b.map Prod.fst
   ·rw[Dq h2,Dq (hm.2 h2)]
   ·rw[CF h2,CF (λa=>h2 (hm.1 a))];rfl
def nW:∀(ps:List AR)(b:List (AR×Unit)),(b.map Prod.fst).Nodup->((A08 ids b ps).map Prod.fst).Nodup/\∀x,x∈(A08 ids b ps).map Prod.fst↔x∈b.map Prod.fst\/(x∈ps/\x∉ids):=by
 intro ps
 induction ps with
 |nil=>intro b h;exact⟨h,λx=>by simp[A08]⟩
 |cons p ps ih=>
  intro b h;have h1:((if p∈ids then b else Ma b p ()).map Prod.fst).Nodup/\∀x,x∈(if p∈ids then b else Ma b p ()).map Prod.fst↔x∈b.map Prod.fst\/(x=p/\x∉ids):=by
   by_cases f:p∈ids
   ·rw[Dq f];refine⟨h,λx=>⟨.inl,λd=>d.elim id λ⟨e,hn⟩=>absurd (e▸f) hn⟩⟩
   ·rw[CF f,zH];by_cases hm:p∈b.map Prod.fst
    ·rw[Dq hm];exact⟨h,λx=>⟨.inl,λd=>d.elim id λ⟨e,_⟩=>e▸hm⟩⟩
    ·rw[CF hm];refine⟨l36.2 ⟨h,by simp,λa j c hc=>by simp at hc;subst hc;exact λe=>hm (e▸j)⟩,λx=>?_⟩;rw[kB,YR];exact⟨λd=>d.imp id λe=>⟨e,e▸f⟩,λd=>d.imp id λe=>e.1⟩
  obtain⟨h2,i⟩:=ih _ h1.1;refine⟨h2,λx=>?_⟩;show x∈(A08 ids (if p∈ids then b else Ma b p ()) ps).map Prod.fst↔_;rw[i,h1.2,Xh];constructor
  ·rintro((h|h)|h)
   ·exact .inl h
   ·exact .inr ⟨.inl h.1,h.2⟩
   ·exact .inr ⟨.inr h.1,h.2⟩
  ·rintro(h|⟨h|h,g⟩)
   ·exact .inl (.inl h)
   ·exact .inl (.inr ⟨h,g⟩)
   ·exact .inr ⟨h,g⟩
def Kj(gs:ed):List AR:=Et ((A08 (gs.map Cd.id) [] (gs.flatMap Cd.ps)).map Prod.fst)
def uR:(Kj gs).Nodup:=(Bq _).symm.nodup (nW _ [] (by simp)).1
def R_:(Kj gs).Pairwise (· <= ·):=DR _
def Vz{x:AR}:x∈Kj gs↔x∉gs.map Cd.id/\∃c∈gs,x∈c.ps:=by
 rw[Kj,(Bq _).mem_iff,(nW _ [] (by simp)).2];simp only[List.map_nil,List.not_mem_nil,false_or,l39];exact and_comm
def A5h{H:Hp}{K:K2}:Ap (r! L (n+1)) Fq [gV gs,S p] H K=K (Bo (decide (p∈gs.map Cd.id))):=by
 refine AP (λK a=>?_) (Ao iY (Ao (q:=false) CC AH));rw[Vw];unfold Le LR;have d:∀(F:Value->Af),Mj (S p) F=F (SV p):=λF=>id rfl;rw[d,A4x (f:=DX) (b:=gE gs) (λK=>id rfl)];by_cases h:p∈gs.map Cd.id
 ·obtain⟨c,hc⟩:∃c,MB (gE gs) p=some c:=by
   rcases A5Z (gs:=gs) (s:=p) with⟨_,k,e,h1,_⟩|⟨h1,_⟩
   ·exact⟨_,h1⟩
   ·exact absurd h h1
  rw[hc];simp only[];rw[FB,FA,B1 (cs:=CN) rfl,BX (cs:=CN) (vs:=c.cs) (Ax (by simp)) EH rfl MA];rw[HR h]at a⊢;exact a _ _ λb=>⟨false,CC⟩
 ·rw[YY (by rw[Xm];exact h)];simp only[];rw[FB,FA,B1 (cs:=CN) rfl]
  erw[BX (cs:=CN) (vs:=CN) (Ax (by simp)) rfl rfl rfl]
  rw[HW h]at a⊢;exact a _ _ λb=>⟨false,CC⟩
end
section
variable{gs:ed}{ids:List AR}
def A2H:∀(ps:List AR)(b:List (AR×Unit)),(A08 ids b ps).length<=b.length+ps.length:=by
 intro ps
 induction ps with
 |nil=>intro b;exact Mh _
 |cons p ps ih=>
  intro b;have h1:(if p∈ids then b else Ma b p ()).length<=b.length+1:=by
   split
   ·omega
   ·have:=congrArg List.length (zH (p:=p) b);rw[UH]at this;rw[this];split<;>simp
  have h2:=ih (if p∈ids then b else Ma b p ());show(A08 ids (if p∈ids then b else Ma b p ()) ps).length<=_;rw[Mi];omega
def B5n:∀gs:ed,(∀c∈gs,c.ps.length<100)->(gs.flatMap Cd.ps).length<=gs.length*100:=by
 intro gs
 induction gs with
 |nil=>intro _;simp
 |cons c gs ih=>
  intro h;have h1:=h c (by simp);have h2:=ih λd a=>h d (by simp[a]);rw[rE,EK,Mi,l1e];omega
def A7q(a:GOk gs)(d:∀c∈gs,c.ps.length<100):(Kj gs).length<1000:=by
 have h1:=A2H (ids:=gs.map Cd.id) (gs.flatMap Cd.ps) [];have h2:=B5n gs d;have e:=a.len;rw[Kj,(Bq _).length_eq,UH];simp at h1;simp at h2;omega
def B0n:∀l:List AR,pl 6 (DD l)=true:=by
 intro l;cases l with
 |nil=>rfl
 |cons a l=>
  show(AE (a::l)).all (pl 5)=true;rw[GG];intro y c;obtain⟨s,_,rfl⟩:=Rc.1 c;rfl
def vT{ty:Nat}{es:IH}{H:Hp}{K:KV}:FN ty (.imap es) H K=K (.ptr (As H) 0 0) ((As H,c_ ty [.imap es])::H):=by
 unfold FN;rw[CP,FP,Ca];rfl
end
abbrev B1s(gs:ed):AV:=.fn (.func Fi) [] [.iptr [gV gs]]
def lpM(gs:ed)(p:Option (Option Code)):Row:=.loop 27 [(2,Av),(3,.ptr 0 0 0),(5,.ptr 2 0 0),(7,.dk),(15,B1s gs),(17,.dk),(18,.dk),(19,.dk),(20,.dk),(21,.dk),(22,.dk),(23,.dk),(24,.dk)] (El).2.1 (El).2.2.1 (El).2.2.2 p
structure Ms(gs:ed)(b:List (AR×Unit))(H:Hp):Prop where
 net:Ai H 0=some (c_ CH [gV gs])
 mm:Ai H 1=some (.map false (Di uS b) none)
 st:Ai H 2=some (c_ CV [.mp 1])
 lp:Ai H 3=some (lpM gs (some none))
 wf:Wf H
section
variable{gs:ed}{b:List (AR×Unit)}{H:Hp}{K:KV}{x:Af}{p s:AR}
def Ms.kp{H':Hp}(h:Ms gs b H)(w:Wf H')(k:∀u y,u<4->Ai H u=some y->Ai H' u=some y):Ms gs b H':=
 ⟨k _ _ (by decide) h.net,k _ _ (by decide) h.mm,k _ _ (by decide) h.st,k _ _ (by decide) h.lp,w⟩
def B6m{a:Hp}{K:Ru}(h:Ai a 3=some (lpM gs none)):EB a 3 false (some none) K=K (upd a 3 (lpM gs (some none))):=Pz h
def B3Y(h:Ms gs b H)(r:∀t,Ms gs (if p∈gs.map Cd.id then b else Ma b p ()) t->(∀u y,3<u->Ai H u=some y->Ai t u=some y)->K (Bo true) t=x):
 C4 (E (L+20)) (r! L (n+2)) (.yl 3) [S s,S p] H K=x:=by
 show NY (r! L (n+2)) 3 [S s,S p] H K=x;rw[Pt h.lp (by kernel_rfl)];have j:(r! L (n+2)).run= λw=>Mq (E (L+20)) (r! L (n+1)) w:=rfl;rw[j,eF,P0 h.lp];simp only[BE];have d:Ai (upd H 3 (lpM gs none)) 0=some (c_ CH [gV gs]):=by rw[Ag (by decide)];exact h.net
 have c:Ai (upd H 3 (lpM gs none)) 1=some (.map false (Di uS b) none):=by rw[Ag (by decide)];exact h.mm
 have e:Ai (upd H 3 (lpM gs none)) 2=some (c_ CV [.mp 1]):=by rw[Ag (by decide)];exact h.st
 have a:Ai (upd H 3 (lpM gs none)) 3=some (lpM gs none):=Fk h.lp;have g:∀u y,3<u->Ai H u=some y->Ai (upd H 3 (lpM gs none)) u=some y:=λu y q k=>by rw[Ag (by omega)];exact k
 have w1:Wf (upd H 3 (lpM gs none)):=Bj h.wf;show AD Aj (.ptr 0 0 0) (upd H 3 (lpM gs none)) _=_;rw[AF (p:=0) rfl d (by simp)];show Ap (r! L (n+1)) Fq [gV gs,S p] (upd H 3 (lpM gs none)) _=_;rw[A5h,Eh];by_cases m:p∈gs.map Cd.id
 ·rw[Dq m]at r;rw[HR m];show A1 (.v (.bool false)) _ _=_;rw[AZ];show EB (upd H 3 (lpM gs none)) 3 false (some none) _=_;rw[B6m a];refine r _ ⟨?_,?_,?_,Fk a,Bj w1⟩ λu y q k=>?_
  ·rw[Ag (by decide)];exact d
  ·rw[Ag (by decide)];exact c
  ·rw[Ag (by decide)];exact e
  ·rw[Ag (by omega)];exact g u y q k
 ·rw[CF m]at r;rw[HW m];show A1 (.v (.bool true)) _ _=_;rw[Cu];show AD CJ (.ptr 2 0 0) (upd H 3 (lpM gs none)) _=_;rw[AF (p:=0) rfl e (by simp)];have A:∀{K:K2},BP FC [] K=K (.agg []):=λ{K}=>id rfl;have B:∀(F:Value->Af),Mj (S p) F=F (SV p):=λF=>id rfl;rw[A,B];show My (.mp 1) (SV p) (uS ()) (upd H 3 (lpM gs none)) _=_;rw[jG (f:=uS) (v:=()) c];have i:Ai (upd (upd H 3 (lpM gs none)) 1 (.map false (Di uS (Ma b p ())) none)) 3=some (lpM gs none):=by rw[Ag (by decide)];exact a
  show EB (upd (upd H 3 (lpM gs none)) 1 (.map false (Di uS (Ma b p ())) none)) 3 false (some none) _=_;rw[B6m i];refine r _ ⟨?_,?_,?_,Fk i,Bj (Bj w1)⟩ λu y q k=>?_
  ·rw[Ag (by decide),Ag (by decide)];exact d
  ·rw[Ag (by decide)];exact(BH c).trans rfl
  ·rw[Ag (by decide),Ag (by decide)];exact e
  ·rw[Ag (by omega),Ag (by omega)];exact g u y q k
def C0u{c:AV->AV->AV->AV->AV->KV}{j:AV}{y:Row}{ps:List AR}(hb:ps.length<100):∀(f i:Nat)(b:List (AR×Unit))(H:Hp),i<=ps.length->ps.length-i<f->Ms gs b H->Ai H 4=some y->
 (∀d a,Ms gs (A08 (gs.map Cd.id) b (ps.drop i)) a->Ai a 4=some y->c (.yl 3) (S s) j (DD ps) (I ps.length) d a=x)->
 Gr (L+20) (r! L (n+2)) K c f (.yl 3) (S s) j (DD ps) (I ps.length) (I i) H=x:=by
 intro f
 induction f with
 |zero=>intro i b H _ h;omega
 |succ f ih=>
  intro i b H r q hm k e;rw[KM];unfold Gt IA A3;by_cases h:i<ps.length
  ·rw[Fz (by omega),Cu,(Mt ps).ia h,Ke];rw[uZ h]at e;refine B3Y hm λa g m=>?_;rw[Eh];show A1 (.v (.bool false)) _ _=_;rw[AZ,Db (by omega)];exact ih (i+1) _ a (by omega) (by omega) g (m 4 y (by decide) k) e
  ·rw[Fp (by omega),AZ];have:i=ps.length:=by omega
   subst this;rw[List.drop_length]at e;exact e _ H hm k
def C0v{X:Ru}{w:AV}(hw:VS 6 w w=true)(R:∀c∈gs,c.ps.length<100)(hL:100<L)(r:∀b H,Ms gs b H->(b.map Prod.fst).Perm (Kj gs)->X H=some (w,[])):
 ∀(f:Nat)(es:List (AR×Cd))(b:List (AR×Unit))(H:Hp)(o:Option (Value×AV))(d0 d1 d2 B:AV),es.length<f->(∀e∈es,e∈gE gs)->Ms gs b H->Ai H 4=some (.iter (Di DX es) o)->
 (b.map Prod.fst).Nodup->(∀q∈b.map Prod.fst,q∈Kj gs)->(∀q∈Kj gs,q∈b.map Prod.fst\/∃e∈es,q∈e.2.ps)->
 Gs (L+20) (r! L (n+2)) K X f (.yl 3) d0 (.it 4) d1 d2 B H=some (w,[]):=by
 intro f
 induction f with
 |zero=>intro es b H o d0 d1 d2 B h;omega
 |succ f ih=>
  intro es b H o d0 d1 d2 B hf he hm Q A h1 h2;rw[KN];unfold Gu Dz A3;refine YD (f:=DX) hw Q (λe=>?_) (λa e c J=>?_)
  ·subst e;rw[GX,AZ];refine r b H hm ((l35 A uR).2 λq=>⟨h1 q,λhq=>(h2 q hq).elim id λ⟨e,he,_⟩=>absurd he (by simp)⟩)
  ·subst J;obtain⟨cd,i,F⟩:=Rc.1 (he e (by simp));subst F;have j:=LC (es:=Di DX (a++c)) (o:=some (.string ⟨⟨cd.id⟩⟩,DX cd)) Q;have k:Ms gs b (upd H 4 (.iter (Di DX (a++c)) (some (.string ⟨⟨cd.id⟩⟩,DX cd)))):=hm.kp (Bj hm.wf) λu y hu P=>by rw[Ag (by omega)];exact P
   rw[GX,Cu];simp only[BE];rw[NM j,GX,Zg];generalize upd H 4 (.iter (Di DX (a++c)) (some (.string ⟨⟨cd.id⟩⟩,DX cd)))=H1 at j k;obtain⟨Z,e2,D,w2,V⟩:=Ip (e:=Ad) (zs:=CN) (vs:=cd.cs) k.wf EH;rw[B1 (cs:=CN) rfl,BX (cs:=CN) (vs:=cd.cs) (Ax (by simp)) EH rfl MA,<-e2,fA,Kd,B27 D,jI];have O:=k.kp w2 λu y _ P=>(V u y P).1;have N:=(V _ _ j).1;have e0:(AV.v (.int .i64 0))=I ((0:Nat):Int):=rfl;rw[e0];refine C0u (n:=n) (R cd i) (L+20) 0 b Z (by omega) (by have:=R cd i;omega) O N λd Y t M=>?_;rw[rB]at t;obtain⟨g1,C⟩:=nW (ids:=gs.map Cd.id) cd.ps b A;refine ih (a++c) _ Y _ _ _ _ _ (by simp at hf⊢;omega) (λe g=>he e (by simp at g⊢;rcases g with g|g;exact .inl g;exact .inr (.inr g))) t M g1 (λq hq=>?_) (λq hq=>?_)
   ·rcases(C q).1 hq with hq|⟨hq,hn⟩
    ·exact h1 q hq
    ·exact Vz.2 ⟨hn,cd,i,hq⟩
   ·rcases h2 q hq with h|⟨e,g,m⟩
    ·exact .inl ((C q).2 (.inl h))
    ·simp at g;rcases g with g|g|g
     ·exact .inr ⟨e,by simp[g],m⟩
     ·subst g;exact .inl ((C q).2 (.inr ⟨m,(Vz.1 hq).1⟩))
     ·exact .inr ⟨e,by simp[g],m⟩
def A6N{a:AV}(m:GOk gs)(O:40000<L)(w:∀c∈gs,c.ps.length<100)(u:LA gs a):CS (r! L (n+80)) MY [a] (DD (Kj gs)):=by
 intro K d;rw[iH];unfold QN;have k:R9 true depth [a] [a] [] false:=by rcases u with rfl|⟨_,rfl⟩<;>exact λK=>by kernel_rfl
 have of:∀{K:K2},Ap (r! L (n+79)) LL [a] [] K=K (.tup [gV gs,Bo true]):=λ{K}=>KG (λK d=>B78 (n:=n+15) m O u K d) k;have j:∀{H}{K:K2},Ap (r! L (n+79)) XA2 [gV gs] H K=K (B1s gs):=λ{H K}=>by
  refine KG (λK d=>?_) (Ao (q:=false) iY AH);rw[show n+79=(n+78)+1 from rfl,NH];unfold IZ Ih;rw[vT];exact d _ _ ⟨true,λK=>by kernel_rfl⟩
 rw[of,FB,FA];have w0:VS 6 (DD (Kj gs)) (DD (Kj gs))=true:=Tk 6 _ (B0n _);have J:∀{F:AV->KV},(Bx CH Aj [] λy A=>DF Aj y (gV gs) A λB=>LN FC B λR C=>Bx CV CJ C λg h=>DF CJ g R h λi=>F y g i)=
  F (.ptr 0 0 0) (.ptr 2 0 0) [(2,c_ CV [.mp 1]),(1,.map false [] none),(0,c_ CH [gV gs])]:=λ{F}=>by kernel_rfl
 rw[J];simp only[BE];have M:∀{K:K2},AD Aj (.ptr 0 0 0) [(2,c_ CV [.mp 1]),(1,.map false [] none),(0,c_ CH [gV gs])] K=K (gV gs):=λ{K}=>by kernel_rfl
 rw[M,j,Wb,show n+79=(n+78)+1 from rfl,Ll];unfold GF;have N:∀{H:Hp}{K:K2},AD Aj (.iptr [gV gs]) H K=K (gV gs):=λ{H K}=>by kernel_rfl
 rw[N,Xv];simp only[BE];refine C0v (n:=n+76) w0 w (by omega) (λb H hm f=>?_) (L+20) (gE gs) [] _ none _ _ _ _ (by have:=m.len;simp[gE];omega) (λe he=>he)
  ⟨rfl,rfl,rfl,rfl,AG (AG (AG (AG (AG FH))))⟩ rfl (by simp) (by simp) (λq hq=>.inr ?_)
 ·show IR H 3 _=_;rw[Bp hm.lp];show XA4 H 3 .gone _=_;rw[Dg];have Q:Ai (upd H 3 .gone) 2=some (c_ CV [.mp 1]):=by rw[Ag (by decide)];exact hm.st
  have r:Ai (upd H 3 .gone) 1=some (.map false (Di uS b) none):=by rw[Ag (by decide)];exact hm.mm
  show AD CJ (.ptr 2 0 0) (upd H 3 .gone) _=_;rw[AF (p:=0) rfl Q (by simp)];have P:b.length<1000:=by
   have:=f.length_eq;rw[UH]at this;rw[this];exact A7q m w
  refine nZ (n:=n+73) w0 (by omega) (by omega) (Bj hm.wf) r f R_ λv V hv t=>?_;exact d _ _ λbb=>by
   obtain⟨q,hq⟩:=iX (D:=depth-1) (b:=bb) hv t;exact⟨q,hq⟩
 ·obtain⟨_,c,hc,hq⟩:=Vz.1 hq;exact⟨(c.id,c),Rc.2 ⟨c,hc,rfl⟩,hq⟩
end
end
def QJ(gs:ed)(s:AR):List AR:=match MB (gE gs) s with
 |some c=>c.ps
 |none=>[]
inductive Anc(gs:ed)(s:AR):AR->Prop
 |one {x:AR}:x∈gs.map Cd.id->x∈QJ gs s->Anc gs s x
 |more {x y:AR}:Anc gs s y->x∈gs.map Cd.id->x∈QJ gs y->Anc gs s x
section
variable{gs:ed}{s x y p:AR}
def Anc.ids(h:Anc gs s x):x∈gs.map Cd.id:=by
 cases h with
 |one h _=>exact h
 |more _ h _=>exact h
def A89:Anc gs s x↔(x∈gs.map Cd.id/\x∈QJ gs s)\/∃p∈QJ gs s,p∈gs.map Cd.id/\Anc gs p x:=by
 constructor
 ·intro h
  induction h with
  |one h1 h2=>exact .inl ⟨h1,h2⟩
  |@more x y d h1 h2 ih=>
   rcases ih with⟨b,a⟩|⟨p,b,a,c⟩
   ·exact .inr ⟨y,a,b,.one h1 h2⟩
   ·exact .inr ⟨p,b,a,.more c h1 h2⟩
 ·rintro(⟨h1,h2⟩|⟨p,h1,h2,b⟩)
  ·exact .one h1 h2
  ·induction b with
   |one a c=>exact .more (.one h2 h1) a c
   |more _ a c ih=>exact .more ih a c
end
open Classical in
def A2D(gs:ed)(s:AR):List AR:=Et ((gs.map Cd.id).filter λx=>decide (Anc gs s x))
section
variable{gs:ed}{s x p:AR}
def A2C:x∈A2D gs s↔Anc gs s x:=by
 rw[A2D,(Bq _).mem_iff,l2z,@decide_eq_true_iff _ (_)];exact⟨λh=>h.2,λh=>⟨h.ids,h⟩⟩
def B5Q(h:(gs.map Cd.id).Nodup):(A2D gs s).Nodup:=(Bq _).symm.nodup (h.sublist List.filter_sublist)
structure An(gs:ed)(s:AR)(b ns:List AR):Prop where
 nd:b.Nodup
 an:∀q∈b,Anc gs s q
 nx:∀q∈ns,q∈QJ gs s\/∃y∈b,q∈QJ gs y
 cl:∀q∈gs.map Cd.id,(q∈QJ gs s\/∃y∈b,q∈QJ gs y)->q∈b\/q∈ns
def An.start:An gs s [] (QJ gs s):=⟨List.nodup_nil,by simp,λq h=>.inl h,λq _ h=>h.elim .inr λ⟨_,h,_⟩=>absurd h (by simp)⟩
def An.fin{b:List AR}(hn:(gs.map Cd.id).Nodup)(h:An gs s b []):b.Perm (A2D gs s):=by
 refine(l35 h.nd (B5Q hn)).2 λq=>⟨λhq=>A2C.2 (h.an q hq),λhq=>?_⟩
 rw[A2C]at hq
 induction hq with
 |one h1 h2=>exact(h.cl _ h1 (.inl h2)).elim id λh=>absurd h (by simp)
 |more _ h1 h2 ih=>exact(h.cl _ h1 (.inr ⟨_,ih,h2⟩)).elim id λh=>absurd h (by simp)
end
def UU(H:Hp)(v:AV)(l:List AR):Prop:=(v=Av/\l=[])\/∃r o q cs,v=.sl 1 r o l.length/\Ai H r=some (.cells q Aq cs)/\cs.drop o=AE l/\o+l.length=cs.length
section
variable{H:Hp}{v:AV}{l ps:List AR}{K:K2}{p:AR}
def UU.len(h:UU H v l):Bh Ac v K=K (I l.length):=by
 rcases h with⟨rfl,rfl⟩|⟨r,o,q,cs,rfl,_⟩<;>exact r_ rfl
theorem UU.lt(h:UU H v l)(w:Wf H){u:Nat}(d:A9 v u):u<As H:=by
 obtain⟨a,b,c,rfl⟩:=d;rcases h with⟨h,_⟩|⟨r,o,q,cs,h1,h2,e⟩
 ·cases h
 ·injection h1 with _ h1;subst h1;exact w.lt h2
def A27{K:Nat->Is->Af}:Tz H (DD ps) K=K ps.length (AE ps):=by
 cases ps with
 |nil=>exact B1x
 |cons a l=>exact VH
def A0Z:(AE ps).all AV.one=true:=by
 rw[GG];intro y a;obtain⟨s,_,rfl⟩:=Rc.1 a;rfl
def zD:(dJ Ac.d&&T6 1 (DD ps))=true:=by
 cases ps<;>rfl
def UU.app(h:UU H v l)(hn:l.length+ps.length<1000000):∃k f,(∀K:KV,DK Aq 1 Ah Ac v (DD ps) H K=K k f)/\UU f k (l++ps)/\(∀u,A9 k u->u=As H)/\Lat H f (A9 v):=by
 have hb:(l.length+ps.length)*Ah.bytes<=70368744177664:=by
  have:Ah.bytes<=100000:=by decide
  exact XV (Nat.mul_le_mul (show l.length+ps.length<=1000000 by omega) this) (by decide)
 rcases h with⟨rfl,rfl⟩|⟨r,o,q,cs,rfl,h1,h2,O⟩
 ·obtain⟨k,f,J,L,M,N⟩:=apt (H:=H) (e:=Aq) (sz:=1) (n:=0) (m:=ps.length) (ie:=Ah) (i2:=Ac) (v:=Av) (src:=DD ps) (cs:=[]) (ys:=AE ps) (.inl ⟨rfl,rfl,rfl⟩) (λK=>A27) (by rw[Bc];omega) A0Z (by decide) rfl zD (by simpa using hb) (by omega);refine⟨k,f,J,?_,M,N⟩;rcases L with⟨rfl,a,b⟩|⟨r,q,rfl,a,b⟩
  ·left;refine⟨rfl,?_⟩;have:ps.length=0:=by omega
   rw[l3b];exact mH this
  ·exact .inr ⟨r,0,q,_,by simp,a,by simp,by simp[Bc]⟩
 ·have j:∀K:KV,VJ Aq 1 Ah Ac (.sl 1 r o l.length) (DD ps) H K=IR H r λx=>Ki x λE cs=>HK cs 0 λcl=>
   ck (Nat.beq E Aq&&(Nat.beq 1 1&&(Nat.beq (Nat.add o (Nat.mul l.length 1)) cl&&(Nat.ble (Nat.mul (Nat.add l.length ps.length) Ah.bytes) 70368744177664&&Nat.ble (Nat.add l.length ps.length) 70368744177664))))
    (Za (Dn o cs) (AE ps) λg=>XA4 H r .gone λf=>Io H λr=>fN (Nat.add l.length ps.length) λnm=>K (.sl 1 r 0 nm) ((r,.cells false Aq g)::f)):=λK=>by
   unfold VJ;rw[A27,Cy,CP,Cy];have c:(Nat.beq (0+(AE ps).length) (Nat.mul ps.length 1)&&(NT (AE ps)&&(!Nat.beq 1 0&&(Nat.beq (0+(B3 Ah.zero).length) 1&&(dJ Ac.d&&T6 1 (DD ps))))))=true:=by
    rw[FP,A0Z,zD,Bc];have t:Nat.beq (0+ps.length) (Nat.mul ps.length 1)=true:=by
     rw[Kd];show Nat.beq ps.length (ps.length*1)=true;rw[qZ];exact oG _
    rw[t];rfl
   rw[c];rfl
  refine⟨.sl 1 (As H) 0 (l.length+ps.length),(As H,.cells false Aq (AE (l++ps)))::upd H r .gone,λK=>?_,?_,λu ⟨a,b,c,w⟩=>by injection w with _ w;exact w.symm,?_⟩
  ·have t:DK Aq 1 Ah Ac (.sl 1 r o l.length) (DD ps) H K=IR H r λx=>Ki x λE cs=>HK cs 0 λcl=>@Bool.rec (λ_=>Af) (SU (Nat.add o (Nat.mul l.length 1)) cs λg=>XA4 H r (.cells false E g) λC=>VJ Aq 1 Ah Ac (.sl 1 r o l.length) (DD ps) C K) (VJ Aq 1 Ah Ac (.sl 1 r o l.length) (DD ps) H K) (Nat.beq (Nat.add o (Nat.mul l.length 1)) cl):=rfl;rw[t,Bp h1];have B:∀F:TypeId->Is->Af,Ki (.cells q Aq cs) F=F Aq cs:=λ_=>rfl;rw[B,Cy];have A:Nat.beq (Nat.add o (Nat.mul l.length 1)) (0+cs.length)=true:=by
    show Nat.beq (o+l.length*1) (0+cs.length)=true;rw[qZ,O,Kd];exact oG _
   rw[A];show VJ Aq 1 Ah Ac (.sl 1 r o l.length) (DD ps) H K=_;rw[j K];rw[Bp h1,B,Cy];have c:(Nat.beq Aq Aq&&(Nat.beq 1 1&&(Nat.beq (Nat.add o (Nat.mul l.length 1)) (0+cs.length)&&(Nat.ble (Nat.mul (Nat.add l.length ps.length) Ah.bytes) 70368744177664&&Nat.ble (Nat.add l.length ps.length) 70368744177664))))=true:=by
    rw[A,oG,oG];simp only[l1b,KF,kC];exact⟨hb,show l.length+ps.length<=_ by omega⟩
   rw[c];show Za (Dn o cs) (AE ps) _=_;rw[MX,Dg,Ca,Ee,CA,h2];have D:AE l++AE ps=AE (l++ps):=by simp[AE]
   rw[D];rfl
  ·have i:=Ax (H:=upd H r .gone) (x:=.cells false Aq (AE (l++ps))) (by simp);rw[B4]at i;exact .inr ⟨As H,0,false,_,by rw[EK],i,rfl,by rw[Bc];omega⟩
  ·have P:Lat H (upd H r .gone) (A9 (.sl 1 r o l.length)):=Lat.upd H r .gone ⟨1,o,_,rfl⟩;have i:=Lat.cons (upd H r .gone) (.cells false Aq (AE (l++ps))) (A9 (.sl 1 r o l.length));rw[B4]at i;exact P.trans i (λ_ _ h=>h) (λ_ _ h=>h)
end
section
variable{L n:Nat}
section
variable{gs:ed}{s p:AR}{H:Hp}{K:KV}{x:Af}{ps:List AR}
def B6M:FU Aq 1 Ah 0 [] H K=K (.sl 1 (As H) 0 0) ((As H,.cells false Aq [])::H):=by
 have e:FU Aq 1 Ah 0 [] H K=Io H (λs=>K (.sl 1 s 0 0) ((s,.cells false Aq [])::H)):=r_ rfl;rw[e,Ca]
def B3o(wf:Wf H)(hn:ps.length<100)(f:∀v b,UU b v ps->(∀u y,Ai H u=some y->Ai b u=some y)->(∀u,A9 v u->As H<=u)->Wf b->K v b=x):
 (r! L (n+1)).call Bm [DD ps] H K=x:=by
 rw[FY];unfold DJ Ih;cases ps with
 |nil=>
  have e:∀{K:K2},Ar Ac .eql (DD []) (AV.v (.slice none 0 0)) K=K (Bo true):=λ{K}=>id rfl;rw[e,Cu];exact f Av H (.inl ⟨rfl,rfl⟩) (λu y h=>h) (λu ⟨_,_,_,h⟩=>by cases h) wf
 |cons a l=>
  have e:∀{K:K2},Ar Ac .eql (DD (a::l)) (AV.v (.slice none 0 0)) K=K (Bo false):=λ{K}=>id rfl;rw[e,AZ,B6M];have hb:=Ax (H:=H) (x:=.cells false Aq []) (by simp);have w1:=AG (x:=.cells false Aq []) wf;obtain⟨m,b,g,i,j,d⟩:=UU.app (H:=(As H,.cells false Aq [])::H) (v:=.sl 1 (As H) 0 0) (l:=[]) (ps:=a::l) (.inr ⟨As H,0,false,[],rfl,hb,rfl,rfl⟩) (by simp at hn⊢;omega);rw[g];refine f m b i (λu y c=>?_) (λu c=>?_) (d.wf w1)
  ·have k:=wf.lt c;refine d.keep w1 u y (A7 k c) λ⟨_,_,_,h⟩=>?_;injection h with _ h;omega
  ·have:=j u c;have h2:As ((As H,Row.cells false Aq [])::H)=As H+1:=rfl;omega
end
end
section
variable{a:Int}{b k:Nat}
variable{L n:Nat}
def B1f(h:J7 a)(c:k<3):J7 (a.fdiv (2^(4*k))):=by
 unfold J7 at h⊢;have e:a.fdiv (2^(4*k))=a/(2^(4*k)):=Int.fdiv_eq_ediv_of_nonneg _ (Int.le_of_lt (Int.pow_pos (by decide)));rw[e];obtain rfl|rfl|rfl:k=0\/k=1\/k=2:=by omega
 ·rw[show(2:Int)^(4*0)=1 by decide];omega
 ·rw[show(2:Int)^(4*1)=16 by decide];omega
 ·rw[show(2:Int)^(4*2)=256 by decide];omega
def A9r{j:TI}{K:K2}(c:k<=64):Ar j .shr (I a) (I k) K=K (I (a.fdiv (2^k))):=by
 have:Ar j .shr (I a) (I k) K=ck (qJ 0 (k:Int)) (fI (a.fdiv (2^(min (k:Int).toNat 64))) λz=>K (.v (.int .i64 z))):=rfl;rw[this,VG,mG,l22 c];have h1:qJ 0 (k:Int)=true:=by rw[LD];simp
 rw[h1];rfl
def rd7{H:Hp}{y:Y7}(h:Ai H b=some (c_ Zr y.cs)):
 (∀{K},AD Ab (.ptr b 0 0) H K=K (I y.y0))/\(∀{K},AD Ab (.ptr b 1 0) H K=K (I y.y1))/\(∀{K},AD Ab (.ptr b 2 0) H K=K (I y.y2))/\(∀{K},AD Ab (.ptr b 3 0) H K=K (I y.y3))/\(∀{K},AD Ab (.ptr b 4 0) H K=K (I y.y4))/\(∀{K},AD Ab (.ptr b 5 0) H K=K (I y.y5))/\(∀{K},AD Ab (.ptr b 6 0) H K=K (I y.y6)):=
 ⟨λ{K}=>AF (p:=0) rfl h (by simp[Y7.cs]),λ{K}=>AF (p:=1) rfl h (by simp[Y7.cs]),λ{K}=>AF (p:=2) rfl h (by simp[Y7.cs]),λ{K}=>AF (p:=3) rfl h (by simp[Y7.cs]),λ{K}=>AF (p:=4) rfl h (by simp[Y7.cs]),λ{K}=>AF (p:=5) rfl h (by simp[Y7.cs]),λ{K}=>AF (p:=6) rfl h (by simp[Y7.cs])⟩
def C3m{K:K2}:DC Cv (.ptr b 0 0) (.v (.int .i64 0)) K=K (.ptr b 0 0):=ER (z:=0) 0 rfl rfl (by decide)
def C5s{K:K2}:DC Cv (.ptr b 0 0) (.v (.int .i64 1)) K=K (.ptr b 1 0):=ER (z:=1) 1 rfl rfl (by decide)
def C5r{K:K2}:DC Cv (.ptr b 0 0) (.v (.int .i64 2)) K=K (.ptr b 2 0):=ER (z:=2) 2 rfl rfl (by decide)
def C5q{K:K2}:DC Cv (.ptr b 0 0) (.v (.int .i64 3)) K=K (.ptr b 3 0):=ER (z:=3) 3 rfl rfl (by decide)
def C5p{K:K2}:DC Cv (.ptr b 0 0) (.v (.int .i64 4)) K=K (.ptr b 4 0):=ER (z:=4) 4 rfl rfl (by decide)
def C5o{K:K2}:DC Cv (.ptr b 0 0) (.v (.int .i64 5)) K=K (.ptr b 5 0):=ER (z:=5) 5 rfl rfl (by decide)
def C3l{K:K2}:DC Cv (.ptr b 0 0) (.v (.int .i64 6)) K=K (.ptr b 6 0):=ER (z:=6) 6 rfl rfl (by decide)
structure Pa(H0:Hp)(ps:List Ha)(u:AV)(H:Hp):Prop where
 sl:Bk H Aq 1 u ps.length (AE ps)
 nl:ps=[]->u=Av
 fr:∀s,A9 u s->As H0<=s
 wf:Wf H
 w0:Wf H0
 nx:As H0<=As H
 kp:∀s q,Ai H0 s=some q->Ai H s=some q
section
variable{K:KV}{x:Af}{H0 H H':Hp}{y:Y7}{ids:List Ha}{a0 lv iv kd:AV}{q7 i:Nat}
def C2H{m:AV->AV->AV->AV->AV->AV->AV->KV}(hL:100<L)(Z:J7 y.y6)(hq:Ai H0 q7=some (c_ Zr y.cs))(hi:Bk H0 Aq 1 iv ids.length (AE ids))(hb:ids.length<100)(j:∀u k H,Pa H0 (xM ids y.y6 3) u H->m a0 lv iv (I i) (.ptr q7 0 0) kd u k H=x):
 ∀(f k:Nat)(u:AV)(H:Hp),k<=3->3-k<f->Pa H0 (xM ids y.y6 k) u H->
 TS (L+20) (r! L (n+64)) K m f a0 lv iv (I i) (.ptr q7 0 0) kd u (I k) H=x:=by
 intro f
 induction f with
 |zero=>intro k u H _ h;omega
 |succ f ih=>
  intro k u H hk hf d;rw[oV];unfold TU IA Dk A3 Ga;have V:(AV.v (.int .i64 3))=I ((3:Nat):Int):=rfl;have w:=hi.kp λs q _=>d.kp s q;rw[V];by_cases h:k<3
  ·rw[Fz (by omega)];simp only[gT,Cb,Lr (t:=Ac) rfl w,Ef];by_cases B:0<ids.length
   ·have hm:=Nat.mod_lt (pk (y.y6.fdiv (2^(4*k))) 16).toNat B;have pr:=EN (c:=y.y6.fdiv (2^(4*k))) (n:=16) (by decide);obtain⟨-, -, -, -, -, -,P⟩:=rd7 (d.kp _ _ hq);have ml:∀{K:K2},Ar Ab .mul (.v (.int .i64 4)) (I (k:Int)) K=K (I ((4*k:Nat):Int)):=λ{K}=>by
     rw[OZ,CQ (by omega) (by omega)];rw[show(4:Int)*(k:Int)=((4*k:Nat):Int) by omega]
    have C:∀{H K},Ap (r! L (n+64)) Ml [I (y.y6.fdiv (2^(4*k))),.v (.int .i64 16)] H K=K (I (pk (y.y6.fdiv (2^(4*k))) 16)):=λ{H K}=>A1r (n:=n+63) (B1f Z h) (by decide) (by decide) H K;have J:∀{K:K2},Ar Ab .add (I k) (.v (.int .i64 1)) K=K (I ((k+1:Nat):Int)):=λ{K}=>Db (by omega);rw[HR (by omega),UV,Cu];simp only[BE];rw[C3l,P,ml,A9r (by omega),C,D8];have r:xM ids y.y6 (k+1)=if 0<ids.length/\pk (y.y6.fdiv (2^(4*k))) 16<14 then xM ids y.y6 k++[ids.getD ((pk (y.y6.fdiv (2^(4*k))) 16).toNat%ids.length) []] else xM ids y.y6 k:=rfl
    by_cases g:pk (y.y6.fdiv (2^(4*k))) 16<14
    ·rw[Dq ⟨B,g⟩]at r;have D:PL H ids iv:=.inr w;obtain⟨p,X,Y⟩:=D.at2 hm;have rm:∀{K:K2},Ar Ab .rem (I (pk (y.y6.fdiv (2^(4*k))) 16)) (I (ids.length:Int)) K=K (I (((pk (y.y6.fdiv (2^(4*k))) 16).toNat%ids.length:Nat):Int)):=λ{K}=>by
      rw[Q9 (by omega),Int.tmod_eq_emod_of_nonneg pr.1];have:(pk (y.y6.fdiv (2^(4*k))) 16)=(((pk (y.y6.fdiv (2^(4*k))) 16).toNat:Nat):Int):=by omega
      rw[this,mG];rfl
     have aa:=A5I (ids:=ids) (y6:=y.y6) k;obtain⟨u',H',a1,a2,M,a4,N,O⟩:=wE (ie:=Ah) (i2:=Ac) (ys:=AE [ids[(pk (y.y6.fdiv (2^(4*k))) 16).toNat%ids.length]]) d.sl d.wf rfl rfl (by decide) rfl (λ_=>rfl) (by show(_+1)*16<=_;omega) (by omega);have R:ids.getD ((pk (y.y6.fdiv (2^(4*k))) 16).toNat%ids.length) []=ids[(pk (y.y6.fdiv (2^(4*k))) 16).toNat%ids.length]:=by simp[List.getD,KL hm]
     rw[R]at r;have g0:=d.nx;rw[HR g,Cu,rm,X,Y,ZJ,a1,J];refine ih (k+1) u' H' (by omega) (by omega) ⟨?_,λe=>?_,λs A=>?_,M,d.w0,by omega,λs q A=>?_⟩
     ·rw[r,EK];have:AE (xM ids y.y6 k++[ids[(pk (y.y6.fdiv (2^(4*k))) 16).toNat%ids.length]])=AE (xM ids y.y6 k)++AE [ids[(pk (y.y6.fdiv (2^(4*k))) 16).toNat%ids.length]]:=by simp[AE]
      rw[this];exact a2
     ·rw[r]at e;simp at e
     ·have:=O s A;omega
     ·exact N _ _ (d.kp s q A) λe=>by have:=d.fr s e;have:=d.w0.lt A;omega
    ·rw[CF λhc=>g hc.2]at r;rw[HW g,AZ,J];exact ih (k+1) u H (by omega) (by omega) (by rw[r];exact d)
   ·rw[HW (by omega),UV,AZ];have Q:∀k,xM ids y.y6 k=[]:=by
     intro k
     induction k with
     |zero=>rfl
     |succ k F=>unfold xM;rw[CF λhc=>B hc.1];exact F
    refine j u _ H ?_;rw[Q]at d⊢;exact d
  ·have:k=3:=by omega
   subst this;rw[Fp (by omega)];simp only[iW,Cb,RC];rw[AZ];exact j u _ H d
end
end
end Go.Abs
end
