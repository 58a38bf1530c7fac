import Derived.Test.YthffkeagibaidaaGreatDoorP27
set_option linter.all false
set_option maxHeartbeats 0
noncomputable section
namespace Go.Abs
open Go.RowKit Go.Proofs
set_option maxRecDepth 100000
section
variable{α:Type}
variable{L n:Nat}
def KF{F:α}{G:α->Af}{x:Af}(h:∀k,k=F->G k=x):jn F G=x:=by rw[Ca];exact h F rfl
def AT.kp{H H':Hp}{e sz n:Nat}{v:AV}{cs:Is}(h:AT H e sz v n cs)(k:∀s x,AD v s->Ao H s=some x->Ao H' s=some x):AT H' e sz v n cs:=by
 rcases h with h|⟨r,q,h1,h2,a⟩
 ·exact .inl h
 ·exact .inr ⟨r,q,h1,k r _ ⟨_,_,_,h1⟩ h2,a⟩
def B9l(l:List Nd):∃vs:Hx,l.flatMap xB=vs.map λx=>.v x:=by
 induction l with
 |nil=>exact⟨[],rfl⟩
 |cons x l ih=>
  obtain⟨vs,h⟩:=ih;refine⟨[.int .i64 x.op,.string ⟨⟨x.vn⟩⟩,.string ⟨⟨x.vd⟩⟩,.int .i64 x.u.p0,.int .i64 x.u.q0,.int .i64 x.u.p1,.int .i64 x.u.q1,.int .i64 x.u.p2,.int .i64 x.u.q2,.int .i64 x.u.p3,.int .i64 x.u.q3,.int .i64 x.u.p4,.int .i64 x.u.q4,.int .i64 x.u.p5,.int .i64 x.u.q5,.int .i64 x.u.p6,.int .i64 x.u.q6,
   .string ⟨⟨x.u.fn⟩⟩,.string ⟨⟨x.u.fd⟩⟩,.string ⟨⟨x.u.on⟩⟩,.string ⟨⟨x.u.od⟩⟩,.int .i64 x.u.kd,.int .i64 x.u.sc,.int .i64 x.n,.int .i64 x.l,.int .i64 x.r]++vs,?_⟩
  rw[kL,h,UT];rfl
def ndL(l:List Nd):AV:=match l with
 |[]=>A7
 |x::l=>.list (x::l).length ((x::l).flatMap xB)
def A5T{D:Nat}{b:Bool}{H:Hp}{v:AV}{l:List Nd}(h:AT H AF 26 v l.length (l.flatMap xB))(d:l=[]->v=A7):∃q,Fx b (D+1) v (ndL l) H q:=by
 rcases h with⟨rfl,h2,_⟩|⟨r,q,rfl,h2,c⟩
 ·cases l with
  |nil=>exact⟨false,Er⟩
  |cons a l=>simp at h2
 ·cases l with
  |nil=>have:=d rfl;cases this
  |cons a l=>
   refine⟨true,?_⟩;show Fx b (D+1) _ (.list (a::l).length ((a::l).flatMap xB)) H true;obtain⟨vs,e⟩:=B9l (a::l);rw[e]at h2 c⊢;exact UW (q':=false) h2 c (JO _root_.id _)
def B8s{y:Nd}{H:Hp}{K:KV}:F4 AF 26 AC 1 [(0,26,.agg y.cs)] H K=K (.sl 26 (Ay H) 0 1) ((Ay H,.cells false AF (xB y))::H):=by
 have e:F4 AF 26 AC 1 [(0,26,.agg y.cs)] H K=GP H (λs=>K (.sl 26 s 0 1) ((s,.cells false AF (xB y))::H)):=r_ rfl;rw[e,BQ]
structure Md(b r z:Nat)(ins:List Int)(id:Int)(ks:Hb)(xs:List Nd)(us:Hb)(v w u:AV)(H:Hp):Prop where
 hb:Ao H b=some (c_ RC (E7 ins))
 hr:Ao H r=some (G6 id v w u0)
 hz:∃cs,cs.length=23/\Ao H z=some (c_ BK cs)
 sv:AT H Ax 20 v ks.length (ks.flatMap FN)
 nv:ks=[]->v=A7
 sw:AT H AF 26 w xs.length (xs.flatMap xB)
 nw:xs=[]->w=A7
 su:AT H Ax 20 u us.length (us.flatMap FN)
 nu:us=[]->u=A7
 br:b≠r
 zr:z≠r
 av:∀s,AD v s->s≠b/\s≠r/\s≠z/\¬AD w s/\¬AD u s
 aw:∀s,AD w s->s≠b/\s≠r/\s≠z/\¬AD v s/\¬AD u s
 au:∀s,AD u s->s≠b/\s≠r/\s≠z/\¬AD v s/\¬AD w s
 wf:Wf H
section
variable{K:KV}{x:Af}{ins:List Int}{id:Int}{ks us:Hb}{xs:List Nd}{v w u:AV}{b r z m:Nat}{H H':Hp}
def Md.grow(h:Md b r z ins id ks xs us v w u H)(wf:Wf H')(kp:∀s x,Ao H s=some x->Ao H' s=some x):Md b r z ins id ks xs us v w u H':=by
 obtain⟨cs,c1,c2⟩:=h.hz;exact⟨kp _ _ h.hb,kp _ _ h.hr,⟨cs,c1,kp _ _ c2⟩,h.sv.kp λs x _=>kp s x,h.nv,h.sw.kp λs x _=>kp s x,h.nw,h.su.kp λs x _=>kp s x,h.nu,h.br,h.zr,h.av,h.aw,h.au,wf⟩
structure Oth(b r z:Nat)(v w u:AV)(m:Nat):Prop where
 b:m≠b
 r:m≠r
 z:m≠z
 v:¬AD v m
 w:¬AD w m
 u:¬AD u m
def Md.oth(h:Md b r z ins id ks xs us v w u H):Oth b r z v w u (Ay H):=by
 obtain⟨cs,c1,c2⟩:=h.hz;have h1:=h.wf.lt h.hb;have h2:=h.wf.lt h.hr;have a:=h.wf.lt c2;exact⟨by omega,by omega,by omega,λe=>by have:=h.sv.lt h.wf e;omega,λe=>by have:=h.sw.lt h.wf e;omega,λe=>by have:=h.su.lt h.wf e;omega⟩
theorem Md.upd(h:Md b r z ins id ks xs us v w u H)(o:Oth b r z v w u m)(y:Row):Md b r z ins id ks xs us v w u (upd H m y):=by
 obtain⟨cs,c1,c2⟩:=h.hz;have kp:∀s x,s≠m->Ao H s=some x->Ao (Go.Abs.upd H m y) s=some x:=λs x a c=>by rw[Aj a];exact c
 exact⟨kp _ _ (Ne.symm o.b) h.hb,kp _ _ (Ne.symm o.r) h.hr,⟨cs,c1,kp _ _ (Ne.symm o.z) c2⟩,h.sv.kp λs x a=>kp s x (λe=>o.v (e▸a)),h.nv,h.sw.kp λs x a=>kp s x (λe=>o.w (e▸a)),h.nw,h.su.kp λs x a=>kp s x (λe=>o.u (e▸a)),h.nu,h.br,h.zr,h.av,h.aw,h.au,BF h.wf⟩
def Zy{α β:Type}(f:α->List β)(l:List α)(a:α):(l++[a]).flatMap f=l.flatMap f++f a:=by simp
def Md.v1(h:Md b r z ins id ks xs us v w u H)(k:Nat)(g:ks.length<100):∃c H',(∀K:KV,DJ Ax 20 Ap Am v (.sl 20 (Ay H) 0 1) ((Ay H,.cells false Ax (FN k))::H) K=K c H')/\
 (∀K:Ru,DD Am (.ptr r 1 0) c H' K=K (Go.Abs.upd H' r (G6 id c w u0)))/\Md b r z ins id (ks++[k]) xs us c w u (Go.Abs.upd H' r (G6 id c w u0)):=by
 obtain⟨c,H',a1,a2,j,p,i,f⟩:=uF (ie:=Ap) (i2:=Am) (ys:=FN k) h.sv h.wf rfl rfl (by decide) rfl (λ_=>rfl) (by show(_+1)*192<=_;omega) (by omega);obtain⟨cs,c1,c2⟩:=h.hz;have h1:=h.wf.lt h.hb;have h2:=h.wf.lt h.hr;have q:=h.wf.lt c2;have d:=i _ _ h.hr λe=>(h.av _ e).2.1 rfl;have kp:∀s x,s≠r->¬AD v s->Ao H s=some x->Ao (Go.Abs.upd H' r (G6 id c w u0)) s=some x:=λs x a hn g=>by rw[Aj a];exact i s x g hn
 refine⟨c,H',a1,λK=>D9 d (show 1<23 by decide) rfl (AT.cell a2) (AT.one a2),kp _ _ h.br (λe=>(h.av _ e).1 rfl) h.hb,A4 d,⟨cs,c1,kp _ _ h.zr (λe=>(h.av _ e).2.2.1 rfl) c2⟩,?_,λe=>by simp at e,
  h.sw.kp λs x a=>kp s x (h.aw s a).2.1 (h.aw s a).2.2.2.1,h.nw,h.su.kp λs x a=>kp s x (h.au s a).2.1 (h.au s a).2.2.2.1,h.nu,h.br,h.zr,λs a=>?_,λs a=>?_,λs a=>?_,BF j⟩
 ·rw[E6,Zy];refine AT.kp a2 λs x a g=>?_;have:=f s a;rw[Aj (by omega)];exact g
 ·have:=f s a;exact⟨by omega,by omega,by omega,λe=>by have:=h.sw.lt h.wf e;omega,λe=>by have:=h.su.lt h.wf e;omega⟩
 ·obtain⟨q1,q2,q3,q4,q5⟩:=h.aw s a;exact⟨q1,q2,q3,λe=>by have:=f s e;have:=h.sw.lt h.wf a;omega,q5⟩
 ·obtain⟨q1,q2,q3,q4,q5⟩:=h.au s a;exact⟨q1,q2,q3,λe=>by have:=f s e;have:=h.su.lt h.wf a;omega,q5⟩
def Md.w1(h:Md b r z ins id ks xs us v w u H)(y:Nd)(g:xs.length<100):∃c H',(∀K:KV,DJ AF 26 AC Ar w (.sl 26 (Ay H) 0 1) ((Ay H,.cells false AF (xB y))::H) K=K c H')/\
 (∀K:Ru,DD Ar (.ptr r 2 0) c H' K=K (Go.Abs.upd H' r (G6 id v c u0)))/\Md b r z ins id ks (xs++[y]) us v c u (Go.Abs.upd H' r (G6 id v c u0))/\(∀s x,s≠r->¬AD w s->Ao H s=some x->Ao (Go.Abs.upd H' r (G6 id v c u0)) s=some x):=by
 obtain⟨c,H',a1,a2,j,k,i,f⟩:=uF (ie:=AC) (i2:=Ar) (ys:=xB y) h.sw h.wf rfl rfl (by decide) rfl (λ_=>rfl) (by show(_+1)*256<=_;omega) (by omega);obtain⟨cs,c1,c2⟩:=h.hz;have h1:=h.wf.lt h.hb;have h2:=h.wf.lt h.hr;have p:=h.wf.lt c2;have d:=i _ _ h.hr λe=>(h.aw _ e).2.1 rfl;have kp:∀s x,s≠r->¬AD w s->Ao H s=some x->Ao (Go.Abs.upd H' r (G6 id v c u0)) s=some x:=λs x a hn g=>by rw[Aj a];exact i s x g hn
 refine⟨c,H',a1,λK=>D9 d (show 2<23 by decide) rfl (AT.cell a2) (AT.one a2),⟨kp _ _ h.br (λe=>(h.aw _ e).1 rfl) h.hb,A4 d,⟨cs,c1,kp _ _ h.zr (λe=>(h.aw _ e).2.2.1 rfl) c2⟩,
  h.sv.kp λs x a=>kp s x (h.av s a).2.1 (h.av s a).2.2.2.1,h.nv,?_,λe=>by simp at e,h.su.kp λs x a=>kp s x (h.au s a).2.1 (h.au s a).2.2.2.2,h.nu,h.br,h.zr,λs a=>?_,λs a=>?_,λs a=>?_,BF j⟩,kp⟩
 ·rw[E6,Zy];refine AT.kp a2 λs x a g=>?_;have:=f s a;rw[Aj (by omega)];exact g
 ·obtain⟨q1,q2,q3,q4,q5⟩:=h.av s a;exact⟨q1,q2,q3,λe=>by have:=f s e;have:=h.sv.lt h.wf a;omega,q5⟩
 ·have:=f s a;exact⟨by omega,by omega,by omega,λe=>by have:=h.sv.lt h.wf e;omega,λe=>by have:=h.su.lt h.wf e;omega⟩
 ·obtain⟨q1,q2,q3,q4,q5⟩:=h.au s a;exact⟨q1,q2,q3,q4,λe=>by have:=f s e;have:=h.su.lt h.wf a;omega⟩
def Md.u1(h:Md b r z ins id ks xs us v w u H)(k:Nat)(d:us.length<100):∃f H',(∀K:KV,DJ Ax 20 Ap Am u (.sl 20 (Ay H) 0 1) ((Ay H,.cells false Ax (FN k))::H) K=K f H')/\Md b r z ins id ks xs (us++[k]) v w f H':=by
 obtain⟨f,H',a1,a2,i,j,c,g⟩:=uF (ie:=Ap) (i2:=Am) (ys:=FN k) h.su h.wf rfl rfl (by decide) rfl (λ_=>rfl) (by show(_+1)*192<=_;omega) (by omega);obtain⟨cs,c1,c2⟩:=h.hz;have h1:=h.wf.lt h.hb;have h2:=h.wf.lt h.hr;have p:=h.wf.lt c2;refine⟨f,H',a1,c _ _ h.hb (λe=>(h.au _ e).1 rfl),c _ _ h.hr (λe=>(h.au _ e).2.1 rfl),⟨cs,c1,c _ _ c2 (λe=>(h.au _ e).2.2.1 rfl)⟩,
  h.sv.kp λs x a d=>c s x d (h.av s a).2.2.2.2,h.nv,h.sw.kp λs x a d=>c s x d (h.aw s a).2.2.2.2,h.nw,?_,λe=>by simp at e,h.br,h.zr,λs a=>?_,λs a=>?_,λs a=>?_,i⟩
 ·rw[E6,Zy];exact a2
 ·obtain⟨q1,q2,q3,q4,q5⟩:=h.av s a;exact⟨q1,q2,q3,q4,λe=>by have:=g s e;have:=h.sv.lt h.wf a;omega⟩
 ·obtain⟨q1,q2,q3,q4,q5⟩:=h.aw s a;exact⟨q1,q2,q3,q4,λe=>by have:=g s e;have:=h.sw.lt h.wf a;omega⟩
 ·have:=g s a;exact⟨by omega,by omega,by omega,λe=>by have:=h.sv.lt h.wf e;omega,λe=>by have:=h.sw.lt h.wf e;omega⟩
def Wl{s j:Nat}{K:K2}:CC j (.ptr s 0 0) K=K (.ptr s j 0):=by rw[fA,Le]
def Md.ld1(h:Md b r z ins id ks xs us v w u H){K:K2}:A9 Am (.ptr r 1 0) H K=K v:=AH (p:=1) rfl h.hr (show 1<23 by decide)
def Md.ld2(h:Md b r z ins id ks xs us v w u H){K:K2}:A9 Ar (.ptr r 2 0) H K=K w:=AH (p:=2) rfl h.hr (show 2<23 by decide)
def ksM(ins:List Int)(i:Nat):Hb:=(ins.take i).map λc=>(pk c 7).toNat
def A9t{i:Nat}(h:i<ins.length):ksM ins (i+1)=ksM ins i++[(pk ins[i] 7).toNat]:=by
 unfold ksM;rw[tE h,UT];rfl
def B6X{count:Int}{t ex y d1 d2:AV}{d:AV->AV->AV->AV->AV->AV->AV->KV}(D:100<L)(J:ins.length=3)(j:∀c∈ins,J8 c)(hc:J8 count)(g:∀v H,Md b r z ins id (ksM ins ((pk count 3).toNat+1)) [] [] v A7 A7 H->d (I count) t ex (.ptr b 0 0) (.ptr z 0 0) (.ptr r 0 0) (I (((pk count 3).toNat+1:Nat):Int)) d2 H=x):
 ∀(f i:Nat)(v:AV)(H:Hp),i<=(pk count 3).toNat+1->(pk count 3).toNat+1-i<f->Md b r z ins id (ksM ins i) [] [] v A7 A7 H->
 QI (L+20) (r! L (n+42)) K d f (I count) t ex (.ptr b 0 0) (.ptr z 0 0) (.ptr r 0 0) (I i) y d1 d2 H=x:=by
 have pr:=Ed (c:=count) (n:=3) (by decide);intro f
 induction f with
 |zero=>intro i v H _ h;omega
 |succ f ih=>
  intro i v H A F a;rw[dV];unfold QK Mf Aq;have q:∀H K,Ak (r! L (n+42)) BH [I count,.v (.int .i64 3)] H K=K (I (pk count 3)):=JZ (n:=n+41) hc (by decide) (by decide);rw[q,Yt];by_cases h:i<=(pk count 3).toNat
  ·have e:i<ins.length:=by omega
   have hb:=a.hb;have ld:∀{K},A9 Ab (.ptr b i 0) H K=K (I ins[i]):=λ{K}=>by rw[AH (p:=i) rfl a.hb (by simp[E7];omega),Te e]
   have ia:∀{K:K2},Cy OI (.ptr b 0 0) (I i) K=K (.ptr b i 0):=λ{K}=>D3 i rfl rfl (by omega);have un:∀{H K},Ak (r! L (n+42)) E9 [I ins[i]] H K=K (.agg (BY (uu (pk ins[i] 7).toNat))):=λ{H K}=>O_ (n:=n) (j _ (Na e)) H K;have k:(ksM ins i).length<100:=by simp[ksM];omega
   obtain⟨C,H',a1,a2,s⟩:=a.v1 (pk ins[i] 7).toNat k;have ok:fJ v v=true:=vY a.sv;have B:∀{K},A9 Am (.ptr r 1 0) ((Ay H,Row.cells false Ax (FN (pk ins[i] 7).toNat))::H) K=K v:=λ{K}=>AH (p:=1) rfl (AQ (a.wf.lt a.hr) a.hr) (show 1<23 by decide);rw[Iz (by omega),Dg];simp only[Wl,B4,a.ld1,ia,ld,un,A3d,BJ,a1,a2,B];rw[A5n ok,Dc (by omega)];rw[<-A9t e]at s;exact ih (i+1) C _ (by omega) (by omega) s
  ·have:i=(pk count 3).toNat+1:=by omega
   subst this;rw[Iy (by omega),B6];exact g v H a
def B6Y{a1 a2 i k s:AV}{c:AV->AV->AV->AV->AV->AV->AV->AV->KV}(M:100<L)(hb:ks.length<=3)(e:∀w u H,Md b r z ins id ks (Kh ks) ks v w u H->c a1 a2 i (.ptr b 0 0) (.ptr z 0 0) (.ptr r 0 0) k u (I ks.length) H=x):
 ∀(f j:Nat)(w u:AV)(H:Hp),j<=ks.length->ks.length-j<f->Md b r z ins id ks ((List.range j).map VR) (ks.take j) v w u H->
 QJ (L+20) (r! L (n+42)) K c f a1 a2 i (.ptr b 0 0) (.ptr z 0 0) (.ptr r 0 0) k u (I j) s H=x:=by
 intro f
 induction f with
 |zero=>intro j w u H _ h;omega
 |succ f ih=>
  intro j w u H D N d;rw[dW];unfold QL DV GI Aq;rw[Wl,d.ld1,IX (t:=Am) rfl d.sv];by_cases h:j<ks.length
  ·have q:∀{K:K2},Ch AC [(0,1,.v (.int .i64 2)),(23,1,I j)] K=K (.agg (VR j).cs):=λ{K}=>r_ rfl;obtain⟨J,H',b1,b2,g, -⟩:=d.w1 (VR j) (by simp;omega);obtain⟨a,B,C⟩:=A0L g.sv h;obtain⟨F,p,y,A⟩:=g.u1 ks[j] (by simp;omega);rw[FZ (by omega),Dg,Wl,d.ld2,q,B8s,b1,Wl,b2,Wl,g.ld1,B,C,A3d,y,Dc (by omega)];refine ih (j+1) J F p (by omega) (by omega) ?_;rw[List.range_succ,UT,tE h];exact A
  ·have:j=ks.length:=by omega
   subst this;rw[Ga (by omega),B6];rw[mM]at d;exact e w u H d
end
end
section
variable{D:Nat}{y:Nd}
variable{L n:Nat}
def exO(ks:Hb)(q a13 b4 k7 e5 l r:Nat):Ex:=match q with
 |0=>.cn (Zv a13 b4) k7
 |1=>.inp l
 |6=>match Ui (ks.getD l 0) e5 with
  |some k=>.po l e5 k
  |none=>.no
 |7=>.no
 |q=>match Sf (q-2) (ks.getD l 0) (ks.getD r 0) with
  |some k=>.bi (q+1) l r k
  |none=>.no
def exM(ks:Hb)(y0 y1 y2 y3:Int):Ex:=exO ks (pk y0 8).toNat (pk y1 13).toNat (pk y2 4).toNat (pk y3 7).toNat (pk y2 5).toNat (pk y1 ks.length).toNat (pk y2 ks.length).toNat
theorem A6c{ks:Hb}{q a13 b4 k7 e5 l r:Nat}(h:2<=q)(a:q<6):exO ks q a13 b4 k7 e5 l r=match Sf (q-2) (ks.getD l 0) (ks.getD r 0) with
 |some k=>.bi (q+1) l r k
 |none=>.no:=by
 obtain rfl|rfl|rfl|rfl:q=2\/q=3\/q=4\/q=5:=by omega
 all_goals rfl
def yE{a b:Nat}(c:a<13)(hb:b<4):Zv a b<33:=by
 have:=Gb.1 (show((List.range 52).all λi=>decide (Zv (i/4) (i%4)<33))=true by kernel_rfl) (4*a+b) (I2.2 (by omega));rw[show(4*a+b)/4=a by omega,show(4*a+b)%4=b by omega]at this;simpa using this
def Lr{c m:Int}(h:0<m):∃k:Nat,pk c m=k/\(k:Int)<m/\(pk c m).toNat=k:=by
 have:=Ed (c:=c) h;exact⟨(pk c m).toNat,by omega,by omega,rfl⟩
def B4P{ks:Hb}{y0 y1 y2 y3:Int}(h1:1<=ks.length):(exM ks y0 y1 y2 y3).Ok ks:=by
 obtain⟨q, -,h2,f⟩:=Lr (c:=y0) (m:=8) (by decide);obtain⟨a, -,t,g⟩:=Lr (c:=y1) (m:=13) (by decide);obtain⟨b, -,hb,h⟩:=Lr (c:=y2) (m:=4) (by decide);obtain⟨k, -,hk,j⟩:=Lr (c:=y3) (m:=7) (by decide);obtain⟨e, -,he,i⟩:=Lr (c:=y2) (m:=5) (by decide);obtain⟨l, -,A,p⟩:=Lr (c:=y1) (m:=ks.length) (by omega);obtain⟨r, -,hr,s⟩:=Lr (c:=y2) (m:=ks.length) (by omega);unfold exM;rw[f,g,h,j,i,p,s];by_cases hq:2<=q/\q<6
 ·rw[A6c hq.1 hq.2];cases d:Sf (q-2) (ks.getD l 0) (ks.getD r 0) with
  |none=>exact trivial
  |some k=>exact⟨by omega,by omega,by omega,by omega,d⟩
 ·obtain rfl|rfl|rfl|rfl:q=0\/q=1\/q=6\/q=7:=by omega
  ·exact⟨yE (by omega) (by omega),by omega⟩
  ·show l<ks.length;omega
  ·show(match Ui (ks.getD l 0) e with
    |some k=>Ex.po l e k
    |none=>.no).Ok ks
   cases d:Ui (ks.getD l 0) e with
   |none=>exact trivial
   |some k=>exact⟨by omega,by omega,d⟩
  ·exact trivial
section
variable{K:KV}{x:Af}{ins:List Int}{id:Int}{ks us:Hb}{xs:List Nd}{v w u:AV}{b r z m:Nat}{H H':Hp}{y0 y1 y2 y3:Int}
def A0M(h:1<=ks.length):OE ks=Bz ks:=by cases ks with|nil=>simp at h|cons _ _=>rfl
def A17(h:1<=xs.length):ndL xs=BL xs:=by cases xs with|nil=>simp at h|cons _ _=>rfl
def Md.proc(h:Md b r z ins id ks xs us v w u H)(h1:1<=ks.length)(h2:1<=xs.length){bb:Bool}:∃q,Fx bb (D+2) (.agg (Bn id v w u0)) (.agg (Bn id (Bz ks) (BL xs) u0)) H q:=by
 obtain⟨q1,a⟩:=Zt (D:=D) (b:=bb) h.sv h.nv;obtain⟨q2,c⟩:=A5T (D:=D) (b:=bb) h.sw h.nw;rw[A0M h1]at a;rw[A17 h2]at c;exact⟨_,PJ (D:=D+1) (Az (q:=false) Er (Az a (Az c (JO (b:=bb) (D:=D+1) (H:=H) (λx:Value=>x) [.int .i64 u0.p0,.int .i64 u0.q0,.int .i64 u0.p1,.int .i64 u0.q1,.int .i64 u0.p2,.int .i64 u0.q2,.int .i64 u0.p3,.int .i64 u0.q3,.int .i64 u0.p4,.int .i64 u0.q4,.int .i64 u0.p5,.int .i64 u0.q5,.int .i64 u0.p6,.int .i64 u0.q6,
  .string ⟨⟨u0.fn⟩⟩,.string ⟨⟨u0.fd⟩⟩,.string ⟨⟨u0.on⟩⟩,.string ⟨⟨u0.od⟩⟩,.int .i64 u0.kd,.int .i64 u0.sc]))))⟩
def B4a{b:Bool}:Fx b (D+1) (.agg y.cs) (.agg y.cs) H false:=λK=>by cases D<;>cases b<;>kernel_rfl
def Md.ty(h:Md b r z ins id ks (Kh ks) ks v w u H)(h1:1<=ks.length){t:AV}(d:CS (r! L (n+42)) BW [.agg (Bn id (Bz ks) (BL (Kh ks)) u0),.agg y.cs,I ks.length,OE ks] t){K:K2}:
 Ak (r! L (n+42)) BW [.agg (Bn id v w u0),.agg y.cs,I ks.length,u] H K=K t:=by
 obtain⟨q1,a⟩:=h.proc h1 (by rw[DB];exact h1) (D:=depth-2) (bb:=true);obtain⟨q2,c⟩:=B0V (b:=true) h.su h.nu;exact AX d (Az a (Az (B4a (D:=depth-1)) (Az (q:=false) Er (Az c Bq))))
end
end
section
variable{L n:Nat}
section
variable{K:KV}{x:Af}{ins:List Int}{id:Int}{ks us:Hb}{xs:List Nd}{v w u:AV}{b r z m:Nat}{H H':Hp}{y0 y1 y2 y3:Int}
def B6Z{a1 i4 j5:AV}{ah:AV->AV->KV}(h:Md b r z ins id ks (Kh ks) ks v w u H)(k1:1<=ks.length)(k3:ks.length<=3)(k7:∀k∈ks,k<7)(i0:J8 y0)(i1:J8 y1)(i2:J8 y2)(i3:J8 y3)(ac:∀J F H',Md b r z ins id ks (Kh ks++(exM ks y0 y1 y2 y3).nd) (ks++(exM ks y0 y1 y2 y3).ty ks) v J F H'->ah (.ptr z 0 0) (.ptr r 0 0) F H'=x)(f:Nat):
 JW (L+20) (r! L (n+42)) K ah (f+2) a1 (.list 1 [I y0,I y1,I y2,I y3]) (Bo true) (.ptr b 0 0) (.ptr z 0 0) (.ptr r 0 0) i4 u j5 (I ((0:Nat):Int)) H=x:=by
 have ex:∀J F H',Md b r z ins id ks (Kh ks++(exM ks y0 y1 y2 y3).nd) (ks++(exM ks y0 y1 y2 y3).ty ks) v J F H'->JW (L+20) (r! L (n+42)) K ah (f+1) a1 (.list 1 [I y0,I y1,I y2,I y3]) (Bo true) (.ptr b 0 0) (.ptr z 0 0) (.ptr r 0 0) i4 F j5 (I ((0+1:Nat):Int)) H'=x:=by
  intro J F H' j;rw[NJ];unfold JX DV Qg Tg GI B3 EU Aq JR EV;have el:∀{K:K2},Bi GZ (.list 1 [I y0,I y1,I y2,I y3]) K=K (I ((1:Nat):Int)):=λ{K}=>r_ rfl;rw[el,Ga (by omega)];simp only[uU,BJ,T2];rw[B6];exact ac J F H' j
 rw[NJ];unfold JX DV Qg Tg GI B3 EU Aq JR EV;have el:∀{K:K2},Bi GZ (.list 1 [I y0,I y1,I y2,I y3]) K=K (I ((1:Nat):Int)):=λ{K}=>r_ rfl;have ba:(AV.v (.int .i64 14))=I ((14:Nat):Int):=rfl;have hw:=h.sw;rw[DB]at hw;rw[el,FZ (by omega),ba];simp only[gT,BJ,Wl,h.ld2,IX (t:=Ar) rfl hw];rw[FZ (by omega),BJ,WT,Dg];refine KF λbq ak=>?_;refine KF λbk am=>?_;have B:∀J F H',Md b r z ins id ks (Kh ks++(exM ks y0 y1 y2 y3).nd) (ks++(exM ks y0 y1 y2 y3).ty ks) v J F H'->bk F H'=x:=by
  intro J F H' j;rw[am,ak];have ad:∀{K:K2},Al Ab .add (I ((0:Nat):Int)) (.v (.int .i64 1)) K=K (I ((0+1:Nat):Int)):=λ{K}=>Dc (by omega);simp only[ad];exact ex J F H' j
 clear ak am ex ac;have bf:∀{K:K2},Cy GZ (.list 1 [I y0,I y1,I y2,I y3]) (I ((0:Nat):Int)) K=K (.iptr [I y0,I y1,I y2,I y3]):=λ{K}=>r_ rfl;have bm:∀{H}{K:K2},A9 BZ (.iptr [I y0,I y1,I y2,I y3]) H K=K (.agg [I y0,I y1,I y2,I y3]):=λ{H K}=>r_ rfl;obtain⟨H1,e1,m1,w1,a5⟩:=DN (e:=FB) (zs:=[zI,zI,zI,zI]) (vs:=[I y0,I y1,I y2,I y3]) h.wf rfl;rw[bf,bm,AW (cs:=[zI,zI,zI,zI]) rfl,Bx (cs:=[zI,zI,zI,zI]) (vs:=[I y0,I y1,I y2,I y3]) (Av (by simp)) rfl rfl rfl,<-e1];have o4:=h.oth;have h1:=h.grow w1 λs x hs=>(a5 s x hs).1;generalize Ay H=q4 at m1 o4;clear a5 e1;have ay:=h1.sw;rw[DB]at ay;rw[h1.ld2,IX (t:=Ar) rfl ay];have y4:∀{A:Hp}{K:K2},Ao A q4=some (c_ FB [I y0,I y1,I y2,I y3])->(Cy BZ (.ptr q4 0 0) (.v (.int .i64 0)) λp=>A9 Ab p A K)=K (I y0):=λ{A K}P=>by
  rw[D3 (z:=0) 0 rfl rfl (by decide),AH (p:=0) rfl P (by simp)];rfl
 have Y:∀{A:Hp}{K:K2},Ao A q4=some (c_ FB [I y0,I y1,I y2,I y3])->(Cy BZ (.ptr q4 0 0) (.v (.int .i64 1)) λp=>A9 Ab p A K)=K (I y1):=λ{A K}P=>by
  rw[D3 (z:=1) 1 rfl rfl (by decide),AH (p:=1) rfl P (by simp)];rfl
 have a7:∀{A:Hp}{K:K2},Ao A q4=some (c_ FB [I y0,I y1,I y2,I y3])->(Cy BZ (.ptr q4 0 0) (.v (.int .i64 2)) λp=>A9 Ab p A K)=K (I y2):=λ{A K}P=>by
  rw[D3 (z:=2) 2 rfl rfl (by decide),AH (p:=2) rfl P (by simp)];rfl
 have bp:∀{A:Hp}{K:K2},Ao A q4=some (c_ FB [I y0,I y1,I y2,I y3])->(Cy BZ (.ptr q4 0 0) (.v (.int .i64 3)) λp=>A9 Ab p A K)=K (I y3):=λ{A K}P=>by
  rw[D3 (z:=3) 3 rfl rfl (by decide),AH (p:=3) rfl P (by simp)];rfl
 obtain⟨q,pq,hq,eq⟩:=Lr (c:=y0) (m:=8) (by decide);obtain⟨a13,pa,ha,ea⟩:=Lr (c:=y1) (m:=13) (by decide);obtain⟨b4,pb,hb,eb⟩:=Lr (c:=y2) (m:=4) (by decide);obtain⟨d,bo,hk,ek⟩:=Lr (c:=y3) (m:=7) (by decide);obtain⟨e5,pe,he,ee⟩:=Lr (c:=y2) (m:=5) (by decide);obtain⟨l,pl,P,el⟩:=Lr (c:=y1) (m:=ks.length) (by omega);obtain⟨rr,pr,hr,er⟩:=Lr (c:=y2) (m:=ks.length) (by omega);have ap:∀H K,Ak (r! L (n+42)) BH [I y0,.v (.int .i64 8)] H K=K (I (q:Int)):=by rw[<-pq];exact JZ (n:=n+41) i0 (by decide) (by decide)
 have ag:∀H K,Ak (r! L (n+42)) BH [I y1,.v (.int .i64 13)] H K=K (I (a13:Int)):=by rw[<-pa];exact JZ (n:=n+41) i1 (by decide) (by decide)
 have aq:∀H K,Ak (r! L (n+42)) BH [I y2,.v (.int .i64 4)] H K=K (I (b4:Int)):=by rw[<-pb];exact JZ (n:=n+41) i2 (by decide) (by decide)
 have ar:∀H K,Ak (r! L (n+42)) BH [I y2,.v (.int .i64 5)] H K=K (I (e5:Int)):=by rw[<-pe];exact JZ (n:=n+41) i2 (by decide) (by decide)
 have D:∀H K,Ak (r! L (n+42)) BH [I y1,I ks.length] H K=K (I (l:Int)):=by rw[<-pl];exact JZ (n:=n+41) i1 (by omega) (by omega)
 have ax:∀H K,Ak (r! L (n+42)) BH [I y2,I ks.length] H K=K (I (rr:Int)):=by rw[<-pr];exact JZ (n:=n+41) i2 (by omega) (by omega)
 have be:∀H K,Ak (r! L (n+42)) E9 [I y3] H K=K (.agg (BY (uu d))):=by rw[<-ek];exact O_ (n:=n) i3
 have ao:exM ks y0 y1 y2 y3=exO ks q a13 b4 d e5 l rr:=by unfold exM;rw[eq,ea,eb,ek,ee,el,er]
 rw[ao]at B;clear ao pq pa pb bo pe pl pr eq ea eb ek ee el er;have bd:∀{z:Int}{K:K2},Ch AC [(0,1,I z)] K=K (.agg (Nd.mk z [] [] u0 0 0 0).cs):=λ{z K}=>r_ rfl;have ad:∀{K:K2},Al Ab .add (.v (.int .i64 1)) (I (q:Int)) K=K (I ((q+1:Nat):Int)):=λ{K}=>by
  rw[Ck,BX (by omega) (by omega)];rw[show(1:Int)+(q:Int)=((q+1:Nat):Int) by omega]
 rw[y4 m1,ap,ad,bd];obtain⟨A,e2,C,w2,ai⟩:=DN (e:=AF) (zs:=(Nd.mk 0 [] [] u0 0 0 0).cs) (vs:=(Nd.mk ((q+1:Nat):Int) [] [] u0 0 0 0).cs) h1.wf rfl;rw[AW (cs:=(Nd.mk 0 [] [] u0 0 0 0).cs) rfl,Bx (cs:=(Nd.mk 0 [] [] u0 0 0 0).cs) (vs:=(Nd.mk ((q+1:Nat):Int) [] [] u0 0 0 0).cs) (Av (by simp)) rfl rfl rfl,<-e2];have o:=h1.oth;have h2:=h1.grow w2 λs x hs=>(ai s x hs).1;obtain⟨V,a6⟩:=ai _ _ m1;generalize Ay H1=m at C o a6;clear ai e2;refine KF λaf Z=>?_;have tail:∀(nd:Nd)(Hm:Hp)(U:UD)(e:Int),Md b r z ins id ks (Kh ks) ks v w u Hm->Ao Hm m=some (c_ AF nd.cs)->
  CS (r! L (n+42)) BW [.agg (Bn id (Bz ks) (BL (Kh ks)) u0),.agg nd.cs,I ks.length,OE ks] (.tup [.agg (BY U),I e])->
  (e=0/\nd.op≠8->∃k,U=uu k/\(exO ks q a13 b4 d e5 l rr).nd=[nd]/\(exO ks q a13 b4 d e5 l rr).ty ks=[k])->(¬(e=0/\nd.op≠8)->(exO ks q a13 b4 d e5 l rr).nd=[]/\(exO ks q a13 b4 d e5 l rr).ty ks=[])->af Hm=x:=by
  intro nd Hm U e hm mm y hg ab;have lp:∀{K},A9 AE (.ptr r 0 0) Hm K=K (.agg (Bn id v w u0)):=λ{K}=>AR rfl rfl hm.hr;have ln:∀{K},A9 AC (.ptr m 0 0) Hm K=K (.agg nd.cs):=λ{K}=>AR rfl rfl mm;rw[Z];simp only[lp,ln,hm.ty k1 y];obtain⟨M,e3,m3,w3,aj⟩:=DN (e:=Ax) (zs:=Ey) (vs:=BY U) hm.wf rfl;rw[CO,CN,AW (cs:=Ey) rfl,Bx (cs:=Ey) (vs:=BY U) (Av (by simp)) rfl rfl rfl,<-e3];have o3:=hm.oth;have O:=hm.grow w3 λs x hs=>(aj s x hs).1;obtain⟨m5, -⟩:=aj _ _ mm;generalize Ay Hm=q3 at m3 o3;clear aj e3;have ln3:∀{K},A9 AC (.ptr m 0 0) M K=K (.agg nd.cs):=λ{K}=>AR rfl rfl m5;have bn:∀{K},A9 Ab (.ptr m 0 0) M K=K (I nd.op):=λ{K}=>AH (p:=0) rfl m5 (show 0<26 by decide);rw[CP];by_cases Q:e=0
  ·rw[Iz Q];simp only[gT,BJ,sK,Wl,bn,GY,WT,T2];by_cases h8:nd.op=8
   ·obtain⟨g1,g2⟩:=ab λj=>j.2 h8;rw[Iz h8];show A1 (Bo false) _ _=_;rw[B6];refine B w u M ?_;rw[g1,g2,fV,fV];exact O
   ·obtain⟨k,rfl,g1,g2⟩:=hg ⟨Q,h8⟩;rw[Iy h8];show A1 (Bo true) _ _=_;obtain⟨J,H4,a1,a2,a3,a4⟩:=O.w1 nd (by rw[DB];omega);obtain⟨F,H5,b1,b2⟩:=a3.u1 k (by omega);have lu:∀{K},A9 Ap (.ptr q3 0 0) (Go.Abs.upd H4 r (G6 id v J u0)) K=K (.agg (BY (uu k))):=λ{K}=>AR rfl rfl (a4 _ _ o3.r o3.w m3);rw[Dg,O.ld2,ln3,B8s,a1,a2,lu,A3d,b1];refine B J F H5 ?_;rw[g1,g2];exact b2
  ·obtain⟨g1,g2⟩:=ab λj=>Q j.1;rw[Iy Q];simp only[uU,BJ,gU,T2];rw[B6];refine B w u M ?_;rw[g1,g2,fV,fV];exact O
 clear Z B;have lo:∀{K},A9 Ab (.ptr m 0 0) A K=K (I ((q+1:Nat):Int)):=λ{K}=>AH (p:=0) rfl C (show 0<26 by decide);rw[Wl,lo];refine KF λaz aa=>?_;have g:∀H,az H=af H:=λH=>by rw[aa]
 clear aa;have sm:∀{cs:Is}{N:Hp},Ao N q4=some (c_ FB [I y0,I y1,I y2,I y3])->Ao (Go.Abs.upd N m (c_ AF cs)) q4=some (c_ FB [I y0,I y1,I y2,I y3]):=λP=>by rw[Aj a6];exact P
 rw[CP];by_cases ae:2<=q/\q<6
 ·have y:=A0W (L:=L) (n:=n) (id:=id) (o:=u0) (xs:=Kh ks) (op:=q+1) k1 k3 k7 (show l<ks.length by omega) (show rr<ks.length by omega) (by omega) (by omega);rw[show q+1-3=q-2 by omega]at y;rw[Iy (by omega),B6,CP,Iy (by omega),B6,CP,Iy (by omega),B6,CP,Iy (by omega),B6,
   Y V,D,Wl,D9 C (show 24<26 by decide) rfl rfl rfl,a7 (sm V),ax,Wl,D9 (A4 C) (show 25<26 by decide) rfl rfl rfl,g]
  have R:=A6c (ks:=ks) (a13:=a13) (b4:=b4) (k7:=d) (e5:=e5) (l:=l) (r:=rr) ae.1 ae.2;have hm:=(h2.upd o (c_ AF ((Nd.mk ((q+1:Nat):Int) [] [] u0 0 0 0).cs.set 24 (I (l:Int))))).upd o (c_ AF (((Nd.mk ((q+1:Nat):Int) [] [] u0 0 0 0).cs.set 24 (I (l:Int))).set 25 (I (rr:Int))));cases hu:Sf (q-2) (ks.getD l 0) (ks.getD rr 0) with
  |none=>
   rw[hu]at y R;exact tail (mO (q+1) l rr) _ u0 90 hm (A4 (A4 C)) y (λj=>absurd j.1 (by decide)) (λ_=>by rw[R];exact⟨rfl,rfl⟩)
  |some k=>
   rw[hu]at y R;refine tail (mO (q+1) l rr) _ (uu k) 0 hm (A4 (A4 C)) y (λ_=>⟨k,rfl,by rw[R];exact⟨rfl,rfl⟩⟩) (λj=>absurd ⟨rfl,?_⟩ j);show((q+1:Nat):Int)≠8;omega
 ·obtain rfl|rfl|rfl|rfl:q=0\/q=1\/q=6\/q=7:=by omega
  ·have bg:∀{K:K2},Cy BZ (.ptr q4 0 0) (.v (.int .i64 1)) K=K (.ptr q4 1 0):=λ{K}=>D3 (z:=1) 1 rfl rfl (by decide);have bh:∀{K:K2},Cy BZ (.ptr q4 0 0) (.v (.int .i64 2)) K=K (.ptr q4 2 0):=λ{K}=>D3 (z:=2) 2 rfl rfl (by decide);have d1:∀{K:K2},A9 Ab (.ptr q4 1 0) A K=K (I y1):=λ{K}=>AH (p:=1) rfl V (by simp);have d2:∀{K:K2},A9 Ab (.ptr q4 2 0) A K=K (I y2):=λ{K}=>AH (p:=2) rfl V (by simp);have sb:∀{K:K2},Al Ab .sub (I (a13:Int)) (.v (.int .i64 6)) K=K (I ((a13:Int)-6)):=λ{K}=>by rw[Gx,BX (by omega) (by omega)]
   have a8:∀{K:K2},Al Ab .add (.v (.int .i64 1)) (I (b4:Int)) K=K (I (1+(b4:Int))):=λ{K}=>by rw[Ck,BX (by omega) (by omega)]
   have bc:∀H K,Ak (r! L (n+42)) EA [I ((a13:Int)-6),I (1+(b4:Int))] H K=K (.tup [.agg (WY (Zv a13 b4)),I 0]):=by
    have:=B3I L (n+2) (4*a13+b4) (by omega);rw[show(4*a13+b4)/4=a13 by omega,show(4*a13+b4)%4=b4 by omega]at this;exact this
   have y:=wI (L:=L) (n:=n) (id:=id) (o:=u0) (xs:=Kh ks) (ks:=ks) (at_:=ks.length) (w:=OE ks) (yE (a:=a13) (b:=b4) (by omega) (by omega)) (show d<7 by omega);rw[Iz (by rfl),Dg];simp only[bg,bh,d1,d2,ag,aq,sb,a8,bc,CO,CN,Wl,B4];rw[ZC (vs:=WY (Zv a13 b4)) C (show 1+2<=26 by decide) rfl rfl,BJ,bp (sm V),be,ZC (vs:=BY (uu d)) (A4 C) (show 3+20<=26 by decide) rfl rfl,g];have hm:=(h2.upd o (c_ AF (splice (Nd.mk ((0+1:Nat):Int) [] [] u0 0 0 0).cs 1 (WY (Zv a13 b4))))).upd o (c_ AF (splice (splice (Nd.mk ((0+1:Nat):Int) [] [] u0 0 0 0).cs 1 (WY (Zv a13 b4))) 3 (BY (uu d))));exact tail (cnN (Zv a13 b4) d) _ (uu d) 0 hm (A4 (A4 C)) y (λ_=>⟨d,rfl,rfl,rfl⟩) (λj=>absurd ⟨rfl,show(1:Int)≠8 by decide⟩ j)
  ·have y:=Vw (L:=L) (n:=n+39) (id:=id) (o:=u0) (xs:=Kh ks) (ks:=ks) (i:=l) (by omega) (by omega) (at_:=ks.length) (w:=OE ks);have eg:ks[l]'(by omega)=ks.getD l 0:=by simp[List.getD,II (show l<ks.length by omega)]
   rw[eg]at y;rw[Iy (by decide),B6,CP,Iz (by rfl),Dg,Y V,h2.ld1,IX (t:=Am) rfl h2.sv,D,Wl,D9 C (show 23<26 by decide) rfl rfl rfl,g];have hm:=h2.upd o (c_ AF ((Nd.mk ((1+1:Nat):Int) [] [] u0 0 0 0).cs.set 23 (I (l:Int))));exact tail (VR l) _ (uu (ks.getD l 0)) 0 hm (A4 C) y (λ_=>⟨ks.getD l 0,rfl,rfl,rfl⟩) (λj=>absurd ⟨rfl,show(2:Int)≠8 by decide⟩ j)
  ·have y:=A0V (L:=L) (n:=n) (id:=id) (o:=u0) (xs:=Kh ks) k1 k3 k7 (show l<ks.length by omega) (show e5<5 by omega);have a9:∀{N:Hp}{K:KV},F4 Fh 1 Ab 5 [(0,1,(AV.v (.int .i64 2))),(1,1,(AV.v (.int .i64 (-1)))),(2,1,(AV.v (.int .i64 3))),(3,1,(AV.v (.int .i64 (-2)))),(4,1,(AV.v (.int .i64 1)))] N K=K (.sl 1 (Ay N) 0 5) ((Ay N,.cells false Fh [I 2,I (-1),I 3,I (-2),I 1])::N):=λ{N K}=>by
    have e:F4 Fh 1 Ab 5 [(0,1,(AV.v (.int .i64 2))),(1,1,(AV.v (.int .i64 (-1)))),(2,1,(AV.v (.int .i64 3))),(3,1,(AV.v (.int .i64 (-2)))),(4,1,(AV.v (.int .i64 1)))] N K=GP N (λs=>K (.sl 1 s 0 5) ((s,.cells false Fh [I 2,I (-1),I 3,I (-2),I 1])::N)):=r_ rfl;rw[e,BQ]
   have bj:∀{s:Nat}{K:K2},Cy Ba (.sl 1 s 0 5) (I (e5:Int)) K=K (.ptr s e5 0):=λ{s K}=>by
    have e1:Cy Ba (.sl 1 s 0 5) (I (e5:Int)) K=iN (e5:Int) λm=>ck (Nat.blt m 5) (fN (Nat.add 0 (Nat.mul m 1)) λp=>K (.ptr s p 0)):=r_ rfl;rw[e1,KO,Ep];have O:Nat.blt e5 5=true:=by rw[Ua];omega
    rw[O];show K (.ptr s (0+e5*1) 0)=_;rw[Le,l28]
   have gd:([I 2,I (-1),I 3,I (-2),I 1]:Is).getD e5 .dk=I (ZA e5):=by
    obtain rfl|rfl|rfl|rfl|rfl:e5=0\/e5=1\/e5=2\/e5=3\/e5=4:=by omega
    all_goals rfl
   rw[Iy (by decide),B6,CP,Iy (by decide),B6,CP,Iz (by rfl),Dg,Y V,D,Wl,D9 C (show 24<26 by decide) rfl rfl rfl,a9];have m3:=A4 (q:=true) (e:=AF) (cs:=(Nd.mk ((6+1:Nat):Int) [] [] u0 0 0 0).cs.set 24 (I (l:Int))) C;have O:=h2.upd o (c_ AF ((Nd.mk ((6+1:Nat):Int) [] [] u0 0 0 0).cs.set 24 (I (l:Int))));have s3:=sm (cs:=(Nd.mk ((6+1:Nat):Int) [] [] u0 0 0 0).cs.set 24 (I (l:Int))) V;generalize Go.Abs.upd A m (c_ AF ((Nd.mk ((6+1:Nat):Int) [] [] u0 0 0 0).cs.set 24 (I (l:Int))))=M at m3 O s3;have w4:=Bw (x:=.cells false Fh [I 2,I (-1),I 3,I (-2),I 1]) O.wf;have k4:∀s x,Ao M s=some x->Ao ((Ay M,.cells false Fh [I 2,I (-1),I 3,I (-2),I 1])::M) s=some x:=λs x hs=>AQ (O.wf.lt hs) hs;have h4:=O.grow w4 k4;have X:=k4 _ _ m3;have s4:=k4 _ _ s3;have n4:=Av (H:=M) (x:=.cells false Fh [I 2,I (-1),I 3,I (-2),I 1]) (by simp);generalize ((Ay M,Row.cells false Fh [I 2,I (-1),I 3,I (-2),I 1])::M)=H4 at h4 X s4 n4;rw[a7 s4,ar,bj,AH (p:=e5) rfl n4 (show e5<5 by omega),gd,Wl,D9 X (show 23<26 by decide) rfl rfl rfl,g];have hm:=h4.upd o (c_ AF (((Nd.mk ((6+1:Nat):Int) [] [] u0 0 0 0).cs.set 24 (I (l:Int))).set 23 (I (ZA e5))));have R:exO ks 6 a13 b4 d e5 l rr=match Ui (ks.getD l 0) e5 with
    |some k=>.po l e5 k
    |none=>.no:=rfl
   cases hu:Ui (ks.getD l 0) e5 with
   |none=>
    rw[hu]at y R;exact tail (poN l e5) _ u0 90 hm (A4 X) y (λj=>absurd j.1 (by decide)) (λ_=>by rw[R];exact⟨rfl,rfl⟩)
   |some k=>
    rw[hu]at y R;exact tail (poN l e5) _ (uu k) 0 hm (A4 X) y (λ_=>⟨k,rfl,by rw[R];exact⟨rfl,rfl⟩⟩) (λj=>absurd ⟨rfl,show(7:Int)≠8 by decide⟩ j)
  ·have g7:=Ks k7 (show l<ks.length by omega);have he:=Gb.1 (show((List.range 7).all λk=>decide ((usq k).2=0\/(usq k).2=70))=true by kernel_rfl) (ks.getD l 0) (I2.2 g7);have y:=A8R (L:=L) (n:=n) (id:=id) (o:=u0) (xs:=Kh ks) (l2t he) k1 k3 (show l<ks.length by omega) (B6F L (n+1) _ g7).o;rw[Iy (by decide),B6,CP,Iy (by decide),B6,CP,Iy (by decide),B6,CP,Iz (by rfl),Dg,Y V,D,Wl,D9 C (show 24<26 by decide) rfl rfl rfl,g];have hm:=h2.upd o (c_ AF ((Nd.mk ((7+1:Nat):Int) [] [] u0 0 0 0).cs.set 24 (I (l:Int))));by_cases h0:(usq (ks.getD l 0)).2=0
   ·rw[CJ h0]at y;exact tail (sqN l) _ _ 0 hm (A4 C) y (λj=>absurd rfl j.2) (λ_=>⟨rfl,rfl⟩)
   ·rw[Co h0]at y;exact tail (sqN l) _ u0 90 hm (A4 C) y (λj=>absurd rfl j.2) (λ_=>⟨rfl,rfl⟩)
end
end
section
variable{L n:Nat}
abbrev Y4:=Option (Int×Int×Int×Int)
def exY(ks:Hb):Y4->Ex
 |none=>.no
 |some (a,b,c,d)=>exM ks a b c d
def yA:Y4->AV
 |none=>A7
 |some (a,b,c,d)=>.list 1 [I a,I b,I c,I d]
def yI:Y4->Prop
 |none=>True
 |some (a,b,c,d)=>J8 a/\J8 b/\J8 c/\J8 d
def fS(ins:List Int)(count:Int)(y:Y4):Pr:=⟨1+(pk count 900).toNat,ksM ins ((pk count 3).toNat+1),exY (ksM ins ((pk count 3).toNat+1)) y⟩
section
variable{K:KV}{x:Af}{ins:List Int}{id:Int}{ks us:Hb}{xs:List Nd}{v w u:AV}{b r z m:Nat}{H H':Hp}{count:Int}{y:Y4}
def A1f(h:ins.length=3):(ksM ins ((pk count 3).toNat+1)).length=(pk count 3).toNat+1/\(pk count 3).toNat<3:=by
 have pr:=Ed (c:=count) (n:=3) (by decide);unfold ksM;rw[WV,xS];omega
def B0M{i:Nat}:∀k∈ksM ins i,k<7:=by
 intro k hk;obtain⟨c,_,rfl⟩:=US.1 hk;have pr:=Ed (c:=c) (n:=7) (by decide);omega
def R!(h:ins.length=3):(fS ins count y).Ok:=by
 have pr:=Ed (c:=count) (n:=900) (by decide);obtain⟨h1,h2⟩:=A1f (count:=count) h;have e:(fS ins count y).ks.length=(pk count 3).toNat+1:=h1;refine⟨by show 1<=1+_;omega,by show 1+_<950;omega,by rw[e];omega,by rw[e];omega,B0M,?_⟩
 match y with
 |none=>exact trivial
 |some (a,b,c,d)=>exact B4P (by show 1<=(ksM ins ((pk count 3).toNat+1)).length;rw[h1];omega)
def A59(sv:AT H Ax 20 v ks.length (ks.flatMap FN))(nv:ks=[]->v=A7)(sw:AT H AF 26 w xs.length (xs.flatMap xB))(nw:xs=[]->w=A7)(h1:1<=ks.length)(h2:1<=xs.length){D:Nat}{bb:Bool}{o:UD}:∃q,Fx bb (D+2) (.agg (Bn id v w o)) (.agg (Bn id (Bz ks) (BL xs) o)) H q:=by
 obtain⟨q1,a⟩:=Zt (D:=D) (b:=bb) sv nv;obtain⟨q2,c⟩:=A5T (D:=D) (b:=bb) sw nw;rw[A0M h1]at a;rw[A17 h2]at c;exact⟨_,PJ (D:=D+1) (Az (q:=false) Er (Az a (Az c (JO (b:=bb) (D:=D+1) (H:=H) (λx:Value=>x) [.int .i64 o.p0,.int .i64 o.q0,.int .i64 o.p1,.int .i64 o.q1,.int .i64 o.p2,.int .i64 o.q2,.int .i64 o.p3,.int .i64 o.q3,.int .i64 o.p4,.int .i64 o.q4,.int .i64 o.p5,.int .i64 o.q5,.int .i64 o.p6,.int .i64 o.q6,
  .string ⟨⟨o.fn⟩⟩,.string ⟨⟨o.fd⟩⟩,.string ⟨⟨o.on⟩⟩,.string ⟨⟨o.od⟩⟩,.int .i64 o.kd,.int .i64 o.sc]))))⟩
def pJ{o:UD}(h1:AV.one v=true)(h2:AV.one w=true):(Bn id v w o).all AV.one=true:=by
 show(true&&(AV.one v&&(AV.one w&&true)))=true;rw[h1,h2];rfl
def B4b(h:Md b r z ins id ks xs us v w u H)(h1:1<=ks.length)(h2:1<=xs.length)(Y:us.length=xs.length)(Z:us.length<1000)(O:∀P N,(∀b,∃q,Fx b depth P (.agg (Bn id (Bz ks) (BL xs) (uu (us.getD (xs.length-1) 0)))) N q)->K P N=x):
 (Bi Am u λp=>
  Al Ab .sub p (AV.v (.int .i64 1)) λA=>
  Cy Am u A λB=>
  A9 Ap B H λC=>
  CC 3 (.ptr r 0 0) λF=>
  DD Ap F C H λc=>
  A9 AE (.ptr r 0 0) c λJ=>
  DD AE (.ptr z 0 0) J c λd=>
  A9 AE (.ptr z 0 0) d λM=>
  K M d)=x:=by
 have f:us.length-1<us.length:=by omega
 obtain⟨a,X,g⟩:=A0L h.su f;have R:us[us.length-1]=us.getD (xs.length-1) 0:=by rw[<-Y];simp[List.getD,II f]
 rw[R]at g;generalize us.getD (xs.length-1) 0=k at g O;obtain⟨cs,c1,c2⟩:=h.hz;rw[IX (t:=Am) rfl h.su,ZQ (by omega) (by omega),X,g,Wl,ZC (vs:=BY (uu k)) h.hr (show 3+20<=23 by decide) rfl rfl];have r1:=A4 (q:=true) (e:=BK) (cs:=Bn id v w (uu k)) h.hr;have Q:Ao (Go.Abs.upd H r (G6 id v w (uu k))) z=some (c_ BK cs):=by rw[Aj h.zr];exact c2
 have V:splice (Bn id v w u0) 3 (BY (uu k))=Bn id v w (uu k):=rfl;rw[V,AR (cs:=Bn id v w (uu k)) rfl rfl r1,Bx Q (by exact c1.symm) (by exact c1.symm) (pJ (AT.one h.sv) (AT.one h.sw)),AR (cs:=Bn id v w (uu k)) rfl rfl (A4 Q)];refine O _ _ λq=>?_;refine A59 (D:=depth-2) (h.sv.kp λs x j i=>?_) h.nv (h.sw.kp λs x j i=>?_) h.nw h1 h2
 ·have:=h.av s j;rw[Aj this.2.2.1,Aj this.2.1];exact i
 ·have:=h.aw s j;rw[Aj this.2.2.1,Aj this.2.1];exact i
def A4V(F:100<L)(B:ins.length=3)(d:∀c∈ins,J8 c)(hc:J8 count)(p:yI y):
 CS (r! L (n+43)) Ot [.agg (E7 ins),I count,yA y,Bo true] (.agg (Bn (fS ins count y).id (Bz (fS ins count y).ks) (BL (fS ins count y).xs) (uu (fS ins count y).out))):=by
 intro K Y;have J:=R! (count:=count) (y:=y) B;obtain⟨p1,p2,p3⟩:=YX J;obtain⟨C,l2⟩:=A1f (count:=count) B;have pr:=Ed (c:=count) (n:=900) (by decide);rw[jV];unfold SM GI Aq;have k1:∀H K,Ak (r! L (n+42)) BH [I count,.v (.int .i64 900)] H K=K (I (pk count 900)):=JZ (n:=n+41) hc (by decide) (by decide);have A:((fS ins count y).id:Int)=1+pk count 900:=by show((1+(pk count 900).toNat:Nat):Int)=_;omega
 have N:∀{K:K2},Al Ab .add (.v (.int .i64 1)) (I (pk count 900)) K=K (I ((fS ins count y).id:Int)):=λ{K}=>by rw[Ck,BX (by omega) (by omega),A]
 have O:∀{i:Int}{K:K2},Ch AE [(0,1,I i)] K=K (.agg (Bn i A7 A7 u0)):=λ{i K}=>r_ rfl;rw[EM (pV ins)];have hb:=Av (H:=[]) (x:=.cells true RC (E7 ins)) (by simp);have w0:=Bw (x:=.cells true RC (E7 ins)) EH;generalize ((Ay [],c_ RC (E7 ins))::([]:Hp))=j at hb w0;generalize Ay []=b at hb;rw[AW (cs:=Bn 0 A7 A7 u0) rfl];have hz:=Av (H:=j) (x:=.cells true BK (Bn 0 A7 A7 u0)) (by simp);have b1:=AQ (x:=.cells true BK (Bn 0 A7 A7 u0)) (w0.lt hb) hb;have w1:=Bw (x:=.cells true BK (Bn 0 A7 A7 u0)) w0;generalize ((Ay j,c_ BK (Bn 0 A7 A7 u0))::j)=M at hz w1 b1;generalize Ay j=z at hz;rw[k1,N,O,AW (cs:=Bn 0 A7 A7 u0) rfl];obtain⟨D,R,r2,Z,kp⟩:=DN (e:=BK) (zs:=Bn 0 A7 A7 u0) (vs:=Bn (fS ins count y).id A7 A7 u0) w1 rfl;rw[Bx (cs:=Bn 0 A7 A7 u0) (vs:=Bn (fS ins count y).id A7 A7 u0) (Av (by simp)) rfl rfl rfl,<-R];obtain⟨b2,f⟩:=kp _ _ b1;obtain⟨z2,g⟩:=kp _ _ hz;generalize Ay M=r at r2 f g;have no:∀{s:Nat}{P:Prop},AD A7 s->P:=λ⟨_,_,_,h⟩=>by cases h
 have X:Md b r z ins (fS ins count y).id (ksM ins 0) [] [] A7 A7 A7 D:=⟨b2,r2,⟨_,rfl,z2⟩,.inl ⟨rfl,rfl,rfl⟩,λ_=>rfl,.inl ⟨rfl,rfl,rfl⟩,λ_=>rfl,.inl ⟨rfl,rfl,rfl⟩,λ_=>rfl,f,g,λ_=>no,λ_=>no,λ_=>no,Z⟩
 simp only[Ca];refine B6X F B d hc (λv H k=>?_) (L+20) 0 A7 D (by omega) (by omega) X;refine B6Y (n:=n) F (by rw[C];omega) (λw u H k=>?_) (L+20) 0 A7 A7 H (by omega) (by omega) k;have fin:∀t q H',Md b r z ins (fS ins count y).id (fS ins count y).ks (fS ins count y).xs (fS ins count y).ty v t q H'->_:=λt q H' a=>B4b (K:=K) a J.k1 p2 p1 (by omega) Y
 match y with
 |none=>
  show JW (L+20) (r! L (n+42)) K _ ((L+19)+1) _ A7 _ _ _ _ _ _ _ _ H=_;rw[NJ];unfold JX DV Qg Tg GI B3 EU Aq JR EV;have V:∀{K:K2},Bi GZ A7 K=K (I ((0:Nat):Int)):=λ{K}=>r_ rfl;have Q:(AV.v (.int .i64 0))=I ((0:Nat):Int):=rfl;rw[V,Q,Ga (by omega)];simp only[uU,BJ,T2];rw[B6];refine fin w u H ?_;show Md b r z ins _ _ (Kh _++[]) (_++[]) v w u H;rw[fV,fV];exact k
 |some (y0,y1,y2,y3)=>
  exact B6Z (n:=n) k (by rw[C];omega) (by rw[C];omega) B0M p.1 p.2.1 p.2.2.1 p.2.2.2 (λt q H' a=>fin t q H' a) (L+18)
end
end
section
variable{x1:Int}{ks:Hb}{i:Nat}
variable{L n:Nat}
def PL(H:Hp)(l:List Ha)(a:AV):Prop:=SA l a\/AT H A0 1 a l.length (Bj l)
section
variable{H H':Hp}{l:List Ha}{a:AV}{K:K2}
theorem PL.len(h:PL H l a):Bi Ad a K=K (I l.length):=by
 rcases h with h|h
 ·exact h.len
 ·exact IX (t:=Ad) rfl h
def A4l(h:AT H A0 1 a l.length (Bj l))(c:i<l.length):(Cy Ad a (I i) λp=>A9 Ag p H K)=K (S l[i]):=by
 rcases h with⟨_,h2,_⟩|⟨r,q,rfl,h2,d⟩
 ·omega
 ·have e:∀K:K2,Cy Ad (.sl 1 r 0 l.length) (I (i:Int)) K=iN (i:Int) λm=>ck (Nat.blt m l.length) (fN (Nat.add 0 (Nat.mul m 1)) λp=>K (.ptr r p 0)):=λK=>r_ rfl;rw[e,KO,Ep];have d:Nat.blt i l.length=true:=by rw[Ua];exact c
  rw[d];show A9 Ag (.ptr r (0+i*1) 0) H K=_;rw[Le,l28,AH rfl h2 (by simp[Bj];exact c),Mm c]
def PL.at(h:PL H l a)(c:i<l.length):(Cy Ad a (I i) λp=>A9 Ag p H K)=K (S l[i]):=by
 rcases h with h|h
 ·rw[h.ia c,IK]
 ·exact A4l h c
def PL.at2(h:PL H l a)(c:i<l.length):∃p,(∀K:K2,Cy Ad a (I i) K=K p)/\∀K:K2,A9 Ag p H K=K (S l[i]):=by
 rcases h with h|h
 ·exact⟨_,λK=>h.ia c,λK=>IK⟩
 ·rcases h with⟨_,h2,_⟩|⟨r,q,rfl,h2,d⟩
  ·omega
  ·refine⟨.ptr r i 0,λK=>?_,λK=>by rw[AH rfl h2 (by simp[Bj];exact c),Mm c]⟩;have e:∀K:K2,Cy Ad (.sl 1 r 0 l.length) (I (i:Int)) K=iN (i:Int) λm=>ck (Nat.blt m l.length) (fN (Nat.add 0 (Nat.mul m 1)) λp=>K (.ptr r p 0)):=λK=>r_ rfl;rw[e,KO,Ep];have d:Nat.blt i l.length=true:=by rw[Ua];exact c
   rw[d];show K (.ptr r (0+i*1) 0)=_;rw[Le,l28]
theorem PL.kp(h:PL H l a)(k:∀s x,Ao H s=some x->Ao H' s=some x):PL H' l a:=by
 rcases h with h|h
 ·exact .inl h
 ·exact .inr (h.kp λs x _=>k s x)
end
def YA(H:Hp)(y:Y4)(a:AV):Prop:=∀H',(∀s x,Ao H s=some x->Ao H' s=some x)->∃q,Fx true depth a (yA y) H' q
def Xz(i:Int)(p:Ha)(ps:List Ha):Ha:=ps.foldl (λp q=>if q=p then nM (-1-i) else p) p
def sF(x1:Int)(l:List Ha):Nat->List Ha
 |0=>[]
 |i+1=>sF x1 l i++[Xz i (if h:i<l.length then l[i] else nM (pk (x1.tdiv 3) 1000+i)) (sF x1 l i)]
def Xw{l:List Ha}:∀i,(sF x1 l i).length=i:=by
 intro i
 induction i with
 |zero=>rfl
 |succ i ih=>simp[sF,ih]
def wY(c:Int):(nM c).length=32:=UA _ 8
def A2u{i:Int}:∀(ps:List Ha)(p:Ha),p.length=32->(Xz i p ps).length=32:=by
 intro ps
 induction ps with
 |nil=>intro p h;exact h
 |cons q ps ih=>
  intro p h;show(Xz i (if q=p then nM (-1-i) else p) ps).length=32;by_cases hq:q=p
  ·rw[CJ hq];exact ih _ (wY _)
  ·rw[Co hq];exact ih _ h
def B3T{l:List Ha}(d:∀s∈l,s.length=32):∀i,∀s∈sF x1 l i,s.length=32:=by
 intro i
 induction i with
 |zero=>intro s c;simp[sF]at c
 |succ i ih=>
  intro s c;rcases VP.1 c with c|c
  ·exact ih s c
  ·rw[eX]at c;subst c;apply A2u;by_cases h:i<l.length
   ·rw[dif_pos h];exact d _ (Na h)
   ·rw[dif_neg h];exact wY _
def Lf{a b:Int}(h:J8 a)(hb:1<=b):J8 (a.tdiv b):=by
 unfold J8 at h⊢;by_cases c:0<=a
 ·have h1:=Int.tdiv_nonneg c (by omega:0<=b);have h2:a.tdiv b<=a:=Int.tdiv_le_self b c;omega
 ·have e:a.tdiv b= -((-a).tdiv b):=by rw[Int.neg_tdiv,Int.neg_neg]
  have h1:=Int.tdiv_nonneg (by omega:0<= -a) (by omega:0<=b);have h2:(-a).tdiv b<= -a:=Int.tdiv_le_self b (by omega);omega
def ZT{a b:Int}{K:K2}(h:J8 a)(hb:1<=b):Al Ab .quo (I a) (.v (.int .i64 b)) K=K (I (a.tdiv b)):=by
 have h1:=Lf h hb;rw[zH (by omega),BX h1.1 h1.2]
structure Mc(H0:Hp)(b1 b2 r z:Nat)(X F:Is)(H:Hp):Prop where
 h1:Ao H b1=some (c_ GH X)
 h2:Ao H b2=some (c_ GH F)
 hz:∃cs,cs.length=68/\Ao H z=some (c_ Ae cs)
 wf:Wf H
 n1:b1≠r
 n2:b2≠r
 nz:z≠r
 f1:Ay H0<=b1
 f2:Ay H0<=b2
 f3:Ay H0<=r
 f4:Ay H0<=z
 w0:Wf H0
 kp:∀s x,Ao H0 s=some x->Ao H s=some x
section
variable{K:KV}{x:Af}{H0 H H':Hp}{b1 b2 r z:Nat}{X F:Is}{ps l:List Ha}{v a3:AV}{cR:AV->Is}
theorem Mc.upd(h:Mc H0 b1 b2 r z X F H)(y:Row):Mc H0 b1 b2 r z X F (upd H r y):=by
 obtain⟨cs,c1,c2⟩:=h.hz;exact⟨by rw[Aj h.n1];exact h.h1,by rw[Aj h.n2];exact h.h2,⟨cs,c1,by rw[Aj h.nz];exact c2⟩,BF h.wf,h.n1,h.n2,h.nz,h.f1,h.f2,h.f3,h.f4,h.w0,λs x c=>by
  have:=h.w0.lt c;have:=h.f3;rw[Aj (by omega)];exact h.kp s x c⟩
structure Pl(H0:Hp)(b1 b2 r z:Nat)(X F:Is)(cR:AV->Is)(ps:List Ha)(v:AV)(H:Hp):Prop where
 mc:Mc H0 b1 b2 r z X F H
 hr:Ao H r=some (c_ Ae (cR v))
 sv:AT H A0 1 v ps.length (Bj ps)
 nv:ps=[]->v=A7
 fr:∀s,AD v s->Ay H0<=s/\s≠b1/\s≠b2/\s≠r/\s≠z
structure CR(cR:AV->Is)(ks:Hb):Prop where
 len:∀v,(cR v).length=68
 set:∀v v',(cR v).set 31 v'=cR v'
 get:∀v,(cR v).getD 31 .dk=v
 ins:∀v,(cR v).getD 33 .dk=Bz ks
def B6M{c:AV->AV->AV->AV->AV->AV->KV}(s:40000<L)(hc:CR cR ks)(y:i<3)(j:Pl H0 b1 b2 r z X F cR ps v H)(hb:ps.length<=3):
 ∀(f k:Nat)(p:Ha),k<=ps.length->ps.length-k<f->c a3 (.ptr b1 0 0) (.ptr z 0 0) (.ptr r 0 0) (I i) (S (Xz i p (ps.drop k))) (I ps.length) H=x->
 QE (L+20) (r! L (n+43)) K c f a3 (.ptr b1 0 0) (.ptr z 0 0) (.ptr r 0 0) (I i) (S p) (I k) H=x:=by
 intro f
 induction f with
 |zero=>intro k p _ h;omega
 |succ f ih=>
  intro k p hk w g;rw[dT];unfold QG DV GI Aq;have e:∀{K},A9 Ad (.ptr r 31 0) H K=K v:=λ{K}=>by rw[AH (p:=31) rfl j.hr (by rw[hc.len];decide),hc.get]
  rw[Wl,e,IX (t:=Ad) rfl j.sv];by_cases h:k<ps.length
  ·rw[FZ (by omega),Dg];simp only[Ca];have m:∀{K:K2},Al Ab .add (I k) (.v (.int .i64 1)) K=K (I ((k+1:Nat):Int)):=λ{K}=>Dc (by omega);have sb:∀{K:K2},Al Ab .sub (.v (.int .i64 (-1))) (I (i:Int)) K=K (I (-1-(i:Int))):=λ{K}=>by rw[Gx,BX (by omega) (by omega)]
   have u:∀{K:K2},Ak (r! L (n+43)) F2 [I (-1-(i:Int))] H K=K (S (nM (-1-(i:Int)))):=λ{K}=>jE (n:=n+23) s (by omega) (by omega) H K;have q:ps.drop k=ps[k]::ps.drop (k+1):=l11 h;rw[q]at g;have d:c a3 (.ptr b1 0 0) (.ptr z 0 0) (.ptr r 0 0) (I i) (S (Xz i (if ps[k]=p then nM (-1-i) else p) (ps.drop (k+1)))) (I ps.length) H=x:=g;rw[Wl,e,A4l j.sv h,GK];by_cases hq:ps[k]=p
   ·rw[Iz hq,Dg,sb,u,m];rw[CJ hq]at d;exact ih (k+1) _ (by omega) (by omega) d
   ·rw[Iy hq,B6,m];rw[Co hq]at d;exact ih (k+1) _ (by omega) (by omega) d
  ·have:k=ps.length:=by omega
   subst this;rw[List.drop_length]at g;rw[Ga (by omega),B6];exact g
def B6N{j:AV->AV->KV}{x0 x1 x2 x3 x4 x5:Int}(Z:40000<L)(hc:CR cR ks)(h1:J8 x1)(aa:ks.length<=3)(N:PL H0 l a3)(hb:l.length<1000)(M:∀s∈l,s.length=32)(q:∀v H,Pl H0 b1 b2 r z [I x0,I x1,I x2,I x3,I x4,I x5] F cR (sF x1 l ks.length) v H->j (.ptr b1 0 0) (.ptr z 0 0) (.ptr r 0 0) H=x):
 ∀(f i:Nat)(v D d1:AV)(H:Hp),i<=ks.length->ks.length-i<f->Pl H0 b1 b2 r z [I x0,I x1,I x2,I x3,I x4,I x5] F cR (sF x1 l i) v H->
 QF (L+20) (r! L (n+43)) K j f a3 (.ptr b1 0 0) (.ptr z 0 0) (.ptr r 0 0) (I i) D d1 H=x:=by
 intro f
 induction f with
 |zero=>intro i v D d1 H _ h;omega
 |succ f ih=>
  intro i v D d1 H hi hf d;rw[dU];unfold QH DV GI B3 Aq EV;have P:∀{K},A9 Am (.ptr r 33 0) H K=K (Bz ks):=λ{K}=>by rw[AH (p:=33) rfl d.hr (by rw[hc.len];decide),hc.ins]
  have fa:∀{K:K2},CC 1 (.ptr r 32 0) K=K (.ptr r 33 0):=λ{K}=>by rw[fA]
  rw[Wl,fa,P,NB];by_cases h:i<ks.length
  ·have pr:=Ed (c:=x1.tdiv 3) (n:=1000) (by decide);have ia:∀{K:K2},Cy Be (.ptr b1 0 0) (.v (.int .i64 1)) K=K (.ptr b1 1 0):=λ{K}=>D3 (z:=1) 1 rfl rfl (by decide);have d1:∀{K:K2},A9 Ab (.ptr b1 1 0) H K=K (I x1):=λ{K}=>AH (p:=1) rfl d.mc.h1 (by simp);have Q:∀{H K},Ak (r! L (n+43)) Bs [I (x1.tdiv 3),.v (.int .i64 1000)] H K=K (I (pk (x1.tdiv 3) 1000)):=λ{H K}=>JY (n:=n+42) (Lf h1 (by decide)) (by decide) (by decide) H K;have ad:∀{K:K2},Al Ab .add (I (pk (x1.tdiv 3) 1000)) (I (i:Int)) K=K (I (pk (x1.tdiv 3) 1000+i)):=λ{K}=>by rw[Ck,BX (by omega) (by omega)]
   have pa:∀{K:K2},Ak (r! L (n+43)) F2 [I (pk (x1.tdiv 3) 1000+i)] H K=K (S (nM (pk (x1.tdiv 3) 1000+i))):=λ{K}=>jE (n:=n+23) Z (by omega) (by omega) H K;rw[FZ (by omega),Dg,ia,d1,ZT h1 (by decide),Q,ad,pa];refine KF λy g=>?_;have hk:∀p:Ha,p=(if h:i<l.length then l[i] else nM (pk (x1.tdiv 3) 1000+i))->y (S p) H=x:=by
    intro p hp;rw[g];simp only[Ca];refine B6M Z hc (by omega) d (by rw[Xw];omega) (L+20) 0 p (by omega) (by rw[Xw];omega) ?_;rw[l1n];have O:∀{K},A9 Ad (.ptr r 31 0) H K=K v:=λ{K}=>by rw[AH (p:=31) rfl d.hr (by rw[hc.len];decide),hc.get]
    obtain⟨v',H',a1,a2,C,a4,m,R⟩:=uF (ie:=Ag) (i2:=Ad) (ys:=Bj [Xz i p (sF x1 l i)]) d.sv d.mc.wf rfl rfl (by decide) rfl (λ_=>rfl) (by rw[Xw];show(i+1)*16<=_;omega) (by rw[Xw];omega);obtain⟨cs,c1,c2⟩:=d.mc.hz;have w:=m _ _ d.hr λe=>(d.fr _ e).2.2.2.1 rfl;have q1:=d.mc.wf.lt d.mc.h1;have q2:=d.mc.wf.lt d.mc.h2;have q3:=d.mc.wf.lt d.hr;have q4:=d.mc.wf.lt c2;have q0:=d.mc.f1;rw[Wl,O,Yy,a1,Wl,D9 w (by rw[hc.len];decide) rfl (AT.cell a2) (AT.one a2),hc.set,Dc (by omega)];have A:sF x1 l (i+1)=sF x1 l i++[Xz i p (sF x1 l i)]:=by rw[hp];rfl
    refine ih (i+1) v' _ _ _ (by omega) (by omega) ⟨?_,A4 w,?_,λe=>?_,λs k=>?_⟩
    ·refine⟨by rw[Aj d.mc.n1];exact m _ _ d.mc.h1 (λe=>(d.fr _ e).2.1 rfl),by rw[Aj d.mc.n2];exact m _ _ d.mc.h2 (λe=>(d.fr _ e).2.2.1 rfl),⟨cs,c1,by rw[Aj d.mc.nz];exact m _ _ c2 (λe=>(d.fr _ e).2.2.2.2 rfl)⟩,BF C,d.mc.n1,d.mc.n2,d.mc.nz,d.mc.f1,d.mc.f2,d.mc.f3,d.mc.f4,d.mc.w0,λs x k=>?_⟩;have V:=d.mc.w0.lt k;have Y:=d.mc.f3;rw[Aj (by omega)];exact m _ _ (d.mc.kp s x k) (λe=>by have:=(d.fr _ e).1;omega)
    ·rw[A,E6];have:Bj (sF x1 l i++[Xz i p (sF x1 l i)])=Bj (sF x1 l i)++Bj [Xz i p (sF x1 l i)]:=by simp[Bj]
     rw[this];refine AT.kp a2 λs x k N=>?_;have:=R s k;rw[Aj (by omega)];exact N
    ·rw[A]at e;simp at e
    ·have:=R s k;omega
   clear g;have u:=N.kp d.mc.kp;rw[u.len];by_cases B:i<l.length
   ·obtain⟨p,V,Y⟩:=u.at2 B;have J:∀{K:K2},Al Ab .eql (I ((l[i].length:Nat):Int)) (.v (.int .i64 32)) K=K (Bo true):=λ{K}=>by
     rw[CP,M _ (Na B)];rfl
    rw[FZ (by omega)];simp only[gT,BJ,V,Y,MR (t:=Ag) rfl,J,WT];rw[Dg];exact hk _ (by rw[dif_pos B])
   ·rw[Ga (by omega)];simp only[uU,BJ,T2];rw[B6];exact hk _ (by rw[dif_neg B])
  ·have:i=ks.length:=by omega
   subst this;rw[Ga (by omega),B6];exact q v H d
end
end
section
variable{L n:Nat}
def Cd.csP(c:Cd)(P:AV):Is:=match c with
 |.re b u=>Dj 1 b.m (uu u) (qn b.c) (qd b.c) (Ek b.ts) (qn b.r) (qd b.r) P 0 A7 A7 u0 r0 0
 |.co b p _ none=>Dj 2 b.m (uu p.out) (qn b.c) (qd b.c) (Ek b.ts) (qn b.r) (qd b.r) P p.id (Bz p.ks) (BL p.xs) (uu p.out) r0 0
 |.co b p _ (some (k,vd))=>Dj 3 b.m (uu p.out) (qn b.c) (qd b.c) (Ek b.ts) (qn b.r) (qd b.r) P p.id (Bz p.ks) (BL p.xs) (uu p.out) (rr k) vd
def B58(c:Cd):c.csP (Gp c.ps)=c.cs:=by
 match c with
 |.re b u=>rfl
 |.co b p ps none=>rfl
 |.co b p ps (some (k,vd))=>rfl
def cbM(x1 x2 x3 x4 x5:Int)(a:List Int):CB:=⟨⟨1+pk x1 3,1+pk x2 9,1+pk x3 4,pk x4 50,pk x5 30⟩,pk (x3.tdiv 4) 161-80,pk (x4.tdiv 50) 9,Je a 6⟩
def C_(x0 x1 x2 x3 x4 x5 f0 f1 f2 f3 f4 f5:Int)(y:Y4)(l:List Ha):Cd:=
 if pk x0 3=0 then .re (cbM x1 x2 x3 x4 x5 [f0,f1,f2,f3,f4,f5]) (pk (x5.tdiv 30) 7).toNat
 else .co (cbM x1 x2 x3 x4 x5 [f0,f1,f2,f3,f4,f5]) (fS [f0,f1,f2] (x2.tdiv 9) y) (sF x1 l (fS [f0,f1,f2] (x2.tdiv 9) y).ks.length)
  (if pk x0 3=1 then none else some (1+(pk (x0.tdiv 3) 3).toNat,1+pk (x0.tdiv 9) 3))
def mC{x0 x1 x2 x3 x4 x5 f0 f1 f2 f3 f4 f5:Int}{y:Y4}{l:List Ha}(a:∀s∈l,s.length=32):(C_ x0 x1 x2 x3 x4 x5 f0 f1 f2 f3 f4 f5 y l).Ok:=by
 have p1:=Ed (c:=x1) (n:=3) (by decide);have p2:=Ed (c:=x2) (n:=9) (by decide);have p3:=Ed (c:=x3) (n:=4) (by decide);have p4:=Ed (c:=x4) (n:=50) (by decide);have p5:=Ed (c:=x5) (n:=30) (by decide);have p6:=Ed (c:=x3.tdiv 4) (n:=161) (by decide);have d:=Ed (c:=x4.tdiv 50) (n:=9) (by decide);have e:=Ed (c:=x5.tdiv 30) (n:=7) (by decide);have f:=Ed (c:=x0.tdiv 3) (n:=3) (by decide);have g:=Ed (c:=x0.tdiv 9) (n:=3) (by decide);have hb:(cbM x1 x2 x3 x4 x5 [f0,f1,f2,f3,f4,f5]).Ok:=by
  refine⟨?_,?_,?_,?_,?_,(A0O _ 6 (by omega)).1⟩
  ·refine⟨?_,?_,?_,?_,?_,?_,?_,?_,?_,?_⟩
   all_goals (simp only[cbM];omega)
  all_goals (simp only[cbM];omega)
 unfold C_;by_cases h:pk x0 3=0
 ·rw[CJ h];exact⟨hb,by omega⟩
 ·rw[Co h];refine⟨hb,R! rfl,Xw _,B3T a _,?_⟩;by_cases h1:pk x0 3=1
  ·rw[CJ h1];exact trivial
  ·rw[Co h1];exact⟨by omega,by omega,by omega⟩
def okI{z:Int}{H:Hp}{K:Af}:Qm (AN (some (I z,H)) (I z)) K=K:=Pj rfl
def B9h{k:IntKind}{z:Int}:AV.one (.v (.int k z))=true:=rfl
def B9f{l:Ha}:AV.one (S l)=true:=rfl
def B9g:AV.one (.v (.slice none 0 0))=true:=rfl
def So(ts:ZM):AV.one (Ek ts)=true:=by cases ts<;>rfl
section
variable{K:KV}{x:Af}{H0 H H':Hp}{b1 b2 r z:Nat}{X F:Is}{ps l:List Ha}{v a2 a3:AV}{cR:AV->Is}{y:Y4}{x0 x1 x2 x3 x4 x5 f0 f1 f2 f3 f4 f5:Int}
def OA{kd:Int}{m:ND}{u o:UD}{ca cb ra rb:Ha}{T P ins a:AV}{id vd:Int}{rd:RD}(h1:AV.one T=true)(h2:AV.one P=true)(c:AV.one ins=true)(d:AV.one a=true):(Dj kd m u ca cb T ra rb P id ins a o rd vd).all AV.one=true:=by
 simp only[W?,l2z,B9h,B9f,B9g,h1,h2,c,d,xR,uT]
def xH(h:Mc H0 b1 b2 r z X F H){cs:Is}(hr:Ao H r=some (c_ Ae cs))(h1:cs.length=68)(h2:cs.all AV.one=true)(e:∀H',Wf H'->(∀s q,s≠z->Ao H s=some q->Ao H' s=some q)->K (.agg cs) H'=x):
 (A9 Ac (.ptr r 0 0) H λc=>
  DD Ac (.ptr z 0 0) c H λa=>
  A9 Ac (.ptr z 0 0) a λd=>
  K d a)=x:=by
 obtain⟨i,c1,c2⟩:=h.hz;rw[AR (cs:=cs) rfl (by exact h1.symm) hr,Bx c2 (by rw[c1,h1]) (by exact c1.symm) h2,AR (cs:=cs) rfl (by exact h1.symm) (A4 c2)];exact e _ (BF h.wf) λs q g f=>by rw[Aj g];exact f
def push(w:Wf H)(x:Row)(a:x≠.gone):∃H' s,H'=(s,x)::H/\s=Ay H/\Ao H' s=some x/\Wf H'/\∀t q,Ao H t=some q->Ao H' t=some q/\t≠s:=
 ⟨_,_,rfl,rfl,Av a,Bw w,λt q h=>⟨AQ (w.lt h) h,by have:=w.lt h;omega⟩⟩
def B4p{b:Nat}{K:K2}:Cy Be (.ptr b 0 0) (.v (.int .i64 0)) K=K (.ptr b 0 0):=D3 (z:=0) 0 rfl rfl (by decide)
def B9D{b:Nat}{K:K2}:Cy Be (.ptr b 0 0) (.v (.int .i64 1)) K=K (.ptr b 1 0):=D3 (z:=1) 1 rfl rfl (by decide)
def B9C{b:Nat}{K:K2}:Cy Be (.ptr b 0 0) (.v (.int .i64 2)) K=K (.ptr b 2 0):=D3 (z:=2) 2 rfl rfl (by decide)
def B9B{b:Nat}{K:K2}:Cy Be (.ptr b 0 0) (.v (.int .i64 3)) K=K (.ptr b 3 0):=D3 (z:=3) 3 rfl rfl (by decide)
def B9A{b:Nat}{K:K2}:Cy Be (.ptr b 0 0) (.v (.int .i64 4)) K=K (.ptr b 4 0):=D3 (z:=4) 4 rfl rfl (by decide)
def B9z{b:Nat}{K:K2}:Cy Be (.ptr b 0 0) (.v (.int .i64 5)) K=K (.ptr b 5 0):=D3 (z:=5) 5 rfl rfl (by decide)
def rd6{b:Nat}{a0 a1 a2 a3 a c:Int}(h:Ao H b=some (c_ GH [I a0,I a1,I a2,I a3,I a,I c])):
 (∀{K},A9 Ab (.ptr b 0 0) H K=K (I a0))/\(∀{K},A9 Ab (.ptr b 1 0) H K=K (I a1))/\(∀{K},A9 Ab (.ptr b 2 0) H K=K (I a2))/\(∀{K},A9 Ab (.ptr b 3 0) H K=K (I a3))/\(∀{K},A9 Ab (.ptr b 4 0) H K=K (I a))/\(∀{K},A9 Ab (.ptr b 5 0) H K=K (I c)):=
 ⟨λ{K}=>AH (p:=0) rfl h (by simp),λ{K}=>AH (p:=1) rfl h (by simp),λ{K}=>AH (p:=2) rfl h (by simp),λ{K}=>AH (p:=3) rfl h (by simp),λ{K}=>AH (p:=4) rfl h (by simp),λ{K}=>AH (p:=5) rfl h (by simp)⟩
def A4h(mc:Mc H0 b1 b2 r z X F H){cs cs' vs:Is}(hr:Ao H r=some (c_ Ae cs)){i:TI}{p:Nat}(a:cs.length=68)(d:p+vs.length<=68)(hz:i.size=vs.length)(h1:vs.all AV.one=true)(es:splice cs p vs=cs'):
 ∃H',(∀K:Ru,DD i (.ptr r p 0) (.agg vs) H K=K H')/\Mc H0 b1 b2 r z X F H'/\Ao H' r=some (c_ Ae cs')/\(∀s q,s≠r->Ao H s=some q->Ao H' s=some q):=
 ⟨_,λK=>ZC hr (by rw[a];exact d) hz h1,mc.upd _,by rw[es];exact A4 hr,λs q e c=>by rw[Aj e];exact c⟩
def jF(hL:40000<L)(w:Wf H0)(i0:J8 x0)(i1:J8 x1)(i2:J8 x2)(i3:J8 x3)(i4:J8 x4)(i5:J8 x5)(j0:J8 f0)(j1:J8 f1)(j2:J8 f2)(j3:J8 f3)(j4:J8 f4)(j5:J8 f5)(hy:YA H0 y a2)(az:yI y)(hl:PL H0 l a3)(hb:l.length<1000)(ar:∀s∈l,s.length=32)(R:∀v H',AT H' A0 1 v (C_ x0 x1 x2 x3 x4 x5 f0 f1 f2 f3 f4 f5 y l).ps.length (Bj (C_ x0 x1 x2 x3 x4 x5 f0 f1 f2 f3 f4 f5 y l).ps)->((C_ x0 x1 x2 x3 x4 x5 f0 f1 f2 f3 f4 f5 y l).ps=[]->v=A7)->Wf H'->(∀s q,Ao H0 s=some q->Ao H' s=some q)->(∀s,AD v s->Ay H0<=s)->
  K (.agg ((C_ x0 x1 x2 x3 x4 x5 f0 f1 f2 f3 f4 f5 y l).csP v)) H'=x):
 (r! L (n+44)).call LC [.agg [I x0,I x1,I x2,I x3,I x4,I x5],.agg [I f0,I f1,I f2,I f3,I f4,I f5],a2,a3] H0 K=x:=by
 rw[jT];unfold SI DV Aq JR;obtain⟨H1,b1,N,s1,l1,w1,k1⟩:=push w (c_ GH [I x0,I x1,I x2,I x3,I x4,I x5]) (by simp);rw[EM (cs:=[I x0,I x1,I x2,I x3,I x4,I x5]) rfl,<-s1,<-N];obtain⟨H2,b2,e2,s2,l2,w2,k2⟩:=push w1 (c_ GH [I f0,I f1,I f2,I f3,I f4,I f5]) (by simp);rw[EM (cs:=[I f0,I f1,I f2,I f3,I f4,I f5]) rfl,<-s2,<-e2];obtain⟨H3,z,O,s3,l3,w3,k3⟩:=push w2 (c_ Ae BG) (by simp);rw[AW (cs:=BG) rfl,<-s3,<-O];obtain⟨H4,r,e4,s4,l4,w4,k4⟩:=push w3 (c_ Ae BG) (by simp);have m1:=k2 _ _ l1;have m2:=k3 _ _ m1.1;have m3:=k3 _ _ l2;have q1:=k4 _ _ m2.1;have q2:=k4 _ _ m3.1;have q3:=k4 _ _ l3;have g1:Ay H0<=b1:=by omega
 have g2:Ay H0<=b2:=by have:=w1.lt l1;omega
 have g3:Ay H0<=z:=by have:=w2.lt l2;omega
 have g4:Ay H0<=r:=by have:=w3.lt l3;omega
 have ae:∀s q,Ao H0 s=some q->Ao H4 s=some q:=λs q j=>(k4 _ _ (k3 _ _ (k2 _ _ (k1 _ _ j).1).1).1).1;clear N e2 O s1 s2 s3 k1 k2 k3 m1 m3 l1 l2 w1 w2;have p0:=Ed (c:=x0) (n:=3) (by decide);have p1:=Ed (c:=x1) (n:=3) (by decide);have p2:=Ed (c:=x2) (n:=9) (by decide);have p3:=Ed (c:=x3) (n:=4) (by decide);have c0:∀{H K},Ak (r! L (n+43)) Bs [I x0,.v (.int .i64 3)] H K=K (I (pk x0 3)):=λ{H K}=>JY (n:=n+42) i0 (by decide) (by decide) H K;have c1:∀{H K},Ak (r! L (n+43)) Bs [I x1,.v (.int .i64 3)] H K=K (I (pk x1 3)):=λ{H K}=>JY (n:=n+42) i1 (by decide) (by decide) H K;have c2:∀{H K},Ak (r! L (n+43)) Bs [I x2,.v (.int .i64 9)] H K=K (I (pk x2 9)):=λ{H K}=>JY (n:=n+42) i2 (by decide) (by decide) H K;have c3:∀{H K},Ak (r! L (n+43)) Bs [I x3,.v (.int .i64 4)] H K=K (I (pk x3 4)):=λ{H K}=>JY (n:=n+42) i3 (by decide) (by decide) H K;have c4:∀{H K},Ak (r! L (n+43)) Bs [I x4,.v (.int .i64 50)] H K=K (I (pk x4 50)):=λ{H K}=>JY (n:=n+42) i4 (by decide) (by decide) H K;have c5:∀{H K},Ak (r! L (n+43)) Bs [I x5,.v (.int .i64 30)] H K=K (I (pk x5 30)):=λ{H K}=>JY (n:=n+42) i5 (by decide) (by decide) H K;have a0:∀{K:K2},Al Ab .add (.v (.int .i64 1)) (I (pk x0 3)) K=K (I (1+pk x0 3)):=λ{K}=>by rw[Ck,BX (by omega) (by omega)]
 have a1:∀{K:K2},Al Ab .add (.v (.int .i64 1)) (I (pk x1 3)) K=K (I (1+pk x1 3)):=λ{K}=>by rw[Ck,BX (by omega) (by omega)]
 have Y:∀{K:K2},Al Ab .add (.v (.int .i64 1)) (I (pk x2 9)) K=K (I (1+pk x2 9)):=λ{K}=>by rw[Ck,BX (by omega) (by omega)]
 have Z:∀{K:K2},Al Ab .add (.v (.int .i64 1)) (I (pk x3 4)) K=K (I (1+pk x3 4)):=λ{K}=>by rw[Ck,BX (by omega) (by omega)]
 obtain⟨m,d1,d2,d3,A,B⟩:=rd6 m2.1;simp only[B4p,B9D,B9C,B9B,B9A,B9z,m,d1,d2,d3,A,B,c0,c1,c2,c3,c4,c5,a0,a1,Y,Z,B4];clear m d1 d2 d3 A B;have bd:∀{a b c d e f:Int}{K:K2},Ch Ac [(0,1,I a),(1,1,I b),(2,1,I c),(3,1,I d),(4,1,I e),(5,1,I f)] K=K (.agg (Dj a ⟨b,c,d,e,f⟩ u0 [] [] A7 [] [] A7 0 A7 A7 u0 r0 0)):=λ{a b c d e f K}=>r_ rfl;rw[bd,B4,AW (cs:=BG) rfl,BJ,<-s4,<-e4,Bx (vs:=Dj (1+pk x0 3) ⟨1+pk x1 3,1+pk x2 9,1+pk x3 4,pk x4 50,pk x5 30⟩ u0 [] [] A7 [] [] A7 0 A7 A7 u0 r0 0) l4 rfl rfl rfl,BJ];clear e4 s4;obtain⟨m,d1,d2,d3,A,B⟩:=rd6 q1.1;simp only[m,d1,d2,d3,A,B,c0,c1,c2,c3,c4,c5,okI];clear m d1 d2 d3 A B c0 c1 c2 c3 c4 c5 a0 a1 Y Z bd;have mc:Mc H0 b1 b2 r z [I x0,I x1,I x2,I x3,I x4,I x5] [I f0,I f1,I f2,I f3,I f4,I f5] H4:=⟨q1.1,q2.1,⟨_,rfl,q3.1⟩,w4,q1.2,q2.2,q3.2,g1,g2,g4,g3,w,ae⟩
 have u:=mc.upd (c_ Ae (Dj (1+pk x0 3) ⟨1+pk x1 3,1+pk x2 9,1+pk x3 4,pk x4 50,pk x5 30⟩ u0 [] [] A7 [] [] A7 0 A7 A7 u0 r0 0));have r5:=A4 (q:=true) (e:=Ae) (cs:=Dj (1+pk x0 3) ⟨1+pk x1 3,1+pk x2 9,1+pk x3 4,pk x4 50,pk x5 30⟩ u0 [] [] A7 [] [] A7 0 A7 A7 u0 r0 0) l4;generalize Go.Abs.upd H4 r (c_ Ae (Dj (1+pk x0 3) ⟨1+pk x1 3,1+pk x2 9,1+pk x3 4,pk x4 50,pk x5 30⟩ u0 [] [] A7 [] [] A7 0 A7 A7 u0 r0 0))=H5 at u r5;clear mc ae q1 q2 q3 k4 l4 w4 l3 w3 m2 g1 g2 g3 g4 H4 H3 H2 H1;have af:∀{H K},Ak (r! L (n+43)) Ou [I (x3.tdiv 4),I (x4.tdiv 50),.agg [I f0,I f1,I f2,I f3,I f4,I f5]] H K=K (.agg [S (qn (pk (x3.tdiv 4) 161-80)),S (qd (pk (x3.tdiv 4) 161-80)),Ek (Je [f0,f1,f2,f3,f4,f5] 6),S (qn (pk (x4.tdiv 50) 9)),S (qd (pk (x4.tdiv 50) 9))]):=λ{H K}=>
  AX (A4W (n:=n+2) (xs:=[f0,f1,f2,f3,f4,f5]) (by omega) (Lf i3 (by decide)) (Lf i4 (by decide)) rfl (by simp[j0,j1,j2,j3,j4,j5]))
   (Az (q:=false) Er (Az (q:=false) Er (Az (PJ (D:=depth-1) (JO (λz:Int=>Value.int .i64 z) [f0,f1,f2,f3,f4,f5])) Bq)))
 have lF:∀{K},A9 Be (.ptr b2 0 0) H5 K=K (.agg [I f0,I f1,I f2,I f3,I f4,I f5]):=λ{K}=>AR rfl rfl u.h2;obtain⟨m,d1,d2,d3,A,B⟩:=rd6 u.h1;obtain⟨H6,aj,Q,r6, -⟩:=A4h (i:=DK) (p:=26) (vs:=[S (qn (pk (x3.tdiv 4) 161-80)),S (qd (pk (x3.tdiv 4) 161-80)),Ek (Je [f0,f1,f2,f3,f4,f5] 6),S (qn (pk (x4.tdiv 50) 9)),S (qd (pk (x4.tdiv 50) 9))]) u r5 rfl (by show 26+5<=68;decide) rfl (by show(true&&(true&&(AV.one (Ek (Je [f0,f1,f2,f3,f4,f5] 6))&&(true&&(true&&true)))))=true;rw[So];rfl)
  (cs':=Dj (1+pk x0 3) ⟨1+pk x1 3,1+pk x2 9,1+pk x3 4,pk x4 50,pk x5 30⟩ u0 (qn (pk (x3.tdiv 4) 161-80)) (qd (pk (x3.tdiv 4) 161-80)) (Ek (Je [f0,f1,f2,f3,f4,f5] 6)) (qn (pk (x4.tdiv 50) 9)) (qd (pk (x4.tdiv 50) 9)) A7 0 A7 A7 u0 r0 0) rfl
 rw[d3,ZT i3 (by decide),A,ZT i4 (by decide),lF,af,Wl,aj];clear m d1 d2 d3 A B lF aj u r5 af;have ac:∀{H K},Ak (r! L (n+43)) E9 [I (x5.tdiv 30)] H K=K (.agg (BY (uu (pk (x5.tdiv 30) 7).toNat))):=λ{H K}=>O_ (n:=n+1) (Lf i5 (by decide)) H K;obtain⟨m,d1,d2,d3,A,B⟩:=rd6 Q.h1;obtain⟨H7,ak,g,r7, -⟩:=A4h (i:=Ap) (p:=6) (vs:=BY (uu (pk (x5.tdiv 30) 7).toNat)) Q r6 rfl (by show 6+20<=68;decide) rfl rfl
  (cs':=Dj (1+pk x0 3) ⟨1+pk x1 3,1+pk x2 9,1+pk x3 4,pk x4 50,pk x5 30⟩ (uu (pk (x5.tdiv 30) 7).toNat) (qn (pk (x3.tdiv 4) 161-80)) (qd (pk (x3.tdiv 4) 161-80)) (Ek (Je [f0,f1,f2,f3,f4,f5] 6)) (qn (pk (x4.tdiv 50) 9)) (qd (pk (x4.tdiv 50) 9)) A7 0 A7 A7 u0 r0 0) rfl
 have lk:∀{K},A9 Ab (.ptr r 0 0) H7 K=K (I (1+pk x0 3)):=λ{K}=>AH (p:=0) rfl r7 (show 0<68 by decide);rw[B,ZT i5 (by decide),ac,Wl,ak,Wl,lk,CP];clear m d1 d2 d3 A B ak Q r6 ac lk;by_cases h0:pk x0 3=0
 ·have C:C_ x0 x1 x2 x3 x4 x5 f0 f1 f2 f3 f4 f5 y l=.re (cbM x1 x2 x3 x4 x5 [f0,f1,f2,f3,f4,f5]) (pk (x5.tdiv 30) 7).toNat:=CJ h0;have N:1+pk x0 3=1:=by omega
  rw[Iz N,Dg];rw[C]at R;rw[N]at r7;refine xH g r7 rfl (OA (So _) rfl rfl rfl) λH' w' kp=>?_;exact R A7 H' (.inl ⟨rfl,rfl,rfl⟩) (λ_=>rfl) w' (λs q j=>kp s q (by have:=g.w0.lt j;have:=g.f4;omega) (g.kp s q j)) (λs ⟨_,_,_,h⟩=>by cases h)
 ·have C:C_ x0 x1 x2 x3 x4 x5 f0 f1 f2 f3 f4 f5 y l=.co (cbM x1 x2 x3 x4 x5 [f0,f1,f2,f3,f4,f5]) (fS [f0,f1,f2] (x2.tdiv 9) y) (sF x1 l (fS [f0,f1,f2] (x2.tdiv 9) y).ks.length) (if pk x0 3=1 then none else some (1+(pk (x0.tdiv 3) 3).toNat,1+pk (x0.tdiv 9) 3)):=Co h0;rw[C]at R;clear C;have P:∀{K},Ak (r! L (n+43)) Ot [.agg [I f0,I f1,I f2],I (x2.tdiv 9),a2,.v (.bool true)] H7 K=K (.agg (Bn (fS [f0,f1,f2] (x2.tdiv 9) y).id (Bz (fS [f0,f1,f2] (x2.tdiv 9) y).ks) (BL (fS [f0,f1,f2] (x2.tdiv 9) y).xs) (uu (fS [f0,f1,f2] (x2.tdiv 9) y).out))):=λ{K}=>by
   obtain⟨q,hq⟩:=hy H7 g.kp;exact AX (A4V (n:=n) (ins:=[f0,f1,f2]) (by omega) rfl (by simp[j0,j1,j2]) (Lf i2 (by decide)) az) (Az (PJ (D:=depth-1) (JO (λz:Int=>Value.int .i64 z) [f0,f1,f2])) (Az (q:=false) Er (Az hq (Az (q:=false) Er Bq))))
  have hp:=R! (ins:=[f0,f1,f2]) (count:=x2.tdiv 9) (y:=y) rfl;generalize fS [f0,f1,f2] (x2.tdiv 9) y=p at R P hp;have N:¬(1+pk x0 3=1):=by omega
  rw[Iy N,B6];obtain⟨g0,g1,g2, -, -, -⟩:=rd6 g.h2;obtain⟨m,d1,d2, -, -, -⟩:=rd6 g.h1;have b3:∀{K:K2},Ch OI [(0,1,I f0),(1,1,I f1),(2,1,I f2)] K=K (.agg [I f0,I f1,I f2]):=λ{K}=>r_ rfl;obtain⟨H8,am,ag,r8, -⟩:=A4h (i:=AE) (p:=32) (vs:=Bn p.id (Bz p.ks) (BL p.xs) (uu p.out)) g r7 rfl (by show 32+23<=68;decide) rfl (pJ rfl rfl)
   (cs':=Dj (1+pk x0 3) ⟨1+pk x1 3,1+pk x2 9,1+pk x3 4,pk x4 50,pk x5 30⟩ (uu (pk (x5.tdiv 30) 7).toNat) (qn (pk (x3.tdiv 4) 161-80)) (qd (pk (x3.tdiv 4) 161-80)) (Ek (Je [f0,f1,f2,f3,f4,f5] 6)) (qn (pk (x4.tdiv 50) 9)) (qd (pk (x4.tdiv 50) 9)) A7 p.id (Bz p.ks) (BL p.xs) (uu p.out) r0 0) rfl
  have lu:∀{K},A9 Ap (.ptr r 35 0) H8 K=K (.agg (BY (uu p.out))):=λ{K}=>EL (p:=35) rfl r8 (show 55<=68 by decide);obtain⟨H9,ao,ah,r9, -⟩:=A4h (i:=Ap) (p:=6) (vs:=BY (uu p.out)) ag r8 rfl (by show 6+20<=68;decide) rfl rfl
   (cs':=Dj (1+pk x0 3) ⟨1+pk x1 3,1+pk x2 9,1+pk x3 4,pk x4 50,pk x5 30⟩ (uu p.out) (qn (pk (x3.tdiv 4) 161-80)) (qd (pk (x3.tdiv 4) 161-80)) (Ek (Je [f0,f1,f2,f3,f4,f5] 6)) (qn (pk (x4.tdiv 50) 9)) (qd (pk (x4.tdiv 50) 9)) A7 p.id (Bz p.ks) (BL p.xs) (uu p.out) r0 0) rfl
  have f35:∀{K:K2},CC 3 (.ptr r 32 0) K=K (.ptr r 35 0):=λ{K}=>by rw[fA]
  rw[g0,g1,g2,b3,d2,ZT i2 (by decide),P,Wl,am,Wl,f35,lu,Wl,ao];clear g0 g1 g2 m d1 d2 b3 am ag r8 lu ao f35 P g r7;refine KF λa7 aa=>?_;refine KF λa6 M=>?_;have hc:CR (λv=>Dj (1+pk x0 3) ⟨1+pk x1 3,1+pk x2 9,1+pk x3 4,pk x4 50,pk x5 30⟩ (uu p.out) (qn (pk (x3.tdiv 4) 161-80)) (qd (pk (x3.tdiv 4) 161-80)) (Ek (Je [f0,f1,f2,f3,f4,f5] 6)) (qn (pk (x4.tdiv 50) 9)) (qd (pk (x4.tdiv 50) 9)) v p.id (Bz p.ks) (BL p.xs) (uu p.out) r0 0) p.ks:=⟨λ_=>rfl,λ_ _=>rfl,λ_=>rfl,λ_=>rfl⟩
  refine B6N (n:=n) (l:=l) hL hc i1 hp.k3 hl hb ar ?_ (L+20) 0 A7 _ _ H9 (by omega) (by have:=hp.k3;omega) ⟨ah,r9,.inl ⟨rfl,rfl,rfl⟩,λ_=>rfl,λs ⟨_,_,_,h⟩=>by cases h⟩;intro v H t;rw[M,aa];clear M aa ah r9;refine KF λa4 ab=>?_;have k:∀(cs:Is)(V:Hp),Mc H0 b1 b2 r z [I x0,I x1,I x2,I x3,I x4,I x5] [I f0,I f1,I f2,I f3,I f4,I f5] V->Ao V r=some (c_ Ae cs)->cs.length=68->cs.all AV.one=true->cs=(Cd.co (cbM x1 x2 x3 x4 x5 [f0,f1,f2,f3,f4,f5]) p (sF x1 l p.ks.length) (if pk x0 3=1 then none else some (1+(pk (x0.tdiv 3) 3).toNat,1+pk (x0.tdiv 9) 3))).csP v->(∀s q,s≠r->Ao H s=some q->Ao V s=some q)->a4 V=x:=by
   intro cs V J rx c1 c2 aq kx;rw[ab];refine xH J rx c1 c2 λH' w' kp=>?_;rw[aq];refine R v H' ?_ t.nv w' (λs q j=>kp s q (by have:=J.w0.lt j;have:=J.f4;omega) (J.kp s q j)) (λs j=>(t.fr s j).1);exact t.sv.kp λs q j hl=>kp s q (t.fr s j).2.2.2.2 (kx s q (t.fr s j).2.2.2.1 hl)
  clear ab R;have lk:∀{K},A9 Ab (.ptr r 0 0) H K=K (I (1+pk x0 3)):=λ{K}=>AH (p:=0) rfl t.hr (show 0<68 by decide);rw[Wl,lk,CP];by_cases h1:pk x0 3=1
  ·have O:¬(1+pk x0 3=3):=by omega
   rw[Iy O,B6];rw[CJ h1]at k;have e2:1+pk x0 3=2:=by omega
   have hr:=t.hr;rw[e2]at hr;exact k _ H t.mc hr rfl (OA (So _) (AT.one t.sv) rfl rfl) rfl (λs q _ h=>h)
  ·have O:1+pk x0 3=3:=by omega
   have pv:=Ed (c:=x0.tdiv 9) (n:=3) (by decide);rw[Iz O,Dg];rw[Co h1]at k;have hr:=t.hr;rw[O]at hr;have ay:∀{H K},Ak (r! L (n+43)) Ij [I (x0.tdiv 3)] H K=K (.agg (rr (1+(pk (x0.tdiv 3) 3).toNat)).cs):=λ{H K}=>A8X (n:=n+41) (Lf i0 (by decide)) H K;have ax:∀{H K},Ak (r! L (n+43)) Bs [I (x0.tdiv 9),.v (.int .i64 3)] H K=K (I (pk (x0.tdiv 9) 3)):=λ{H K}=>JY (n:=n+42) (Lf i0 (by decide)) (by decide) (by decide) H K;have ad:∀{K:K2},Al Ab .add (.v (.int .i64 1)) (I (pk (x0.tdiv 9) 3)) K=K (I (1+pk (x0.tdiv 9) 3)):=λ{K}=>by rw[Ck,BX (by omega) (by omega)]
   obtain⟨m, -⟩:=rd6 t.mc.h1;obtain⟨HA,a5,ai,rA,kA⟩:=A4h (i:=CK) (p:=55) (vs:=(rr (1+(pk (x0.tdiv 3) 3).toNat)).cs) t.mc hr rfl (by show 55+9<=68;decide) rfl rfl
    (cs':=Dj 3 ⟨1+pk x1 3,1+pk x2 9,1+pk x3 4,pk x4 50,pk x5 30⟩ (uu p.out) (qn (pk (x3.tdiv 4) 161-80)) (qd (pk (x3.tdiv 4) 161-80)) (Ek (Je [f0,f1,f2,f3,f4,f5] 6)) (qn (pk (x4.tdiv 50) 9)) (qd (pk (x4.tdiv 50) 9)) v p.id (Bz p.ks) (BL p.xs) (uu p.out) (rr (1+(pk (x0.tdiv 3) 3).toNat)) 0) rfl
   obtain⟨ap, -⟩:=rd6 ai.h1;rw[B4p,m,ZT i0 (by decide),ay,Wl,a5,B4p,ap,ZT i0 (by decide),ax,ad,Wl,D9 rA (show 64<68 by decide) rfl rfl rfl];exact k _ _ (ai.upd _) (A4 rA) rfl (OA (So _) (AT.one t.sv) rfl rfl) rfl (λs q j h=>by rw[Aj j];exact kA s q j h)
end
end
section
variable{P:AV}{c:Cd}{y6:Int}
variable{L n:Nat}
def A2A{f:AV->(Bool->K2)->Af}:∀(l m:Is)(K:Bool->Is->Af),Hy f (l++m) K=Hy f l λq d=>Hy f m λg i=>K (q||g) (d++i):=by
 intro l
 induction l with
 |nil=>intro m K;rfl
 |cons a l ih=>
  intro m K;have e:∀(l:Is)(K:Bool->Is->Af),Hy f (a::l) K=f a λq h=>Hy f l λg d=>K (@Bool.rec (λ_=>Bool) g true q) (h::d):=λ_ _=>rfl;rw[List.cons_append,e,e]
  congr 1
  funext q h
  rw[ih]
  congr 1
  funext q1 j
  congr 1
  funext q2 k
  cases q<;>rfl
def A1k{b:Bool}{D:Nat}{l a m d:Is}{H:Hp}{q q':Bool}(h:Qi b D l a H q)(k:Qi b D m d H q'):Qi b D (l++m) (a++d) H (q||q'):=λK=>by
 rw[A2A,h,k]
def tL:AV->Bool
 |.v _=>true
 |.list _ _=>true
 |_=>false
def tJ{D:Nat}{H:Hp}:∀l:Is,l.all tL=true->Qi true D l l H false:=by
 intro l
 induction l with
 |nil=>intro _;exact Bq
 |cons a l ih=>
  intro h;simp only[W?,I0]at h;have h2:=ih h.2;cases a with
  |v x=>exact Az (q:=false) Er h2
  |list n cs=>exact Az (q:=false) Qr h2
  |_=>cases h.1
def rT(ts:ZM):tL (Ek ts)=true:=by cases ts<;>rfl
def A2O{k:IntKind}{z:Int}:tL (.v (.int k z))=true:=rfl
def pZ{l:Ha}:tL (S l)=true:=rfl
def B4K:tL (.v (.slice none 0 0))=true:=rfl
def B80{l:Is}:tL (.list n l)=true:=rfl
def A37(c:Cd):∃A B:Is,(∀P,c.csP P=A++P::B)/\A.all tL=true/\B.all tL=true:=by
 match c with
 |.re b u=>
  refine⟨((Cd.re b u).csP A7).take 31,((Cd.re b u).csP A7).drop 32,λ_=>rfl,?_,?_⟩
  ·simp only[Cd.csP,List.take_succ_cons,List.take_zero,W?,l2z,A2O,pZ,rT,uT,xR]
  ·simp only[Cd.csP,List.drop_succ_cons,l1n,W?,l2z,A2O,pZ,B4K,uT,xR]
 |.co b p ps none=>
  refine⟨((Cd.co b p ps none).csP A7).take 31,((Cd.co b p ps none).csP A7).drop 32,λ_=>rfl,?_,?_⟩
  ·simp only[Cd.csP,List.take_succ_cons,List.take_zero,W?,l2z,A2O,pZ,rT,uT,xR]
  ·simp only[Cd.csP,List.drop_succ_cons,l1n,W?,l2z,A2O,pZ,B4K,B80,uT,xR]
 |.co b p ps (some (k,vd))=>
  refine⟨((Cd.co b p ps (some (k,vd))).csP A7).take 31,((Cd.co b p ps (some (k,vd))).csP A7).drop 32,λ_=>rfl,?_,?_⟩
  ·simp only[Cd.csP,List.take_succ_cons,List.take_zero,W?,l2z,A2O,pZ,rT,uT,xR]
  ·simp only[Cd.csP,List.drop_succ_cons,l1n,W?,l2z,A2O,pZ,B4K,B80,uT,xR]
def Yv(c:Cd)(h:AV.one P=true):(c.csP P).all AV.one=true:=by
 match c with
 |.re b u=>exact OA (So _) h rfl rfl
 |.co b p ps none=>exact OA (So _) h rfl rfl
 |.co b p ps (some (k,vd))=>exact OA (So _) h rfl rfl
def Tt(c:Cd):(c.csP P).length=68:=by
 match c with
 |.re b u=>rfl
 |.co b p ps none=>rfl
 |.co b p ps (some (k,vd))=>rfl
section
variable{H H':Hp}{v:AV}{l:List Ha}{D:Nat}{b:Bool}
def A1l(h:AT H A0 1 v l.length (Bj l))(d:l=[]->v=A7):∃q,Fx b (D+1) v (Gp l) H q:=by
 rcases h with⟨rfl,h2,_⟩|⟨r,q,rfl,h2,e⟩
 ·cases l with
  |nil=>exact⟨false,Er⟩
  |cons a l=>simp at h2
 ·cases l with
  |nil=>have:=d rfl;cases this
  |cons a l=>
   refine⟨true,?_⟩;show Fx b (D+1) _ (.list (a::l).length (Bj (a::l))) H true;exact UW (q':=false) h2 e (JO (λs=>Value.string ⟨⟨s⟩⟩) (a::l))
def tY(h:AT H A0 1 v c.ps.length (Bj c.ps))(a:c.ps=[]->v=A7):∃q,Qi true (D+1) (c.csP v) c.cs H q:=by
 obtain⟨q,hq⟩:=A1l (D:=D) (b:=true) h a;obtain⟨A,B,e,f1,f2⟩:=A37 c;rw[<-B58 c,e,e];exact⟨_,A1k (tJ A f1) (Az hq (tJ B f2))⟩
abbrev GV:=List (Cd×AV)
def gvC(g:GV):Is:=g.flatMap λp=>p.1.csP p.2
structure GvOk(g:GV)(H:Hp):Prop where
 sl:∀p∈g,AT H A0 1 p.2 p.1.ps.length (Bj p.1.ps)
 nl:∀p∈g,p.1.ps=[]->p.2=A7
def B7F{g:GV}(h:GvOk g H):∃q,Qi true (D+1) (gvC g) ((g.map Prod.fst).flatMap Cd.cs) H q:=by
 induction g with
 |nil=>exact⟨_,Bq⟩
 |cons p g ih=>
  obtain⟨q1,h1⟩:=ih ⟨λr hr=>h.sl r (by simp[hr]),λr hr=>h.nl r (by simp[hr])⟩;obtain⟨q2,h2⟩:=tY (D:=D) (h.sl p (by simp)) (h.nl p (by simp));exact⟨_,A1k h2 h1⟩
def sV(gs:dn):AV:=match gs with
 |[]=>A7
 |c::gs=>.list (c::gs).length ((c::gs).flatMap Cd.cs)
def A19(gs:dn):LA gs (sV gs):=by cases gs with|nil=>exact .inr ⟨rfl,rfl⟩|cons _ _=>exact .inl rfl
def B4r{g:GV}{lv:AV}(h:GvOk g H)(i:AT H Ae 68 lv g.length (gvC g))(d:g=[]->lv=A7):∃q,Fx true (D+2) lv (sV (g.map Prod.fst)) H q:=by
 rcases i with⟨rfl,h2,_⟩|⟨r,q,rfl,h2,f⟩
 ·cases g with
  |nil=>exact⟨false,Er⟩
  |cons a l=>simp at h2
 ·cases g with
  |nil=>have:=d rfl;cases this
  |cons p g=>
   obtain⟨q1,h1⟩:=B7F (D:=D) h;refine⟨true,?_⟩;have e:sV ((p::g).map Prod.fst)=.list (p::g).length (((p::g).map Prod.fst).flatMap Cd.cs):=by
    show AV.list _ _=_;rw[show(p.1::g.map Prod.fst).length=(p::g).length by simp];rfl
   rw[e];exact UW h2 f h1
end
structure Y7 where
 (y0 y1 y2 y3 y4 y5 y6:Int)
def Y7.cs(y:Y7):Is:=[I y.y0,I y.y1,I y.y2,I y.y3,I y.y4,I y.y5,I y.y6]
def Y7.Ok(y:Y7):Prop:=J8 y.y0/\J8 y.y1/\J8 y.y2/\J8 y.y3/\J8 y.y4/\J8 y.y5/\J8 y.y6
def nN(ids:List Ha)(y6:Int):Nat->List Ha
 |0=>[]
 |k+1=>if 0<ids.length/\pk (y6.fdiv (2^(4*k))) 16<14 then nN ids y6 k++[ids.getD ((pk (y6.fdiv (2^(4*k))) 16).toNat%ids.length) []] else nN ids y6 k
def A12{ids:List Ha}:∀k,∀s∈nN ids y6 k,s∈ids:=by
 intro k
 induction k with
 |zero=>intro s a;simp[nN]at a
 |succ k ih=>
  intro s a;unfold nN at a;split at a
  ·rename_i h;rcases VP.1 a with a|a
   ·exact ih s a
   ·rw[eX]at a;subst a;have:=Nat.mod_lt (pk (y6.fdiv (2^(4*k))) 16).toNat h.1;rw[Tc,II this];exact Na this
  ·exact ih s a
def A13{ids:List Ha}:∀k,(nN ids y6 k).length<=k:=by
 intro k
 induction k with
 |zero=>simp[nN]
 |succ k ih=>
  unfold nN;split
  ·simp;omega
  ·omega
def kdM(i:Nat)(y:Y7):Int:=if i<2/\0<pk (y.y0.tdiv 3) 4 then 0 else y.y0
def cM(i:Nat)(y:Y7)(ids:List Ha):Cd:=C_ (kdM i y) y.y1 y.y2 y.y3 y.y4 y.y5 y.y1 y.y2 y.y3 y.y4 y.y5 y.y6 (some (y.y3,y.y4,y.y5,y.y6)) (nN ids y.y6 3)
def XA6(xs:List Y7):Nat->dn
 |0=>[]
 |i+1=>
  if(cM i (xs.getD i ⟨0,0,0,0,0,0,0⟩) ((XA6 xs i).map Cd.id)).ps.Nodup/\(cM i (xs.getD i ⟨0,0,0,0,0,0,0⟩) ((XA6 xs i).map Cd.id)).id∉(XA6 xs i).map Cd.id
  then XA6 xs i++[cM i (xs.getD i ⟨0,0,0,0,0,0,0⟩) ((XA6 xs i).map Cd.id)] else XA6 xs i
def B17{i:Nat}{y:Y7}{gs:dn}:(cM i y (gs.map Cd.id)).Ok:=by
 refine mC λs a=>?_;obtain⟨c,_,rfl⟩:=US.1 (A12 _ s a);exact A0q c
def A5O(xs:List Y7):∀i,i<=8->GOk (XA6 xs i)/\(XA6 xs i).length<=i:=by
 intro i
 induction i with
 |zero=>intro _;exact⟨⟨by simp[XA6],by simp[XA6],by simp[XA6],by simp[XA6]⟩,by simp[XA6]⟩
 |succ i ih=>
  intro k;obtain⟨h,f⟩:=ih (by omega);unfold XA6;split
  ·rename_i hc;refine⟨⟨λc hm=>?_,λc hm=>?_,?_,by simp;omega⟩,by simp;omega⟩
   ·rcases VP.1 hm with hm|hm
    ·exact h.ok c hm
    ·rw[eX]at hm;subst hm;exact B17
   ·rcases VP.1 hm with hm|hm
    ·exact h.nd c hm
    ·rw[eX]at hm;subst hm;exact hc.1
   ·rw[UT,l2w];refine⟨h.ids,by simp,λa g b hb e=>?_⟩;obtain⟨j,d,rfl⟩:=US.1 hb;rw[eX]at d;subst d;exact hc.2 (e▸g)
  ·exact⟨h,by omega⟩
def B5a(h:c.Ok):c.ps.length<=3:=by
 match c,h with
 |.re b u,_=>simp[Cd.ps]
 |.co b p ps none,⟨_,a,h1,_⟩=>show ps.length<=3;rw[h1];exact a.k3
 |.co b p ps (some _),⟨_,a,h1,_⟩=>show ps.length<=3;rw[h1];exact a.k3
end
section
variable{L n:Nat}
abbrev Cu:=Ha
section
variable{gs:dn}{b:List (Cu×Unit)}{p:Cu}{ids:List Cu}
end
section
variable{gs:dn}{ids:List Cu}
def B50{ty:Nat}{es:IH}{H:Hp}{K:KV}:HT ty (.imap es) H K=K (.ptr (Ay H) 0 0) ((Ay H,c_ ty [.imap es])::H):=by
 unfold HT;rw[CH,FV,BQ];rfl
end
abbrev B9J(gs:dn):AV:=.fn (.func EN) [] [.iptr [gV gs]]
section
variable{gs:dn}{b:List (Cu×Unit)}{H:Hp}{K:KV}{x:Af}{p s:Cu}
end
end
section
variable{a:Int}{k:Nat}
variable{L n:Nat}
def A63(h:J8 a)(hk:k<3):J8 (a.fdiv (2^(4*k))):=by
 unfold J8 at h⊢;have e:a.fdiv (2^(4*k))=a/(2^(4*k)):=Int.fdiv_eq_ediv_of_nonneg _ (Int.le_of_lt (Int.pow_pos (by decide)));rw[e];obtain rfl|rfl|rfl:k=0\/k=1\/k=2:=by omega
 ·rw[show(2:Int)^(4*0)=1 by decide];omega
 ·rw[show(2:Int)^(4*1)=16 by decide];omega
 ·rw[show(2:Int)^(4*2)=256 by decide];omega
def B6p{j:TI}{K:K2}(hk:k<=64):Al j .shr (I a) (I k) K=K (I (a.fdiv (2^k))):=by
 have:Al j .shr (I a) (I k) K=ck (Zq 0 (k:Int)) (fI (a.fdiv (2^(min (k:Int).toNat 64))) λz=>K (.v (.int .i64 z))):=rfl;rw[this,Mi,XV,l1x hk];have h1:Zq 0 (k:Int)=true:=by rw[IJ];simp
 rw[h1];rfl
def rd7{H:Hp}{b:Nat}{y:Y7}(h:Ao H b=some (c_ Vp y.cs)):
 (∀{K},A9 Ab (.ptr b 0 0) H K=K (I y.y0))/\(∀{K},A9 Ab (.ptr b 1 0) H K=K (I y.y1))/\(∀{K},A9 Ab (.ptr b 2 0) H K=K (I y.y2))/\(∀{K},A9 Ab (.ptr b 3 0) H K=K (I y.y3))/\(∀{K},A9 Ab (.ptr b 4 0) H K=K (I y.y4))/\(∀{K},A9 Ab (.ptr b 5 0) H K=K (I y.y5))/\(∀{K},A9 Ab (.ptr b 6 0) H K=K (I y.y6)):=
 ⟨λ{K}=>AH (p:=0) rfl h (by simp[Y7.cs]),λ{K}=>AH (p:=1) rfl h (by simp[Y7.cs]),λ{K}=>AH (p:=2) rfl h (by simp[Y7.cs]),λ{K}=>AH (p:=3) rfl h (by simp[Y7.cs]),λ{K}=>AH (p:=4) rfl h (by simp[Y7.cs]),λ{K}=>AH (p:=5) rfl h (by simp[Y7.cs]),λ{K}=>AH (p:=6) rfl h (by simp[Y7.cs])⟩
def B7r{b:Nat}{K:K2}:Cy BD (.ptr b 0 0) (.v (.int .i64 0)) K=K (.ptr b 0 0):=D3 (z:=0) 0 rfl rfl (by decide)
def B9y{b:Nat}{K:K2}:Cy BD (.ptr b 0 0) (.v (.int .i64 1)) K=K (.ptr b 1 0):=D3 (z:=1) 1 rfl rfl (by decide)
def B9x{b:Nat}{K:K2}:Cy BD (.ptr b 0 0) (.v (.int .i64 2)) K=K (.ptr b 2 0):=D3 (z:=2) 2 rfl rfl (by decide)
def B9w{b:Nat}{K:K2}:Cy BD (.ptr b 0 0) (.v (.int .i64 3)) K=K (.ptr b 3 0):=D3 (z:=3) 3 rfl rfl (by decide)
def B9v{b:Nat}{K:K2}:Cy BD (.ptr b 0 0) (.v (.int .i64 4)) K=K (.ptr b 4 0):=D3 (z:=4) 4 rfl rfl (by decide)
def B9u{b:Nat}{K:K2}:Cy BD (.ptr b 0 0) (.v (.int .i64 5)) K=K (.ptr b 5 0):=D3 (z:=5) 5 rfl rfl (by decide)
def B7q{b:Nat}{K:K2}:Cy BD (.ptr b 0 0) (.v (.int .i64 6)) K=K (.ptr b 6 0):=D3 (z:=6) 6 rfl rfl (by decide)
structure Pa(H0:Hp)(ps:List Ha)(u:AV)(H:Hp):Prop where
 sl:AT H A0 1 u ps.length (Bj ps)
 nl:ps=[]->u=A7
 fr:∀s,AD u s->Ay H0<=s
 wf:Wf H
 w0:Wf H0
 nx:Ay H0<=Ay H
 kp:∀s q,Ao H0 s=some q->Ao H s=some q
section
variable{K:KV}{x:Af}{H0 H H':Hp}{y:Y7}{ids:List Ha}{a0 lv iv kd:AV}{q7 i:Nat}
def B6P{m:AV->AV->AV->AV->AV->AV->AV->KV}(hL:100<L)(Z:J8 y.y6)(hq:Ao H0 q7=some (c_ Vp y.cs))(hi:AT H0 A0 1 iv ids.length (Bj ids))(hb:ids.length<100)(j:∀u k H,Pa H0 (nN ids y.y6 3) u H->m a0 lv iv (I i) (.ptr q7 0 0) kd u k H=x):
 ∀(f k:Nat)(u:AV)(H:Hp),k<=3->3-k<f->Pa H0 (nN ids y.y6 k) u H->
 Q8 (L+20) (r! L (n+64)) K m f a0 lv iv (I i) (.ptr q7 0 0) kd u (I k) H=x:=by
 intro f
 induction f with
 |zero=>intro k u H _ h;omega
 |succ f ih=>
  intro k u H hk hf d;rw[dQ];unfold QA GI B3 Aq EV;have V:(AV.v (.int .i64 3))=I ((3:Nat):Int):=rfl;have w:=hi.kp λs q _=>d.kp s q;rw[V];by_cases h:k<3
  ·rw[FZ (by omega)];simp only[gT,BJ,IX (t:=Ad) rfl w,DE];by_cases B:0<ids.length
   ·have hm:=Nat.mod_lt (pk (y.y6.fdiv (2^(4*k))) 16).toNat B;have pr:=Ed (c:=y.y6.fdiv (2^(4*k))) (n:=16) (by decide);obtain⟨-, -, -, -, -, -,P⟩:=rd7 (d.kp _ _ hq);have ml:∀{K:K2},Al Ab .mul (.v (.int .i64 4)) (I (k:Int)) K=K (I ((4*k:Nat):Int)):=λ{K}=>by
     rw[LQ,BX (by omega) (by omega)];rw[show(4:Int)*(k:Int)=((4*k:Nat):Int) by omega]
    have C:∀{H K},Ak (r! L (n+64)) J7 [I (y.y6.fdiv (2^(4*k))),.v (.int .i64 16)] H K=K (I (pk (y.y6.fdiv (2^(4*k))) 16)):=λ{H K}=>wV (n:=n+63) (A63 Z h) (by decide) (by decide) H K;have J:∀{K:K2},Al Ab .add (I k) (.v (.int .i64 1)) K=K (I ((k+1:Nat):Int)):=λ{K}=>Dc (by omega);rw[Iz (by omega),WT,Dg];simp only[Ca];rw[B7q,P,ml,B6p (by omega),C,CA];have r:nN ids y.y6 (k+1)=if 0<ids.length/\pk (y.y6.fdiv (2^(4*k))) 16<14 then nN ids y.y6 k++[ids.getD ((pk (y.y6.fdiv (2^(4*k))) 16).toNat%ids.length) []] else nN ids y.y6 k:=rfl
    by_cases g:pk (y.y6.fdiv (2^(4*k))) 16<14
    ·rw[CJ ⟨B,g⟩]at r;have D:PL H ids iv:=.inr w;obtain⟨p,X,Y⟩:=D.at2 hm;have rm:∀{K:K2},Al Ab .rem (I (pk (y.y6.fdiv (2^(4*k))) 16)) (I (ids.length:Int)) K=K (I (((pk (y.y6.fdiv (2^(4*k))) 16).toNat%ids.length:Nat):Int)):=λ{K}=>by
      rw[RY (by omega),Int.tmod_eq_emod_of_nonneg pr.1];have:(pk (y.y6.fdiv (2^(4*k))) 16)=(((pk (y.y6.fdiv (2^(4*k))) 16).toNat:Nat):Int):=by omega
      rw[this,XV];rfl
     have aa:=A13 (ids:=ids) (y6:=y.y6) k;obtain⟨u',H',a1,a2,M,a4,N,O⟩:=uF (ie:=Ag) (i2:=Ad) (ys:=Bj [ids[(pk (y.y6.fdiv (2^(4*k))) 16).toNat%ids.length]]) d.sl d.wf rfl rfl (by decide) rfl (λ_=>rfl) (by show(_+1)*16<=_;omega) (by omega);have R:ids.getD ((pk (y.y6.fdiv (2^(4*k))) 16).toNat%ids.length) []=ids[(pk (y.y6.fdiv (2^(4*k))) 16).toNat%ids.length]:=by simp[List.getD,II hm]
     rw[R]at r;have g0:=d.nx;rw[Iz g,Dg,rm,X,Y,Yy,a1,J];refine ih (k+1) u' H' (by omega) (by omega) ⟨?_,λe=>?_,λs A=>?_,M,d.w0,by omega,λs q A=>?_⟩
     ·rw[r,E6];have:Bj (nN ids y.y6 k++[ids[(pk (y.y6.fdiv (2^(4*k))) 16).toNat%ids.length]])=Bj (nN ids y.y6 k)++Bj [ids[(pk (y.y6.fdiv (2^(4*k))) 16).toNat%ids.length]]:=by simp[Bj]
      rw[this];exact a2
     ·rw[r]at e;simp at e
     ·have:=O s A;omega
     ·exact N _ _ (d.kp s q A) λe=>by have:=d.fr s e;have:=d.w0.lt A;omega
    ·rw[Co λhc=>g hc.2]at r;rw[Iy g,B6,J];exact ih (k+1) u H (by omega) (by omega) (by rw[r];exact d)
   ·rw[Iy (by omega),WT,B6];have Q:∀k,nN ids y.y6 k=[]:=by
     intro k
     induction k with
     |zero=>rfl
     |succ k F=>unfold nN;rw[Co λhc=>B hc.1];exact F
    refine j u _ H ?_;rw[Q]at d⊢;exact d
  ·have:k=3:=by omega
   subst this;rw[Ga (by omega)];simp only[uU,BJ,T2];rw[B6];exact j u _ H d
end
end
section
variable{a:AV}{s:Nat}
variable{L n:Nat}
structure Gm(g:GV)(lv iv:AV)(H:Hp):Prop where
 gv:GvOk g H
 sl:AT H Ae 68 lv g.length (gvC g)
 nl:g=[]->lv=A7
 si:AT H A0 1 iv g.length (Bj ((g.map Prod.fst).map Cd.id))
 ni:g=[]->iv=A7
 dl:∀s,AD lv s->¬AD iv s/\∀p∈g,¬AD p.2 s
 di:∀s,AD iv s->∀p∈g,¬AD p.2 s
 wf:Wf H
section
variable{K:KV}{x:Af}{H0 H H':Hp}{g:GV}{lv iv a0:AV}{c:Cd}{v:AV}
def Gm.grow(h:Gm g lv iv H)(wf:Wf H')(kp:∀s q,Ao H s=some q->Ao H' s=some q):Gm g lv iv H':=
 ⟨⟨λp d=>(h.gv.sl p d).kp λs q _=>kp s q,h.gv.nl⟩,h.sl.kp λs q _=>kp s q,h.nl,h.si.kp λs q _=>kp s q,h.ni,h.dl,h.di,wf⟩
def Gm.lti(h:Gm g lv iv H)(d:AD iv s):s<Ay H:=h.si.lt h.wf d
def Gm.ltl(h:Gm g lv iv H)(d:AD lv s):s<Ay H:=h.sl.lt h.wf d
def Gm.ltp(h:Gm g lv iv H){p:Cd×AV}(d:p∈g)(e:AD p.2 s):s<Ay H:=(h.gv.sl p d).lt h.wf e
def C05{cs:Is}(e:cs.length=68)(h1:cs.all AV.one=true):F4 Ae 68 Ac 1 [(0,68,.agg cs)] H K=K (.sl 68 (Ay H) 0 1) ((Ay H,.cells false Ae cs)::H):=by
 have f:F4 Ae 68 Ac 1 [(0,68,.agg cs)] H K=Gy (.agg cs) λvs=>HB vs 0 λn=>ck (Nat.beq n 68) (ck (Qb vs) (D8 0 vs BG λd=>GP H λs=>K (.sl 68 s 0 1) ((s,.cells false Ae d)::H))):=r_ rfl;have hc:Br (.agg cs)=cs:=rfl;rw[f,CH,hc,Cz,e,FV,h1];show D8 0 cs BG _=_;rw[Ii _ _ _ _ (by rw[e];decide),Mp _ _ (by rw[e];rfl),BQ]
def Gm.add(h:Gm g lv iv H)(hv:AT H A0 1 v c.ps.length (Bj c.ps))(hn:c.ps=[]->v=A7)(C:∀s,AD v s->¬AD lv s/\¬AD iv s)(hb:g.length<100):
 ∃j k i m,(∀K:KV,(F4 Ae 68 Ac 1 [(0,68,.agg (c.csP v))] H λv1 k=>DJ Ae 68 Ac AG lv v1 k K)=K j k)/\
  (∀K:KV,(F4 A0 1 Ag 1 [(0,1,S c.id)] k λv1 m=>DJ A0 1 Ag Ad iv v1 m K)=K i m)/\Gm (g++[(c,v)]) j i m:=by
 obtain⟨j,k,a1,a2,w,F,y,A⟩:=uF (ie:=Ac) (i2:=AG) (ys:=c.csP v) h.sl h.wf (Tt c) (Yv c (AT.one hv)) (by decide) rfl (λ_=>rfl) (by show(_+1)*800<=_;omega) (by omega);have u:AT k A0 1 iv g.length (Bj ((g.map Prod.fst).map Cd.id)):=h.si.kp λs q f t=>y s q t (λe=>(h.dl s e).1 f);obtain⟨i,m,b1,b2,D,b4,B,b6⟩:=uF (ie:=Ag) (i2:=Ad) (ys:=Bj [c.id]) u w rfl rfl (by decide) rfl (λ_=>rfl) (by show(_+1)*16<=_;omega) (by omega);have kp:∀s q,¬AD lv s->¬AD iv s->Ao H s=some q->Ao m s=some q:=λs q h1 h2 f=>B _ _ (y _ _ f h1) h2;refine⟨j,k,i,m,λK=>by rw[C05 (Tt c) (Yv c (AT.one hv))];exact a1 K,λK=>by rw[Yy];exact b1 K,⟨λp d=>?_,λp d=>?_⟩,?_,λe=>by simp at e,?_,λe=>by simp at e,λs f=>⟨λe=>?_,λp d e=>?_⟩,λs f p d e=>?_,D⟩
 ·rcases VP.1 d with d|d
  ·exact(h.gv.sl p d).kp λs q f=>kp s q (λe=>(h.dl s e).2 p d f) (λe=>h.di s e p d f)
  ·rw[eX]at d;subst d;exact hv.kp λs q f=>kp s q (C s f).1 (C s f).2
 ·rcases VP.1 d with d|d
  ·exact h.gv.nl p d
  ·rw[eX]at d;subst d;exact hn
 ·have r:gvC (g++[(c,v)])=gvC g++c.csP v:=by simp[gvC]
  rw[r,E6];exact AT.kp a2 λs q f t=>B s q t λe=>by have:=A s f;have:=h.lti e;omega
 ·have r:Bj (((g++[(c,v)]).map Prod.fst).map Cd.id)=Bj ((g.map Prod.fst).map Cd.id)++Bj [c.id]:=by simp[Bj]
  rw[r,E6];exact b2
 ·have:=b6 s e;have:=AT.lt a2 w f;omega
 ·have:=A s f;rcases VP.1 d with d|d
  ·have:=h.ltp d e;omega
  ·rw[eX]at d;subst d;have:=hv.lt h.wf e;omega
 ·have:=b6 s f;rcases VP.1 d with d|d
  ·have:=h.ltp d e;omega
  ·rw[eX]at d;subst d;have:=hv.lt h.wf e;omega
def XA(xs:List Y7)(a:AV):Prop:=a=.list xs.length (xs.flatMap Y7.cs)\/(xs=[]/\a=A7)
def XA.len{xs:List Y7}{K:K2}(h:XA xs a):Bi JU a K=K (I xs.length):=by
 rcases h with rfl|⟨rfl,rfl⟩<;>exact r_ rfl
def XA.ia{xs:List Y7}{i:Nat}{K:K2}(h:XA xs a)(d:i<xs.length):Cy JU a (I i) K=K (.iptr xs[i].cs):=by
 rcases h with rfl|⟨rfl,rfl⟩
 ·exact ZE (f:=Y7.cs) rfl (λ_=>rfl) d
 ·simp at d
end
end
section
variable{L n:Nat}
section
variable{K:KV}{x:Af}{xs:List Y7}{a0:AV}
def b6{a b c d e f:Int}{K:K2}:Ch Be [(0,1,I a),(1,1,I b),(2,1,I c),(3,1,I d),(4,1,I e),(5,1,I f)] K=K (.agg [I a,I b,I c,I d,I e,I f]):=id rfl
def b4{a b c d:Int}{K:K2}:Ch BZ [(0,1,I a),(1,1,I b),(2,1,I c),(3,1,I d)] K=K (.agg [I a,I b,I c,I d]):=id rfl
def bs4{a b c d:Int}{H:Hp}:F4 FB 4 BZ 1 [(0,4,.agg [I a,I b,I c,I d])] H K=K (.sl 4 (Ay H) 0 1) ((Ay H,.cells false FB [I a,I b,I c,I d])::H):=by
 have e:F4 FB 4 BZ 1 [(0,4,.agg [I a,I b,I c,I d])] H K=GP H (λs=>K (.sl 4 s 0 1) ((s,.cells false FB [I a,I b,I c,I d])::H)):=r_ rfl;rw[e,BQ]
def B72{k4:KV}(hL:40000<L)(hx:XA xs a0)(a4:∀y∈xs,y.Ok)(t:∀g lv iv H,g.map Prod.fst=XA6 xs (min 8 xs.length)->Gm g lv iv H->k4 lv H=x):
 ∀(f i:Nat)(g:GV)(lv iv:AV)(H:Hp)(d0 d1 d2 d3:AV),i<=min 8 xs.length->min 8 xs.length-i<f->g.map Prod.fst=XA6 xs i->Gm g lv iv H->
 Q9 (L+20) (r! L (n+64)) K k4 f a0 lv iv (I i) d0 d1 d2 d3 H=x:=by
 intro f
 induction f with
 |zero=>intro i g lv iv H d0 d1 d2 d3 _ h;omega
 |succ f ih=>
  intro i g lv iv H d0 d1 d2 d3 hi hf J hh;rw[dR];unfold QB GI B3 Aq EV;have e8:(AV.v (.int .i64 8))=I ((8:Nat):Int):=rfl;rw[hx.len,e8];by_cases h:i<min 8 xs.length
  ·have Q:i<xs.length:=by omega
   obtain⟨y,hy⟩:∃y,xs[i]=y:=⟨_,rfl⟩
   have aj:=a4 _ (Na Q);have ay:xs.getD i ⟨0,0,0,0,0,0,0⟩=y:=by rw[<-hy];simp[List.getD,II Q]
   rw[hy]at aj;obtain⟨o0,o1,o2,o3,o4,o5,o6⟩:=aj;rw[FZ (by omega)];simp only[gT,BJ];rw[FZ (by omega),BJ,WT,Dg];refine KF λbe Z=>?_;refine KF λa8 aa=>?_;have ar:(XA6 xs i).length=g.length:=by rw[<-J,WV]
   have g8:=(A5O xs i (by omega)).2;have N:XA6 xs (i+1)=if(cM i y ((XA6 xs i).map Cd.id)).ps.Nodup/\(cM i y ((XA6 xs i).map Cd.id)).id∉(XA6 xs i).map Cd.id then XA6 xs i++[cM i y ((XA6 xs i).map Cd.id)] else XA6 xs i:=by
    have:XA6 xs (i+1)=if(cM i (xs.getD i ⟨0,0,0,0,0,0,0⟩) ((XA6 xs i).map Cd.id)).ps.Nodup/\(cM i (xs.getD i ⟨0,0,0,0,0,0,0⟩) ((XA6 xs i).map Cd.id)).id∉(XA6 xs i).map Cd.id
     then XA6 xs i++[cM i (xs.getD i ⟨0,0,0,0,0,0,0⟩) ((XA6 xs i).map Cd.id)] else XA6 xs i:=rfl
    rw[this,ay]
   have A:∀g' p m q kd u k B,g'.map Prod.fst=XA6 xs (i+1)->Gm g' p m B->a8 a0 p m (I i) q kd u k B=x:=by
    intro g' p m q kd u k B h1 h2;have ad:∀{K:K2},Al Ab .add (I i) (.v (.int .i64 1)) K=K (I ((i+1:Nat):Int)):=λ{K}=>Dc (by omega);rw[aa,Z];simp only[ad];exact ih (i+1) g' p m B q kd u k (by omega) (by omega) h1 h2
   clear Z aa ih t;have l7:∀{H}{K:K2},A9 BD (.iptr y.cs) H K=K (.agg y.cs):=λ{H K}=>r_ rfl;obtain⟨H1,e1,m1,w1,ak⟩:=DN (e:=Vp) (zs:=[zI,zI,zI,zI,zI,zI,zI]) (vs:=y.cs) hh.wf rfl;rw[hx.ia Q,hy,l7,AW (cs:=[zI,zI,zI,zI,zI,zI,zI]) rfl,Bx (cs:=[zI,zI,zI,zI,zI,zI,zI]) (vs:=y.cs) (Av (by simp)) rfl rfl rfl,<-e1];have h1:=hh.grow w1 λs q j=>(ak s q j).1;generalize Ay H=q7 at m1;clear e1 ak hh;obtain⟨X, -⟩:=rd7 m1;rw[B7r,X];refine KF λa9 ab=>?_;have a:a9 (I (kdM i y)) H1=x:=by
    rw[ab];clear ab;refine KF λbf ac=>?_;refine KF λbc F=>?_;have ai:=h1.si;rw[J]at ai;have w:((XA6 xs i).map Cd.id).length=g.length:=by rw[WV,ar]
    refine B6P (n:=n) (ids:=(XA6 xs i).map Cd.id) (by omega) o6 m1 (by rw[w];exact ai) (by rw[w];omega) (λu k H2 hp=>?_) (L+20) 0 A7 H1 (by omega) (by omega) ⟨.inl ⟨rfl,rfl,rfl⟩,λ_=>rfl,(λs j=>by obtain⟨_,_,_,h⟩:=j;cases h),w1,w1,MZ _,λ_ _ h=>h⟩;rw[F,ac];clear F ac;obtain⟨-,r1,r2,r3,r4,r5,r6⟩:=rd7 (hp.kp _ _ m1);simp only[B9y,B9x,B9w,B9v,B9u,B7q,r1,r2,r3,r4,r5,r6];rw[b6,b6,b4,bs4];obtain⟨H3,s3,e3,Y,m3,w3,am⟩:=push hp.wf (.cells false FB [I y.y3,I y.y4,I y.y5,I y.y6]) (by simp);rw[<-Y,<-e3];have az:J8 (kdM i y):=by
     unfold kdM;split
     ·unfold J8;omega
     ·exact o0
    have a7:YA H3 (some (y.y3,y.y4,y.y5,y.y6)) (.sl 4 s3 0 1):=λB kp=>⟨true,UW (D:=depth-1) (q':=false) (kp _ _ m3) rfl (JO (λz:Int=>Value.int .i64 z) [y.y3,y.y4,y.y5,y.y6])⟩
    have a6:PL H3 (nN ((XA6 xs i).map Cd.id) y.y6 3) u:=.inr (hp.sl.kp λs q _ j=>(am _ _ j).1);have h3:=h1.grow w3 λs q j=>(am _ _ (hp.kp s q j)).1;have bd:=A13 (ids:=(XA6 xs i).map Cd.id) (y6:=y.y6) 3;clear r1 r2 r3 r4 r5 r6 e3 Y m3 h1;have ax:∀s∈nN ((XA6 xs i).map Cd.id) y.y6 3,s.length=32:=λs j=>by
     obtain⟨c,_,rfl⟩:=US.1 (A12 _ s j);exact A0q c
    refine jF (n:=n+20) (y:=some (y.y3,y.y4,y.y5,y.y6)) hL w3 az o1 o2 o3 o4 o5 o1 o2 o3 o4 o5 o6 a7 ⟨o3,o4,o5,o6⟩ a6 (by omega) ax ?_;show∀v B,AT B A0 1 v (cM i y ((XA6 xs i).map Cd.id)).ps.length (Bj (cM i y ((XA6 xs i).map Cd.id)).ps)->((cM i y ((XA6 xs i).map Cd.id)).ps=[]->v=A7)->Wf B->(∀s q,Ao H3 s=some q->Ao B s=some q)->(∀s,AD v s->Ay H3<=s)->_;intro v H4 sv nv w4 ao O;have M:(cM i y ((XA6 xs i).map Cd.id)).Ok:=B17;have ec:C_ (kdM i y) y.y1 y.y2 y.y3 y.y4 y.y5 y.y1 y.y2 y.y3 y.y4 y.y5 y.y6 (some (y.y3,y.y4,y.y5,y.y6)) (nN ((XA6 xs i).map Cd.id) y.y6 3)=cM i y ((XA6 xs i).map Cd.id):=rfl;rw[ec];generalize cM i y ((XA6 xs i).map Cd.id)=c at sv nv M N⊢;have h4:=h3.grow w4 ao;have hd:∀s,AD v s->¬AD lv s/\¬AD iv s:=λs j=>⟨λe=>by have:=h3.ltl e;have:=O s j;omega,λe=>by have:=h3.lti e;have:=O s j;omega⟩
    obtain⟨V,e5,m5,w5,R⟩:=DN (e:=Ae) (zs:=BG) (vs:=c.csP v) w4 (Tt c);rw[AW (cs:=BG) rfl,Bx (cs:=BG) (vs:=c.csP v) (Av (by simp)) (Tt c) rfl (Yv c (AT.one sv)),<-e5];have h5:=h4.grow w5 λs q j=>(R s q j).1;have aq:=AT.kp sv λs q _ j=>(R s q j).1;generalize Ay H4=r at m5;have lc:∀{K},A9 Ac (.ptr r 0 0) V K=K (.agg (c.csP v)):=λ{K}=>AR rfl (by exact(Tt c).symm) m5;clear e5 R h4 h3 sv ao O m5;have ag:((XA6 xs i).map Cd.id).length<1000:=by rw[w];omega
    have a3:([]:Ha)∉(XA6 xs i).map Cd.id:=λe=>by
     obtain⟨d,_,hd⟩:=US.1 e;exact mB d hd
    have ae:∀{s:Ha}{K},Ak (r! L (n+64)) Ny [iv,S s] V K=K (kR s ((XA6 xs i).map Cd.id) 0):=λ{s K}=>by
     have ap:=h5.si;rw[J,<-w]at ap;have ba:(XA6 xs i).map Cd.id=[]->iv=A7:=λe=>h5.ni (by
      have:g.length=0:=by rw[<-w,e];rfl
      exact tC this)
     obtain⟨q,hq⟩:=A1l (D:=depth-1) (b:=true) ap ba;exact AX (B0v (L:=L) (n:=n+63) (s:=s) (QO ((XA6 xs i).map Cd.id)) ag (by omega)) (Az hq (Az (q:=false) Er Bq))
    obtain⟨qc,ah⟩:=tY (D:=depth-2) aq nv;by_cases C:c.ps.Nodup
    ·have P:∀{K},Ak (r! L (n+64)) Gw [.agg (c.csP v)] V K=K (S c.id):=λ{K}=>AX (A0p (n:=n) hL M C) (Az (PJ (D:=depth-1) ah) Bq);rw[lc,P,ae];by_cases hm:c.id∈(XA6 xs i).map Cd.id
     ·obtain⟨k,hk, -, -,e⟩:=kQ _ 0 hm;rw[Co λhc=>hc.2 hm]at N;rw[e,CO,CN,ZF,Iy (mB c),Bool.not_false];simp only[gT,BJ,sK,WT];rw[B6];exact A g lv iv _ _ _ _ V (by rw[N];exact J) h5
     ·rw[CJ ⟨C,hm⟩]at N;obtain⟨p,H6,m,H7,b1,b2,b3⟩:=h5.add aq nv hd (by omega);rw[fZ _ 0 hm,CO,CN,ZF,Iy (mB c),Bool.not_false];simp only[gT,BJ,ntF,WT];rw[Dg,lc,b1,b2];exact A (g++[(c,v)]) p m _ _ _ _ H7 (by rw[N,UT,J];rfl) b3
    ·have P:∀{K},Ak (r! L (n+64)) Gw [.agg (c.csP v)] V K=K (S []):=λ{K}=>AX (B0b (n:=n) hL M C) (Az (PJ (D:=depth-1) ah) Bq);rw[Co λhc=>C hc.1]at N;rw[lc,P,ae,fZ _ 0 a3,CO,CN,ZF,Iz rfl,Bool.not_true];simp only[uU,BJ,T2];rw[B6];exact A g lv iv _ _ _ _ V (by rw[N];exact J) h5
   have e2:(AV.v (.int .i64 2))=I ((2:Nat):Int):=rfl;rw[e2];by_cases af:i<2
   ·have a5:∀{H K},Ak (r! L (n+64)) J7 [I (y.y0.tdiv 3),.v (.int .i64 4)] H K=K (I (pk (y.y0.tdiv 3) 4)):=λ{H K}=>wV (n:=n+63) (Lf o0 (by decide)) (by decide) (by decide) H K;rw[FZ (by omega)];simp only[gT,BJ,B7r,X,ZT o0 (show(1:Int)<=3 by decide),a5,DE,WT];by_cases h0:0<pk (y.y0.tdiv 3) 4
    ·rw[Iz h0,Dg];have e:kdM i y=0:=CJ ⟨af,h0⟩;rw[e]at a;exact a
    ·rw[Iy h0,B6];have e:kdM i y=y.y0:=Co λhc=>h0 hc.2;rw[e]at a;exact a
   ·rw[Ga (by omega)];simp only[uU,BJ,gU,T2];rw[B6];have e:kdM i y=y.y0:=Co λhc=>af hc.1;rw[e]at a;exact a
  ·have:i=min 8 xs.length:=by omega
   subst this;by_cases h8:xs.length<=8
   ·rw[Ga (by omega)];simp only[uU,BJ,T2];rw[B6];exact t g lv iv H J hh
   ·rw[FZ (by omega)];simp only[gT,BJ];rw[Ga (by omega),BJ,WT,B6];exact t g lv iv H J hh
def A4U(i:40000<L)(k:XA xs a0)(c:∀y∈xs,y.Ok):CT (r! L (n+65)) Tl [a0] (sV (XA6 xs (min 8 xs.length))):=by
 intro K f;rw[jQ];unfold SE Aq;simp only[Ca];refine B72 i k c (λg lv iv H j a=>?_) (L+20) 0 [] A7 A7 [] _ _ _ _ (by omega) (by omega) rfl ⟨⟨(λp d=>by cases d),(λp d=>by cases d)⟩,.inl ⟨rfl,rfl,rfl⟩,λ_=>rfl,.inl ⟨rfl,rfl,rfl⟩,λ_=>rfl,(λs e=>by obtain⟨_,_,_,h⟩:=e;cases h),(λs e=>by obtain⟨_,_,_,h⟩:=e;cases h),EH⟩;refine f _ _ ?_;rw[<-j];exact B4r (D:=depth-2) a.gv a.sl a.nl
end
end
end Go.Abs
end
