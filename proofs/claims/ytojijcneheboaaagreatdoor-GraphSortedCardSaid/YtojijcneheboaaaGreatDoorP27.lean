import Derived.Test.YtojijcneheboaaaGreatDoorP26
set_option linter.all false
set_option maxHeartbeats 0
noncomputable section
namespace Go.Abs
open Go.RowKit Go.Proofs
set_option maxRecDepth 100000
section
variable{α:Type}
variable{L n:Nat}
def Mu{F:α}{G:α->Af}{x:Af}(h:∀k,k=F->G k=x):jn F G=x:=by rw[BJ];exact h F rfl
def AZ.kp{H H':Hp}{e sz n:Nat}{v:AV}{cs:Is}(h:AZ H e sz v n cs)(k:∀s x,A6 v s->Al H s=some x->Al H' s=some x):AZ H' e sz v n cs:=by
 rcases h with h|⟨r,q,h1,h2,a⟩
 ·exact .inl h
 ·exact .inr ⟨r,q,h1,k r _ ⟨_,_,_,h1⟩ h2,a⟩
def C2K(l:List Nd):∃vs:Hx,l.flatMap xT=vs.map λx=>.v x:=by
 induction l with
 |nil=>exact⟨[],rfl⟩
 |cons x l ih=>
  obtain⟨vs,h⟩:=ih;refine⟨[.int .i64 x.op,.string ⟨⟨x.vn⟩⟩,.string ⟨⟨x.vd⟩⟩,.int .i64 x.u.p0,.int .i64 x.u.q0,.int .i64 x.u.p1,.int .i64 x.u.q1,.int .i64 x.u.p2,.int .i64 x.u.q2,.int .i64 x.u.p3,.int .i64 x.u.q3,.int .i64 x.u.p4,.int .i64 x.u.q4,.int .i64 x.u.p5,.int .i64 x.u.q5,.int .i64 x.u.p6,.int .i64 x.u.q6,
   .string ⟨⟨x.u.fn⟩⟩,.string ⟨⟨x.u.fd⟩⟩,.string ⟨⟨x.u.on⟩⟩,.string ⟨⟨x.u.od⟩⟩,.int .i64 x.u.kd,.int .i64 x.u.sc,.int .i64 x.n,.int .i64 x.l,.int .i64 x.r]++vs,?_⟩
  rw[jH,h,Yr];rfl
def ndL(l:List Nd):AV:=match l with
 |[]=>A1
 |x::l=>.list (x::l).length ((x::l).flatMap xT)
def A8I{D:Nat}{b:Bool}{H:Hp}{v:AV}{l:List Nd}(h:AZ H AL 26 v l.length (l.flatMap xT))(d:l=[]->v=A1):∃q,Fx b (D+1) v (ndL l) H q:=by
 rcases h with⟨rfl,h2,_⟩|⟨r,q,rfl,h2,c⟩
 ·cases l with
  |nil=>exact⟨false,CG⟩
  |cons a l=>simp at h2
 ·cases l with
  |nil=>have:=d rfl;cases this
  |cons a l=>
   refine⟨true,?_⟩;show Fx b (D+1) _ (.list (a::l).length ((a::l).flatMap xT)) H true;obtain⟨vs,e⟩:=C2K (a::l);rw[e]at h2 c⊢;exact WS (q':=false) h2 c (KF _root_.id _)
def C1O{y:Nd}{H:Hp}{K:KV}:Gt AL 26 AD 1 [(0,26,.agg y.cs)] H K=K (.sl 26 (Ax H) 0 1) ((Ax H,.cells false AL (xT y))::H):=by
 have e:Gt AL 26 AD 1 [(0,26,.agg y.cs)] H K=HV H (λs=>K (.sl 26 s 0 1) ((s,.cells false AL (xT y))::H)):=r_ rfl;rw[e,BW]
structure Md(b r z:Nat)(ins:List Int)(id:Int)(ks:Hb)(xs:List Nd)(us:Hb)(v w u:AV)(H:Hp):Prop where
 hb:Al H b=some (c_ TK (EB ins))
 hr:Al H r=some (Ih id v w u0)
 hz:∃cs,cs.length=23/\Al H z=some (c_ BO cs)
 sv:AZ H A4 20 v ks.length (ks.flatMap GP)
 nv:ks=[]->v=A1
 sw:AZ H AL 26 w xs.length (xs.flatMap xT)
 nw:xs=[]->w=A1
 su:AZ H A4 20 u us.length (us.flatMap GP)
 nu:us=[]->u=A1
 br:b≠r
 zr:z≠r
 av:∀s,A6 v s->s≠b/\s≠r/\s≠z/\¬A6 w s/\¬A6 u s
 aw:∀s,A6 w s->s≠b/\s≠r/\s≠z/\¬A6 v s/\¬A6 u s
 au:∀s,A6 u s->s≠b/\s≠r/\s≠z/\¬A6 v s/\¬A6 w s
 wf:Wf H
section
variable{K:KV}{x:Af}{ins:List Int}{id:Int}{ks us:Hb}{xs:List Nd}{v w u:AV}{b r z m:Nat}{H H':Hp}
def Md.grow(h:Md b r z ins id ks xs us v w u H)(wf:Wf H')(kp:∀s x,Al H s=some x->Al H' s=some x):Md b r z ins id ks xs us v w u H':=by
 obtain⟨cs,c1,c2⟩:=h.hz;exact⟨kp _ _ h.hb,kp _ _ h.hr,⟨cs,c1,kp _ _ c2⟩,h.sv.kp λs x _=>kp s x,h.nv,h.sw.kp λs x _=>kp s x,h.nw,h.su.kp λs x _=>kp s x,h.nu,h.br,h.zr,h.av,h.aw,h.au,wf⟩
structure Oth(b r z:Nat)(v w u:AV)(m:Nat):Prop where
 b:m≠b
 r:m≠r
 z:m≠z
 v:¬A6 v m
 w:¬A6 w m
 u:¬A6 u m
def Md.oth(h:Md b r z ins id ks xs us v w u H):Oth b r z v w u (Ax H):=by
 obtain⟨cs,c1,c2⟩:=h.hz;have h1:=h.wf.lt h.hb;have h2:=h.wf.lt h.hr;have a:=h.wf.lt c2;exact⟨by omega,by omega,by omega,λe=>by have:=h.sv.lt h.wf e;omega,λe=>by have:=h.sw.lt h.wf e;omega,λe=>by have:=h.su.lt h.wf e;omega⟩
theorem Md.upd(h:Md b r z ins id ks xs us v w u H)(o:Oth b r z v w u m)(y:Row):Md b r z ins id ks xs us v w u (upd H m y):=by
 obtain⟨cs,c1,c2⟩:=h.hz;have kp:∀s x,s≠m->Al H s=some x->Al (Go.Abs.upd H m y) s=some x:=λs x a c=>by rw[Ah a];exact c
 exact⟨kp _ _ (Ne.symm o.b) h.hb,kp _ _ (Ne.symm o.r) h.hr,⟨cs,c1,kp _ _ (Ne.symm o.z) c2⟩,h.sv.kp λs x a=>kp s x (λe=>o.v (e▸a)),h.nv,h.sw.kp λs x a=>kp s x (λe=>o.w (e▸a)),h.nw,h.su.kp λs x a=>kp s x (λe=>o.u (e▸a)),h.nu,h.br,h.zr,h.av,h.aw,h.au,Bs h.wf⟩
def iD{α β:Type}(f:α->List β)(l:List α)(a:α):(l++[a]).flatMap f=l.flatMap f++f a:=by simp
def Md.v1(h:Md b r z ins id ks xs us v w u H)(k:Nat)(g:ks.length<100):∃c H',(∀K:KV,Ed A4 20 Au Ai v (.sl 20 (Ax H) 0 1) ((Ax H,.cells false A4 (GP k))::H) K=K c H')/\
 (∀K:Ru,Dr Ai (.ptr r 1 0) c H' K=K (Go.Abs.upd H' r (Ih id c w u0)))/\Md b r z ins id (ks++[k]) xs us c w u (Go.Abs.upd H' r (Ih id c w u0)):=by
 obtain⟨c,H',a1,a2,j,p,i,f⟩:=zW (ie:=Au) (i2:=Ai) (ys:=GP k) h.sv h.wf rfl rfl (by decide) rfl (λ_=>rfl) (by show(_+1)*192<=_;omega) (by omega);obtain⟨cs,c1,c2⟩:=h.hz;have h1:=h.wf.lt h.hb;have h2:=h.wf.lt h.hr;have q:=h.wf.lt c2;have d:=i _ _ h.hr λe=>(h.av _ e).2.1 rfl;have kp:∀s x,s≠r->¬A6 v s->Al H s=some x->Al (Go.Abs.upd H' r (Ih id c w u0)) s=some x:=λs x a hn g=>by rw[Ah a];exact i s x g hn
 refine⟨c,H',a1,λK=>Em d (show 1<23 by decide) rfl (AZ.cell a2) (AZ.one a2),kp _ _ h.br (λe=>(h.av _ e).1 rfl) h.hb,A5 d,⟨cs,c1,kp _ _ h.zr (λe=>(h.av _ e).2.2.1 rfl) c2⟩,?_,λe=>by simp at e,
  h.sw.kp λs x a=>kp s x (h.aw s a).2.1 (h.aw s a).2.2.2.1,h.nw,h.su.kp λs x a=>kp s x (h.au s a).2.1 (h.au s a).2.2.2.1,h.nu,h.br,h.zr,λs a=>?_,λs a=>?_,λs a=>?_,Bs j⟩
 ·rw[EJ,iD];refine AZ.kp a2 λs x a g=>?_;have:=f s a;rw[Ah (by omega)];exact g
 ·have:=f s a;exact⟨by omega,by omega,by omega,λe=>by have:=h.sw.lt h.wf e;omega,λe=>by have:=h.su.lt h.wf e;omega⟩
 ·obtain⟨q1,q2,q3,q4,q5⟩:=h.aw s a;exact⟨q1,q2,q3,λe=>by have:=f s e;have:=h.sw.lt h.wf a;omega,q5⟩
 ·obtain⟨q1,q2,q3,q4,q5⟩:=h.au s a;exact⟨q1,q2,q3,λe=>by have:=f s e;have:=h.su.lt h.wf a;omega,q5⟩
def Md.w1(h:Md b r z ins id ks xs us v w u H)(y:Nd)(g:xs.length<100):∃c H',(∀K:KV,Ed AL 26 AD Ar w (.sl 26 (Ax H) 0 1) ((Ax H,.cells false AL (xT y))::H) K=K c H')/\
 (∀K:Ru,Dr Ar (.ptr r 2 0) c H' K=K (Go.Abs.upd H' r (Ih id v c u0)))/\Md b r z ins id ks (xs++[y]) us v c u (Go.Abs.upd H' r (Ih id v c u0))/\(∀s x,s≠r->¬A6 w s->Al H s=some x->Al (Go.Abs.upd H' r (Ih id v c u0)) s=some x):=by
 obtain⟨c,H',a1,a2,j,k,i,f⟩:=zW (ie:=AD) (i2:=Ar) (ys:=xT y) h.sw h.wf rfl rfl (by decide) rfl (λ_=>rfl) (by show(_+1)*256<=_;omega) (by omega);obtain⟨cs,c1,c2⟩:=h.hz;have h1:=h.wf.lt h.hb;have h2:=h.wf.lt h.hr;have p:=h.wf.lt c2;have d:=i _ _ h.hr λe=>(h.aw _ e).2.1 rfl;have kp:∀s x,s≠r->¬A6 w s->Al H s=some x->Al (Go.Abs.upd H' r (Ih id v c u0)) s=some x:=λs x a hn g=>by rw[Ah a];exact i s x g hn
 refine⟨c,H',a1,λK=>Em d (show 2<23 by decide) rfl (AZ.cell a2) (AZ.one a2),⟨kp _ _ h.br (λe=>(h.aw _ e).1 rfl) h.hb,A5 d,⟨cs,c1,kp _ _ h.zr (λe=>(h.aw _ e).2.2.1 rfl) c2⟩,
  h.sv.kp λs x a=>kp s x (h.av s a).2.1 (h.av s a).2.2.2.1,h.nv,?_,λe=>by simp at e,h.su.kp λs x a=>kp s x (h.au s a).2.1 (h.au s a).2.2.2.2,h.nu,h.br,h.zr,λs a=>?_,λs a=>?_,λs a=>?_,Bs j⟩,kp⟩
 ·rw[EJ,iD];refine AZ.kp a2 λs x a g=>?_;have:=f s a;rw[Ah (by omega)];exact g
 ·obtain⟨q1,q2,q3,q4,q5⟩:=h.av s a;exact⟨q1,q2,q3,λe=>by have:=f s e;have:=h.sv.lt h.wf a;omega,q5⟩
 ·have:=f s a;exact⟨by omega,by omega,by omega,λe=>by have:=h.sv.lt h.wf e;omega,λe=>by have:=h.su.lt h.wf e;omega⟩
 ·obtain⟨q1,q2,q3,q4,q5⟩:=h.au s a;exact⟨q1,q2,q3,q4,λe=>by have:=f s e;have:=h.su.lt h.wf a;omega⟩
def Md.u1(h:Md b r z ins id ks xs us v w u H)(k:Nat)(d:us.length<100):∃f H',(∀K:KV,Ed A4 20 Au Ai u (.sl 20 (Ax H) 0 1) ((Ax H,.cells false A4 (GP k))::H) K=K f H')/\Md b r z ins id ks xs (us++[k]) v w f H':=by
 obtain⟨f,H',a1,a2,i,j,c,g⟩:=zW (ie:=Au) (i2:=Ai) (ys:=GP k) h.su h.wf rfl rfl (by decide) rfl (λ_=>rfl) (by show(_+1)*192<=_;omega) (by omega);obtain⟨cs,c1,c2⟩:=h.hz;have h1:=h.wf.lt h.hb;have h2:=h.wf.lt h.hr;have p:=h.wf.lt c2;refine⟨f,H',a1,c _ _ h.hb (λe=>(h.au _ e).1 rfl),c _ _ h.hr (λe=>(h.au _ e).2.1 rfl),⟨cs,c1,c _ _ c2 (λe=>(h.au _ e).2.2.1 rfl)⟩,
  h.sv.kp λs x a d=>c s x d (h.av s a).2.2.2.2,h.nv,h.sw.kp λs x a d=>c s x d (h.aw s a).2.2.2.2,h.nw,?_,λe=>by simp at e,h.br,h.zr,λs a=>?_,λs a=>?_,λs a=>?_,i⟩
 ·rw[EJ,iD];exact a2
 ·obtain⟨q1,q2,q3,q4,q5⟩:=h.av s a;exact⟨q1,q2,q3,q4,λe=>by have:=g s e;have:=h.sv.lt h.wf a;omega⟩
 ·obtain⟨q1,q2,q3,q4,q5⟩:=h.aw s a;exact⟨q1,q2,q3,q4,λe=>by have:=g s e;have:=h.sw.lt h.wf a;omega⟩
 ·have:=g s a;exact⟨by omega,by omega,by omega,λe=>by have:=h.sv.lt h.wf e;omega,λe=>by have:=h.sw.lt h.wf e;omega⟩
def VY{s j:Nat}{K:K2}:Cl j (.ptr s 0 0) K=K (.ptr s j 0):=by rw[fA,Kk]
def Md.ld1(h:Md b r z ins id ks xs us v w u H){K:K2}:A7 Ai (.ptr r 1 0) H K=K v:=AH (p:=1) rfl h.hr (show 1<23 by decide)
def Md.ld2(h:Md b r z ins id ks xs us v w u H){K:K2}:A7 Ar (.ptr r 2 0) H K=K w:=AH (p:=2) rfl h.hr (show 2<23 by decide)
def ksM(ins:List Int)(i:Nat):Hb:=(ins.take i).map λc=>(pk c 7).toNat
def B2x{i:Nat}(h:i<ins.length):ksM ins (i+1)=ksM ins i++[(pk ins[i] 7).toNat]:=by
 unfold ksM;rw[tO h,Yr];rfl
def C0h{count:Int}{t ex y d1 d2:AV}{d:AV->AV->AV->AV->AV->AV->AV->KV}(D:100<L)(J:ins.length=3)(j:∀c∈ins,KO c)(hc:KO count)(g:∀v H,Md b r z ins id (ksM ins ((pk count 3).toNat+1)) [] [] v A1 A1 H->d (I count) t ex (.ptr b 0 0) (.ptr z 0 0) (.ptr r 0 0) (I (((pk count 3).toNat+1:Nat):Int)) d2 H=x):
 ∀(f i:Nat)(v:AV)(H:Hp),i<=(pk count 3).toNat+1->(pk count 3).toNat+1-i<f->Md b r z ins id (ksM ins i) [] [] v A1 A1 H->
 XA8 (L+20) (r! L (n+42)) K d f (I count) t ex (.ptr b 0 0) (.ptr z 0 0) (.ptr r 0 0) (I i) y d1 d2 H=x:=by
 have pr:=EM (c:=count) (n:=3) (by decide);intro f
 induction f with
 |zero=>intro i v H _ h;omega
 |succ f ih=>
  intro i v H A F a;rw[kB];unfold SY Lo Az;have q:∀H K,Aj (r! L (n+42)) BY [I count,.v (.int .i64 3)] H K=K (I (pk count 3)):=LG (n:=n+41) hc (by decide) (by decide);rw[q,eA];by_cases h:i<=(pk count 3).toNat
  ·have e:i<ins.length:=by omega
   have hb:=a.hb;have ld:∀{K},A7 Ac (.ptr b i 0) H K=K (I ins[i]):=λ{K}=>by rw[AH (p:=i) rfl a.hb (by simp[EB];omega),R9 e]
   have ia:∀{K:K2},Dh QG (.ptr b 0 0) (I i) K=K (.ptr b i 0):=λ{K}=>Ey i rfl rfl (by omega);have un:∀{H K},Aj (r! L (n+42)) FK [I ins[i]] H K=K (.agg (BX (uu (pk ins[i] 7).toNat))):=λ{H K}=>A1C (n:=n) (j _ (Of e)) H K;have k:(ksM ins i).length<100:=by simp[ksM];omega
   obtain⟨C,H',a1,a2,s⟩:=a.v1 (pk ins[i] 7).toNat k;have ok:Zd v v=true:=M_ a.sv;have B:∀{K},A7 Ai (.ptr r 1 0) ((Ax H,Row.cells false A4 (GP (pk ins[i] 7).toNat))::H) K=K v:=λ{K}=>AH (p:=1) rfl (AK (a.wf.lt a.hr) a.hr) (show 1<23 by decide);rw[Ki (by omega),CA];simp only[VY,BN,a.ld1,ia,ld,un,A5Q,Ck,a1,a2,B];rw[A8c ok,Dg (by omega)];rw[<-B2x e]at s;exact ih (i+1) C _ (by omega) (by omega) s
  ·have:i=(pk count 3).toNat+1:=by omega
   subst this;rw[KD (by omega),Bm];exact g v H a
def C0i{a1 a2 i k s:AV}{c:AV->AV->AV->AV->AV->AV->AV->AV->KV}(M:100<L)(hb:ks.length<=3)(e:∀w u H,Md b r z ins id ks (Kd ks) ks v w u H->c a1 a2 i (.ptr b 0 0) (.ptr z 0 0) (.ptr r 0 0) k u (I ks.length) H=x):
 ∀(f j:Nat)(w u:AV)(H:Hp),j<=ks.length->ks.length-j<f->Md b r z ins id ks ((List.range j).map Yh) (ks.take j) v w u H->
 SX (L+20) (r! L (n+42)) K c f a1 a2 i (.ptr b 0 0) (.ptr z 0 0) (.ptr r 0 0) k u (I j) s H=x:=by
 intro f
 induction f with
 |zero=>intro j w u H _ h;omega
 |succ f ih=>
  intro j w u H D N d;rw[kC];unfold SZ E0 HN Az;rw[VY,d.ld1,Kr (t:=Ai) rfl d.sv];by_cases h:j<ks.length
  ·have q:∀{K:K2},BZ AD [(0,1,.v (.int .i64 2)),(23,1,I j)] K=K (.agg (Yh j).cs):=λ{K}=>r_ rfl;obtain⟨J,H',b1,b2,g, -⟩:=d.w1 (Yh j) (by simp;omega);obtain⟨a,B,C⟩:=A3l g.sv h;obtain⟨F,p,y,A⟩:=g.u1 ks[j] (by simp;omega);rw[Fo (by omega),CA,VY,d.ld2,q,C1O,b1,VY,b2,VY,g.ld1,B,C,A5Q,y,Dg (by omega)];refine ih (j+1) J F p (by omega) (by omega) ?_;rw[List.range_succ,Yr,tO h];exact A
  ·have:j=ks.length:=by omega
   subst this;rw[XA2 (by omega),Bm];rw[tN]at d;exact e w u H d
end
end
section
variable{D:Nat}{y:Nd}
variable{L n:Nat}
def exO(ks:Hb)(q a13 b4 k7 e5 l r:Nat):Ex:=match q with
 |0=>.cn (iB a13 b4) k7
 |1=>.inp l
 |6=>match Wi (ks.getD l 0) e5 with
  |some k=>.po l e5 k
  |none=>.no
 |7=>.no
 |q=>match Ur (q-2) (ks.getD l 0) (ks.getD r 0) with
  |some k=>.bi (q+1) l r k
  |none=>.no
def exM(ks:Hb)(y0 y1 y2 y3:Int):Ex:=exO ks (pk y0 8).toNat (pk y1 13).toNat (pk y2 4).toNat (pk y3 7).toNat (pk y2 5).toNat (pk y1 ks.length).toNat (pk y2 ks.length).toNat
theorem A92{ks:Hb}{q a13 b4 k7 e5 l r:Nat}(h:2<=q)(a:q<6):exO ks q a13 b4 k7 e5 l r=match Ur (q-2) (ks.getD l 0) (ks.getD r 0) with
 |some k=>.bi (q+1) l r k
 |none=>.no:=by
 obtain rfl|rfl|rfl|rfl:q=2\/q=3\/q=4\/q=5:=by omega
 all_goals rfl
def A05{a b:Nat}(c:a<13)(hb:b<4):iB a b<33:=by
 have:=G8.1 (show((List.range 52).all λi=>decide (iB (i/4) (i%4)<33))=true by kernel_rfl) (4*a+b) (JM.2 (by omega));rw[show(4*a+b)/4=a by omega,show(4*a+b)%4=b by omega]at this;simpa using this
def Ni{c m:Int}(h:0<m):∃k:Nat,pk c m=k/\(k:Int)<m/\(pk c m).toNat=k:=by
 have:=EM (c:=c) h;exact⟨(pk c m).toNat,by omega,by omega,rfl⟩
def B83{ks:Hb}{y0 y1 y2 y3:Int}(h1:1<=ks.length):(exM ks y0 y1 y2 y3).Ok ks:=by
 obtain⟨q, -,h2,f⟩:=Ni (c:=y0) (m:=8) (by decide);obtain⟨a, -,t,g⟩:=Ni (c:=y1) (m:=13) (by decide);obtain⟨b, -,hb,h⟩:=Ni (c:=y2) (m:=4) (by decide);obtain⟨k, -,hk,j⟩:=Ni (c:=y3) (m:=7) (by decide);obtain⟨e, -,he,i⟩:=Ni (c:=y2) (m:=5) (by decide);obtain⟨l, -,A,p⟩:=Ni (c:=y1) (m:=ks.length) (by omega);obtain⟨r, -,hr,s⟩:=Ni (c:=y2) (m:=ks.length) (by omega);unfold exM;rw[f,g,h,j,i,p,s];by_cases hq:2<=q/\q<6
 ·rw[A92 hq.1 hq.2];cases d:Ur (q-2) (ks.getD l 0) (ks.getD r 0) with
  |none=>exact trivial
  |some k=>exact⟨by omega,by omega,by omega,by omega,d⟩
 ·obtain rfl|rfl|rfl|rfl:q=0\/q=1\/q=6\/q=7:=by omega
  ·exact⟨A05 (by omega) (by omega),by omega⟩
  ·show l<ks.length;omega
  ·show(match Wi (ks.getD l 0) e with
    |some k=>Ex.po l e k
    |none=>.no).Ok ks
   cases d:Wi (ks.getD l 0) e with
   |none=>exact trivial
   |some k=>exact⟨by omega,by omega,d⟩
  ·exact trivial
section
variable{K:KV}{x:Af}{ins:List Int}{id:Int}{ks us:Hb}{xs:List Nd}{v w u:AV}{b r z m:Nat}{H H':Hp}{y0 y1 y2 y3:Int}
def A3m(h:1<=ks.length):QD ks=B0 ks:=by cases ks with|nil=>simp at h|cons _ _=>rfl
def A3J(h:1<=xs.length):ndL xs=BL xs:=by cases xs with|nil=>simp at h|cons _ _=>rfl
def Md.proc(h:Md b r z ins id ks xs us v w u H)(h1:1<=ks.length)(h2:1<=xs.length){bb:Bool}:∃q,Fx bb (D+2) (.agg (Bp id v w u0)) (.agg (Bp id (B0 ks) (BL xs) u0)) H q:=by
 obtain⟨q1,a⟩:=iA (D:=D) (b:=bb) h.sv h.nv;obtain⟨q2,c⟩:=A8I (D:=D) (b:=bb) h.sw h.nw;rw[A3m h1]at a;rw[A3J h2]at c;exact⟨_,PR (D:=D+1) (Aq (q:=false) CG (Aq a (Aq c (KF (b:=bb) (D:=D+1) (H:=H) (λx:Value=>x) [.int .i64 u0.p0,.int .i64 u0.q0,.int .i64 u0.p1,.int .i64 u0.q1,.int .i64 u0.p2,.int .i64 u0.q2,.int .i64 u0.p3,.int .i64 u0.q3,.int .i64 u0.p4,.int .i64 u0.q4,.int .i64 u0.p5,.int .i64 u0.q5,.int .i64 u0.p6,.int .i64 u0.q6,
  .string ⟨⟨u0.fn⟩⟩,.string ⟨⟨u0.fd⟩⟩,.string ⟨⟨u0.on⟩⟩,.string ⟨⟨u0.od⟩⟩,.int .i64 u0.kd,.int .i64 u0.sc]))))⟩
def B7q{b:Bool}:Fx b (D+1) (.agg y.cs) (.agg y.cs) H false:=λK=>by cases D<;>cases b<;>kernel_rfl
def Md.ty(h:Md b r z ins id ks (Kd ks) ks v w u H)(h1:1<=ks.length){t:AV}(d:CS (r! L (n+42)) Ct [.agg (Bp id (B0 ks) (BL (Kd ks)) u0),.agg y.cs,I ks.length,QD ks] t){K:K2}:
 Aj (r! L (n+42)) Ct [.agg (Bp id v w u0),.agg y.cs,I ks.length,u] H K=K t:=by
 obtain⟨q1,a⟩:=h.proc h1 (by rw[Dz];exact h1) (D:=depth-2) (bb:=true);obtain⟨q2,c⟩:=B48 (b:=true) h.su h.nu;exact AE d (Aq a (Aq (B7q (D:=depth-1)) (Aq (q:=false) CG (Aq c AG))))
end
end
section
variable{L n:Nat}
section
variable{K:KV}{x:Af}{ins:List Int}{id:Int}{ks us:Hb}{xs:List Nd}{v w u:AV}{b r z m:Nat}{H H':Hp}{y0 y1 y2 y3:Int}
def C0j{a1 i4 j5:AV}{ah:AV->AV->KV}(h:Md b r z ins id ks (Kd ks) ks v w u H)(k1:1<=ks.length)(k3:ks.length<=3)(k7:∀k∈ks,k<7)(i0:KO y0)(i1:KO y1)(i2:KO y2)(i3:KO y3)(ac:∀J F H',Md b r z ins id ks (Kd ks++(exM ks y0 y1 y2 y3).nd) (ks++(exM ks y0 y1 y2 y3).ty ks) v J F H'->ah (.ptr z 0 0) (.ptr r 0 0) F H'=x)(f:Nat):
 LD (L+20) (r! L (n+42)) K ah (f+2) a1 (.list 1 [I y0,I y1,I y2,I y3]) (Bo true) (.ptr b 0 0) (.ptr z 0 0) (.ptr r 0 0) i4 u j5 (I ((0:Nat):Int)) H=x:=by
 have ex:∀J F H',Md b r z ins id ks (Kd ks++(exM ks y0 y1 y2 y3).nd) (ks++(exM ks y0 y1 y2 y3).ty ks) v J F H'->LD (L+20) (r! L (n+42)) K ah (f+1) a1 (.list 1 [I y0,I y1,I y2,I y3]) (Bo true) (.ptr b 0 0) (.ptr z 0 0) (.ptr r 0 0) i4 F j5 (I ((0+1:Nat):Int)) H'=x:=by
  intro J F H' j;rw[PF];unfold XA4 E0 Sm Vo HN BK JD Az MS Fk;have el:∀{K:K2},Bh IF (.list 1 [I y0,I y1,I y2,I y3]) K=K (I ((1:Nat):Int)):=λ{K}=>r_ rfl;rw[el,XA2 (by omega)];simp only[Z_,Ck,ZG];rw[Bm];exact ac J F H' j
 rw[PF];unfold XA4 E0 Sm Vo HN BK JD Az MS Fk;have el:∀{K:K2},Bh IF (.list 1 [I y0,I y1,I y2,I y3]) K=K (I ((1:Nat):Int)):=λ{K}=>r_ rfl;have ba:(AV.v (.int .i64 14))=I ((14:Nat):Int):=rfl;have hw:=h.sw;rw[Dz]at hw;rw[el,Fo (by omega),ba];simp only[gT,Ck,VY,h.ld2,Kr (t:=Ar) rfl hw];rw[Fo (by omega),Ck,Xu,CA];refine Mu λbq ak=>?_;refine Mu λbk am=>?_;have B:∀J F H',Md b r z ins id ks (Kd ks++(exM ks y0 y1 y2 y3).nd) (ks++(exM ks y0 y1 y2 y3).ty ks) v J F H'->bk F H'=x:=by
  intro J F H' j;rw[am,ak];have ad:∀{K:K2},Ap Ac .add (I ((0:Nat):Int)) (.v (.int .i64 1)) K=K (I ((0+1:Nat):Int)):=λ{K}=>Dg (by omega);simp only[ad];exact ex J F H' j
 clear ak am ex ac;have bf:∀{K:K2},Dh IF (.list 1 [I y0,I y1,I y2,I y3]) (I ((0:Nat):Int)) K=K (.iptr [I y0,I y1,I y2,I y3]):=λ{K}=>r_ rfl;have bm:∀{H}{K:K2},A7 Cu (.iptr [I y0,I y1,I y2,I y3]) H K=K (.agg [I y0,I y1,I y2,I y3]):=λ{H K}=>r_ rfl;obtain⟨H1,e1,m1,w1,a5⟩:=DY (e:=Hg) (zs:=[zI,zI,zI,zI]) (vs:=[I y0,I y1,I y2,I y3]) h.wf rfl;rw[bf,bm,AP (cs:=[zI,zI,zI,zI]) rfl,Bv (cs:=[zI,zI,zI,zI]) (vs:=[I y0,I y1,I y2,I y3]) (Av (by simp)) rfl rfl rfl,<-e1];have o4:=h.oth;have h1:=h.grow w1 λs x hs=>(a5 s x hs).1;generalize Ax H=q4 at m1 o4;clear a5 e1;have ay:=h1.sw;rw[Dz]at ay;rw[h1.ld2,Kr (t:=Ar) rfl ay];have y4:∀{A:Hp}{K:K2},Al A q4=some (c_ Hg [I y0,I y1,I y2,I y3])->(Dh Cu (.ptr q4 0 0) (.v (.int .i64 0)) λp=>A7 Ac p A K)=K (I y0):=λ{A K}P=>by
  rw[Ey (z:=0) 0 rfl rfl (by decide),AH (p:=0) rfl P (by simp)];rfl
 have Y:∀{A:Hp}{K:K2},Al A q4=some (c_ Hg [I y0,I y1,I y2,I y3])->(Dh Cu (.ptr q4 0 0) (.v (.int .i64 1)) λp=>A7 Ac p A K)=K (I y1):=λ{A K}P=>by
  rw[Ey (z:=1) 1 rfl rfl (by decide),AH (p:=1) rfl P (by simp)];rfl
 have a7:∀{A:Hp}{K:K2},Al A q4=some (c_ Hg [I y0,I y1,I y2,I y3])->(Dh Cu (.ptr q4 0 0) (.v (.int .i64 2)) λp=>A7 Ac p A K)=K (I y2):=λ{A K}P=>by
  rw[Ey (z:=2) 2 rfl rfl (by decide),AH (p:=2) rfl P (by simp)];rfl
 have bp:∀{A:Hp}{K:K2},Al A q4=some (c_ Hg [I y0,I y1,I y2,I y3])->(Dh Cu (.ptr q4 0 0) (.v (.int .i64 3)) λp=>A7 Ac p A K)=K (I y3):=λ{A K}P=>by
  rw[Ey (z:=3) 3 rfl rfl (by decide),AH (p:=3) rfl P (by simp)];rfl
 obtain⟨q,pq,hq,eq⟩:=Ni (c:=y0) (m:=8) (by decide);obtain⟨a13,pa,ha,ea⟩:=Ni (c:=y1) (m:=13) (by decide);obtain⟨b4,pb,hb,eb⟩:=Ni (c:=y2) (m:=4) (by decide);obtain⟨d,bo,hk,ek⟩:=Ni (c:=y3) (m:=7) (by decide);obtain⟨e5,pe,he,ee⟩:=Ni (c:=y2) (m:=5) (by decide);obtain⟨l,pl,P,el⟩:=Ni (c:=y1) (m:=ks.length) (by omega);obtain⟨rr,pr,hr,er⟩:=Ni (c:=y2) (m:=ks.length) (by omega);have ap:∀H K,Aj (r! L (n+42)) BY [I y0,.v (.int .i64 8)] H K=K (I (q:Int)):=by rw[<-pq];exact LG (n:=n+41) i0 (by decide) (by decide)
 have ag:∀H K,Aj (r! L (n+42)) BY [I y1,.v (.int .i64 13)] H K=K (I (a13:Int)):=by rw[<-pa];exact LG (n:=n+41) i1 (by decide) (by decide)
 have aq:∀H K,Aj (r! L (n+42)) BY [I y2,.v (.int .i64 4)] H K=K (I (b4:Int)):=by rw[<-pb];exact LG (n:=n+41) i2 (by decide) (by decide)
 have ar:∀H K,Aj (r! L (n+42)) BY [I y2,.v (.int .i64 5)] H K=K (I (e5:Int)):=by rw[<-pe];exact LG (n:=n+41) i2 (by decide) (by decide)
 have D:∀H K,Aj (r! L (n+42)) BY [I y1,I ks.length] H K=K (I (l:Int)):=by rw[<-pl];exact LG (n:=n+41) i1 (by omega) (by omega)
 have ax:∀H K,Aj (r! L (n+42)) BY [I y2,I ks.length] H K=K (I (rr:Int)):=by rw[<-pr];exact LG (n:=n+41) i2 (by omega) (by omega)
 have be:∀H K,Aj (r! L (n+42)) FK [I y3] H K=K (.agg (BX (uu d))):=by rw[<-ek];exact A1C (n:=n) i3
 have ao:exM ks y0 y1 y2 y3=exO ks q a13 b4 d e5 l rr:=by unfold exM;rw[eq,ea,eb,ek,ee,el,er]
 rw[ao]at B;clear ao pq pa pb bo pe pl pr eq ea eb ek ee el er;have bd:∀{z:Int}{K:K2},BZ AD [(0,1,I z)] K=K (.agg (Nd.mk z [] [] u0 0 0 0).cs):=λ{z K}=>r_ rfl;have ad:∀{K:K2},Ap Ac .add (.v (.int .i64 1)) (I (q:Int)) K=K (I ((q+1:Nat):Int)):=λ{K}=>by
  rw[CO,Cz (by omega) (by omega)];rw[show(1:Int)+(q:Int)=((q+1:Nat):Int) by omega]
 rw[y4 m1,ap,ad,bd];obtain⟨A,e2,C,w2,ai⟩:=DY (e:=AL) (zs:=(Nd.mk 0 [] [] u0 0 0 0).cs) (vs:=(Nd.mk ((q+1:Nat):Int) [] [] u0 0 0 0).cs) h1.wf rfl;rw[AP (cs:=(Nd.mk 0 [] [] u0 0 0 0).cs) rfl,Bv (cs:=(Nd.mk 0 [] [] u0 0 0 0).cs) (vs:=(Nd.mk ((q+1:Nat):Int) [] [] u0 0 0 0).cs) (Av (by simp)) rfl rfl rfl,<-e2];have o:=h1.oth;have h2:=h1.grow w2 λs x hs=>(ai s x hs).1;obtain⟨V,a6⟩:=ai _ _ m1;generalize Ax H1=m at C o a6;clear ai e2;refine Mu λaf Z=>?_;have tail:∀(nd:Nd)(Hm:Hp)(U:UD)(e:Int),Md b r z ins id ks (Kd ks) ks v w u Hm->Al Hm m=some (c_ AL nd.cs)->
  CS (r! L (n+42)) Ct [.agg (Bp id (B0 ks) (BL (Kd ks)) u0),.agg nd.cs,I ks.length,QD ks] (.tup [.agg (BX U),I e])->
  (e=0/\nd.op≠8->∃k,U=uu k/\(exO ks q a13 b4 d e5 l rr).nd=[nd]/\(exO ks q a13 b4 d e5 l rr).ty ks=[k])->(¬(e=0/\nd.op≠8)->(exO ks q a13 b4 d e5 l rr).nd=[]/\(exO ks q a13 b4 d e5 l rr).ty ks=[])->af Hm=x:=by
  intro nd Hm U e hm mm y hg ab;have lp:∀{K},A7 AI (.ptr r 0 0) Hm K=K (.agg (Bp id v w u0)):=λ{K}=>AX rfl rfl hm.hr;have ln:∀{K},A7 AD (.ptr m 0 0) Hm K=K (.agg nd.cs):=λ{K}=>AX rfl rfl mm;rw[Z];simp only[lp,ln,hm.ty k1 y];obtain⟨M,e3,m3,w3,aj⟩:=DY (e:=A4) (zs:=F5) (vs:=BX U) hm.wf rfl;rw[CI,CH,AP (cs:=F5) rfl,Bv (cs:=F5) (vs:=BX U) (Av (by simp)) rfl rfl rfl,<-e3];have o3:=hm.oth;have O:=hm.grow w3 λs x hs=>(aj s x hs).1;obtain⟨m5, -⟩:=aj _ _ mm;generalize Ax Hm=q3 at m3 o3;clear aj e3;have ln3:∀{K},A7 AD (.ptr m 0 0) M K=K (.agg nd.cs):=λ{K}=>AX rfl rfl m5;have bn:∀{K},A7 Ac (.ptr m 0 0) M K=K (I nd.op):=λ{K}=>AH (p:=0) rfl m5 (show 0<26 by decide);rw[Dn];by_cases Q:e=0
  ·rw[Ki Q];simp only[gT,Ck,xR,VY,bn,HF,Xu,ZG];by_cases h8:nd.op=8
   ·obtain⟨g1,g2⟩:=ab λj=>j.2 h8;rw[Ki h8];show A2 (Bo false) _ _=_;rw[Bm];refine B w u M ?_;rw[g1,g2,YV,YV];exact O
   ·obtain⟨k,rfl,g1,g2⟩:=hg ⟨Q,h8⟩;rw[KD h8];show A2 (Bo true) _ _=_;obtain⟨J,H4,a1,a2,a3,a4⟩:=O.w1 nd (by rw[Dz];omega);obtain⟨F,H5,b1,b2⟩:=a3.u1 k (by omega);have lu:∀{K},A7 Au (.ptr q3 0 0) (Go.Abs.upd H4 r (Ih id v J u0)) K=K (.agg (BX (uu k))):=λ{K}=>AX rfl rfl (a4 _ _ o3.r o3.w m3);rw[CA,O.ld2,ln3,C1O,a1,a2,lu,A5Q,b1];refine B J F H5 ?_;rw[g1,g2];exact b2
  ·obtain⟨g1,g2⟩:=ab λj=>Q j.1;rw[KD Q];simp only[Z_,Ck,gU,ZG];rw[Bm];refine B w u M ?_;rw[g1,g2,YV,YV];exact O
 clear Z B;have lo:∀{K},A7 Ac (.ptr m 0 0) A K=K (I ((q+1:Nat):Int)):=λ{K}=>AH (p:=0) rfl C (show 0<26 by decide);rw[VY,lo];refine Mu λaz aa=>?_;have g:∀H,az H=af H:=λH=>by rw[aa]
 clear aa;have sm:∀{cs:Is}{N:Hp},Al N q4=some (c_ Hg [I y0,I y1,I y2,I y3])->Al (Go.Abs.upd N m (c_ AL cs)) q4=some (c_ Hg [I y0,I y1,I y2,I y3]):=λP=>by rw[Ah a6];exact P
 rw[Dn];by_cases ae:2<=q/\q<6
 ·have y:=A3w (L:=L) (n:=n) (id:=id) (o:=u0) (xs:=Kd ks) (op:=q+1) k1 k3 k7 (show l<ks.length by omega) (show rr<ks.length by omega) (by omega) (by omega);rw[show q+1-3=q-2 by omega]at y;rw[KD (by omega),Bm,Dn,KD (by omega),Bm,Dn,KD (by omega),Bm,Dn,KD (by omega),Bm,
   Y V,D,VY,Em C (show 24<26 by decide) rfl rfl rfl,a7 (sm V),ax,VY,Em (A5 C) (show 25<26 by decide) rfl rfl rfl,g]
  have R:=A92 (ks:=ks) (a13:=a13) (b4:=b4) (k7:=d) (e5:=e5) (l:=l) (r:=rr) ae.1 ae.2;have hm:=(h2.upd o (c_ AL ((Nd.mk ((q+1:Nat):Int) [] [] u0 0 0 0).cs.set 24 (I (l:Int))))).upd o (c_ AL (((Nd.mk ((q+1:Nat):Int) [] [] u0 0 0 0).cs.set 24 (I (l:Int))).set 25 (I (rr:Int))));cases hu:Ur (q-2) (ks.getD l 0) (ks.getD rr 0) with
  |none=>
   rw[hu]at y R;exact tail (rV (q+1) l rr) _ u0 90 hm (A5 (A5 C)) y (λj=>absurd j.1 (by decide)) (λ_=>by rw[R];exact⟨rfl,rfl⟩)
  |some k=>
   rw[hu]at y R;refine tail (rV (q+1) l rr) _ (uu k) 0 hm (A5 (A5 C)) y (λ_=>⟨k,rfl,by rw[R];exact⟨rfl,rfl⟩⟩) (λj=>absurd ⟨rfl,?_⟩ j);show((q+1:Nat):Int)≠8;omega
 ·obtain rfl|rfl|rfl|rfl:q=0\/q=1\/q=6\/q=7:=by omega
  ·have bg:∀{K:K2},Dh Cu (.ptr q4 0 0) (.v (.int .i64 1)) K=K (.ptr q4 1 0):=λ{K}=>Ey (z:=1) 1 rfl rfl (by decide);have bh:∀{K:K2},Dh Cu (.ptr q4 0 0) (.v (.int .i64 2)) K=K (.ptr q4 2 0):=λ{K}=>Ey (z:=2) 2 rfl rfl (by decide);have d1:∀{K:K2},A7 Ac (.ptr q4 1 0) A K=K (I y1):=λ{K}=>AH (p:=1) rfl V (by simp);have d2:∀{K:K2},A7 Ac (.ptr q4 2 0) A K=K (I y2):=λ{K}=>AH (p:=2) rfl V (by simp);have sb:∀{K:K2},Ap Ac .sub (I (a13:Int)) (.v (.int .i64 6)) K=K (I ((a13:Int)-6)):=λ{K}=>by rw[IE,Cz (by omega) (by omega)]
   have a8:∀{K:K2},Ap Ac .add (.v (.int .i64 1)) (I (b4:Int)) K=K (I (1+(b4:Int))):=λ{K}=>by rw[CO,Cz (by omega) (by omega)]
   have bc:∀H K,Aj (r! L (n+42)) FL [I ((a13:Int)-6),I (1+(b4:Int))] H K=K (.tup [.agg (Zl (iB a13 b4)),I 0]):=by
    have:=B6U L (n+2) (4*a13+b4) (by omega);rw[show(4*a13+b4)/4=a13 by omega,show(4*a13+b4)%4=b4 by omega]at this;exact this
   have y:=P? (L:=L) (n:=n) (id:=id) (o:=u0) (xs:=Kd ks) (ks:=ks) (at_:=ks.length) (w:=QD ks) (A05 (a:=a13) (b:=b4) (by omega) (by omega)) (show d<7 by omega);rw[Ki (by rfl),CA];simp only[bg,bh,d1,d2,ag,aq,sb,a8,bc,CI,CH,VY,BN];rw[iK (vs:=Zl (iB a13 b4)) C (show 1+2<=26 by decide) rfl rfl,Ck,bp (sm V),be,iK (vs:=BX (uu d)) (A5 C) (show 3+20<=26 by decide) rfl rfl,g];have hm:=(h2.upd o (c_ AL (splice (Nd.mk ((0+1:Nat):Int) [] [] u0 0 0 0).cs 1 (Zl (iB a13 b4))))).upd o (c_ AL (splice (splice (Nd.mk ((0+1:Nat):Int) [] [] u0 0 0 0).cs 1 (Zl (iB a13 b4))) 3 (BX (uu d))));exact tail (cnN (iB a13 b4) d) _ (uu d) 0 hm (A5 (A5 C)) y (λ_=>⟨d,rfl,rfl,rfl⟩) (λj=>absurd ⟨rfl,show(1:Int)≠8 by decide⟩ j)
  ·have y:=Xr (L:=L) (n:=n+39) (id:=id) (o:=u0) (xs:=Kd ks) (ks:=ks) (i:=l) (by omega) (by omega) (at_:=ks.length) (w:=QD ks);have eg:ks[l]'(by omega)=ks.getD l 0:=by simp[List.getD,JC (show l<ks.length by omega)]
   rw[eg]at y;rw[KD (by decide),Bm,Dn,Ki (by rfl),CA,Y V,h2.ld1,Kr (t:=Ai) rfl h2.sv,D,VY,Em C (show 23<26 by decide) rfl rfl rfl,g];have hm:=h2.upd o (c_ AL ((Nd.mk ((1+1:Nat):Int) [] [] u0 0 0 0).cs.set 23 (I (l:Int))));exact tail (Yh l) _ (uu (ks.getD l 0)) 0 hm (A5 C) y (λ_=>⟨ks.getD l 0,rfl,rfl,rfl⟩) (λj=>absurd ⟨rfl,show(2:Int)≠8 by decide⟩ j)
  ·have y:=A3v (L:=L) (n:=n) (id:=id) (o:=u0) (xs:=Kd ks) k1 k3 k7 (show l<ks.length by omega) (show e5<5 by omega);have a9:∀{N:Hp}{K:KV},Gt Gq 1 Ac 5 [(0,1,(AV.v (.int .i64 2))),(1,1,(AV.v (.int .i64 (-1)))),(2,1,(AV.v (.int .i64 3))),(3,1,(AV.v (.int .i64 (-2)))),(4,1,(AV.v (.int .i64 1)))] N K=K (.sl 1 (Ax N) 0 5) ((Ax N,.cells false Gq [I 2,I (-1),I 3,I (-2),I 1])::N):=λ{N K}=>by
    have e:Gt Gq 1 Ac 5 [(0,1,(AV.v (.int .i64 2))),(1,1,(AV.v (.int .i64 (-1)))),(2,1,(AV.v (.int .i64 3))),(3,1,(AV.v (.int .i64 (-2)))),(4,1,(AV.v (.int .i64 1)))] N K=HV N (λs=>K (.sl 1 s 0 5) ((s,.cells false Gq [I 2,I (-1),I 3,I (-2),I 1])::N)):=r_ rfl;rw[e,BW]
   have bj:∀{s:Nat}{K:K2},Dh AO (.sl 1 s 0 5) (I (e5:Int)) K=K (.ptr s e5 0):=λ{s K}=>by
    have e1:Dh AO (.sl 1 s 0 5) (I (e5:Int)) K=iN (e5:Int) λm=>ck (Nat.blt m 5) (fN (Nat.add 0 (Nat.mul m 1)) λp=>K (.ptr s p 0)):=r_ rfl;rw[e1,JH,D5];have O:Nat.blt e5 5=true:=by rw[VD];omega
    rw[O];show K (.ptr s (0+e5*1) 0)=_;rw[Kk,D']
   have gd:([I 2,I (-1),I 3,I (-2),I 1]:Is).getD e5 .dk=I (iI e5):=by
    obtain rfl|rfl|rfl|rfl|rfl:e5=0\/e5=1\/e5=2\/e5=3\/e5=4:=by omega
    all_goals rfl
   rw[KD (by decide),Bm,Dn,KD (by decide),Bm,Dn,Ki (by rfl),CA,Y V,D,VY,Em C (show 24<26 by decide) rfl rfl rfl,a9];have m3:=A5 (q:=true) (e:=AL) (cs:=(Nd.mk ((6+1:Nat):Int) [] [] u0 0 0 0).cs.set 24 (I (l:Int))) C;have O:=h2.upd o (c_ AL ((Nd.mk ((6+1:Nat):Int) [] [] u0 0 0 0).cs.set 24 (I (l:Int))));have s3:=sm (cs:=(Nd.mk ((6+1:Nat):Int) [] [] u0 0 0 0).cs.set 24 (I (l:Int))) V;generalize Go.Abs.upd A m (c_ AL ((Nd.mk ((6+1:Nat):Int) [] [] u0 0 0 0).cs.set 24 (I (l:Int))))=M at m3 O s3;have w4:=AM (x:=.cells false Gq [I 2,I (-1),I 3,I (-2),I 1]) O.wf;have k4:∀s x,Al M s=some x->Al ((Ax M,.cells false Gq [I 2,I (-1),I 3,I (-2),I 1])::M) s=some x:=λs x hs=>AK (O.wf.lt hs) hs;have h4:=O.grow w4 k4;have X:=k4 _ _ m3;have s4:=k4 _ _ s3;have n4:=Av (H:=M) (x:=.cells false Gq [I 2,I (-1),I 3,I (-2),I 1]) (by simp);generalize ((Ax M,Row.cells false Gq [I 2,I (-1),I 3,I (-2),I 1])::M)=H4 at h4 X s4 n4;rw[a7 s4,ar,bj,AH (p:=e5) rfl n4 (show e5<5 by omega),gd,VY,Em X (show 23<26 by decide) rfl rfl rfl,g];have hm:=h4.upd o (c_ AL (((Nd.mk ((6+1:Nat):Int) [] [] u0 0 0 0).cs.set 24 (I (l:Int))).set 23 (I (iI e5))));have R:exO ks 6 a13 b4 d e5 l rr=match Wi (ks.getD l 0) e5 with
    |some k=>.po l e5 k
    |none=>.no:=rfl
   cases hu:Wi (ks.getD l 0) e5 with
   |none=>
    rw[hu]at y R;exact tail (poN l e5) _ u0 90 hm (A5 X) y (λj=>absurd j.1 (by decide)) (λ_=>by rw[R];exact⟨rfl,rfl⟩)
   |some k=>
    rw[hu]at y R;exact tail (poN l e5) _ (uu k) 0 hm (A5 X) y (λ_=>⟨k,rfl,by rw[R];exact⟨rfl,rfl⟩⟩) (λj=>absurd ⟨rfl,show(7:Int)≠8 by decide⟩ j)
  ·have g7:=LQ k7 (show l<ks.length by omega);have he:=G8.1 (show((List.range 7).all λk=>decide ((usq k).2=0\/(usq k).2=70))=true by kernel_rfl) (ks.getD l 0) (JM.2 g7);have y:=B1R (L:=L) (n:=n) (id:=id) (o:=u0) (xs:=Kd ks) (l2t he) k1 k3 (show l<ks.length by omega) (B9Y L (n+1) _ g7).o;rw[KD (by decide),Bm,Dn,KD (by decide),Bm,Dn,KD (by decide),Bm,Dn,Ki (by rfl),CA,Y V,D,VY,Em C (show 24<26 by decide) rfl rfl rfl,g];have hm:=h2.upd o (c_ AL ((Nd.mk ((7+1:Nat):Int) [] [] u0 0 0 0).cs.set 24 (I (l:Int))));by_cases h0:(usq (ks.getD l 0)).2=0
   ·rw[CZ h0]at y;exact tail (sqN l) _ _ 0 hm (A5 C) y (λj=>absurd rfl j.2) (λ_=>⟨rfl,rfl⟩)
   ·rw[Cr h0]at y;exact tail (sqN l) _ u0 90 hm (A5 C) y (λj=>absurd rfl j.2) (λ_=>⟨rfl,rfl⟩)
end
end
section
variable{L n:Nat}
abbrev Y4:=Option (Int×Int×Int×Int)
def exY(ks:Hb):Y4->Ex
 |none=>.no
 |some (a,b,c,d)=>exM ks a b c d
def yA:Y4->AV
 |none=>A1
 |some (a,b,c,d)=>.list 1 [I a,I b,I c,I d]
def yI:Y4->Prop
 |none=>True
 |some (a,b,c,d)=>KO a/\KO b/\KO c/\KO d
def lV(ins:List Int)(count:Int)(y:Y4):Pr:=⟨1+(pk count 900).toNat,ksM ins ((pk count 3).toNat+1),exY (ksM ins ((pk count 3).toNat+1)) y⟩
section
variable{K:KV}{x:Af}{ins:List Int}{id:Int}{ks us:Hb}{xs:List Nd}{v w u:AV}{b r z m:Nat}{H H':Hp}{count:Int}{y:Y4}
def A3Q(h:ins.length=3):(ksM ins ((pk count 3).toNat+1)).length=(pk count 3).toNat+1/\(pk count 3).toNat<3:=by
 have pr:=EM (c:=count) (n:=3) (by decide);unfold ksM;rw[Ub,E'];omega
def B41{i:Nat}:∀k∈ksM ins i,k<7:=by
 intro k hk;obtain⟨c,_,rfl⟩:=Us.1 hk;have pr:=EM (c:=c) (n:=7) (by decide);omega
def A1L(h:ins.length=3):(lV ins count y).Ok:=by
 have pr:=EM (c:=count) (n:=900) (by decide);obtain⟨h1,h2⟩:=A3Q (count:=count) h;have e:(lV ins count y).ks.length=(pk count 3).toNat+1:=h1;refine⟨by show 1<=1+_;omega,by show 1+_<950;omega,by rw[e];omega,by rw[e];omega,B41,?_⟩
 match y with
 |none=>exact trivial
 |some (a,b,c,d)=>exact B83 (by show 1<=(ksM ins ((pk count 3).toNat+1)).length;rw[h1];omega)
def A7S(sv:AZ H A4 20 v ks.length (ks.flatMap GP))(nv:ks=[]->v=A1)(sw:AZ H AL 26 w xs.length (xs.flatMap xT))(nw:xs=[]->w=A1)(h1:1<=ks.length)(h2:1<=xs.length){D:Nat}{bb:Bool}{o:UD}:∃q,Fx bb (D+2) (.agg (Bp id v w o)) (.agg (Bp id (B0 ks) (BL xs) o)) H q:=by
 obtain⟨q1,a⟩:=iA (D:=D) (b:=bb) sv nv;obtain⟨q2,c⟩:=A8I (D:=D) (b:=bb) sw nw;rw[A3m h1]at a;rw[A3J h2]at c;exact⟨_,PR (D:=D+1) (Aq (q:=false) CG (Aq a (Aq c (KF (b:=bb) (D:=D+1) (H:=H) (λx:Value=>x) [.int .i64 o.p0,.int .i64 o.q0,.int .i64 o.p1,.int .i64 o.q1,.int .i64 o.p2,.int .i64 o.q2,.int .i64 o.p3,.int .i64 o.q3,.int .i64 o.p4,.int .i64 o.q4,.int .i64 o.p5,.int .i64 o.q5,.int .i64 o.p6,.int .i64 o.q6,
  .string ⟨⟨o.fn⟩⟩,.string ⟨⟨o.fd⟩⟩,.string ⟨⟨o.on⟩⟩,.string ⟨⟨o.od⟩⟩,.int .i64 o.kd,.int .i64 o.sc]))))⟩
def uR{o:UD}(h1:AV.one v=true)(h2:AV.one w=true):(Bp id v w o).all AV.one=true:=by
 show(true&&(AV.one v&&(AV.one w&&true)))=true;rw[h1,h2];rfl
def B7r(h:Md b r z ins id ks xs us v w u H)(h1:1<=ks.length)(h2:1<=xs.length)(Y:us.length=xs.length)(Z:us.length<1000)(O:∀P N,(∀b,∃q,Fx b depth P (.agg (Bp id (B0 ks) (BL xs) (uu (us.getD (xs.length-1) 0)))) N q)->K P N=x):
 (Bh Ai u λp=>
  Ap Ac .sub p (AV.v (.int .i64 1)) λA=>
  Dh Ai u A λB=>
  A7 Au B H λC=>
  Cl 3 (.ptr r 0 0) λF=>
  Dr Au F C H λc=>
  A7 AI (.ptr r 0 0) c λJ=>
  Dr AI (.ptr z 0 0) J c λd=>
  A7 AI (.ptr z 0 0) d λM=>
  K M d)=x:=by
 have f:us.length-1<us.length:=by omega
 obtain⟨a,X,g⟩:=A3l h.su f;have R:us[us.length-1]=us.getD (xs.length-1) 0:=by rw[<-Y];simp[List.getD,JC f]
 rw[R]at g;generalize us.getD (xs.length-1) 0=k at g O;obtain⟨cs,c1,c2⟩:=h.hz;rw[Kr (t:=Ai) rfl h.su,nY (by omega) (by omega),X,g,VY,iK (vs:=BX (uu k)) h.hr (show 3+20<=23 by decide) rfl rfl];have r1:=A5 (q:=true) (e:=BO) (cs:=Bp id v w (uu k)) h.hr;have Q:Al (Go.Abs.upd H r (Ih id v w (uu k))) z=some (c_ BO cs):=by rw[Ah h.zr];exact c2
 have V:splice (Bp id v w u0) 3 (BX (uu k))=Bp id v w (uu k):=rfl;rw[V,AX (cs:=Bp id v w (uu k)) rfl rfl r1,Bv Q (by exact c1.symm) (by exact c1.symm) (uR (AZ.one h.sv) (AZ.one h.sw)),AX (cs:=Bp id v w (uu k)) rfl rfl (A5 Q)];refine O _ _ λq=>?_;refine A7S (D:=depth-2) (h.sv.kp λs x j i=>?_) h.nv (h.sw.kp λs x j i=>?_) h.nw h1 h2
 ·have:=h.av s j;rw[Ah this.2.2.1,Ah this.2.1];exact i
 ·have:=h.aw s j;rw[Ah this.2.2.1,Ah this.2.1];exact i
def A7C(F:100<L)(B:ins.length=3)(d:∀c∈ins,KO c)(hc:KO count)(p:yI y):
 CS (r! L (n+43)) Qq [.agg (EB ins),I count,yA y,Bo true] (.agg (Bp (lV ins count y).id (B0 (lV ins count y).ks) (BL (lV ins count y).xs) (uu (lV ins count y).out))):=by
 intro K Y;have J:=A1L (count:=count) (y:=y) B;obtain⟨p1,p2,p3⟩:=fZ J;obtain⟨C,l2⟩:=A3Q (count:=count) B;have pr:=EM (c:=count) (n:=900) (by decide);rw[pO];unfold UX HN Az;have k1:∀H K,Aj (r! L (n+42)) BY [I count,.v (.int .i64 900)] H K=K (I (pk count 900)):=LG (n:=n+41) hc (by decide) (by decide);have A:((lV ins count y).id:Int)=1+pk count 900:=by show((1+(pk count 900).toNat:Nat):Int)=_;omega
 have N:∀{K:K2},Ap Ac .add (.v (.int .i64 1)) (I (pk count 900)) K=K (I ((lV ins count y).id:Int)):=λ{K}=>by rw[CO,Cz (by omega) (by omega),A]
 have O:∀{i:Int}{K:K2},BZ AI [(0,1,I i)] K=K (.agg (Bp i A1 A1 u0)):=λ{i K}=>r_ rfl;rw[Fb (vD ins)];have hb:=Av (H:=[]) (x:=.cells true TK (EB ins)) (by simp);have w0:=AM (x:=.cells true TK (EB ins)) E1;generalize ((Ax [],c_ TK (EB ins))::([]:Hp))=j at hb w0;generalize Ax []=b at hb;rw[AP (cs:=Bp 0 A1 A1 u0) rfl];have hz:=Av (H:=j) (x:=.cells true BO (Bp 0 A1 A1 u0)) (by simp);have b1:=AK (x:=.cells true BO (Bp 0 A1 A1 u0)) (w0.lt hb) hb;have w1:=AM (x:=.cells true BO (Bp 0 A1 A1 u0)) w0;generalize ((Ax j,c_ BO (Bp 0 A1 A1 u0))::j)=M at hz w1 b1;generalize Ax j=z at hz;rw[k1,N,O,AP (cs:=Bp 0 A1 A1 u0) rfl];obtain⟨D,R,r2,Z,kp⟩:=DY (e:=BO) (zs:=Bp 0 A1 A1 u0) (vs:=Bp (lV ins count y).id A1 A1 u0) w1 rfl;rw[Bv (cs:=Bp 0 A1 A1 u0) (vs:=Bp (lV ins count y).id A1 A1 u0) (Av (by simp)) rfl rfl rfl,<-R];obtain⟨b2,f⟩:=kp _ _ b1;obtain⟨z2,g⟩:=kp _ _ hz;generalize Ax M=r at r2 f g;have no:∀{s:Nat}{P:Prop},A6 A1 s->P:=λ⟨_,_,_,h⟩=>by cases h
 have X:Md b r z ins (lV ins count y).id (ksM ins 0) [] [] A1 A1 A1 D:=⟨b2,r2,⟨_,rfl,z2⟩,.inl ⟨rfl,rfl,rfl⟩,λ_=>rfl,.inl ⟨rfl,rfl,rfl⟩,λ_=>rfl,.inl ⟨rfl,rfl,rfl⟩,λ_=>rfl,f,g,λ_=>no,λ_=>no,λ_=>no,Z⟩
 simp only[BJ];refine C0h F B d hc (λv H k=>?_) (L+20) 0 A1 D (by omega) (by omega) X;refine C0i (n:=n) F (by rw[C];omega) (λw u H k=>?_) (L+20) 0 A1 A1 H (by omega) (by omega) k;have fin:∀t q H',Md b r z ins (lV ins count y).id (lV ins count y).ks (lV ins count y).xs (lV ins count y).ty v t q H'->_:=λt q H' a=>B7r (K:=K) a J.k1 p2 p1 (by omega) Y
 match y with
 |none=>
  show LD (L+20) (r! L (n+42)) K _ ((L+19)+1) _ A1 _ _ _ _ _ _ _ _ H=_;rw[PF];unfold XA4 E0 Sm Vo HN BK JD Az MS Fk;have V:∀{K:K2},Bh IF A1 K=K (I ((0:Nat):Int)):=λ{K}=>r_ rfl;have Q:(AV.v (.int .i64 0))=I ((0:Nat):Int):=rfl;rw[V,Q,XA2 (by omega)];simp only[Z_,Ck,ZG];rw[Bm];refine fin w u H ?_;show Md b r z ins _ _ (Kd _++[]) (_++[]) v w u H;rw[YV,YV];exact k
 |some (y0,y1,y2,y3)=>
  exact C0j (n:=n) k (by rw[C];omega) (by rw[C];omega) B41 p.1 p.2.1 p.2.2.1 p.2.2.2 (λt q H' a=>fin t q H' a) (L+18)
end
end
section
variable{x1:Int}{ks:Hb}{i:Nat}
variable{L n:Nat}
def PL(H:Hp)(l:List Ha)(a:AV):Prop:=SA l a\/AZ H Ao 1 a l.length (AJ l)
section
variable{H H':Hp}{l:List Ha}{a:AV}{K:K2}
theorem PL.len(h:PL H l a):Bh Ab a K=K (I l.length):=by
 rcases h with h|h
 ·exact h.len
 ·exact Kr (t:=Ab) rfl h
def A70(h:AZ H Ao 1 a l.length (AJ l))(c:i<l.length):(Dh Ab a (I i) λp=>A7 Ag p H K)=K (S l[i]):=by
 rcases h with⟨_,h2,_⟩|⟨r,q,rfl,h2,d⟩
 ·omega
 ·have e:∀K:K2,Dh Ab (.sl 1 r 0 l.length) (I (i:Int)) K=iN (i:Int) λm=>ck (Nat.blt m l.length) (fN (Nat.add 0 (Nat.mul m 1)) λp=>K (.ptr r p 0)):=λK=>r_ rfl;rw[e,JH,D5];have d:Nat.blt i l.length=true:=by rw[VD];exact c
  rw[d];show A7 Ag (.ptr r (0+i*1) 0) H K=_;rw[Kk,D',AH rfl h2 (by simp[AJ];exact c),Ot c]
def PL.at(h:PL H l a)(c:i<l.length):(Dh Ab a (I i) λp=>A7 Ag p H K)=K (S l[i]):=by
 rcases h with h|h
 ·rw[h.ia c,Hy]
 ·exact A70 h c
def PL.at2(h:PL H l a)(c:i<l.length):∃p,(∀K:K2,Dh Ab a (I i) K=K p)/\∀K:K2,A7 Ag p H K=K (S l[i]):=by
 rcases h with h|h
 ·exact⟨_,λK=>h.ia c,λK=>Hy⟩
 ·rcases h with⟨_,h2,_⟩|⟨r,q,rfl,h2,d⟩
  ·omega
  ·refine⟨.ptr r i 0,λK=>?_,λK=>by rw[AH rfl h2 (by simp[AJ];exact c),Ot c]⟩;have e:∀K:K2,Dh Ab (.sl 1 r 0 l.length) (I (i:Int)) K=iN (i:Int) λm=>ck (Nat.blt m l.length) (fN (Nat.add 0 (Nat.mul m 1)) λp=>K (.ptr r p 0)):=λK=>r_ rfl;rw[e,JH,D5];have d:Nat.blt i l.length=true:=by rw[VD];exact c
   rw[d];show K (.ptr r (0+i*1) 0)=_;rw[Kk,D']
theorem PL.kp(h:PL H l a)(k:∀s x,Al H s=some x->Al H' s=some x):PL H' l a:=by
 rcases h with h|h
 ·exact .inl h
 ·exact .inr (h.kp λs x _=>k s x)
end
def YA(H:Hp)(y:Y4)(a:AV):Prop:=∀H',(∀s x,Al H s=some x->Al H' s=some x)->∃q,Fx true depth a (yA y) H' q
def ZH(i:Int)(p:Ha)(ps:List Ha):Ha:=ps.foldl (λp q=>if q=p then sO (-1-i) else p) p
def xL(x1:Int)(l:List Ha):Nat->List Ha
 |0=>[]
 |i+1=>xL x1 l i++[ZH i (if h:i<l.length then l[i] else sO (pk (x1.tdiv 3) 1000+i)) (xL x1 l i)]
def ZD{l:List Ha}:∀i,(xL x1 l i).length=i:=by
 intro i
 induction i with
 |zero=>rfl
 |succ i ih=>simp[xL,ih]
def T?(c:Int):(sO c).length=32:=W8 _ 8
def A58{i:Int}:∀(ps:List Ha)(p:Ha),p.length=32->(ZH i p ps).length=32:=by
 intro ps
 induction ps with
 |nil=>intro p h;exact h
 |cons q ps ih=>
  intro p h;show(ZH i (if q=p then sO (-1-i) else p) ps).length=32;by_cases hq:q=p
  ·rw[CZ hq];exact ih _ (T? _)
  ·rw[Cr hq];exact ih _ h
def B76{l:List Ha}(d:∀s∈l,s.length=32):∀i,∀s∈xL x1 l i,s.length=32:=by
 intro i
 induction i with
 |zero=>intro s c;simp[xL]at c
 |succ i ih=>
  intro s c;rcases Yp.1 c with c|c
  ·exact ih s c
  ·rw[ZW]at c;subst c;apply A58;by_cases h:i<l.length
   ·rw[dif_pos h];exact d _ (Of h)
   ·rw[dif_neg h];exact T? _
def L9{a b:Int}(h:KO a)(hb:1<=b):KO (a.tdiv b):=by
 unfold KO at h⊢;by_cases c:0<=a
 ·have h1:=Int.tdiv_nonneg c (by omega:0<=b);have h2:a.tdiv b<=a:=Int.tdiv_le_self b c;omega
 ·have e:a.tdiv b= -((-a).tdiv b):=by rw[Int.neg_tdiv,Int.neg_neg]
  have h1:=Int.tdiv_nonneg (by omega:0<= -a) (by omega:0<=b);have h2:(-a).tdiv b<= -a:=Int.tdiv_le_self b (by omega);omega
def ZC{a b:Int}{K:K2}(h:KO a)(hb:1<=b):Ap Ac .quo (I a) (.v (.int .i64 b)) K=K (I (a.tdiv b)):=by
 have h1:=L9 h hb;rw[A9w (by omega),Cz h1.1 h1.2]
structure Mc(H0:Hp)(b1 b2 r z:Nat)(X F:Is)(H:Hp):Prop where
 h1:Al H b1=some (c_ Ix X)
 h2:Al H b2=some (c_ Ix F)
 hz:∃cs,cs.length=68/\Al H z=some (c_ Ad cs)
 wf:Wf H
 n1:b1≠r
 n2:b2≠r
 nz:z≠r
 f1:Ax H0<=b1
 f2:Ax H0<=b2
 f3:Ax H0<=r
 f4:Ax H0<=z
 w0:Wf H0
 kp:∀s x,Al H0 s=some x->Al H s=some x
section
variable{K:KV}{x:Af}{H0 H H':Hp}{b1 b2 r z:Nat}{X F:Is}{ps l:List Ha}{v a3:AV}{cR:AV->Is}
theorem Mc.upd(h:Mc H0 b1 b2 r z X F H)(y:Row):Mc H0 b1 b2 r z X F (upd H r y):=by
 obtain⟨cs,c1,c2⟩:=h.hz;exact⟨by rw[Ah h.n1];exact h.h1,by rw[Ah h.n2];exact h.h2,⟨cs,c1,by rw[Ah h.nz];exact c2⟩,Bs h.wf,h.n1,h.n2,h.nz,h.f1,h.f2,h.f3,h.f4,h.w0,λs x c=>by
  have:=h.w0.lt c;have:=h.f3;rw[Ah (by omega)];exact h.kp s x c⟩
structure Pl(H0:Hp)(b1 b2 r z:Nat)(X F:Is)(cR:AV->Is)(ps:List Ha)(v:AV)(H:Hp):Prop where
 mc:Mc H0 b1 b2 r z X F H
 hr:Al H r=some (c_ Ad (cR v))
 sv:AZ H Ao 1 v ps.length (AJ ps)
 nv:ps=[]->v=A1
 fr:∀s,A6 v s->Ax H0<=s/\s≠b1/\s≠b2/\s≠r/\s≠z
structure CR(cR:AV->Is)(ks:Hb):Prop where
 len:∀v,(cR v).length=68
 set:∀v v',(cR v).set 31 v'=cR v'
 get:∀v,(cR v).getD 31 .dk=v
 ins:∀v,(cR v).getD 33 .dk=B0 ks
def C06{c:AV->AV->AV->AV->AV->AV->KV}(s:40000<L)(hc:CR cR ks)(y:i<3)(j:Pl H0 b1 b2 r z X F cR ps v H)(hb:ps.length<=3):
 ∀(f k:Nat)(p:Ha),k<=ps.length->ps.length-k<f->c a3 (.ptr b1 0 0) (.ptr z 0 0) (.ptr r 0 0) (I i) (S (ZH i p (ps.drop k))) (I ps.length) H=x->
 SR (L+20) (r! L (n+43)) K c f a3 (.ptr b1 0 0) (.ptr z 0 0) (.ptr r 0 0) (I i) (S p) (I k) H=x:=by
 intro f
 induction f with
 |zero=>intro k p _ h;omega
 |succ f ih=>
  intro k p hk w g;rw[jY];unfold XA7 E0 HN Az;have e:∀{K},A7 Ab (.ptr r 31 0) H K=K v:=λ{K}=>by rw[AH (p:=31) rfl j.hr (by rw[hc.len];decide),hc.get]
  rw[VY,e,Kr (t:=Ab) rfl j.sv];by_cases h:k<ps.length
  ·rw[Fo (by omega),CA];simp only[BJ];have m:∀{K:K2},Ap Ac .add (I k) (.v (.int .i64 1)) K=K (I ((k+1:Nat):Int)):=λ{K}=>Dg (by omega);have sb:∀{K:K2},Ap Ac .sub (.v (.int .i64 (-1))) (I (i:Int)) K=K (I (-1-(i:Int))):=λ{K}=>by rw[IE,Cz (by omega) (by omega)]
   have u:∀{K:K2},Aj (r! L (n+43)) GS [I (-1-(i:Int))] H K=K (S (sO (-1-(i:Int)))):=λ{K}=>oQ (n:=n+23) s (by omega) (by omega) H K;have q:ps.drop k=ps[k]::ps.drop (k+1):=tK h;rw[q]at g;have d:c a3 (.ptr b1 0 0) (.ptr z 0 0) (.ptr r 0 0) (I i) (S (ZH i (if ps[k]=p then sO (-1-i) else p) (ps.drop (k+1)))) (I ps.length) H=x:=g;rw[VY,e,A70 j.sv h,MK];by_cases hq:ps[k]=p
   ·rw[Ki hq,CA,sb,u,m];rw[CZ hq]at d;exact ih (k+1) _ (by omega) (by omega) d
   ·rw[KD hq,Bm,m];rw[Cr hq]at d;exact ih (k+1) _ (by omega) (by omega) d
  ·have:k=ps.length:=by omega
   subst this;rw[List.drop_length]at g;rw[XA2 (by omega),Bm];exact g
def C07{j:AV->AV->KV}{x0 x1 x2 x3 x4 x5:Int}(Z:40000<L)(hc:CR cR ks)(h1:KO x1)(aa:ks.length<=3)(N:PL H0 l a3)(hb:l.length<1000)(M:∀s∈l,s.length=32)(q:∀v H,Pl H0 b1 b2 r z [I x0,I x1,I x2,I x3,I x4,I x5] F cR (xL x1 l ks.length) v H->j (.ptr b1 0 0) (.ptr z 0 0) (.ptr r 0 0) H=x):
 ∀(f i:Nat)(v D d1:AV)(H:Hp),i<=ks.length->ks.length-i<f->Pl H0 b1 b2 r z [I x0,I x1,I x2,I x3,I x4,I x5] F cR (xL x1 l i) v H->
 SS (L+20) (r! L (n+43)) K j f a3 (.ptr b1 0 0) (.ptr z 0 0) (.ptr r 0 0) (I i) D d1 H=x:=by
 intro f
 induction f with
 |zero=>intro i v D d1 H _ h;omega
 |succ f ih=>
  intro i v D d1 H hi hf d;rw[jZ];unfold SU E0 HN BK Az Fk;have P:∀{K},A7 Ai (.ptr r 33 0) H K=K (B0 ks):=λ{K}=>by rw[AH (p:=33) rfl d.hr (by rw[hc.len];decide),hc.ins]
  have fa:∀{K:K2},Cl 1 (.ptr r 32 0) K=K (.ptr r 33 0):=λ{K}=>by rw[fA]
  rw[VY,fa,P,NS];by_cases h:i<ks.length
  ·have pr:=EM (c:=x1.tdiv 3) (n:=1000) (by decide);have ia:∀{K:K2},Dh Bt (.ptr b1 0 0) (.v (.int .i64 1)) K=K (.ptr b1 1 0):=λ{K}=>Ey (z:=1) 1 rfl rfl (by decide);have d1:∀{K:K2},A7 Ac (.ptr b1 1 0) H K=K (I x1):=λ{K}=>AH (p:=1) rfl d.mc.h1 (by simp);have Q:∀{H K},Aj (r! L (n+43)) BA [I (x1.tdiv 3),.v (.int .i64 1000)] H K=K (I (pk (x1.tdiv 3) 1000)):=λ{H K}=>LF (n:=n+42) (L9 h1 (by decide)) (by decide) (by decide) H K;have ad:∀{K:K2},Ap Ac .add (I (pk (x1.tdiv 3) 1000)) (I (i:Int)) K=K (I (pk (x1.tdiv 3) 1000+i)):=λ{K}=>by rw[CO,Cz (by omega) (by omega)]
   have pa:∀{K:K2},Aj (r! L (n+43)) GS [I (pk (x1.tdiv 3) 1000+i)] H K=K (S (sO (pk (x1.tdiv 3) 1000+i))):=λ{K}=>oQ (n:=n+23) Z (by omega) (by omega) H K;rw[Fo (by omega),CA,ia,d1,ZC h1 (by decide),Q,ad,pa];refine Mu λy g=>?_;have hk:∀p:Ha,p=(if h:i<l.length then l[i] else sO (pk (x1.tdiv 3) 1000+i))->y (S p) H=x:=by
    intro p hp;rw[g];simp only[BJ];refine C06 Z hc (by omega) d (by rw[ZD];omega) (L+20) 0 p (by omega) (by rw[ZD];omega) ?_;rw[tJ];have O:∀{K},A7 Ab (.ptr r 31 0) H K=K v:=λ{K}=>by rw[AH (p:=31) rfl d.hr (by rw[hc.len];decide),hc.get]
    obtain⟨v',H',a1,a2,C,a4,m,R⟩:=zW (ie:=Ag) (i2:=Ab) (ys:=AJ [ZH i p (xL x1 l i)]) d.sv d.mc.wf rfl rfl (by decide) rfl (λ_=>rfl) (by rw[ZD];show(i+1)*16<=_;omega) (by rw[ZD];omega);obtain⟨cs,c1,c2⟩:=d.mc.hz;have w:=m _ _ d.hr λe=>(d.fr _ e).2.2.2.1 rfl;have q1:=d.mc.wf.lt d.mc.h1;have q2:=d.mc.wf.lt d.mc.h2;have q3:=d.mc.wf.lt d.hr;have q4:=d.mc.wf.lt c2;have q0:=d.mc.f1;rw[VY,O,eH,a1,VY,Em w (by rw[hc.len];decide) rfl (AZ.cell a2) (AZ.one a2),hc.set,Dg (by omega)];have A:xL x1 l (i+1)=xL x1 l i++[ZH i p (xL x1 l i)]:=by rw[hp];rfl
    refine ih (i+1) v' _ _ _ (by omega) (by omega) ⟨?_,A5 w,?_,λe=>?_,λs k=>?_⟩
    ·refine⟨by rw[Ah d.mc.n1];exact m _ _ d.mc.h1 (λe=>(d.fr _ e).2.1 rfl),by rw[Ah d.mc.n2];exact m _ _ d.mc.h2 (λe=>(d.fr _ e).2.2.1 rfl),⟨cs,c1,by rw[Ah d.mc.nz];exact m _ _ c2 (λe=>(d.fr _ e).2.2.2.2 rfl)⟩,Bs C,d.mc.n1,d.mc.n2,d.mc.nz,d.mc.f1,d.mc.f2,d.mc.f3,d.mc.f4,d.mc.w0,λs x k=>?_⟩;have V:=d.mc.w0.lt k;have Y:=d.mc.f3;rw[Ah (by omega)];exact m _ _ (d.mc.kp s x k) (λe=>by have:=(d.fr _ e).1;omega)
    ·rw[A,EJ];have:AJ (xL x1 l i++[ZH i p (xL x1 l i)])=AJ (xL x1 l i)++AJ [ZH i p (xL x1 l i)]:=by simp[AJ]
     rw[this];refine AZ.kp a2 λs x k N=>?_;have:=R s k;rw[Ah (by omega)];exact N
    ·rw[A]at e;simp at e
    ·have:=R s k;omega
   clear g;have u:=N.kp d.mc.kp;rw[u.len];by_cases B:i<l.length
   ·obtain⟨p,V,Y⟩:=u.at2 B;have J:∀{K:K2},Ap Ac .eql (I ((l[i].length:Nat):Int)) (.v (.int .i64 32)) K=K (Bo true):=λ{K}=>by
     rw[Dn,M _ (Of B)];rfl
    rw[Fo (by omega)];simp only[gT,Ck,V,Y,OP (t:=Ag) rfl,J,Xu];rw[CA];exact hk _ (by rw[dif_pos B])
   ·rw[XA2 (by omega)];simp only[Z_,Ck,ZG];rw[Bm];exact hk _ (by rw[dif_neg B])
  ·have:i=ks.length:=by omega
   subst this;rw[XA2 (by omega),Bm];exact q v H d
end
end
section
variable{L n:Nat}
def Cd.csP(c:Cd)(P:AV):Is:=match c with
 |.re b u=>C6 1 b.m (uu u) (qn b.c) (qd b.c) (DD b.ts) (qn b.r) (qd b.r) P 0 A1 A1 u0 r0 0
 |.co b p _ none=>C6 2 b.m (uu p.out) (qn b.c) (qd b.c) (DD b.ts) (qn b.r) (qd b.r) P p.id (B0 p.ks) (BL p.xs) (uu p.out) r0 0
 |.co b p _ (some (k,vd))=>C6 3 b.m (uu p.out) (qn b.c) (qd b.c) (DD b.ts) (qn b.r) (qd b.r) P p.id (B0 p.ks) (BL p.xs) (uu p.out) (rr k) vd
def A9z(c:Cd):c.csP (Dp c.ps)=c.cs:=by
 match c with
 |.re b u=>rfl
 |.co b p ps none=>rfl
 |.co b p ps (some (k,vd))=>rfl
def cbM(x1 x2 x3 x4 x5:Int)(a:List Int):CB:=⟨⟨1+pk x1 3,1+pk x2 9,1+pk x3 4,pk x4 50,pk x5 30⟩,pk (x3.tdiv 4) 161-80,pk (x4.tdiv 50) 9,Kz a 6⟩
def cdM(x0 x1 x2 x3 x4 x5 f0 f1 f2 f3 f4 f5:Int)(y:Y4)(l:List Ha):Cd:=
 if pk x0 3=0 then .re (cbM x1 x2 x3 x4 x5 [f0,f1,f2,f3,f4,f5]) (pk (x5.tdiv 30) 7).toNat
 else .co (cbM x1 x2 x3 x4 x5 [f0,f1,f2,f3,f4,f5]) (lV [f0,f1,f2] (x2.tdiv 9) y) (xL x1 l (lV [f0,f1,f2] (x2.tdiv 9) y).ks.length)
  (if pk x0 3=1 then none else some (1+(pk (x0.tdiv 3) 3).toNat,1+pk (x0.tdiv 9) 3))
def rG{x0 x1 x2 x3 x4 x5 f0 f1 f2 f3 f4 f5:Int}{y:Y4}{l:List Ha}(a:∀s∈l,s.length=32):(cdM x0 x1 x2 x3 x4 x5 f0 f1 f2 f3 f4 f5 y l).Ok:=by
 have p1:=EM (c:=x1) (n:=3) (by decide);have p2:=EM (c:=x2) (n:=9) (by decide);have p3:=EM (c:=x3) (n:=4) (by decide);have p4:=EM (c:=x4) (n:=50) (by decide);have p5:=EM (c:=x5) (n:=30) (by decide);have p6:=EM (c:=x3.tdiv 4) (n:=161) (by decide);have d:=EM (c:=x4.tdiv 50) (n:=9) (by decide);have e:=EM (c:=x5.tdiv 30) (n:=7) (by decide);have f:=EM (c:=x0.tdiv 3) (n:=3) (by decide);have g:=EM (c:=x0.tdiv 9) (n:=3) (by decide);have hb:(cbM x1 x2 x3 x4 x5 [f0,f1,f2,f3,f4,f5]).Ok:=by
  refine⟨?_,?_,?_,?_,?_,(A3o _ 6 (by omega)).1⟩
  ·refine⟨?_,?_,?_,?_,?_,?_,?_,?_,?_,?_⟩
   all_goals (simp only[cbM];omega)
  all_goals (simp only[cbM];omega)
 unfold cdM;by_cases h:pk x0 3=0
 ·rw[CZ h];exact⟨hb,by omega⟩
 ·rw[Cr h];refine⟨hb,A1L rfl,ZD _,B76 a _,?_⟩;by_cases h1:pk x0 3=1
  ·rw[CZ h1];exact trivial
  ·rw[Cr h1];exact⟨by omega,by omega,by omega⟩
def okI{z:Int}{H:Hp}{K:Af}:Qb (AS (some (I z,H)) (I z)) K=K:=Rk rfl
def C2G{k:IntKind}{z:Int}:AV.one (.v (.int k z))=true:=rfl
def C2E{l:Ha}:AV.one (S l)=true:=rfl
def C2F:AV.one (.v (.slice none 0 0))=true:=rfl
def Uz(ts:Yj):AV.one (DD ts)=true:=by cases ts<;>rfl
section
variable{K:KV}{x:Af}{H0 H H':Hp}{b1 b2 r z:Nat}{X F:Is}{ps l:List Ha}{v a2 a3:AV}{cR:AV->Is}{y:Y4}{x0 x1 x2 x3 x4 x5 f0 f1 f2 f3 f4 f5:Int}
def Q9{kd:Int}{m:ND}{u o:UD}{ca cb ra rb:Ha}{T P ins a:AV}{id vd:Int}{rd:RD}(h1:AV.one T=true)(h2:AV.one P=true)(c:AV.one ins=true)(d:AV.one a=true):(C6 kd m u ca cb T ra rb P id ins a o rd vd).all AV.one=true:=by
 simp only[l2j,l34,C2G,C2E,C2F,h1,h2,c,d,D_,D?]
def V_(h:Mc H0 b1 b2 r z X F H){cs:Is}(hr:Al H r=some (c_ Ad cs))(h1:cs.length=68)(h2:cs.all AV.one=true)(e:∀H',Wf H'->(∀s q,s≠z->Al H s=some q->Al H' s=some q)->K (.agg cs) H'=x):
 (A7 Ae (.ptr r 0 0) H λc=>
  Dr Ae (.ptr z 0 0) c H λa=>
  A7 Ae (.ptr z 0 0) a λd=>
  K d a)=x:=by
 obtain⟨i,c1,c2⟩:=h.hz;rw[AX (cs:=cs) rfl (by exact h1.symm) hr,Bv c2 (by rw[c1,h1]) (by exact c1.symm) h2,AX (cs:=cs) rfl (by exact h1.symm) (A5 c2)];exact e _ (Bs h.wf) λs q g f=>by rw[Ah g];exact f
def push(w:Wf H)(x:Row)(a:x≠.gone):∃H' s,H'=(s,x)::H/\s=Ax H/\Al H' s=some x/\Wf H'/\∀t q,Al H t=some q->Al H' t=some q/\t≠s:=
 ⟨_,_,rfl,rfl,Av a,AM w,λt q h=>⟨AK (w.lt h) h,by have:=w.lt h;omega⟩⟩
def B7J{b:Nat}{K:K2}:Dh Bt (.ptr b 0 0) (.v (.int .i64 0)) K=K (.ptr b 0 0):=Ey (z:=0) 0 rfl rfl (by decide)
def C31{b:Nat}{K:K2}:Dh Bt (.ptr b 0 0) (.v (.int .i64 1)) K=K (.ptr b 1 0):=Ey (z:=1) 1 rfl rfl (by decide)
def C30{b:Nat}{K:K2}:Dh Bt (.ptr b 0 0) (.v (.int .i64 2)) K=K (.ptr b 2 0):=Ey (z:=2) 2 rfl rfl (by decide)
def C2Z{b:Nat}{K:K2}:Dh Bt (.ptr b 0 0) (.v (.int .i64 3)) K=K (.ptr b 3 0):=Ey (z:=3) 3 rfl rfl (by decide)
def C2Y{b:Nat}{K:K2}:Dh Bt (.ptr b 0 0) (.v (.int .i64 4)) K=K (.ptr b 4 0):=Ey (z:=4) 4 rfl rfl (by decide)
def C2X{b:Nat}{K:K2}:Dh Bt (.ptr b 0 0) (.v (.int .i64 5)) K=K (.ptr b 5 0):=Ey (z:=5) 5 rfl rfl (by decide)
def rd6{b:Nat}{a0 a1 a2 a3 a c:Int}(h:Al H b=some (c_ Ix [I a0,I a1,I a2,I a3,I a,I c])):
 (∀{K},A7 Ac (.ptr b 0 0) H K=K (I a0))/\(∀{K},A7 Ac (.ptr b 1 0) H K=K (I a1))/\(∀{K},A7 Ac (.ptr b 2 0) H K=K (I a2))/\(∀{K},A7 Ac (.ptr b 3 0) H K=K (I a3))/\(∀{K},A7 Ac (.ptr b 4 0) H K=K (I a))/\(∀{K},A7 Ac (.ptr b 5 0) H K=K (I c)):=
 ⟨λ{K}=>AH (p:=0) rfl h (by simp),λ{K}=>AH (p:=1) rfl h (by simp),λ{K}=>AH (p:=2) rfl h (by simp),λ{K}=>AH (p:=3) rfl h (by simp),λ{K}=>AH (p:=4) rfl h (by simp),λ{K}=>AH (p:=5) rfl h (by simp)⟩
def A6X(mc:Mc H0 b1 b2 r z X F H){cs cs' vs:Is}(hr:Al H r=some (c_ Ad cs)){i:TI}{p:Nat}(a:cs.length=68)(d:p+vs.length<=68)(hz:i.size=vs.length)(h1:vs.all AV.one=true)(es:splice cs p vs=cs'):
 ∃H',(∀K:Ru,Dr i (.ptr r p 0) (.agg vs) H K=K H')/\Mc H0 b1 b2 r z X F H'/\Al H' r=some (c_ Ad cs')/\(∀s q,s≠r->Al H s=some q->Al H' s=some q):=
 ⟨_,λK=>iK hr (by rw[a];exact d) hz h1,mc.upd _,by rw[es];exact A5 hr,λs q e c=>by rw[Ah e];exact c⟩
def oR(hL:40000<L)(w:Wf H0)(i0:KO x0)(i1:KO x1)(i2:KO x2)(i3:KO x3)(i4:KO x4)(i5:KO x5)(j0:KO f0)(j1:KO f1)(j2:KO f2)(j3:KO f3)(j4:KO f4)(j5:KO f5)(hy:YA H0 y a2)(az:yI y)(hl:PL H0 l a3)(hb:l.length<1000)(ar:∀s∈l,s.length=32)(R:∀v H',AZ H' Ao 1 v (cdM x0 x1 x2 x3 x4 x5 f0 f1 f2 f3 f4 f5 y l).ps.length (AJ (cdM x0 x1 x2 x3 x4 x5 f0 f1 f2 f3 f4 f5 y l).ps)->((cdM x0 x1 x2 x3 x4 x5 f0 f1 f2 f3 f4 f5 y l).ps=[]->v=A1)->Wf H'->(∀s q,Al H0 s=some q->Al H' s=some q)->(∀s,A6 v s->Ax H0<=s)->
  K (.agg ((cdM x0 x1 x2 x3 x4 x5 f0 f1 f2 f3 f4 f5 y l).csP v)) H'=x):
 (r! L (n+44)).call XA6 [.agg [I x0,I x1,I x2,I x3,I x4,I x5],.agg [I f0,I f1,I f2,I f3,I f4,I f5],a2,a3] H0 K=x:=by
 rw[pL];unfold UT E0 Az MS;obtain⟨H1,b1,N,s1,l1,w1,k1⟩:=push w (c_ Ix [I x0,I x1,I x2,I x3,I x4,I x5]) (by simp);rw[Fb (cs:=[I x0,I x1,I x2,I x3,I x4,I x5]) rfl,<-s1,<-N];obtain⟨H2,b2,e2,s2,l2,w2,k2⟩:=push w1 (c_ Ix [I f0,I f1,I f2,I f3,I f4,I f5]) (by simp);rw[Fb (cs:=[I f0,I f1,I f2,I f3,I f4,I f5]) rfl,<-s2,<-e2];obtain⟨H3,z,O,s3,l3,w3,k3⟩:=push w2 (c_ Ad Bi) (by simp);rw[AP (cs:=Bi) rfl,<-s3,<-O];obtain⟨H4,r,e4,s4,l4,w4,k4⟩:=push w3 (c_ Ad Bi) (by simp);have m1:=k2 _ _ l1;have m2:=k3 _ _ m1.1;have m3:=k3 _ _ l2;have q1:=k4 _ _ m2.1;have q2:=k4 _ _ m3.1;have q3:=k4 _ _ l3;have g1:Ax H0<=b1:=by omega
 have g2:Ax H0<=b2:=by have:=w1.lt l1;omega
 have g3:Ax H0<=z:=by have:=w2.lt l2;omega
 have g4:Ax H0<=r:=by have:=w3.lt l3;omega
 have ae:∀s q,Al H0 s=some q->Al H4 s=some q:=λs q j=>(k4 _ _ (k3 _ _ (k2 _ _ (k1 _ _ j).1).1).1).1;clear N e2 O s1 s2 s3 k1 k2 k3 m1 m3 l1 l2 w1 w2;have p0:=EM (c:=x0) (n:=3) (by decide);have p1:=EM (c:=x1) (n:=3) (by decide);have p2:=EM (c:=x2) (n:=9) (by decide);have p3:=EM (c:=x3) (n:=4) (by decide);have c0:∀{H K},Aj (r! L (n+43)) BA [I x0,.v (.int .i64 3)] H K=K (I (pk x0 3)):=λ{H K}=>LF (n:=n+42) i0 (by decide) (by decide) H K;have c1:∀{H K},Aj (r! L (n+43)) BA [I x1,.v (.int .i64 3)] H K=K (I (pk x1 3)):=λ{H K}=>LF (n:=n+42) i1 (by decide) (by decide) H K;have c2:∀{H K},Aj (r! L (n+43)) BA [I x2,.v (.int .i64 9)] H K=K (I (pk x2 9)):=λ{H K}=>LF (n:=n+42) i2 (by decide) (by decide) H K;have c3:∀{H K},Aj (r! L (n+43)) BA [I x3,.v (.int .i64 4)] H K=K (I (pk x3 4)):=λ{H K}=>LF (n:=n+42) i3 (by decide) (by decide) H K;have c4:∀{H K},Aj (r! L (n+43)) BA [I x4,.v (.int .i64 50)] H K=K (I (pk x4 50)):=λ{H K}=>LF (n:=n+42) i4 (by decide) (by decide) H K;have c5:∀{H K},Aj (r! L (n+43)) BA [I x5,.v (.int .i64 30)] H K=K (I (pk x5 30)):=λ{H K}=>LF (n:=n+42) i5 (by decide) (by decide) H K;have a0:∀{K:K2},Ap Ac .add (.v (.int .i64 1)) (I (pk x0 3)) K=K (I (1+pk x0 3)):=λ{K}=>by rw[CO,Cz (by omega) (by omega)]
 have a1:∀{K:K2},Ap Ac .add (.v (.int .i64 1)) (I (pk x1 3)) K=K (I (1+pk x1 3)):=λ{K}=>by rw[CO,Cz (by omega) (by omega)]
 have Y:∀{K:K2},Ap Ac .add (.v (.int .i64 1)) (I (pk x2 9)) K=K (I (1+pk x2 9)):=λ{K}=>by rw[CO,Cz (by omega) (by omega)]
 have Z:∀{K:K2},Ap Ac .add (.v (.int .i64 1)) (I (pk x3 4)) K=K (I (1+pk x3 4)):=λ{K}=>by rw[CO,Cz (by omega) (by omega)]
 obtain⟨m,d1,d2,d3,A,B⟩:=rd6 m2.1;simp only[B7J,C31,C30,C2Z,C2Y,C2X,m,d1,d2,d3,A,B,c0,c1,c2,c3,c4,c5,a0,a1,Y,Z,BN];clear m d1 d2 d3 A B;have bd:∀{a b c d e f:Int}{K:K2},BZ Ae [(0,1,I a),(1,1,I b),(2,1,I c),(3,1,I d),(4,1,I e),(5,1,I f)] K=K (.agg (C6 a ⟨b,c,d,e,f⟩ u0 [] [] A1 [] [] A1 0 A1 A1 u0 r0 0)):=λ{a b c d e f K}=>r_ rfl;rw[bd,BN,AP (cs:=Bi) rfl,Ck,<-s4,<-e4,Bv (vs:=C6 (1+pk x0 3) ⟨1+pk x1 3,1+pk x2 9,1+pk x3 4,pk x4 50,pk x5 30⟩ u0 [] [] A1 [] [] A1 0 A1 A1 u0 r0 0) l4 rfl rfl rfl,Ck];clear e4 s4;obtain⟨m,d1,d2,d3,A,B⟩:=rd6 q1.1;simp only[m,d1,d2,d3,A,B,c0,c1,c2,c3,c4,c5,okI];clear m d1 d2 d3 A B c0 c1 c2 c3 c4 c5 a0 a1 Y Z bd;have mc:Mc H0 b1 b2 r z [I x0,I x1,I x2,I x3,I x4,I x5] [I f0,I f1,I f2,I f3,I f4,I f5] H4:=⟨q1.1,q2.1,⟨_,rfl,q3.1⟩,w4,q1.2,q2.2,q3.2,g1,g2,g4,g3,w,ae⟩
 have u:=mc.upd (c_ Ad (C6 (1+pk x0 3) ⟨1+pk x1 3,1+pk x2 9,1+pk x3 4,pk x4 50,pk x5 30⟩ u0 [] [] A1 [] [] A1 0 A1 A1 u0 r0 0));have r5:=A5 (q:=true) (e:=Ad) (cs:=C6 (1+pk x0 3) ⟨1+pk x1 3,1+pk x2 9,1+pk x3 4,pk x4 50,pk x5 30⟩ u0 [] [] A1 [] [] A1 0 A1 A1 u0 r0 0) l4;generalize Go.Abs.upd H4 r (c_ Ad (C6 (1+pk x0 3) ⟨1+pk x1 3,1+pk x2 9,1+pk x3 4,pk x4 50,pk x5 30⟩ u0 [] [] A1 [] [] A1 0 A1 A1 u0 r0 0))=H5 at u r5;clear mc ae q1 q2 q3 k4 l4 w4 l3 w3 m2 g1 g2 g3 g4 H4 H3 H2 H1;have af:∀{H K},Aj (r! L (n+43)) Qr [I (x3.tdiv 4),I (x4.tdiv 50),.agg [I f0,I f1,I f2,I f3,I f4,I f5]] H K=K (.agg [S (qn (pk (x3.tdiv 4) 161-80)),S (qd (pk (x3.tdiv 4) 161-80)),DD (Kz [f0,f1,f2,f3,f4,f5] 6),S (qn (pk (x4.tdiv 50) 9)),S (qd (pk (x4.tdiv 50) 9))]):=λ{H K}=>
  AE (A7D (n:=n+2) (xs:=[f0,f1,f2,f3,f4,f5]) (by omega) (L9 i3 (by decide)) (L9 i4 (by decide)) rfl (by simp[j0,j1,j2,j3,j4,j5]))
   (Aq (q:=false) CG (Aq (q:=false) CG (Aq (PR (D:=depth-1) (KF (λz:Int=>Value.int .i64 z) [f0,f1,f2,f3,f4,f5])) AG)))
 have lF:∀{K},A7 Bt (.ptr b2 0 0) H5 K=K (.agg [I f0,I f1,I f2,I f3,I f4,I f5]):=λ{K}=>AX rfl rfl u.h2;obtain⟨m,d1,d2,d3,A,B⟩:=rd6 u.h1;obtain⟨H6,aj,Q,r6, -⟩:=A6X (i:=DR) (p:=26) (vs:=[S (qn (pk (x3.tdiv 4) 161-80)),S (qd (pk (x3.tdiv 4) 161-80)),DD (Kz [f0,f1,f2,f3,f4,f5] 6),S (qn (pk (x4.tdiv 50) 9)),S (qd (pk (x4.tdiv 50) 9))]) u r5 rfl (by show 26+5<=68;decide) rfl (by show(true&&(true&&(AV.one (DD (Kz [f0,f1,f2,f3,f4,f5] 6))&&(true&&(true&&true)))))=true;rw[Uz];rfl)
  (cs':=C6 (1+pk x0 3) ⟨1+pk x1 3,1+pk x2 9,1+pk x3 4,pk x4 50,pk x5 30⟩ u0 (qn (pk (x3.tdiv 4) 161-80)) (qd (pk (x3.tdiv 4) 161-80)) (DD (Kz [f0,f1,f2,f3,f4,f5] 6)) (qn (pk (x4.tdiv 50) 9)) (qd (pk (x4.tdiv 50) 9)) A1 0 A1 A1 u0 r0 0) rfl
 rw[d3,ZC i3 (by decide),A,ZC i4 (by decide),lF,af,VY,aj];clear m d1 d2 d3 A B lF aj u r5 af;have ac:∀{H K},Aj (r! L (n+43)) FK [I (x5.tdiv 30)] H K=K (.agg (BX (uu (pk (x5.tdiv 30) 7).toNat))):=λ{H K}=>A1C (n:=n+1) (L9 i5 (by decide)) H K;obtain⟨m,d1,d2,d3,A,B⟩:=rd6 Q.h1;obtain⟨H7,ak,g,r7, -⟩:=A6X (i:=Au) (p:=6) (vs:=BX (uu (pk (x5.tdiv 30) 7).toNat)) Q r6 rfl (by show 6+20<=68;decide) rfl rfl
  (cs':=C6 (1+pk x0 3) ⟨1+pk x1 3,1+pk x2 9,1+pk x3 4,pk x4 50,pk x5 30⟩ (uu (pk (x5.tdiv 30) 7).toNat) (qn (pk (x3.tdiv 4) 161-80)) (qd (pk (x3.tdiv 4) 161-80)) (DD (Kz [f0,f1,f2,f3,f4,f5] 6)) (qn (pk (x4.tdiv 50) 9)) (qd (pk (x4.tdiv 50) 9)) A1 0 A1 A1 u0 r0 0) rfl
 have lk:∀{K},A7 Ac (.ptr r 0 0) H7 K=K (I (1+pk x0 3)):=λ{K}=>AH (p:=0) rfl r7 (show 0<68 by decide);rw[B,ZC i5 (by decide),ac,VY,ak,VY,lk,Dn];clear m d1 d2 d3 A B ak Q r6 ac lk;by_cases h0:pk x0 3=0
 ·have C:cdM x0 x1 x2 x3 x4 x5 f0 f1 f2 f3 f4 f5 y l=.re (cbM x1 x2 x3 x4 x5 [f0,f1,f2,f3,f4,f5]) (pk (x5.tdiv 30) 7).toNat:=CZ h0;have N:1+pk x0 3=1:=by omega
  rw[Ki N,CA];rw[C]at R;rw[N]at r7;refine V_ g r7 rfl (Q9 (Uz _) rfl rfl rfl) λH' w' kp=>?_;exact R A1 H' (.inl ⟨rfl,rfl,rfl⟩) (λ_=>rfl) w' (λs q j=>kp s q (by have:=g.w0.lt j;have:=g.f4;omega) (g.kp s q j)) (λs ⟨_,_,_,h⟩=>by cases h)
 ·have C:cdM x0 x1 x2 x3 x4 x5 f0 f1 f2 f3 f4 f5 y l=.co (cbM x1 x2 x3 x4 x5 [f0,f1,f2,f3,f4,f5]) (lV [f0,f1,f2] (x2.tdiv 9) y) (xL x1 l (lV [f0,f1,f2] (x2.tdiv 9) y).ks.length) (if pk x0 3=1 then none else some (1+(pk (x0.tdiv 3) 3).toNat,1+pk (x0.tdiv 9) 3)):=Cr h0;rw[C]at R;clear C;have P:∀{K},Aj (r! L (n+43)) Qq [.agg [I f0,I f1,I f2],I (x2.tdiv 9),a2,.v (.bool true)] H7 K=K (.agg (Bp (lV [f0,f1,f2] (x2.tdiv 9) y).id (B0 (lV [f0,f1,f2] (x2.tdiv 9) y).ks) (BL (lV [f0,f1,f2] (x2.tdiv 9) y).xs) (uu (lV [f0,f1,f2] (x2.tdiv 9) y).out))):=λ{K}=>by
   obtain⟨q,hq⟩:=hy H7 g.kp;exact AE (A7C (n:=n) (ins:=[f0,f1,f2]) (by omega) rfl (by simp[j0,j1,j2]) (L9 i2 (by decide)) az) (Aq (PR (D:=depth-1) (KF (λz:Int=>Value.int .i64 z) [f0,f1,f2])) (Aq (q:=false) CG (Aq hq (Aq (q:=false) CG AG))))
  have hp:=A1L (ins:=[f0,f1,f2]) (count:=x2.tdiv 9) (y:=y) rfl;generalize lV [f0,f1,f2] (x2.tdiv 9) y=p at R P hp;have N:¬(1+pk x0 3=1):=by omega
  rw[KD N,Bm];obtain⟨g0,g1,g2, -, -, -⟩:=rd6 g.h2;obtain⟨m,d1,d2, -, -, -⟩:=rd6 g.h1;have b3:∀{K:K2},BZ QG [(0,1,I f0),(1,1,I f1),(2,1,I f2)] K=K (.agg [I f0,I f1,I f2]):=λ{K}=>r_ rfl;obtain⟨H8,am,ag,r8, -⟩:=A6X (i:=AI) (p:=32) (vs:=Bp p.id (B0 p.ks) (BL p.xs) (uu p.out)) g r7 rfl (by show 32+23<=68;decide) rfl (uR rfl rfl)
   (cs':=C6 (1+pk x0 3) ⟨1+pk x1 3,1+pk x2 9,1+pk x3 4,pk x4 50,pk x5 30⟩ (uu (pk (x5.tdiv 30) 7).toNat) (qn (pk (x3.tdiv 4) 161-80)) (qd (pk (x3.tdiv 4) 161-80)) (DD (Kz [f0,f1,f2,f3,f4,f5] 6)) (qn (pk (x4.tdiv 50) 9)) (qd (pk (x4.tdiv 50) 9)) A1 p.id (B0 p.ks) (BL p.xs) (uu p.out) r0 0) rfl
  have lu:∀{K},A7 Au (.ptr r 35 0) H8 K=K (.agg (BX (uu p.out))):=λ{K}=>Dl (p:=35) rfl r8 (show 55<=68 by decide);obtain⟨H9,ao,ah,r9, -⟩:=A6X (i:=Au) (p:=6) (vs:=BX (uu p.out)) ag r8 rfl (by show 6+20<=68;decide) rfl rfl
   (cs':=C6 (1+pk x0 3) ⟨1+pk x1 3,1+pk x2 9,1+pk x3 4,pk x4 50,pk x5 30⟩ (uu p.out) (qn (pk (x3.tdiv 4) 161-80)) (qd (pk (x3.tdiv 4) 161-80)) (DD (Kz [f0,f1,f2,f3,f4,f5] 6)) (qn (pk (x4.tdiv 50) 9)) (qd (pk (x4.tdiv 50) 9)) A1 p.id (B0 p.ks) (BL p.xs) (uu p.out) r0 0) rfl
  have f35:∀{K:K2},Cl 3 (.ptr r 32 0) K=K (.ptr r 35 0):=λ{K}=>by rw[fA]
  rw[g0,g1,g2,b3,d2,ZC i2 (by decide),P,VY,am,VY,f35,lu,VY,ao];clear g0 g1 g2 m d1 d2 b3 am ag r8 lu ao f35 P g r7;refine Mu λa7 aa=>?_;refine Mu λa6 M=>?_;have hc:CR (λv=>C6 (1+pk x0 3) ⟨1+pk x1 3,1+pk x2 9,1+pk x3 4,pk x4 50,pk x5 30⟩ (uu p.out) (qn (pk (x3.tdiv 4) 161-80)) (qd (pk (x3.tdiv 4) 161-80)) (DD (Kz [f0,f1,f2,f3,f4,f5] 6)) (qn (pk (x4.tdiv 50) 9)) (qd (pk (x4.tdiv 50) 9)) v p.id (B0 p.ks) (BL p.xs) (uu p.out) r0 0) p.ks:=⟨λ_=>rfl,λ_ _=>rfl,λ_=>rfl,λ_=>rfl⟩
  refine C07 (n:=n) (l:=l) hL hc i1 hp.k3 hl hb ar ?_ (L+20) 0 A1 _ _ H9 (by omega) (by have:=hp.k3;omega) ⟨ah,r9,.inl ⟨rfl,rfl,rfl⟩,λ_=>rfl,λs ⟨_,_,_,h⟩=>by cases h⟩;intro v H t;rw[M,aa];clear M aa ah r9;refine Mu λa4 ab=>?_;have k:∀(cs:Is)(V:Hp),Mc H0 b1 b2 r z [I x0,I x1,I x2,I x3,I x4,I x5] [I f0,I f1,I f2,I f3,I f4,I f5] V->Al V r=some (c_ Ad cs)->cs.length=68->cs.all AV.one=true->cs=(Cd.co (cbM x1 x2 x3 x4 x5 [f0,f1,f2,f3,f4,f5]) p (xL x1 l p.ks.length) (if pk x0 3=1 then none else some (1+(pk (x0.tdiv 3) 3).toNat,1+pk (x0.tdiv 9) 3))).csP v->(∀s q,s≠r->Al H s=some q->Al V s=some q)->a4 V=x:=by
   intro cs V J rx c1 c2 aq kx;rw[ab];refine V_ J rx c1 c2 λH' w' kp=>?_;rw[aq];refine R v H' ?_ t.nv w' (λs q j=>kp s q (by have:=J.w0.lt j;have:=J.f4;omega) (J.kp s q j)) (λs j=>(t.fr s j).1);exact t.sv.kp λs q j hl=>kp s q (t.fr s j).2.2.2.2 (kx s q (t.fr s j).2.2.2.1 hl)
  clear ab R;have lk:∀{K},A7 Ac (.ptr r 0 0) H K=K (I (1+pk x0 3)):=λ{K}=>AH (p:=0) rfl t.hr (show 0<68 by decide);rw[VY,lk,Dn];by_cases h1:pk x0 3=1
  ·have O:¬(1+pk x0 3=3):=by omega
   rw[KD O,Bm];rw[CZ h1]at k;have e2:1+pk x0 3=2:=by omega
   have hr:=t.hr;rw[e2]at hr;exact k _ H t.mc hr rfl (Q9 (Uz _) (AZ.one t.sv) rfl rfl) rfl (λs q _ h=>h)
  ·have O:1+pk x0 3=3:=by omega
   have pv:=EM (c:=x0.tdiv 9) (n:=3) (by decide);rw[Ki O,CA];rw[Cr h1]at k;have hr:=t.hr;rw[O]at hr;have ay:∀{H K},Aj (r! L (n+43)) J3 [I (x0.tdiv 3)] H K=K (.agg (rr (1+(pk (x0.tdiv 3) 3).toNat)).cs):=λ{H K}=>B1X (n:=n+41) (L9 i0 (by decide)) H K;have ax:∀{H K},Aj (r! L (n+43)) BA [I (x0.tdiv 9),.v (.int .i64 3)] H K=K (I (pk (x0.tdiv 9) 3)):=λ{H K}=>LF (n:=n+42) (L9 i0 (by decide)) (by decide) (by decide) H K;have ad:∀{K:K2},Ap Ac .add (.v (.int .i64 1)) (I (pk (x0.tdiv 9) 3)) K=K (I (1+pk (x0.tdiv 9) 3)):=λ{K}=>by rw[CO,Cz (by omega) (by omega)]
   obtain⟨m, -⟩:=rd6 t.mc.h1;obtain⟨HA,a5,ai,rA,kA⟩:=A6X (i:=Da) (p:=55) (vs:=(rr (1+(pk (x0.tdiv 3) 3).toNat)).cs) t.mc hr rfl (by show 55+9<=68;decide) rfl rfl
    (cs':=C6 3 ⟨1+pk x1 3,1+pk x2 9,1+pk x3 4,pk x4 50,pk x5 30⟩ (uu p.out) (qn (pk (x3.tdiv 4) 161-80)) (qd (pk (x3.tdiv 4) 161-80)) (DD (Kz [f0,f1,f2,f3,f4,f5] 6)) (qn (pk (x4.tdiv 50) 9)) (qd (pk (x4.tdiv 50) 9)) v p.id (B0 p.ks) (BL p.xs) (uu p.out) (rr (1+(pk (x0.tdiv 3) 3).toNat)) 0) rfl
   obtain⟨ap, -⟩:=rd6 ai.h1;rw[B7J,m,ZC i0 (by decide),ay,VY,a5,B7J,ap,ZC i0 (by decide),ax,ad,VY,Em rA (show 64<68 by decide) rfl rfl rfl];exact k _ _ (ai.upd _) (A5 rA) rfl (Q9 (Uz _) (AZ.one t.sv) rfl rfl) rfl (λs q j h=>by rw[Ah j];exact kA s q j h)
end
end
section
variable{P:AV}{c:Cd}{y6:Int}
variable{L n:Nat}
def A5f{f:AV->(Bool->K2)->Af}:∀(l m:Is)(K:Bool->Is->Af),Il f (l++m) K=Il f l λq d=>Il f m λg i=>K (q||g) (d++i):=by
 intro l
 induction l with
 |nil=>intro m K;rfl
 |cons a l ih=>
  intro m K;have e:∀(l:Is)(K:Bool->Is->Af),Il f (a::l) K=f a λq h=>Il f l λg d=>K (@Bool.rec (λ_=>Bool) g true q) (h::d):=λ_ _=>rfl;rw[List.cons_append,e,e]
  congr 1
  funext q h
  rw[ih]
  congr 1
  funext q1 j
  congr 1
  funext q2 k
  cases q<;>rfl
def yQ{b:Bool}{D:Nat}{l a m d:Is}{H:Hp}{q q':Bool}(h:Py b D l a H q)(k:Py b D m d H q'):Py b D (l++m) (a++d) H (q||q'):=λK=>by
 rw[A5f,h,k]
def A0c:AV->Bool
 |.v _=>true
 |.list _ _=>true
 |_=>false
def mC{D:Nat}{H:Hp}:∀l:Is,l.all A0c=true->Py true D l l H false:=by
 intro l
 induction l with
 |nil=>intro _;exact AG
 |cons a l ih=>
  intro h;simp only[l2j,J2]at h;have h2:=ih h.2;cases a with
  |v x=>exact Aq (q:=false) CG h2
  |list n cs=>exact Aq (q:=false) Pc h2
  |_=>cases h.1
def wZ(ts:Yj):A0c (DD ts)=true:=by cases ts<;>rfl
def A5q{k:IntKind}{z:Int}:A0c (.v (.int k z))=true:=rfl
def vI{l:Ha}:A0c (S l)=true:=rfl
def B7Z:A0c (.v (.slice none 0 0))=true:=rfl
def C1l{l:Is}:A0c (.list n l)=true:=rfl
def vY(c:Cd):∃A B:Is,(∀P,c.csP P=A++P::B)/\A.all A0c=true/\B.all A0c=true:=by
 match c with
 |.re b u=>
  refine⟨((Cd.re b u).csP A1).take 31,((Cd.re b u).csP A1).drop 32,λ_=>rfl,?_,?_⟩
  ·simp only[Cd.csP,List.take_succ_cons,List.take_zero,l2j,l34,A5q,vI,wZ,D?,D_]
  ·simp only[Cd.csP,List.drop_succ_cons,tJ,l2j,l34,A5q,vI,B7Z,D?,D_]
 |.co b p ps none=>
  refine⟨((Cd.co b p ps none).csP A1).take 31,((Cd.co b p ps none).csP A1).drop 32,λ_=>rfl,?_,?_⟩
  ·simp only[Cd.csP,List.take_succ_cons,List.take_zero,l2j,l34,A5q,vI,wZ,D?,D_]
  ·simp only[Cd.csP,List.drop_succ_cons,tJ,l2j,l34,A5q,vI,B7Z,C1l,D?,D_]
 |.co b p ps (some (k,vd))=>
  refine⟨((Cd.co b p ps (some (k,vd))).csP A1).take 31,((Cd.co b p ps (some (k,vd))).csP A1).drop 32,λ_=>rfl,?_,?_⟩
  ·simp only[Cd.csP,List.take_succ_cons,List.take_zero,l2j,l34,A5q,vI,wZ,D?,D_]
  ·simp only[Cd.csP,List.drop_succ_cons,tJ,l2j,l34,A5q,vI,B7Z,C1l,D?,D_]
def XJ(c:Cd)(h:AV.one P=true):(c.csP P).all AV.one=true:=by
 match c with
 |.re b u=>exact Q9 (Uz _) h rfl rfl
 |.co b p ps none=>exact Q9 (Uz _) h rfl rfl
 |.co b p ps (some (k,vd))=>exact Q9 (Uz _) h rfl rfl
def Ln(c:Cd):(c.csP P).length=68:=by
 match c with
 |.re b u=>rfl
 |.co b p ps none=>rfl
 |.co b p ps (some (k,vd))=>rfl
section
variable{H H':Hp}{v:AV}{l:List Ha}{D:Nat}{b:Bool}
def X0(h:AZ H Ao 1 v l.length (AJ l))(d:l=[]->v=A1):∃q,Fx b (D+1) v (Dp l) H q:=by
 rcases h with⟨rfl,h2,_⟩|⟨r,q,rfl,h2,e⟩
 ·cases l with
  |nil=>exact⟨false,CG⟩
  |cons a l=>simp at h2
 ·cases l with
  |nil=>have:=d rfl;cases this
  |cons a l=>
   refine⟨true,?_⟩;show Fx b (D+1) _ (.list (a::l).length (AJ (a::l))) H true;exact WS (q':=false) h2 e (KF (λs=>Value.string ⟨⟨s⟩⟩) (a::l))
def zM(h:AZ H Ao 1 v c.ps.length (AJ c.ps))(a:c.ps=[]->v=A1):∃q,Py true (D+1) (c.csP v) c.cs H q:=by
 obtain⟨q,hq⟩:=X0 (D:=D) (b:=true) h a;obtain⟨A,B,e,f1,f2⟩:=vY c;rw[<-A9z c,e,e];exact⟨_,yQ (mC A f1) (Aq hq (mC B f2))⟩
abbrev GV:=List (Cd×AV)
def gvC(g:GV):Is:=g.flatMap λp=>p.1.csP p.2
structure GvOk(g:GV)(H:Hp):Prop where
 sl:∀p∈g,AZ H Ao 1 p.2 p.1.ps.length (AJ p.1.ps)
 nl:∀p∈g,p.1.ps=[]->p.2=A1
def C0Y{g:GV}(h:GvOk g H):∃q,Py true (D+1) (gvC g) ((g.map Prod.fst).flatMap Cd.cs) H q:=by
 induction g with
 |nil=>exact⟨_,AG⟩
 |cons p g ih=>
  obtain⟨q1,h1⟩:=ih ⟨λr hr=>h.sl r (by simp[hr]),λr hr=>h.nl r (by simp[hr])⟩;obtain⟨q2,h2⟩:=zM (D:=D) (h.sl p (by simp)) (h.nl p (by simp));exact⟨_,yQ h2 h1⟩
def YQ(gs:dn):AV:=match gs with
 |[]=>A1
 |c::gs=>.list (c::gs).length ((c::gs).flatMap Cd.cs)
def B2m(gs:dn):LA gs (YQ gs):=by cases gs with|nil=>exact .inr ⟨rfl,rfl⟩|cons _ _=>exact .inl rfl
def B7L{g:GV}{lv:AV}(h:GvOk g H)(i:AZ H Ad 68 lv g.length (gvC g))(d:g=[]->lv=A1):∃q,Fx true (D+2) lv (YQ (g.map Prod.fst)) H q:=by
 rcases i with⟨rfl,h2,_⟩|⟨r,q,rfl,h2,f⟩
 ·cases g with
  |nil=>exact⟨false,CG⟩
  |cons a l=>simp at h2
 ·cases g with
  |nil=>have:=d rfl;cases this
  |cons p g=>
   obtain⟨q1,h1⟩:=C0Y (D:=D) h;refine⟨true,?_⟩;have e:YQ ((p::g).map Prod.fst)=.list (p::g).length (((p::g).map Prod.fst).flatMap Cd.cs):=by
    show AV.list _ _=_;rw[show(p.1::g.map Prod.fst).length=(p::g).length by simp];rfl
   rw[e];exact WS h2 f h1
end
structure Y7 where
 (y0 y1 y2 y3 y4 y5 y6:Int)
def Y7.cs(y:Y7):Is:=[I y.y0,I y.y1,I y.y2,I y.y3,I y.y4,I y.y5,I y.y6]
def Y7.Ok(y:Y7):Prop:=KO y.y0/\KO y.y1/\KO y.y2/\KO y.y3/\KO y.y4/\KO y.y5/\KO y.y6
def sQ(ids:List Ha)(y6:Int):Nat->List Ha
 |0=>[]
 |k+1=>if 0<ids.length/\pk (y6.fdiv (2^(4*k))) 16<14 then sQ ids y6 k++[ids.getD ((pk (y6.fdiv (2^(4*k))) 16).toNat%ids.length) []] else sQ ids y6 k
def A3E{ids:List Ha}:∀k,∀s∈sQ ids y6 k,s∈ids:=by
 intro k
 induction k with
 |zero=>intro s a;simp[sQ]at a
 |succ k ih=>
  intro s a;unfold sQ at a;split at a
  ·rename_i h;rcases Yp.1 a with a|a
   ·exact ih s a
   ·rw[ZW]at a;subst a;have:=Nat.mod_lt (pk (y6.fdiv (2^(4*k))) 16).toNat h.1;rw[T9,JC this];exact Of this
  ·exact ih s a
def A3F{ids:List Ha}:∀k,(sQ ids y6 k).length<=k:=by
 intro k
 induction k with
 |zero=>simp[sQ]
 |succ k ih=>
  unfold sQ;split
  ·simp;omega
  ·omega
def kdM(i:Nat)(y:Y7):Int:=if i<2/\0<pk (y.y0.tdiv 3) 4 then 0 else y.y0
def cM(i:Nat)(y:Y7)(ids:List Ha):Cd:=cdM (kdM i y) y.y1 y.y2 y.y3 y.y4 y.y5 y.y1 y.y2 y.y3 y.y4 y.y5 y.y6 (some (y.y3,y.y4,y.y5,y.y6)) (sQ ids y.y6 3)
def P0(xs:List Y7):Nat->dn
 |0=>[]
 |i+1=>
  if(cM i (xs.getD i ⟨0,0,0,0,0,0,0⟩) ((P0 xs i).map Cd.id)).ps.Nodup/\(cM i (xs.getD i ⟨0,0,0,0,0,0,0⟩) ((P0 xs i).map Cd.id)).id∉(P0 xs i).map Cd.id
  then P0 xs i++[cM i (xs.getD i ⟨0,0,0,0,0,0,0⟩) ((P0 xs i).map Cd.id)] else P0 xs i
def B4l{i:Nat}{y:Y7}{gs:dn}:(cM i y (gs.map Cd.id)).Ok:=by
 refine rG λs a=>?_;obtain⟨c,_,rfl⟩:=Us.1 (A3E _ s a);exact A2P c
def A8F(xs:List Y7):∀i,i<=8->GOk (P0 xs i)/\(P0 xs i).length<=i:=by
 intro i
 induction i with
 |zero=>intro _;exact⟨⟨by simp[P0],by simp[P0],by simp[P0],by simp[P0]⟩,by simp[P0]⟩
 |succ i ih=>
  intro k;obtain⟨h,f⟩:=ih (by omega);unfold P0;split
  ·rename_i hc;refine⟨⟨λc hm=>?_,λc hm=>?_,?_,by simp;omega⟩,by simp;omega⟩
   ·rcases Yp.1 hm with hm|hm
    ·exact h.ok c hm
    ·rw[ZW]at hm;subst hm;exact B4l
   ·rcases Yp.1 hm with hm|hm
    ·exact h.nd c hm
    ·rw[ZW]at hm;subst hm;exact hc.1
   ·rw[Yr,l2y];refine⟨h.ids,by simp,λa g b hb e=>?_⟩;obtain⟨j,d,rfl⟩:=Us.1 hb;rw[ZW]at d;subst d;exact hc.2 (e▸g)
  ·exact⟨h,by omega⟩
def A9F(h:c.Ok):c.ps.length<=3:=by
 match c,h with
 |.re b u,_=>simp[Cd.ps]
 |.co b p ps none,⟨_,a,h1,_⟩=>show ps.length<=3;rw[h1];exact a.k3
 |.co b p ps (some _),⟨_,a,h1,_⟩=>show ps.length<=3;rw[h1];exact a.k3
end
section
variable{L n:Nat}
abbrev AQ:=Ha
section
variable{gs:dn}{b:List (AQ×Unit)}{p:AQ}{ids:List AQ}
def A'(ids:List AQ)(b:List (AQ×Unit)):List AQ->List (AQ×Unit)
 |[]=>b
 |p::ps=>A' ids (if p∈ids then b else F1 b p ()) ps
def fW:∀b:List (AQ×Unit),(F1 b p ()).map Prod.fst=if p∈b.map Prod.fst then b.map Prod.fst else b.map Prod.fst++[p]:=by
 intro b
 induction b with
 |nil=>rfl
 |cons e b ih=>
  unfold F1;by_cases h:e.1=p
  ·simp[h]
  ·rw[Cr h,VC,ih,VC];have hm:(p∈e.1::b.map Prod.fst)↔p∈b.map Prod.fst:=by simp[Ne.symm h]
   by_cases h2:p∈b.map Prod.fst
   ·rw[CZ h2,CZ (hm.2 h2)]
   ·rw[Cr h2,Cr (λa=>h2 (hm.1 a))];rfl
def iY:∀(ps:List AQ)(b:List (AQ×Unit)),(b.map Prod.fst).Nodup->((A' ids b ps).map Prod.fst).Nodup/\∀x,x∈(A' ids b ps).map Prod.fst↔x∈b.map Prod.fst\/(x∈ps/\x∉ids):=by
 intro ps
 induction ps with
 |nil=>intro b h;exact⟨h,λx=>by simp[A']⟩
 |cons p ps ih=>
  intro b h;have h1:((if p∈ids then b else F1 b p ()).map Prod.fst).Nodup/\∀x,x∈(if p∈ids then b else F1 b p ()).map Prod.fst↔x∈b.map Prod.fst\/(x=p/\x∉ids):=by
   by_cases f:p∈ids
   ·rw[CZ f];refine⟨h,λx=>⟨.inl,λd=>d.elim id λ⟨e,hn⟩=>absurd (e▸f) hn⟩⟩
   ·rw[Cr f,fW];by_cases hm:p∈b.map Prod.fst
    ·rw[CZ hm];exact⟨h,λx=>⟨.inl,λd=>d.elim id λ⟨e,_⟩=>e▸hm⟩⟩
    ·rw[Cr hm];refine⟨l2y.2 ⟨h,by simp,λa j c hc=>by simp at hc;subst hc;exact λe=>hm (e▸j)⟩,λx=>?_⟩;rw[Yp,ZW];exact⟨λd=>d.imp id λe=>⟨e,e▸f⟩,λd=>d.imp id λe=>e.1⟩
  obtain⟨h2,i⟩:=ih _ h1.1;refine⟨h2,λx=>?_⟩;show x∈(A' ids (if p∈ids then b else F1 b p ()) ps).map Prod.fst↔_;rw[i,h1.2,Qd];constructor
  ·rintro((h|h)|h)
   ·exact .inl h
   ·exact .inr ⟨.inl h.1,h.2⟩
   ·exact .inr ⟨.inr h.1,h.2⟩
  ·rintro(h|⟨h|h,g⟩)
   ·exact .inl (.inl h)
   ·exact .inl (.inr ⟨h,g⟩)
   ·exact .inr ⟨h,g⟩
def Qc(gs:dn):List AQ:=FF ((A' (gs.map Cd.id) [] (gs.flatMap Cd.ps)).map Prod.fst)
def qB:(Qc gs).Nodup:=(BF _).symm.nodup (iY _ [] (by simp)).1
def yB:(Qc gs).Pairwise (· <= ·):=DJ _
def Ua{x:AQ}:x∈Qc gs↔x∉gs.map Cd.id/\∃c∈gs,x∈c.ps:=by
 rw[Qc,(BF _).mem_iff,(iY _ [] (by simp)).2];simp only[List.map_nil,List.not_mem_nil,false_or,l32];exact and_comm
def lO{H:Hp}{K:K2}:Aj (r! L (n+1)) Ec [gV gs,S p] H K=K (Bo (decide (p∈gs.map Cd.id))):=by
 refine AE (λK a=>?_) (Aq dG (Aq (q:=false) CG AG));rw[TX];unfold Kb NW;have d:∀(F:Value->Af),It (S p) F=F (SV p):=λF=>id rfl;rw[d,RS (f:=JA) (b:=gE gs) (λK=>id rfl)];by_cases h:p∈gs.map Cd.id
 ·obtain⟨c,hc⟩:∃c,Jo (gE gs) p=some c:=by
   rcases B2W (gs:=gs) (s:=p) with⟨_,k,hk,h1,_⟩|⟨h1,_⟩
   ·exact⟨_,h1⟩
   ·exact absurd h h1
  rw[hc];simp only[];rw[CI,CH,AP (cs:=Bi) rfl,Bv (cs:=Bi) (vs:=c.cs) (Av (by simp)) BC rfl Ic];rw[Ki h]at a⊢;exact a _ _ λb=>⟨false,CG⟩
 ·rw[Pt (by rw[Vp];exact h)];simp only[];rw[CI,CH,AP (cs:=Bi) rfl]
  erw[Bv (cs:=Bi) (vs:=Bi) (Av (by simp)) rfl rfl rfl]
  rw[KD h]at a⊢;exact a _ _ λb=>⟨false,CG⟩
end
section
variable{gs:dn}{ids:List AQ}
def A9Z:∀(ps:List AQ)(b:List (AQ×Unit)),(A' ids b ps).length<=b.length+ps.length:=by
 intro ps
 induction ps with
 |nil=>intro b;exact Oj _
 |cons p ps ih=>
  intro b;have h1:(if p∈ids then b else F1 b p ()).length<=b.length+1:=by
   split
   ·omega
   ·have:=congrArg List.length (fW (p:=p) b);rw[Ub]at this;rw[this];split<;>simp
  have h2:=ih (if p∈ids then b else F1 b p ());show(A' ids (if p∈ids then b else F1 b p ()) ps).length<=_;rw[Kj];omega
def B30:∀gs:dn,(∀c∈gs,c.ps.length<100)->(gs.flatMap Cd.ps).length<=gs.length*100:=by
 intro gs
 induction gs with
 |nil=>intro _;simp
 |cons c gs ih=>
  intro h;have h1:=h c (by simp);have h2:=ih λd a=>h d (by simp[a]);rw[jH,EJ,Kj,uY];omega
def uW(a:GOk gs)(d:∀c∈gs,c.ps.length<100):(Qc gs).length<1000:=by
 have h1:=A9Z (ids:=gs.map Cd.id) (gs.flatMap Cd.ps) [];have h2:=B30 gs d;have e:=a.len;rw[Qc,(BF _).length_eq,Ub];simp at h1;simp at h2;omega
def A1N:∀l:List AQ,pl 6 (Dp l)=true:=by
 intro l;cases l with
 |nil=>rfl
 |cons a l=>
  show(AJ (a::l)).all (pl 5)=true;rw[G8];intro y c;obtain⟨s,_,rfl⟩:=Us.1 c;rfl
def A2I{ty:Nat}{es:IH}{H:Hp}{K:KV}:Hd ty (.imap es) H K=K (.ptr (Ax H) 0 0) ((Ax H,c_ ty [.imap es])::H):=by
 unfold Hd;rw[CQ,Gu,BW];rfl
end
abbrev A98(gs:dn):AV:=.fn (.func CX) [] [.iptr [gV gs]]
def C!(gs:dn)(p:Option (Option Code)):Row:=.loop 27 [(2,A1),(3,.ptr 0 0 0),(5,.ptr 2 0 0),(7,.dk),(15,A98 gs),(17,.dk),(18,.dk),(19,.dk),(20,.dk),(21,.dk),(22,.dk),(23,.dk),(24,.dk)] (DG).2.1 (DG).2.2.1 (DG).2.2.2 p
structure Ms(gs:dn)(b:List (AQ×Unit))(H:Hp):Prop where
 net:Al H 0=some (c_ Bx [gV gs])
 mm:Al H 1=some (.map false (Fc uS b) none)
 st:Al H 2=some (c_ Cv [.mp 1])
 lp:Al H 3=some (C! gs (some none))
 wf:Wf H
section
variable{gs:dn}{b:List (AQ×Unit)}{H:Hp}{K:KV}{x:Af}{p s:AQ}
def Ms.kp{a:Hp}(h:Ms gs b H)(w:Wf a)(k:∀u y,u<4->Al H u=some y->Al a u=some y):Ms gs b a:=
 ⟨k _ _ (by decide) h.net,k _ _ (by decide) h.mm,k _ _ (by decide) h.st,k _ _ (by decide) h.lp,w⟩
def B3W{a:Hp}{K:Ru}(h:Al a 3=some (C! gs none)):Ek a 3 false (some none) K=K (upd a 3 (C! gs (some none))):=Qy h
def B1F(h:Ms gs b H)(r:∀t,Ms gs (if p∈gs.map Cd.id then b else F1 b p ()) t->(∀u y,3<u->Al H u=some y->Al t u=some y)->K (Bo true) t=x):
 C7 (E (L+20)) (r! L (n+2)) (.yl 3) [S s,S p] H K=x:=by
 show Ol (r! L (n+2)) 3 [S s,S p] H K=x;rw[Qw h.lp (by kernel_rfl)];have j:(r! L (n+2)).run= λw=>Jr (E (L+20)) (r! L (n+1)) w:=rfl;rw[j,YG,Qz h.lp];simp only[BJ];have d:Al (upd H 3 (C! gs none)) 0=some (c_ Bx [gV gs]):=by rw[Ah (by decide)];exact h.net
 have c:Al (upd H 3 (C! gs none)) 1=some (.map false (Fc uS b) none):=by rw[Ah (by decide)];exact h.mm
 have e:Al (upd H 3 (C! gs none)) 2=some (c_ Cv [.mp 1]):=by rw[Ah (by decide)];exact h.st
 have a:Al (upd H 3 (C! gs none)) 3=some (C! gs none):=FE h.lp;have g:∀u y,3<u->Al H u=some y->Al (upd H 3 (C! gs none)) u=some y:=λu y q k=>by rw[Ah (by omega)];exact k
 have w1:Wf (upd H 3 (C! gs none)):=Bs h.wf;show A7 AC (.ptr 0 0 0) (upd H 3 (C! gs none)) _=_;rw[AH (p:=0) rfl d (by simp)];show Aj (r! L (n+1)) Ec [gV gs,S p] (upd H 3 (C! gs none)) _=_;rw[lO,Jm];by_cases m:p∈gs.map Cd.id
 ·rw[CZ m]at r;rw[Ki m];show A2 (.v (.bool false)) _ _=_;rw[Bm];show Ek (upd H 3 (C! gs none)) 3 false (some none) _=_;rw[B3W a];refine r _ ⟨?_,?_,?_,FE a,Bs w1⟩ λu y q k=>?_
  ·rw[Ah (by decide)];exact d
  ·rw[Ah (by decide)];exact c
  ·rw[Ah (by decide)];exact e
  ·rw[Ah (by omega)];exact g u y q k
 ·rw[Cr m]at r;rw[KD m];show A2 (.v (.bool true)) _ _=_;rw[CA];show A7 Co (.ptr 2 0 0) (upd H 3 (C! gs none)) _=_;rw[AH (p:=0) rfl e (by simp)];have A:∀{K:K2},BZ B9 [] K=K (.agg []):=λ{K}=>id rfl;have B:∀(F:Value->Af),It (S p) F=F (SV p):=λF=>id rfl;rw[A,B];show Oh (.mp 1) (SV p) (uS ()) (upd H 3 (C! gs none)) _=_;rw[SF (f:=uS) (v:=()) c];have i:Al (upd (upd H 3 (C! gs none)) 1 (.map false (Fc uS (F1 b p ())) none)) 3=some (C! gs none):=by rw[Ah (by decide)];exact a
  show Ek (upd (upd H 3 (C! gs none)) 1 (.map false (Fc uS (F1 b p ())) none)) 3 false (some none) _=_;rw[B3W i];refine r _ ⟨?_,?_,?_,FE i,Bs (Bs w1)⟩ λu y q k=>?_
  ·rw[Ah (by decide),Ah (by decide)];exact d
  ·rw[Ah (by decide)];exact(Dk c).trans rfl
  ·rw[Ah (by decide),Ah (by decide)];exact e
  ·rw[Ah (by omega),Ah (by omega)];exact g u y q k
def B8a{c:AV->AV->AV->AV->AV->KV}{j:AV}{y:Row}{ps:List AQ}(hb:ps.length<100):∀(f i:Nat)(b:List (AQ×Unit))(H:Hp),i<=ps.length->ps.length-i<f->Ms gs b H->Al H 4=some y->
 (∀d a,Ms gs (A' (gs.map Cd.id) b (ps.drop i)) a->Al a 4=some y->c (.yl 3) (S s) j (Dp ps) (I ps.length) d a=x)->
 FG (L+20) (r! L (n+2)) K c f (.yl 3) (S s) j (Dp ps) (I ps.length) (I i) H=x:=by
 intro f
 induction f with
 |zero=>intro i b H _ h;omega
 |succ f ih=>
  intro i b H q m hm k e;rw[JJ];unfold FH HN Az;by_cases h:i<ps.length
  ·rw[Fo (by omega),CA,(Ng ps).ia h,Hy];rw[tK h]at e;refine B1F hm λa g hk=>?_;rw[Jm];show A2 (.v (.bool false)) _ _=_;rw[Bm,Dg (by omega)];exact ih (i+1) _ a (by omega) (by omega) g (hk 4 y (by decide) k) e
  ·rw[XA2 (by omega),Bm];have:i=ps.length:=by omega
   subst this;rw[List.drop_length]at e;exact e _ H hm k
def B8b{X:Ru}{w:AV}(hw:Ze 6 w w=true)(R:∀c∈gs,c.ps.length<100)(hL:100<L)(r:∀b H,Ms gs b H->(b.map Prod.fst).Perm (Qc gs)->X H=some (w,[])):
 ∀(f:Nat)(es:List (AQ×Cd))(b:List (AQ×Unit))(H:Hp)(o:Option (Value×AV))(B d1 d2 d3:AV),es.length<f->(∀e∈es,e∈gE gs)->Ms gs b H->Al H 4=some (.iter (Fc JA es) o)->
 (b.map Prod.fst).Nodup->(∀q∈b.map Prod.fst,q∈Qc gs)->(∀q∈Qc gs,q∈b.map Prod.fst\/∃e∈es,q∈e.2.ps)->
 Es (L+20) (r! L (n+2)) K X f (.yl 3) B (.it 4) d1 d2 d3 H=some (w,[]):=by
 intro f
 induction f with
 |zero=>intro es b H o B d1 d2 d3 h;omega
 |succ f ih=>
  intro es b H o B d1 d2 d3 hf he hm Q A h1 h2;rw[Ht];unfold Et E0 Az;refine pE (f:=JA) hw Q (λe=>?_) (λa e c J=>?_)
  ·subst e;rw[My,Bm];refine r b H hm ((l2x A qB).2 λq=>⟨h1 q,λhq=>(h2 q hq).elim id λ⟨e,he,_⟩=>absurd he (by simp)⟩)
  ·subst J;obtain⟨cd,i,F⟩:=Us.1 (he e (by simp));subst F;have j:=R7 (es:=Fc JA (a++c)) (o:=some (.string ⟨⟨cd.id⟩⟩,JA cd)) Q;have k:Ms gs b (upd H 4 (.iter (Fc JA (a++c)) (some (.string ⟨⟨cd.id⟩⟩,JA cd)))):=hm.kp (Bs hm.wf) λu y hu P=>by rw[Ah (by omega)];exact P
   rw[My,CA];simp only[BJ];rw[Uj j,My,A9s];generalize upd H 4 (.iter (Fc JA (a++c)) (some (.string ⟨⟨cd.id⟩⟩,JA cd)))=H1 at j k;obtain⟨Z,e2,D,w2,V⟩:=DY (e:=Ad) (zs:=Bi) (vs:=cd.cs) k.wf BC;rw[AP (cs:=Bi) rfl,Bv (cs:=Bi) (vs:=cd.cs) (Av (by simp)) BC rfl Ic,<-e2,fA,Kk,A9J D,RU];have O:=k.kp w2 λu y _ P=>(V u y P).1;have N:=(V _ _ j).1;have e0:(AV.v (.int .i64 0))=I ((0:Nat):Int):=rfl;rw[e0];refine B8a (n:=n) (R cd i) (L+20) 0 b Z (by omega) (by have:=R cd i;omega) O N λd Y t M=>?_;rw[tJ]at t;obtain⟨g1,C⟩:=iY (ids:=gs.map Cd.id) cd.ps b A;refine ih (a++c) _ Y _ _ _ _ _ (by simp at hf⊢;omega) (λe g=>he e (by simp at g⊢;rcases g with g|g;exact .inl g;exact .inr (.inr g))) t M g1 (λq hq=>?_) (λq hq=>?_)
   ·rcases(C q).1 hq with hq|⟨hq,hn⟩
    ·exact h1 q hq
    ·exact Ua.2 ⟨hn,cd,i,hq⟩
   ·rcases h2 q hq with h|⟨e,g,m⟩
    ·exact .inl ((C q).2 (.inl h))
    ·simp at g;rcases g with g|g|g
     ·exact .inr ⟨e,by simp[g],m⟩
     ·subst g;exact .inl ((C q).2 (.inr ⟨m,(Ua.1 hq).1⟩))
     ·exact .inr ⟨e,by simp[g],m⟩
def uF{a:AV}(m:GOk gs)(O:40000<L)(w:∀c∈gs,c.ps.length<100)(u:LA gs a):CS (r! L (n+80)) Ff [a] (Dp (Qc gs)):=by
 intro K d;rw[Su];unfold LO;have k:Py true depth [a] [a] [] false:=by rcases u with rfl|⟨_,rfl⟩<;>exact λK=>by kernel_rfl
 have of:∀{K:K2},Aj (r! L (n+79)) Eb [a] [] K=K (.tup [gV gs,Bo true]):=λ{K}=>En (λK d=>wX (n:=n+15) m O u K d) k;have j:∀{H}{K:K2},Aj (r! L (n+79)) Dq [gV gs] H K=K (A98 gs):=λ{H K}=>by
  refine En (λK d=>?_) (Aq (q:=false) dG AG);rw[show n+79=(n+78)+1 from rfl,MF];unfold Ie XA3;rw[A2I];exact d _ _ ⟨true,λK=>by kernel_rfl⟩
 rw[of,CI,CH];have w0:Ze 6 (Dp (Qc gs)) (Dp (Qc gs))=true:=Uq 6 _ (A1N _);have J:∀{F:AV->KV},(Ba Bx AC [] λy A=>Dr AC y (gV gs) A λB=>JK B9 B λR C=>Ba Cv Co C λg h=>Dr Co g R h λi=>F y g i)=
  F (.ptr 0 0 0) (.ptr 2 0 0) [(2,c_ Cv [.mp 1]),(1,.map false [] none),(0,c_ Bx [gV gs])]:=λ{F}=>by kernel_rfl
 rw[J];simp only[BJ];have M:∀{K:K2},A7 AC (.ptr 0 0 0) [(2,c_ Cv [.mp 1]),(1,.map false [] none),(0,c_ Bx [gV gs])] K=K (gV gs):=λ{K}=>by kernel_rfl
 rw[M,j,Xp,show n+79=(n+78)+1 from rfl,HI];unfold EA;have N:∀{H:Hp}{K:K2},A7 AC (.iptr [gV gs]) H K=K (gV gs):=λ{H K}=>by kernel_rfl
 rw[N,dO];simp only[BJ];refine B8b (n:=n+76) w0 w (by omega) (λb H hm f=>?_) (L+20) (gE gs) [] _ none _ _ _ _ (by have:=m.len;simp[gE];omega) (λe he=>he)
  ⟨rfl,rfl,rfl,rfl,AM (AM (AM (AM (AM E1))))⟩ rfl (by simp) (by simp) (λq hq=>.inr ?_)
 ·show IN H 3 _=_;rw[Bq hm.lp];show JI H 3 .gone _=_;rw[C5];have Q:Al (upd H 3 .gone) 2=some (c_ Cv [.mp 1]):=by rw[Ah (by decide)];exact hm.st
  have r:Al (upd H 3 .gone) 1=some (.map false (Fc uS b) none):=by rw[Ah (by decide)];exact hm.mm
  show A7 Co (.ptr 2 0 0) (upd H 3 .gone) _=_;rw[AH (p:=0) rfl Q (by simp)];have P:b.length<1000:=by
   have:=f.length_eq;rw[Ub]at this;rw[this];exact uW m w
  refine Wh (n:=n+73) w0 (by omega) (by omega) (Bs hm.wf) r f yB λv V hv t=>?_;exact d _ _ λbb=>by
   obtain⟨q,hq⟩:=X0 (D:=depth-1) (b:=bb) hv t;exact⟨q,hq⟩
 ·obtain⟨_,c,hc,hq⟩:=Ua.1 hq;exact⟨(c.id,c),Us.2 ⟨c,hc,rfl⟩,hq⟩
end
end
section
variable{a:Int}{k:Nat}
variable{L n:Nat}
def A8T(h:KO a)(hk:k<3):KO (a.fdiv (2^(4*k))):=by
 unfold KO at h⊢;have e:a.fdiv (2^(4*k))=a/(2^(4*k)):=Int.fdiv_eq_ediv_of_nonneg _ (Int.le_of_lt (Int.pow_pos (by decide)));rw[e];obtain rfl|rfl|rfl:k=0\/k=1\/k=2:=by omega
 ·rw[show(2:Int)^(4*0)=1 by decide];omega
 ·rw[show(2:Int)^(4*1)=16 by decide];omega
 ·rw[show(2:Int)^(4*2)=256 by decide];omega
def B9I{j:TI}{K:K2}(hk:k<=64):Ap j .shr (I a) (I k) K=K (I (a.fdiv (2^k))):=by
 have:Ap j .shr (I a) (I k) K=ck (lH 0 (k:Int)) (fI (a.fdiv (2^(min (k:Int).toNat 64))) λz=>K (.v (.int .i64 z))):=rfl;rw[this,Ug,eS,l1x hk];have h1:lH 0 (k:Int)=true:=by rw[KE];simp
 rw[h1];rfl
def rd7{H:Hp}{b:Nat}{y:Y7}(h:Al H b=some (c_ Xk y.cs)):
 (∀{K},A7 Ac (.ptr b 0 0) H K=K (I y.y0))/\(∀{K},A7 Ac (.ptr b 1 0) H K=K (I y.y1))/\(∀{K},A7 Ac (.ptr b 2 0) H K=K (I y.y2))/\(∀{K},A7 Ac (.ptr b 3 0) H K=K (I y.y3))/\(∀{K},A7 Ac (.ptr b 4 0) H K=K (I y.y4))/\(∀{K},A7 Ac (.ptr b 5 0) H K=K (I y.y5))/\(∀{K},A7 Ac (.ptr b 6 0) H K=K (I y.y6)):=
 ⟨λ{K}=>AH (p:=0) rfl h (by simp[Y7.cs]),λ{K}=>AH (p:=1) rfl h (by simp[Y7.cs]),λ{K}=>AH (p:=2) rfl h (by simp[Y7.cs]),λ{K}=>AH (p:=3) rfl h (by simp[Y7.cs]),λ{K}=>AH (p:=4) rfl h (by simp[Y7.cs]),λ{K}=>AH (p:=5) rfl h (by simp[Y7.cs]),λ{K}=>AH (p:=6) rfl h (by simp[Y7.cs])⟩
def C0J{b:Nat}{K:K2}:Dh BU (.ptr b 0 0) (.v (.int .i64 0)) K=K (.ptr b 0 0):=Ey (z:=0) 0 rfl rfl (by decide)
def C2W{b:Nat}{K:K2}:Dh BU (.ptr b 0 0) (.v (.int .i64 1)) K=K (.ptr b 1 0):=Ey (z:=1) 1 rfl rfl (by decide)
def C2V{b:Nat}{K:K2}:Dh BU (.ptr b 0 0) (.v (.int .i64 2)) K=K (.ptr b 2 0):=Ey (z:=2) 2 rfl rfl (by decide)
def C2U{b:Nat}{K:K2}:Dh BU (.ptr b 0 0) (.v (.int .i64 3)) K=K (.ptr b 3 0):=Ey (z:=3) 3 rfl rfl (by decide)
def C2T{b:Nat}{K:K2}:Dh BU (.ptr b 0 0) (.v (.int .i64 4)) K=K (.ptr b 4 0):=Ey (z:=4) 4 rfl rfl (by decide)
def C2S{b:Nat}{K:K2}:Dh BU (.ptr b 0 0) (.v (.int .i64 5)) K=K (.ptr b 5 0):=Ey (z:=5) 5 rfl rfl (by decide)
def C0I{b:Nat}{K:K2}:Dh BU (.ptr b 0 0) (.v (.int .i64 6)) K=K (.ptr b 6 0):=Ey (z:=6) 6 rfl rfl (by decide)
structure Pa(H0:Hp)(ps:List Ha)(u:AV)(H:Hp):Prop where
 sl:AZ H Ao 1 u ps.length (AJ ps)
 nl:ps=[]->u=A1
 fr:∀s,A6 u s->Ax H0<=s
 wf:Wf H
 w0:Wf H0
 nx:Ax H0<=Ax H
 kp:∀s q,Al H0 s=some q->Al H s=some q
section
variable{K:KV}{x:Af}{H0 H H':Hp}{y:Y7}{ids:List Ha}{a0 lv iv kd:AV}{q7 i:Nat}
def C09{m:AV->AV->AV->AV->AV->AV->AV->KV}(hL:100<L)(Z:KO y.y6)(hq:Al H0 q7=some (c_ Xk y.cs))(hi:AZ H0 Ao 1 iv ids.length (AJ ids))(hb:ids.length<100)(j:∀u k H,Pa H0 (sQ ids y.y6 3) u H->m a0 lv iv (I i) (.ptr q7 0 0) kd u k H=x):
 ∀(f k:Nat)(u:AV)(H:Hp),k<=3->3-k<f->Pa H0 (sQ ids y.y6 k) u H->
 SL (L+20) (r! L (n+64)) K m f a0 lv iv (I i) (.ptr q7 0 0) kd u (I k) H=x:=by
 intro f
 induction f with
 |zero=>intro k u H _ h;omega
 |succ f ih=>
  intro k u H hk hf d;rw[jV];unfold SN HN BK Az Fk;have V:(AV.v (.int .i64 3))=I ((3:Nat):Int):=rfl;have w:=hi.kp λs q _=>d.kp s q;rw[V];by_cases h:k<3
  ·rw[Fo (by omega)];simp only[gT,Ck,Kr (t:=Ab) rfl w,DB];by_cases B:0<ids.length
   ·have hm:=Nat.mod_lt (pk (y.y6.fdiv (2^(4*k))) 16).toNat B;have pr:=EM (c:=y.y6.fdiv (2^(4*k))) (n:=16) (by decide);obtain⟨-, -, -, -, -, -,P⟩:=rd7 (d.kp _ _ hq);have ml:∀{K:K2},Ap Ac .mul (.v (.int .i64 4)) (I (k:Int)) K=K (I ((4*k:Nat):Int)):=λ{K}=>by
     rw[Px,Cz (by omega) (by omega)];rw[show(4:Int)*(k:Int)=((4*k:Nat):Int) by omega]
    have C:∀{H K},Aj (r! L (n+64)) Lj [I (y.y6.fdiv (2^(4*k))),.v (.int .i64 16)] H K=K (I (pk (y.y6.fdiv (2^(4*k))) 16)):=λ{H K}=>S? (n:=n+63) (A8T Z h) (by decide) (by decide) H K;have J:∀{K:K2},Ap Ac .add (I k) (.v (.int .i64 1)) K=K (I ((k+1:Nat):Int)):=λ{K}=>Dg (by omega);rw[Ki (by omega),Xu,CA];simp only[BJ];rw[C0I,P,ml,B9I (by omega),C,Eh];have r:sQ ids y.y6 (k+1)=if 0<ids.length/\pk (y.y6.fdiv (2^(4*k))) 16<14 then sQ ids y.y6 k++[ids.getD ((pk (y.y6.fdiv (2^(4*k))) 16).toNat%ids.length) []] else sQ ids y.y6 k:=rfl
    by_cases g:pk (y.y6.fdiv (2^(4*k))) 16<14
    ·rw[CZ ⟨B,g⟩]at r;have D:PL H ids iv:=.inr w;obtain⟨p,X,Y⟩:=D.at2 hm;have rm:∀{K:K2},Ap Ac .rem (I (pk (y.y6.fdiv (2^(4*k))) 16)) (I (ids.length:Int)) K=K (I (((pk (y.y6.fdiv (2^(4*k))) 16).toNat%ids.length:Nat):Int)):=λ{K}=>by
      rw[Xb (by omega),Int.tmod_eq_emod_of_nonneg pr.1];have:(pk (y.y6.fdiv (2^(4*k))) 16)=(((pk (y.y6.fdiv (2^(4*k))) 16).toNat:Nat):Int):=by omega
      rw[this,eS];rfl
     have aa:=A3F (ids:=ids) (y6:=y.y6) k;obtain⟨u',H',a1,a2,M,a4,N,O⟩:=zW (ie:=Ag) (i2:=Ab) (ys:=AJ [ids[(pk (y.y6.fdiv (2^(4*k))) 16).toNat%ids.length]]) d.sl d.wf rfl rfl (by decide) rfl (λ_=>rfl) (by show(_+1)*16<=_;omega) (by omega);have R:ids.getD ((pk (y.y6.fdiv (2^(4*k))) 16).toNat%ids.length) []=ids[(pk (y.y6.fdiv (2^(4*k))) 16).toNat%ids.length]:=by simp[List.getD,JC hm]
     rw[R]at r;have g0:=d.nx;rw[Ki g,CA,rm,X,Y,eH,a1,J];refine ih (k+1) u' H' (by omega) (by omega) ⟨?_,λe=>?_,λs A=>?_,M,d.w0,by omega,λs q A=>?_⟩
     ·rw[r,EJ];have:AJ (sQ ids y.y6 k++[ids[(pk (y.y6.fdiv (2^(4*k))) 16).toNat%ids.length]])=AJ (sQ ids y.y6 k)++AJ [ids[(pk (y.y6.fdiv (2^(4*k))) 16).toNat%ids.length]]:=by simp[AJ]
      rw[this];exact a2
     ·rw[r]at e;simp at e
     ·have:=O s A;omega
     ·exact N _ _ (d.kp s q A) λe=>by have:=d.fr s e;have:=d.w0.lt A;omega
    ·rw[Cr λhc=>g hc.2]at r;rw[KD g,Bm,J];exact ih (k+1) u H (by omega) (by omega) (by rw[r];exact d)
   ·rw[KD (by omega),Xu,Bm];have Q:∀k,sQ ids y.y6 k=[]:=by
     intro k
     induction k with
     |zero=>rfl
     |succ k F=>unfold sQ;rw[Cr λhc=>B hc.1];exact F
    refine j u _ H ?_;rw[Q]at d⊢;exact d
  ·have:k=3:=by omega
   subst this;rw[XA2 (by omega)];simp only[Z_,Ck,ZG];rw[Bm];exact j u _ H d
end
end
section
variable{a:AV}{s:Nat}
variable{L n:Nat}
structure Gm(g:GV)(lv iv:AV)(H:Hp):Prop where
 gv:GvOk g H
 sl:AZ H Ad 68 lv g.length (gvC g)
 nl:g=[]->lv=A1
 si:AZ H Ao 1 iv g.length (AJ ((g.map Prod.fst).map Cd.id))
 ni:g=[]->iv=A1
 dl:∀s,A6 lv s->¬A6 iv s/\∀p∈g,¬A6 p.2 s
 di:∀s,A6 iv s->∀p∈g,¬A6 p.2 s
 wf:Wf H
section
variable{K:KV}{x:Af}{H0 H H':Hp}{g:GV}{lv iv a0:AV}{c:Cd}{v:AV}
def Gm.grow(h:Gm g lv iv H)(wf:Wf H')(kp:∀s q,Al H s=some q->Al H' s=some q):Gm g lv iv H':=
 ⟨⟨λp d=>(h.gv.sl p d).kp λs q _=>kp s q,h.gv.nl⟩,h.sl.kp λs q _=>kp s q,h.nl,h.si.kp λs q _=>kp s q,h.ni,h.dl,h.di,wf⟩
def Gm.lti(h:Gm g lv iv H)(d:A6 iv s):s<Ax H:=h.si.lt h.wf d
def Gm.ltl(h:Gm g lv iv H)(d:A6 lv s):s<Ax H:=h.sl.lt h.wf d
def Gm.ltp(h:Gm g lv iv H){p:Cd×AV}(d:p∈g)(e:A6 p.2 s):s<Ax H:=(h.gv.sl p d).lt h.wf e
def C3F{cs:Is}(e:cs.length=68)(h1:cs.all AV.one=true):Gt Ad 68 Ae 1 [(0,68,.agg cs)] H K=K (.sl 68 (Ax H) 0 1) ((Ax H,.cells false Ad cs)::H):=by
 have f:Gt Ad 68 Ae 1 [(0,68,.agg cs)] H K=Hz (.agg cs) λvs=>HD vs 0 λn=>ck (Nat.beq n 68) (ck (PI vs) (DN 0 vs Bi λd=>HV H λs=>K (.sl 68 s 0 1) ((s,.cells false Ad d)::H))):=r_ rfl;have hc:B2 (.agg cs)=cs:=rfl;rw[f,CQ,hc,Cs,e,Gu,h1];show DN 0 cs Bi _=_;rw[IP _ _ _ _ (by rw[e];decide),QJ _ _ (by rw[e];rfl),BW]
def Gm.add(h:Gm g lv iv H)(hv:AZ H Ao 1 v c.ps.length (AJ c.ps))(hn:c.ps=[]->v=A1)(C:∀s,A6 v s->¬A6 lv s/\¬A6 iv s)(hb:g.length<100):
 ∃j k i m,(∀K:KV,(Gt Ad 68 Ae 1 [(0,68,.agg (c.csP v))] H λv1 k=>Ed Ad 68 Ae A9 lv v1 k K)=K j k)/\
  (∀K:KV,(Gt Ao 1 Ag 1 [(0,1,S c.id)] k λv1 m=>Ed Ao 1 Ag Ab iv v1 m K)=K i m)/\Gm (g++[(c,v)]) j i m:=by
 obtain⟨j,k,a1,a2,w,F,y,A⟩:=zW (ie:=Ae) (i2:=A9) (ys:=c.csP v) h.sl h.wf (Ln c) (XJ c (AZ.one hv)) (by decide) rfl (λ_=>rfl) (by show(_+1)*800<=_;omega) (by omega);have u:AZ k Ao 1 iv g.length (AJ ((g.map Prod.fst).map Cd.id)):=h.si.kp λs q f t=>y s q t (λe=>(h.dl s e).1 f);obtain⟨i,m,b1,b2,D,b4,B,b6⟩:=zW (ie:=Ag) (i2:=Ab) (ys:=AJ [c.id]) u w rfl rfl (by decide) rfl (λ_=>rfl) (by show(_+1)*16<=_;omega) (by omega);have kp:∀s q,¬A6 lv s->¬A6 iv s->Al H s=some q->Al m s=some q:=λs q h1 h2 f=>B _ _ (y _ _ f h1) h2;refine⟨j,k,i,m,λK=>by rw[C3F (Ln c) (XJ c (AZ.one hv))];exact a1 K,λK=>by rw[eH];exact b1 K,⟨λp d=>?_,λp d=>?_⟩,?_,λe=>by simp at e,?_,λe=>by simp at e,λs f=>⟨λe=>?_,λp d e=>?_⟩,λs f p d e=>?_,D⟩
 ·rcases Yp.1 d with d|d
  ·exact(h.gv.sl p d).kp λs q f=>kp s q (λe=>(h.dl s e).2 p d f) (λe=>h.di s e p d f)
  ·rw[ZW]at d;subst d;exact hv.kp λs q f=>kp s q (C s f).1 (C s f).2
 ·rcases Yp.1 d with d|d
  ·exact h.gv.nl p d
  ·rw[ZW]at d;subst d;exact hn
 ·have r:gvC (g++[(c,v)])=gvC g++c.csP v:=by simp[gvC]
  rw[r,EJ];exact AZ.kp a2 λs q f t=>B s q t λe=>by have:=A s f;have:=h.lti e;omega
 ·have r:AJ (((g++[(c,v)]).map Prod.fst).map Cd.id)=AJ ((g.map Prod.fst).map Cd.id)++AJ [c.id]:=by simp[AJ]
  rw[r,EJ];exact b2
 ·have:=b6 s e;have:=AZ.lt a2 w f;omega
 ·have:=A s f;rcases Yp.1 d with d|d
  ·have:=h.ltp d e;omega
  ·rw[ZW]at d;subst d;have:=hv.lt h.wf e;omega
 ·have:=b6 s f;rcases Yp.1 d with d|d
  ·have:=h.ltp d e;omega
  ·rw[ZW]at d;subst d;have:=hv.lt h.wf e;omega
def XA(xs:List Y7)(a:AV):Prop:=a=.list xs.length (xs.flatMap Y7.cs)\/(xs=[]/\a=A1)
def XA.len{xs:List Y7}{K:K2}(h:XA xs a):Bh L8 a K=K (I xs.length):=by
 rcases h with rfl|⟨rfl,rfl⟩<;>exact r_ rfl
def XA.ia{xs:List Y7}{i:Nat}{K:K2}(h:XA xs a)(d:i<xs.length):Dh L8 a (I i) K=K (.iptr xs[i].cs):=by
 rcases h with rfl|⟨rfl,rfl⟩
 ·exact iM (f:=Y7.cs) rfl (λ_=>rfl) d
 ·simp at d
end
end
section
variable{L n:Nat}
section
variable{K:KV}{x:Af}{xs:List Y7}{a0:AV}
def b6{a b c d e f:Int}{K:K2}:BZ Bt [(0,1,I a),(1,1,I b),(2,1,I c),(3,1,I d),(4,1,I e),(5,1,I f)] K=K (.agg [I a,I b,I c,I d,I e,I f]):=id rfl
def b4{a b c d:Int}{K:K2}:BZ Cu [(0,1,I a),(1,1,I b),(2,1,I c),(3,1,I d)] K=K (.agg [I a,I b,I c,I d]):=id rfl
def bs4{a b c d:Int}{H:Hp}:Gt Hg 4 Cu 1 [(0,4,.agg [I a,I b,I c,I d])] H K=K (.sl 4 (Ax H) 0 1) ((Ax H,.cells false Hg [I a,I b,I c,I d])::H):=by
 have e:Gt Hg 4 Cu 1 [(0,4,.agg [I a,I b,I c,I d])] H K=HV H (λs=>K (.sl 4 s 0 1) ((s,.cells false Hg [I a,I b,I c,I d])::H)):=r_ rfl;rw[e,BW]
def C0m{k4:KV}(hL:40000<L)(hx:XA xs a0)(a4:∀y∈xs,y.Ok)(t:∀g lv iv H,g.map Prod.fst=P0 xs (min 8 xs.length)->Gm g lv iv H->k4 lv H=x):
 ∀(f i:Nat)(g:GV)(lv iv:AV)(H:Hp)(d0 d1 d2 d3:AV),i<=min 8 xs.length->min 8 xs.length-i<f->g.map Prod.fst=P0 xs i->Gm g lv iv H->
 SM (L+20) (r! L (n+64)) K k4 f a0 lv iv (I i) d0 d1 d2 d3 H=x:=by
 intro f
 induction f with
 |zero=>intro i g lv iv H d0 d1 d2 d3 _ h;omega
 |succ f ih=>
  intro i g lv iv H d0 d1 d2 d3 hi hf J hh;rw[jW];unfold SO HN BK Az Fk;have e8:(AV.v (.int .i64 8))=I ((8:Nat):Int):=rfl;rw[hx.len,e8];by_cases h:i<min 8 xs.length
  ·have Q:i<xs.length:=by omega
   obtain⟨y,hy⟩:∃y,xs[i]=y:=⟨_,rfl⟩
   have aj:=a4 _ (Of Q);have ay:xs.getD i ⟨0,0,0,0,0,0,0⟩=y:=by rw[<-hy];simp[List.getD,JC Q]
   rw[hy]at aj;obtain⟨o0,o1,o2,o3,o4,o5,o6⟩:=aj;rw[Fo (by omega)];simp only[gT,Ck];rw[Fo (by omega),Ck,Xu,CA];refine Mu λbe Z=>?_;refine Mu λa8 aa=>?_;have ar:(P0 xs i).length=g.length:=by rw[<-J,Ub]
   have g8:=(A8F xs i (by omega)).2;have N:P0 xs (i+1)=if(cM i y ((P0 xs i).map Cd.id)).ps.Nodup/\(cM i y ((P0 xs i).map Cd.id)).id∉(P0 xs i).map Cd.id then P0 xs i++[cM i y ((P0 xs i).map Cd.id)] else P0 xs i:=by
    have:P0 xs (i+1)=if(cM i (xs.getD i ⟨0,0,0,0,0,0,0⟩) ((P0 xs i).map Cd.id)).ps.Nodup/\(cM i (xs.getD i ⟨0,0,0,0,0,0,0⟩) ((P0 xs i).map Cd.id)).id∉(P0 xs i).map Cd.id
     then P0 xs i++[cM i (xs.getD i ⟨0,0,0,0,0,0,0⟩) ((P0 xs i).map Cd.id)] else P0 xs i:=rfl
    rw[this,ay]
   have A:∀g' p m q kd u k B,g'.map Prod.fst=P0 xs (i+1)->Gm g' p m B->a8 a0 p m (I i) q kd u k B=x:=by
    intro g' p m q kd u k B h1 h2;have ad:∀{K:K2},Ap Ac .add (I i) (.v (.int .i64 1)) K=K (I ((i+1:Nat):Int)):=λ{K}=>Dg (by omega);rw[aa,Z];simp only[ad];exact ih (i+1) g' p m B q kd u k (by omega) (by omega) h1 h2
   clear Z aa ih t;have l7:∀{H}{K:K2},A7 BU (.iptr y.cs) H K=K (.agg y.cs):=λ{H K}=>r_ rfl;obtain⟨H1,e1,m1,w1,ak⟩:=DY (e:=Xk) (zs:=[zI,zI,zI,zI,zI,zI,zI]) (vs:=y.cs) hh.wf rfl;rw[hx.ia Q,hy,l7,AP (cs:=[zI,zI,zI,zI,zI,zI,zI]) rfl,Bv (cs:=[zI,zI,zI,zI,zI,zI,zI]) (vs:=y.cs) (Av (by simp)) rfl rfl rfl,<-e1];have h1:=hh.grow w1 λs q j=>(ak s q j).1;generalize Ax H=q7 at m1;clear e1 ak hh;obtain⟨X, -⟩:=rd7 m1;rw[C0J,X];refine Mu λa9 ab=>?_;have a:a9 (I (kdM i y)) H1=x:=by
    rw[ab];clear ab;refine Mu λbf ac=>?_;refine Mu λbc F=>?_;have ai:=h1.si;rw[J]at ai;have w:((P0 xs i).map Cd.id).length=g.length:=by rw[Ub,ar]
    refine C09 (n:=n) (ids:=(P0 xs i).map Cd.id) (by omega) o6 m1 (by rw[w];exact ai) (by rw[w];omega) (λu k H2 hp=>?_) (L+20) 0 A1 H1 (by omega) (by omega) ⟨.inl ⟨rfl,rfl,rfl⟩,λ_=>rfl,(λs j=>by obtain⟨_,_,_,h⟩:=j;cases h),w1,w1,Oj _,λ_ _ h=>h⟩;rw[F,ac];clear F ac;obtain⟨-,r1,r2,r3,r4,r5,r6⟩:=rd7 (hp.kp _ _ m1);simp only[C2W,C2V,C2U,C2T,C2S,C0I,r1,r2,r3,r4,r5,r6];rw[b6,b6,b4,bs4];obtain⟨H3,s3,e3,Y,m3,w3,am⟩:=push hp.wf (.cells false Hg [I y.y3,I y.y4,I y.y5,I y.y6]) (by simp);rw[<-Y,<-e3];have az:KO (kdM i y):=by
     unfold kdM;split
     ·unfold KO;omega
     ·exact o0
    have a7:YA H3 (some (y.y3,y.y4,y.y5,y.y6)) (.sl 4 s3 0 1):=λB kp=>⟨true,WS (D:=depth-1) (q':=false) (kp _ _ m3) rfl (KF (λz:Int=>Value.int .i64 z) [y.y3,y.y4,y.y5,y.y6])⟩
    have a6:PL H3 (sQ ((P0 xs i).map Cd.id) y.y6 3) u:=.inr (hp.sl.kp λs q _ j=>(am _ _ j).1);have h3:=h1.grow w3 λs q j=>(am _ _ (hp.kp s q j)).1;have bd:=A3F (ids:=(P0 xs i).map Cd.id) (y6:=y.y6) 3;clear r1 r2 r3 r4 r5 r6 e3 Y m3 h1;have ax:∀s∈sQ ((P0 xs i).map Cd.id) y.y6 3,s.length=32:=λs j=>by
     obtain⟨c,_,rfl⟩:=Us.1 (A3E _ s j);exact A2P c
    refine oR (n:=n+20) (y:=some (y.y3,y.y4,y.y5,y.y6)) hL w3 az o1 o2 o3 o4 o5 o1 o2 o3 o4 o5 o6 a7 ⟨o3,o4,o5,o6⟩ a6 (by omega) ax ?_;show∀v B,AZ B Ao 1 v (cM i y ((P0 xs i).map Cd.id)).ps.length (AJ (cM i y ((P0 xs i).map Cd.id)).ps)->((cM i y ((P0 xs i).map Cd.id)).ps=[]->v=A1)->Wf B->(∀s q,Al H3 s=some q->Al B s=some q)->(∀s,A6 v s->Ax H3<=s)->_;intro v H4 sv nv w4 ao O;have M:(cM i y ((P0 xs i).map Cd.id)).Ok:=B4l;have ec:cdM (kdM i y) y.y1 y.y2 y.y3 y.y4 y.y5 y.y1 y.y2 y.y3 y.y4 y.y5 y.y6 (some (y.y3,y.y4,y.y5,y.y6)) (sQ ((P0 xs i).map Cd.id) y.y6 3)=cM i y ((P0 xs i).map Cd.id):=rfl;rw[ec];generalize cM i y ((P0 xs i).map Cd.id)=c at sv nv M N⊢;have h4:=h3.grow w4 ao;have hd:∀s,A6 v s->¬A6 lv s/\¬A6 iv s:=λs j=>⟨λe=>by have:=h3.ltl e;have:=O s j;omega,λe=>by have:=h3.lti e;have:=O s j;omega⟩
    obtain⟨V,e5,m5,w5,R⟩:=DY (e:=Ad) (zs:=Bi) (vs:=c.csP v) w4 (Ln c);rw[AP (cs:=Bi) rfl,Bv (cs:=Bi) (vs:=c.csP v) (Av (by simp)) (Ln c) rfl (XJ c (AZ.one sv)),<-e5];have h5:=h4.grow w5 λs q j=>(R s q j).1;have aq:=AZ.kp sv λs q _ j=>(R s q j).1;generalize Ax H4=r at m5;have lc:∀{K},A7 Ae (.ptr r 0 0) V K=K (.agg (c.csP v)):=λ{K}=>AX rfl (by exact(Ln c).symm) m5;clear e5 R h4 h3 sv ao O m5;have ag:((P0 xs i).map Cd.id).length<1000:=by rw[w];omega
    have a3:([]:Ha)∉(P0 xs i).map Cd.id:=λe=>by
     obtain⟨d,_,hd⟩:=Us.1 e;exact rF d hd
    have ae:∀{s:Ha}{K},Aj (r! L (n+64)) Sz [iv,S s] V K=K (gY s ((P0 xs i).map Cd.id) 0):=λ{s K}=>by
     have ap:=h5.si;rw[J,<-w]at ap;have ba:(P0 xs i).map Cd.id=[]->iv=A1:=λe=>h5.ni (by
      have:g.length=0:=by rw[<-w,e];rfl
      exact lX this)
     obtain⟨q,hq⟩:=X0 (D:=depth-1) (b:=true) ap ba;exact AE (C02 (L:=L) (n:=n+63) (s:=s) (Ng ((P0 xs i).map Cd.id)) ag (by omega)) (Aq hq (Aq (q:=false) CG AG))
    obtain⟨qc,ah⟩:=zM (D:=depth-2) aq nv;by_cases C:c.ps.Nodup
    ·have P:∀{K},Aj (r! L (n+64)) Hv [.agg (c.csP v)] V K=K (S c.id):=λ{K}=>AE (zQ (n:=n) hL M C) (Aq (PR (D:=depth-1) ah) AG);rw[lc,P,ae];by_cases hm:c.id∈(P0 xs i).map Cd.id
     ·obtain⟨k,hk, -, -,e⟩:=qK _ 0 hm;rw[Cr λhc=>hc.2 hm]at N;rw[e,CI,CH,Ul,KD (rF c),Bool.not_false];simp only[gT,Ck,xR,Xu];rw[Bm];exact A g lv iv _ _ _ _ V (by rw[N];exact J) h5
     ·rw[CZ ⟨C,hm⟩]at N;obtain⟨p,H6,m,H7,b1,b2,b3⟩:=h5.add aq nv hd (by omega);rw[mA _ 0 hm,CI,CH,Ul,KD (rF c),Bool.not_false];simp only[gT,Ck,ntF,Xu];rw[CA,lc,b1,b2];exact A (g++[(c,v)]) p m _ _ _ _ H7 (by rw[N,Yr,J];rfl) b3
    ·have P:∀{K},Aj (r! L (n+64)) Hv [.agg (c.csP v)] V K=K (S []):=λ{K}=>AE (B3r (n:=n) hL M C) (Aq (PR (D:=depth-1) ah) AG);rw[Cr λhc=>C hc.1]at N;rw[lc,P,ae,mA _ 0 a3,CI,CH,Ul,Ki rfl,Bool.not_true];simp only[Z_,Ck,ZG];rw[Bm];exact A g lv iv _ _ _ _ V (by rw[N];exact J) h5
   have e2:(AV.v (.int .i64 2))=I ((2:Nat):Int):=rfl;rw[e2];by_cases af:i<2
   ·have a5:∀{H K},Aj (r! L (n+64)) Lj [I (y.y0.tdiv 3),.v (.int .i64 4)] H K=K (I (pk (y.y0.tdiv 3) 4)):=λ{H K}=>S? (n:=n+63) (L9 o0 (by decide)) (by decide) (by decide) H K;rw[Fo (by omega)];simp only[gT,Ck,C0J,X,ZC o0 (show(1:Int)<=3 by decide),a5,DB,Xu];by_cases h0:0<pk (y.y0.tdiv 3) 4
    ·rw[Ki h0,CA];have e:kdM i y=0:=CZ ⟨af,h0⟩;rw[e]at a;exact a
    ·rw[KD h0,Bm];have e:kdM i y=y.y0:=Cr λhc=>h0 hc.2;rw[e]at a;exact a
   ·rw[XA2 (by omega)];simp only[Z_,Ck,gU,ZG];rw[Bm];have e:kdM i y=y.y0:=Cr λhc=>af hc.1;rw[e]at a;exact a
  ·have:i=min 8 xs.length:=by omega
   subst this;by_cases h8:xs.length<=8
   ·rw[XA2 (by omega)];simp only[Z_,Ck,ZG];rw[Bm];exact t g lv iv H J hh
   ·rw[Fo (by omega)];simp only[gT,Ck];rw[XA2 (by omega),Ck,Xu,Bm];exact t g lv iv H J hh
def A7B(i:40000<L)(k:XA xs a0)(c:∀y∈xs,y.Ok):CT (r! L (n+65)) Vu [a0] (YQ (P0 xs (min 8 xs.length))):=by
 intro K f;rw[pH];unfold UP Az;simp only[BJ];refine C0m i k c (λg lv iv H j a=>?_) (L+20) 0 [] A1 A1 [] _ _ _ _ (by omega) (by omega) rfl ⟨⟨(λp d=>by cases d),(λp d=>by cases d)⟩,.inl ⟨rfl,rfl,rfl⟩,λ_=>rfl,.inl ⟨rfl,rfl,rfl⟩,λ_=>rfl,(λs e=>by obtain⟨_,_,_,h⟩:=e;cases h),(λs e=>by obtain⟨_,_,_,h⟩:=e;cases h),E1⟩;refine f _ _ ?_;rw[<-j];exact B7L (D:=depth-2) a.gv a.sl a.nl
end
end
end Go.Abs
end
