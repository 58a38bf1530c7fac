import Derived.Test.YtobbbklaopaiaaaGreatDoorP27
set_option linter.all false
set_option maxHeartbeats 100000000
noncomputable section
namespace Go.Abs
open Go.RowKit Go.Proofs
set_option maxRecDepth 100000
section
variable{w:AV}{ws:List Int}
variable{L n:Nat}
def CT(R:Rt)(f:Nat)(args:Is)(v:AV):Prop:=∀K:KV,(∀e d,(∃q,Fx true depth e v d q)->K e d=some (v,[]))->R.call f args [] K=some (v,[])
def CT.z{R:Rt}{f:Nat}{args args':Is}{v:AV}{H:Hp}{K:K2}(hc:CT R f args' v)(d:R5 true depth args args' H false):Ao R f args H K=K v:=K1 hc d
def pk(c n:Int):Int:=(if c<0 then-(c+1) else c)%n
def FQ{c n:Int}(h:0<n):0<=pk c n/\pk c n<n:=⟨Int.emod_nonneg _ (by omega),Int.emod_lt_of_pos _ h⟩
section
variable{K:KV}{x:Af}{a b:AV}{s:Ha}{gs:ed}{H:Hp}
def LA.fx(h:LA gs a)(H:Hp):Fx true depth a a H false:=by rcases h with rfl|⟨_,rfl⟩<;>exact λK=>by kernel_rfl
def A5B:(∃h:s∈gs.map Cd.id,∃k,∃d:k<gs.length,Mu (gE gs) s=some gs[k]/\lR s (gs.map Cd.id) 0=.tup [Bo true,I (k:Int)])\/(s∉gs.map Cd.id/\Mu (gE gs) s=none/\lR s (gs.map Cd.id) 0=.tup [Bo false,I (-1)]):=by
 by_cases h:s∈gs.map Cd.id
 ·left;obtain⟨k,d,h1,h2,f⟩:=gY _ 0 h;refine⟨h,k,by simpa using d,?_,by rw[f,Jt]⟩;clear h f
  induction gs generalizing k with
  |nil=>simp at d
  |cons c gs ih=>
   show Mu ((c.id,c)::gE gs) s=_;unfold Mu;cases k with
   |zero=>simp at h1;rw[Dl h1];rfl
   |succ k=>
    have e:=h2 0 (by omega);simp at e;rw[C5 e];exact ih k (by simpa using d) (by simpa using h1) (λm hm=>by simpa using h2 (m+1) (by omega))
 ·exact .inr ⟨h,Yv (by rw[Ww];exact h),gZ _ 0 h⟩
def A7g{z:Int}{K:K2}(h1: -9223372036854775808<z)(h2:z<9223372036854775808):Mv .neg (I z) K=K (I (-z)):=by
 have e:Mv .neg (I z) K=Oo .i64 (0-z) λz=>K (.v (.int .i64 z)):=rfl;rw[e,IQ,Int.zero_sub,CV (by omega) (by omega)]
end
def Lm(z:Int):Prop:= -9223372036854775808<=z/\z<9223372036854775808
section
variable{c m:Int}
def sL{K:K2}(hc:Lm c)(hm:0<m)(e:m<9223372036854775808){k1:K2}(d:k1= λv=>Ap Ab .rem v (I m) K):
 (Ap Ab .lss (I c) (.v (.int .i64 0)) λf=>A2 f (Ap Ab .add (I c) (.v (.int .i64 1)) λg=>Mv .neg g λi=>k1 i) (k1 (I c)))=K (I (pk c m)):=by
 subst d;obtain⟨h1,h2⟩:=hc;rw[DO];by_cases h:c<0
 ·rw[Hj h,Cr,Do,CV (by omega) (by omega),A7g (by omega) (by omega)];show Ap Ab .rem (I (-(c+1))) (I m) K=_;rw[Qu (by omega),Int.tmod_eq_emod_of_nonneg (by omega)];unfold pk;rw[Dl h]
 ·rw[HX h,Bh];show Ap Ab .rem (I c) (I m) K=_;rw[Qu (by omega),Int.tmod_eq_emod_of_nonneg (by omega)];unfold pk;rw[C5 h]
def A10(hc:Lm c)(hm:0<m)(d:m<9223372036854775808):PS (r! L (n+1)) LZ [I c,I m] (I (pk c m)):=by
 refine CS.ps (λK e=>?_) (λH=>λK=>by kernel_rfl);rw[tH];unfold Wh A3;simp only[BJ];exact(sL (K:=λv=>K v []) hc hm d rfl).trans (e _ _ (λb=>⟨false,λK=>by kernel_rfl⟩))
def A0Z(hc:Lm c)(hm:0<m)(d:m<9223372036854775808):PS (r! L (n+1)) LY [I c,I m] (I (pk c m)):=by
 refine CS.ps (λK e=>?_) (λH=>λK=>by kernel_rfl);rw[sR];unfold VQ A3;simp only[BJ];exact(sL (K:=λv=>K v []) hc hm d rfl).trans (e _ _ (λb=>⟨false,λK=>by kernel_rfl⟩))
def MB(hc:Lm c)(hm:0<m)(d:m<9223372036854775808):PS (r! L (n+1)) BM [I c,I m] (I (pk c m)):=by
 refine CS.ps (λK e=>?_) (λH=>λK=>by kernel_rfl);rw[sT];unfold VS A3;simp only[BJ];exact(sL (K:=λv=>K v []) hc hm d rfl).trans (e _ _ (λb=>⟨false,λK=>by kernel_rfl⟩))
def sM(hc:Lm c)(hm:0<m)(d:m<9223372036854775808):PS (r! L (n+1)) Jz [I c,I m] (I (pk c m)):=by
 refine CS.ps (λK e=>?_) (λH=>λK=>by kernel_rfl);rw[sZ];unfold Wb A3;simp only[BJ];exact(sL (K:=λv=>K v []) hc hm d rfl).trans (e _ _ (λb=>⟨false,λK=>by kernel_rfl⟩))
def MC(hc:Lm c)(hm:0<m)(d:m<9223372036854775808):PS (r! L (n+1)) Cs [I c,I m] (I (pk c m)):=by
 refine CS.ps (λK e=>?_) (λH=>λK=>by kernel_rfl);rw[sW];unfold VX A3;simp only[BJ];exact(sL (K:=λv=>K v []) hc hm d rfl).trans (e _ _ (λb=>⟨false,λK=>by kernel_rfl⟩))
end
section
variable{K:KV}{x:Af}{a:AV}{s:Ha}{gs:ed}{H:Hp}
def NA(ws:List Int)(w:AV):Prop:=(w=.list ws.length (Fa ws)\/(ws=[]/\w=Aw))/\ws.length<9223372036854775808/\∀z∈ws,Lm z
def NA.len{K:K2}(h:NA ws w):Bm Bj w K=K (I ws.length):=by
 rcases h.1 with rfl|⟨rfl,rfl⟩<;>exact id rfl
def NA.ia{K:K2}{i:Nat}(h:NA ws w)(d:i<ws.length)(hb:i<1000000):(Ds Bj w (I i) λp=>AD Ab p H K)=K (I ws[i]):=by
 rcases h.1 with rfl|⟨rfl,rfl⟩
 ·have e:(Fa ws).length=ws.length:=by simp[Fa]
  rw[YD rfl e (by omega) (by omega),jI,Ni rfl,SG d]
 ·simp at d
end
end
section
variable{L n:Nat}
section
variable{c:Int}
def B5G{k m:Int}(a:0<=k)(h1:k<m):pk k m=k:=by
 unfold pk;rw[C5 (by omega),Int.emod_eq_of_lt a h1]
def A9o:((List.range 7).all λi=>JM (Bc (Dt (r! L (n+42)) Gs [I (i:Nat)]) (.agg (uu i).cs)))=true:=by kernel_rfl
def A3f(hc:Lm c):PS (r! L (n+42)) Gs [I c] (.agg (CL (uu (pk c 7).toNat))):=by
 have pr:=FQ (c:=c) (n:=7) (by decide);obtain⟨k,b⟩:∃k:Nat,pk c 7=k:=⟨(pk c 7).toNat,by omega⟩
 have a:k<7:=by omega
 refine BK (λH K=>by kernel_rfl) ?_;have e:Dt (r! L (n+42)) Gs [I c]=Dt (r! L (n+42)) Gs [I (k:Nat)]:=by
  unfold Dt;rw[Yc,Yc];unfold VY Iu;have h1:∀H K,Ao (r! L (n+41)) Cs [I c,.v (.int .i64 7)] H K=K (I (pk c 7)):=MC (n:=n+40) hc (by decide) (by decide);have h2:∀H K,Ao (r! L (n+41)) Cs [I (k:Int),.v (.int .i64 7)] H K=K (I (pk k 7)):=MC (n:=n+40) (by unfold Lm;omega) (by decide) (by decide);simp only[h1,h2,b,B5G (k:=(k:Int)) (m:=7) (by omega) (by omega)]
 rw[e,b,jI];exact GE.1 A9o k (KE.2 a)
def A9B:((List.range 3).all λi=>JM (Bc (Dt (r! L (n+2)) Kq [I (i:Nat)]) (.agg (rr (1+i)).cs)))=true:=by kernel_rfl
def B3Q(hc:Lm c):PS (r! L (n+2)) Kq [I c] (.agg (rr (1+(pk c 3).toNat)).cs):=by
 have pr:=FQ (c:=c) (n:=3) (by decide);obtain⟨k,b⟩:∃k:Nat,pk c 3=k:=⟨(pk c 3).toNat,by omega⟩
 have a:k<3:=by omega
 refine BK (λH K=>by kernel_rfl) ?_;have e:Dt (r! L (n+2)) Kq [I c]=Dt (r! L (n+2)) Kq [I (k:Nat)]:=by
  unfold Dt;rw[XZ,XZ];unfold VU Em A3;have h1:∀H K,Ao (r! L (n+1)) BM [I c,.v (.int .i64 3)] H K=K (I (pk c 3)):=MB (n:=n) hc (by decide) (by decide);have h2:∀H K,Ao (r! L (n+1)) BM [I (k:Int),.v (.int .i64 3)] H K=K (I (pk k 3)):=MB (n:=n) (by unfold Lm;omega) (by decide) (by decide);simp only[h1,h2,b,B5G (k:=(k:Int)) (m:=3) (by omega) (by omega)]
 rw[e,b,jI];exact GE.1 A9B k (KE.2 a)
def J?(c:Int):Ha:=sha (Jk [c])
def A0R(e:40000<L)(h1: -10<=c)(h2:c<1090):PS (r! L (n+20)) JV [I c] (S (J? c)):=by
 refine CS.ps (λK d=>?_) (λH=>λK=>by kernel_rfl);rw[kX];unfold Sk Iu;have a:=F2 [c];have fx:R5 true depth [.sl 1 (As []) 0 1] [.list 1 (Fa [c])] ((As [],.cells false Hd (Fa [c]))::[]) true:=
  An (q:=true) (q':=false) (Xd (D:=depth-1) (q':=false) (Az (by simp)) rfl (KS (λz:Int=>Value.int .i64 z) [c])) AK
 rw[Zm,AR (yC (L:=L) (n:=n+14) (l:=[c]) (by simp) (by simp;omega) (by simp;omega)) fx,AR (B5x (L:=L+20) (n:=n+16) (s:=Jk [c]) (by simp only[LV,QT]at a;omega) (by simp only[LV,QT]at a;omega)) (q:=false) (λK=>by kernel_rfl)];exact d _ _ (λb=>⟨false,λK=>by kernel_rfl⟩)
end
end
section
variable{v:AV}{H:Hp}{i2 ie:TI}
variable{L n:Nat}
def V_{e sz n:Nat}{cs ys:Is}(h:B0 H e sz v n cs)(w:Wf H)(u:ys.length=sz)(h1:ys.all AV.one=true)(hsz:sz≠0)(hz:(Bw ie.zero).length=sz)(t:∀s,(XG i2.d&&RH sz (.sl sz s 0 1))=true)(hb:(n+1)*ie.bytes<=70368744177664)(j:n+1<=70368744177664):
 ∃g a,(∀K:KV,E5 e sz ie i2 v (.sl sz (As H) 0 1) ((As H,.cells false e ys)::H) K=K g a)/\B0 a e sz g (n+1) (cs++ys)/\Wf a/\As H<=As a/\(∀s x,Aj H s=some x->¬A8 v s->Aj a s=some x)/\(∀s,A8 g s->As H<=s):=by
 have m:B0 ((As H,.cells false e ys)::H) e sz v n cs:=h.lat w (Lat.cons H _ (λ_=>False)) (λ_ _ h=>h);have f:B0 ((As H,.cells false e ys)::H) e sz (.sl sz (As H) 0 1) 1 ys:=.inr ⟨As H,false,rfl,Az (by simp),by omega⟩;obtain⟨g,a,h1,h2,p,q⟩:=apt (ie:=ie) (i2:=i2) m (λK=>Rq (K:=K) f) (by omega) h1 hsz hz (t _) hb j;have i:=(Lat.cons H (.cells false e ys) (A8 v)).trans q (R:=A8 v) (λ_ _ h=>h) (λ_ _ h=>h);refine⟨g,a,h1,h2,i.wf w,i.nx,λs x k hn=>i.keep w s x k hn,λs k=>?_⟩;rw[p s k];exact l1u _
def C5b{e sz n:Nat}{v x:AV}{cs ys:Is}(i:∀K:KV,GM e sz ie 1 [(0,sz,x)] H K=K (.sl sz (As H) 0 1) ((As H,.cells false e ys)::H))(h:B0 H e sz v n cs)(w:Wf H)(k:ys.length=sz)(h1:ys.all AV.one=true)(hsz:sz≠0)(hz:(Bw ie.zero).length=sz)(m:∀s,(XG i2.d&&RH sz (.sl sz s 0 1))=true)(hb:(n+1)*ie.bytes<=70368744177664)(g:n+1<=70368744177664):
 ∃f a,(∀K:KV,(GM e sz ie 1 [(0,sz,x)] H λv1 j=>E5 e sz ie i2 v v1 j K)=K f a)/\B0 a e sz f (n+1) (cs++ys)/\Wf a/\As H<=As a/\(∀s x,Aj H s=some x->¬A8 v s->Aj a s=some x)/\(∀s,A8 f s->As H<=s):=by
 obtain⟨f,a,a1,a2⟩:=V_ (ie:=ie) (i2:=i2) h w k h1 hsz hz m hb g;exact⟨f,a,λK=>by rw[i];exact a1 K,a2⟩
def mE{i:TI}{s p e:Nat}{q:Bool}{cs vs:Is}{K:Ru}(f:Aj H s=some (.cells q e cs))(g:p+vs.length<=cs.length)(hz:i.size=vs.length)(h1:vs.all AV.one=true):E4 i (.ptr s p 0) (.agg vs) H K=K (upd H s (.cells q e (splice cs p vs))):=by
 have d:E4 i (.ptr s p 0) (.agg vs) H K=I6 H s λx=>fD x λq e cs=>GX (.agg vs) λvs=>G6 vs 0 λn=>ck (Nat.beq n i.size) (ck (N0 vs) (Er (Nat.add p 0) vs cs λa=>Ll H s (.cells q e a) K)):=rfl;rw[d,AX f];show(GX (.agg vs) λvs=>G6 vs 0 λn=>ck (Nat.beq n i.size) (ck (N0 vs) (Er p vs cs λa=>Ll H s (.cells q e a) K)))=_;have hc:Bw (.agg vs)=vs:=rfl;rw[CK,hc,Cl,hz,FK,h1,Jt,jH];show Er p vs cs _=_;rw[Iq _ _ _ _ (by omega),Dh]
theorem B0.one{e sz n:Nat}{cs:Is}(h:B0 H e sz v n cs):AV.one v=true:=by
 rcases h with⟨rfl,_⟩|⟨r,q,rfl,_⟩<;>rfl
def B0.cell{e sz n:Nat}{cs:Is}(h:B0 H e sz v n cs):Bw v=[v]:=by
 rcases h with⟨rfl,_⟩|⟨r,q,rfl,_⟩<;>rfl
def tmV(t:Int×Int):Hx:=[.int .i64 t.1,.string ⟨⟨qn t.2⟩⟩,.string ⟨⟨qd t.2⟩⟩]
def C1g(l:jL):l.flatMap OI=(l.flatMap tmV).map λx=>.v x:=by
 induction l with
 |nil=>rfl
 |cons k l ih=>rw[qB,qB,Za,ih];rfl
def B9B{D:Nat}{b:Bool}{l:jL}(h:B0 H Ba 3 v l.length (l.flatMap OI))(f:l=[]->v=Aw):∃q,Fx b (D+1) v (FF l) H q:=by
 rcases h with⟨rfl,h2,_⟩|⟨r,q,rfl,h2,d⟩
 ·cases l with
  |nil=>exact⟨false,C7⟩
  |cons a l=>simp at h2
 ·cases l with
  |nil=>have:=f rfl;cases this
  |cons a l=>
   refine⟨true,?_⟩;show Fx b (D+1) _ (.list (a::l).length ((a::l).flatMap OI)) H true;rw[C1g]at h2 d⊢;exact Xd (q':=false) h2 d (KS _root_.id _)
def Lq(x:List Int):Nat->jL
 |0=>[]
 |i+1=>if pk (x.getD i 0) 17-8≠0/\(Lq x i).length<5 then Lq x i++[(1+(i:Int),pk (x.getD i 0) 17-8)] else Lq x i
def A51(x:List Int):∀i,i<=6->TmsOk (Lq x i)/\(Lq x i).length<=5/\∀t∈Lq x i,t.1<=i:=by
 intro i
 induction i with
 |zero=>intro _;exact⟨⟨by simp[Lq],by simp[Lq],by simp[Lq]⟩,by simp[Lq],by simp[Lq]⟩
 |succ i ih=>
  intro j;obtain⟨h1,h2,f⟩:=ih (by omega);have pr:=FQ (c:=x.getD i 0) (n:=17) (by decide);unfold Lq;by_cases h:pk (x.getD i 0) 17-8≠0/\(Lq x i).length<5
  ·rw[Dl h];refine⟨⟨by simp;omega,λt d=>?_,?_⟩,by simp;omega,λt d=>?_⟩
   ·rcases Yn.1 d with d|d
    ·exact h1.rng t d
    ·rw[Tx]at d;subst d;simp only;omega
   ·rw[List.pairwise_append];refine⟨h1.asc,by simp,λa g b hb=>?_⟩;rw[Tx]at hb;subst hb;have:=f a g;simp only;omega
   ·rcases Yn.1 d with d|d
    ·have:=f t d;omega
    ·rw[Tx]at d;subst d;simp only;omega
  ·rw[C5 h];exact⟨h1,h2,λt d=>by have:=f t d;omega⟩
def C5a{t:Int×Int}{K:KV}:GM Ba 3 BU 1 [(0,3,.agg (OI t))] H K=K (.sl 3 (As H) 0 1) ((As H,.cells false Ba (OI t))::H):=by
 have e:GM Ba 3 BU 1 [(0,3,.agg (OI t))] H K=Ik H (λs=>K (.sl 3 s 0 1) ((s,.cells false Ba (OI t))::H)):=r_ rfl;rw[e,BW]
section
variable{K:KV}{x:Af}{xs:List Int}{ca cb ra rb:Ha}{b r z:Nat}{c e:Int}
abbrev C33(ca cb ra rb:Ha)(v:AV):Row:=.cells true EG [S ca,S cb,v,S ra,S rb]
structure FmH(b r z:Nat)(xs:List Int)(ca cb ra rb:Ha)(ts:jL)(v:AV)(H:Hp):Prop where
 hb:Aj H b=some (c_ Jm (Fa xs))
 hr:Aj H r=some (C33 ca cb ra rb v)
 hz:∃cs,cs.length=5/\Aj H z=some (c_ EG cs)
 sl:B0 H Ba 3 v ts.length (ts.flatMap OI)
 nl:ts=[]->v=Aw
 nb:¬A8 v b
 nr:¬A8 v r
 nz:¬A8 v z
 wf:Wf H
def B1i{t:TI}{e sz n:Nat}{cs:Is}{K:K2}(a:t.d=.slice e sz)(h:B0 H e sz v n cs):Bm t v K=K (I n):=Le a h
def C32{C:AV->KV}(hL:100<L)(P:b≠r)(Z:z≠r)(hx:xs.length=6)(w:∀c∈xs,Lm c)(u:∀v H,FmH b r z xs ca cb ra rb (Lq xs 6) v H->C (.ptr z 0 0) (.ptr r 0 0) H=x):
 ∀(f i:Nat)(v:AV)(H:Hp),i<=6->6-i<f->FmH b r z xs ca cb ra rb (Lq xs i) v H->
 TV (L+20) (r! L (n+40)) K C f (.ptr b 0 0) (.ptr z 0 0) (.ptr r 0 0) (I i) H=x:=by
 intro f
 induction f with
 |zero=>intro i v H _ h;omega
 |succ f ih=>
  intro i v H hi hf a;rw[oC];unfold TW Em Xo HR Dk A3 HS;have e6:(AV.v (.int .i64 6))=I ((6:Nat):Int):=rfl;rw[e6];by_cases h:i<6
  ·have g:i<xs.length:=by omega
   have R:(Fa xs).getD i .dk=I (xs.getD i 0):=by rw[SG g];simp[List.getD,K8 g]
   have hc:Lm (xs.getD i 0):=by simp only[List.getD,K8 g,l1q];exact w _ (PD g)
   have pr:=FQ (c:=xs.getD i 0) (n:=17) (by decide);have ld:∀{K},AD Ab (.ptr b i 0) H K=K (I (xs.getD i 0)):=λ{K}=>by rw[AQ (p:=i) rfl a.hb (by simp[Fa];omega),R]
   have Y:∀H K,Ao (r! L (n+40)) Jz [I (xs.getD i 0),.v (.int .i64 17)] H K=K (I (pk (xs.getD i 0) 17)):=sM (n:=n+39) hc (by decide) (by decide);have ia:∀{K:K2},Ds B7 (.ptr b 0 0) (I i) K=K (.ptr b i 0):=λ{K}=>EL i rfl rfl h;rw[FV (by omega),Cr];simp only[BJ];rw[ia,ld,Y,KB,CV (by omega) (by omega)];have V:∀{K:K2},Ap Ab .neq (I (pk (xs.getD i 0) 17-8)) (.v (.int .i64 0)) K=K (Bo (decide (pk (xs.getD i 0) 17-8≠0))):=λ{K}=>by rw[IS];simp
   rw[V];have d:Lq xs (i+1)=if pk (xs.getD i 0) 17-8≠0/\(Lq xs i).length<5 then Lq xs i++[(1+(i:Int),pk (xs.getD i 0) 17-8)] else Lq xs i:=rfl
   have add:∀{K:K2},Ap Ab .add (I i) (.v (.int .i64 1)) K=K (I ((i+1:Nat):Int)):=λ{K}=>Dd (by omega);by_cases F:pk (xs.getD i 0) 17-8=0
   ·rw[HX (by simpa using F)];simp only[ZC,Cb,Sf];rw[Bh,add];rw[C5 λa=>a.1 F]at d;exact ih (i+1) v H (by omega) (by omega) (by rw[d];exact a)
   ·have ab:=(A51 xs i (by omega)).2.1;have f2:∀K:K2,CY 2 (.ptr r 0 0) K=K (.ptr r 2 0):=λK=>id rfl;have l2:∀K,AD AB (.ptr r 2 0) H K=K v:=λK=>AQ (p:=2) rfl a.hr (by simp);rw[Hj (by simpa using F)];simp only[gT,Cb,Tt,f2,l2,B1i (t:=AB) rfl a.sl];have e5:(AV.v (.int .i64 5))=I ((5:Nat):Int):=rfl;rw[e5];by_cases h5:(Lq xs i).length<5
    ·rw[FV (by omega),Cb,Cr];rw[Dl ⟨F,h5⟩]at d;have X:∀H K,Ao (r! L (n+40)) Gt [I (pk (xs.getD i 0) 17-8),.v (.int .i64 4)] H K=K (.tup [.agg (qa (pk (xs.getD i 0) 17-8)),I 0]):=A9F (by omega) (by omega);rw[X,F5,F4,B3 (cs:=[zS,zS]) rfl];have A:=Az (H:=H) (x:=.cells true Br [zS,zS]) (by simp);have w1:=AJ (x:=.cells true Br [zS,zS]) a.wf;rw[Ch (vs:=qa (pk (xs.getD i 0) 17-8)) A rfl rfl rfl];have k:=AC (q:=true) (e:=Br) (cs:=qa (pk (xs.getD i 0) 17-8)) A;have kp:∀s x,Aj H s=some x->Aj (upd ((As H,c_ Br [zS,zS])::H) (As H) (c_ Br (qa (pk (xs.getD i 0) 17-8)))) s=some x:=λs x j=>by
      have:=a.wf.lt j;rw[Ag (by omega)];exact A7 this j
     have w2:=Bq (r:=As H) (y:=.cells true Br (qa (pk (xs.getD i 0) 17-8))) w1;generalize upd ((As H,c_ Br [zS,zS])::H) (As H) (c_ Br (qa (pk (xs.getD i 0) 17-8)))=D at k kp w2;generalize As H=r1 at k;have l3:∀K,AD AB (.ptr r 2 0) D K=K v:=λK=>AQ (p:=2) rfl (kp _ _ a.hr) (by simp);have l4:∀K,AD A6 (.ptr r1 0 0) D K=K (.agg (qa (pk (xs.getD i 0) 17-8))):=λK=>Bv rfl rfl k;have M:∀{K:K2},Ap Ab .add (.v (.int .i64 1)) (I i) K=K (I (1+(i:Int))):=λ{K}=>by rw[Do,CV (by omega) (by omega)]
     have bd:∀{K:K2},Ca BU [(0,1,I (1+(i:Int))),(1,2,.agg (qa (pk (xs.getD i 0) 17-8)))] K=K (.agg (OI (1+(i:Int),pk (xs.getD i 0) 17-8))):=λ{K}=>id rfl;rw[l3,M,l4,bd];have aa:B0 D Ba 3 v (Lq xs i).length ((Lq xs i).flatMap OI):=by
      rcases a.sl with j|⟨r2,q,h2,N,O⟩
      ·exact .inl j
      ·exact .inr ⟨r2,q,h2,kp _ _ N,O⟩
     obtain⟨v',H',a1,a2,a3,a4,J,a6⟩:=C5b (ie:=BU) (i2:=AB) (λK=>C5a (t:=(1+(i:Int),pk (xs.getD i 0) 17-8)) (H:=D) (K:=K)) aa w2 rfl rfl (by decide) rfl (λ_=>rfl) (by show _*40<=_;omega) (by omega);have B:Aj H' r=some (C33 ca cb ra rb v):=J _ _ (kp _ _ a.hr) a.nr;rw[a1,Ei B (by simp) rfl (B0.cell a2) (B0.one a2),add];obtain⟨cs,Q,m⟩:=a.hz;have new:∀{s x},Aj H s=some x->¬A8 v' s:=λ{s x}j hv=>by
      have h1:=w2.lt (kp _ _ j);have h2:=a6 _ hv;omega
     refine ih (i+1) v' _ (by omega) (by omega) ⟨?_,AC B,⟨cs,Q,?_⟩,?_,?_,new a.hb,new a.hr,new m,Bq a3⟩
     ·rw[Ag P];exact J _ _ (kp _ _ a.hb) a.nb
     ·rw[Ag Z];exact J _ _ (kp _ _ m) a.nz
     ·rw[d,EC,l2m];have:(List.flatMap OI [(1+(i:Int),pk (xs.getD i 0) 17-8)])=OI (1+(i:Int),pk (xs.getD i 0) 17-8):=by simp
      rw[this];rcases a2 with j|⟨r2,q,h2,N,O⟩
      ·exact .inl j
      ·refine .inr ⟨r2,q,h2,?_,O⟩;rw[Ag (λe=>new a.hr (by rw[h2,<-e];exact⟨_,_,_,rfl⟩))];exact N
     ·rw[d];intro hc;simp at hc
    ·rw[FT (by omega),Cb,Bh,add];rw[C5 λa=>h5 a.2]at d;exact ih (i+1) v H (by omega) (by omega) (by rw[d];exact a)
  ·have:i=6:=by omega
   subst this;rw[FT (by omega),Bh];exact u v H a
def yR(l:List Int):(Fa l).all AV.one=true:=by
 rw[GE];intro a d;obtain⟨z,_,rfl⟩:=Mj.1 d;rfl
def A9J(N:100<L)(hc:Lm c)(hr:Lm e)(Q:xs.length=6)(O:∀c∈xs,Lm c):CS (r! L (n+41)) Rk [I c,I e,.agg (Fa xs)] (.agg [S (qn (pk c 161-80)),S (qd (pk c 161-80)),FF (Lq xs 6),S (qn (pk e 9)),S (qd (pk e 9))]):=by
 intro K M;rw[tA];unfold Wc A3;have p1:=FQ (c:=c) (n:=161) (by decide);have p2:=FQ (c:=e) (n:=9) (by decide);have k1:∀H K,Ao (r! L (n+40)) Jz [I c,.v (.int .i64 161)] H K=K (I (pk c 161)):=sM (n:=n+39) hc (by decide) (by decide);have R:∀H K,Ao (r! L (n+40)) Jz [I e,.v (.int .i64 9)] H K=K (I (pk e 9)):=sM (n:=n+39) hr (by decide) (by decide);have V:∀H K,Ao (r! L (n+40)) Gt [I (pk c 161-80),.v (.int .i64 4)] H K=K (.tup [.agg (qa (pk c 161-80)),I 0]):=A9F (by omega) (by omega);have X:∀H K,Ao (r! L (n+40)) Gt [I (pk e 9),.v (.int .i64 4)] H K=K (.tup [.agg (qa (pk e 9)),I 0]):=A9F (by omega) (by omega);rw[En (yR xs)];have hb:=Az (H:=[]) (x:=.cells true Jm (Fa xs)) (by simp);have w0:=AJ (x:=.cells true Jm (Fa xs)) Fl;generalize ((As [],c_ Jm (Fa xs))::([]:Hp))=j at hb w0;generalize As []=b at hb;rw[B3 (cs:=[zS,zS,Aw,zS,zS]) rfl];have hz:=Az (H:=j) (x:=.cells true EG [zS,zS,Aw,zS,zS]) (by simp);have b1:=A7 (x:=.cells true EG [zS,zS,Aw,zS,zS]) (w0.lt hb) hb;have nb:=w0.lt hb;have w1:=AJ (x:=.cells true EG [zS,zS,Aw,zS,zS]) w0;generalize ((As j,c_ EG [zS,zS,Aw,zS,zS])::j)=w at hz w1 b1;generalize As j=z at hz nb;have A:∀{K:K2},Ca Fg [] K=K (.agg [zS,zS,Aw,zS,zS]):=λ{K}=>id rfl;rw[A,B3 (cs:=[zS,zS,Aw,zS,zS]) rfl];obtain⟨k,B,r2,Y,kp⟩:=Il (e:=EG) (zs:=[zS,zS,Aw,zS,zS]) (vs:=[zS,zS,Aw,zS,zS]) w1 rfl;rw[Ch (vs:=[zS,zS,Aw,zS,zS]) (Az (by simp)) rfl rfl rfl,<-B];obtain⟨b2,a⟩:=kp _ _ b1;obtain⟨Z,d⟩:=kp _ _ hz;generalize As w=r at r2 a d;have C:∀K:K2,CY 0 (.ptr r 0 0) K=K (.ptr r 0 0):=λK=>id rfl;have f3:∀K:K2,CY 3 (.ptr r 0 0) K=K (.ptr r 3 0):=λK=>id rfl;rw[k1,KB,CV (by omega) (by omega),V,F5,F4,C,mE (vs:=qa (pk c 161-80)) r2 (show 0+2<=5 by decide) rfl rfl];have p:=AC (q:=true) (e:=EG) (cs:=splice [zS,zS,Aw,zS,zS] 0 (qa (pk c 161-80))) r2;have m:=b2;have t:=Z;rw[<-Ag (H:=k) (r:=r) (y:=.cells true EG (splice [zS,zS,Aw,zS,zS] 0 (qa (pk c 161-80)))) a]at m;rw[<-Ag (H:=k) (r:=r) (y:=.cells true EG (splice [zS,zS,Aw,zS,zS] 0 (qa (pk c 161-80)))) d]at t;have u:=Bq (r:=r) (y:=.cells true EG (splice [zS,zS,Aw,zS,zS] 0 (qa (pk c 161-80)))) Y;generalize upd k r (c_ EG (splice [zS,zS,Aw,zS,zS] 0 (qa (pk c 161-80))))=H3 at p m t u;rw[R,X,F5,F4,f3,mE (vs:=qa (pk e 9)) p (show 3+2<=5 by decide) rfl rfl];simp only[BJ];refine C32 (n:=n) (b:=b) (r:=r) (z:=z) (ca:=qn (pk c 161-80)) (cb:=qd (pk c 161-80)) (ra:=qn (pk e 9)) (rb:=qd (pk e 9)) N a d Q O ?_ (L+20) 0 Aw _ (by omega) (by omega) ⟨?_,AC p,⟨[zS,zS,Aw,zS,zS],rfl,?_⟩,.inl ⟨rfl,rfl,rfl⟩,λ_=>rfl,?_,?_,?_,Bq u⟩
 ·intro v H f;obtain⟨cs,g,i⟩:=f.hz;have o:[S (qn (pk c 161-80)),S (qd (pk c 161-80)),v,S (qn (pk e 9)),S (qd (pk e 9))].all AV.one=true:=by
   show(true&&(true&&(AV.one v&&(true&&(true&&true)))))=true;rw[B0.one f.sl];rfl
  rw[Bv rfl rfl f.hr,Ch i (by exact g.symm) (by exact g.symm) o,Bv rfl rfl (AC i)];refine M _ _ (λq=>?_);have s:B0 (upd H z (c_ EG [S (qn (pk c 161-80)),S (qd (pk c 161-80)),v,S (qn (pk e 9)),S (qd (pk e 9))])) Ba 3 v (Lq xs 6).length ((Lq xs 6).flatMap OI):=by
   rcases f.sl with P|⟨r2,q,h2,F,J⟩
   ·exact .inl P
   ·refine .inr ⟨r2,q,h2,?_,J⟩;rw[Ag (λe=>f.nz (by rw[h2,<-e];exact⟨_,_,_,rfl⟩))];exact F
  obtain⟨q',hq⟩:=B9B (D:=depth-2) (b:=q) s f.nl;exact⟨_,L2 (D:=depth-1) (An (q:=false) C7 (An (q:=false) C7 (An hq (An (q:=false) C7 (An (q:=false) C7 AK)))))⟩
 ·rw[Ag a];exact m
 ·rw[Ag d];exact t
 all_goals (rintro⟨_,_,_,h⟩;cases h)
end
end
section
variable{α:Type}
variable{L n:Nat}
def PE{F:α}{G:α->Af}{x:Af}(h:∀k,k=F->G k=x):jn F G=x:=by rw[BJ];exact h F rfl
def B0.kp{H H':Hp}{e sz n:Nat}{v:AV}{cs:Is}(h:B0 H e sz v n cs)(k:∀s x,A8 v s->Aj H s=some x->Aj H' s=some x):B0 H' e sz v n cs:=by
 rcases h with h|⟨r,q,h1,h2,a⟩
 ·exact .inl h
 ·exact .inr ⟨r,q,h1,k r _ ⟨_,_,_,h1⟩ h2,a⟩
def C4j(l:List Nd):∃vs:Hx,l.flatMap K! =vs.map λx=>.v x:=by
 induction l with
 |nil=>exact⟨[],rfl⟩
 |cons x l ih=>
  obtain⟨vs,h⟩:=ih;refine⟨[.int .i64 x.op,.string ⟨⟨x.vn⟩⟩,.string ⟨⟨x.vd⟩⟩,.int .i64 x.u.p0,.int .i64 x.u.q0,.int .i64 x.u.p1,.int .i64 x.u.q1,.int .i64 x.u.p2,.int .i64 x.u.q2,.int .i64 x.u.p3,.int .i64 x.u.q3,.int .i64 x.u.p4,.int .i64 x.u.q4,.int .i64 x.u.p5,.int .i64 x.u.q5,.int .i64 x.u.p6,.int .i64 x.u.q6,
   .string ⟨⟨x.u.fn⟩⟩,.string ⟨⟨x.u.fd⟩⟩,.string ⟨⟨x.u.on⟩⟩,.string ⟨⟨x.u.od⟩⟩,.int .i64 x.u.kd,.int .i64 x.u.sc,.int .i64 x.n,.int .i64 x.l,.int .i64 x.r]++vs,?_⟩
  rw[qB,h,Za];rfl
def ndL(l:List Nd):AV:=match l with
 |[]=>Aw
 |x::l=>.list (x::l).length ((x::l).flatMap K!)
def B0L{D:Nat}{b:Bool}{H:Hp}{v:AV}{l:List Nd}(h:B0 H AU 26 v l.length (l.flatMap K!))(d:l=[]->v=Aw):∃q,Fx b (D+1) v (ndL l) H q:=by
 rcases h with⟨rfl,h2,_⟩|⟨r,q,rfl,h2,c⟩
 ·cases l with
  |nil=>exact⟨false,C7⟩
  |cons a l=>simp at h2
 ·cases l with
  |nil=>have:=d rfl;cases this
  |cons a l=>
   refine⟨true,?_⟩;show Fx b (D+1) _ (.list (a::l).length ((a::l).flatMap K!)) H true;obtain⟨vs,e⟩:=C4j (a::l);rw[e]at h2 c⊢;exact Xd (q':=false) h2 c (KS _root_.id _)
def C3t{y:Nd}{H:Hp}{K:KV}:GM AU 26 AO 1 [(0,26,.agg y.cs)] H K=K (.sl 26 (As H) 0 1) ((As H,.cells false AU (K! y))::H):=by
 have e:GM AU 26 AO 1 [(0,26,.agg y.cs)] H K=Ik H (λs=>K (.sl 26 s 0 1) ((s,.cells false AU (K! y))::H)):=r_ rfl;rw[e,BW]
structure Md(b r z:Nat)(ins:List Int)(id:Int)(ks:Hb)(xs:List Nd)(us:Hb)(v w u:AV)(H:Hp):Prop where
 hb:Aj H b=some (c_ UN (Fa ins))
 hr:Aj H r=some (IY id v w u0)
 hz:∃cs,cs.length=23/\Aj H z=some (c_ Cx cs)
 sv:B0 H AA 20 v ks.length (ks.flatMap HJ)
 nv:ks=[]->v=Aw
 sw:B0 H AU 26 w xs.length (xs.flatMap K!)
 nw:xs=[]->w=Aw
 su:B0 H AA 20 u us.length (us.flatMap HJ)
 nu:us=[]->u=Aw
 br:b≠r
 zr:z≠r
 av:∀s,A8 v s->s≠b/\s≠r/\s≠z/\¬A8 w s/\¬A8 u s
 aw:∀s,A8 w s->s≠b/\s≠r/\s≠z/\¬A8 v s/\¬A8 u s
 au:∀s,A8 u s->s≠b/\s≠r/\s≠z/\¬A8 v s/\¬A8 w s
 wf:Wf H
section
variable{K:KV}{x:Af}{ins:List Int}{id:Int}{ks us:Hb}{xs:List Nd}{v w u:AV}{b r z m:Nat}{H H':Hp}
def Md.grow(h:Md b r z ins id ks xs us v w u H)(wf:Wf H')(kp:∀s x,Aj H s=some x->Aj H' s=some x):Md b r z ins id ks xs us v w u H':=by
 obtain⟨cs,c1,c2⟩:=h.hz;exact⟨kp _ _ h.hb,kp _ _ h.hr,⟨cs,c1,kp _ _ c2⟩,h.sv.kp λs x _=>kp s x,h.nv,h.sw.kp λs x _=>kp s x,h.nw,h.su.kp λs x _=>kp s x,h.nu,h.br,h.zr,h.av,h.aw,h.au,wf⟩
structure Oth(b r z:Nat)(v w u:AV)(m:Nat):Prop where
 b:m≠b
 r:m≠r
 z:m≠z
 v:¬A8 v m
 w:¬A8 w m
 u:¬A8 u m
def Md.oth(h:Md b r z ins id ks xs us v w u H):Oth b r z v w u (As H):=by
 obtain⟨cs,c1,c2⟩:=h.hz;have h1:=h.wf.lt h.hb;have h2:=h.wf.lt h.hr;have a:=h.wf.lt c2;exact⟨by omega,by omega,by omega,λe=>by have:=h.sv.lt h.wf e;omega,λe=>by have:=h.sw.lt h.wf e;omega,λe=>by have:=h.su.lt h.wf e;omega⟩
theorem Md.upd(h:Md b r z ins id ks xs us v w u H)(o:Oth b r z v w u m)(y:Row):Md b r z ins id ks xs us v w u (upd H m y):=by
 obtain⟨cs,c1,c2⟩:=h.hz;have kp:∀s x,s≠m->Aj H s=some x->Aj (Go.Abs.upd H m y) s=some x:=λs x a c=>by rw[Ag a];exact c
 exact⟨kp _ _ (Ne.symm o.b) h.hb,kp _ _ (Ne.symm o.r) h.hr,⟨cs,c1,kp _ _ (Ne.symm o.z) c2⟩,h.sv.kp λs x a=>kp s x (λe=>o.v (e▸a)),h.nv,h.sw.kp λs x a=>kp s x (λe=>o.w (e▸a)),h.nw,h.su.kp λs x a=>kp s x (λe=>o.u (e▸a)),h.nu,h.br,h.zr,h.av,h.aw,h.au,Bq h.wf⟩
def lZ{α β:Type}(f:α->List β)(l:List α)(a:α):(l++[a]).flatMap f=l.flatMap f++f a:=by simp
def Md.v1(h:Md b r z ins id ks xs us v w u H)(k:Nat)(g:ks.length<100):∃c H',(∀K:KV,E5 AA 20 A1 Am v (.sl 20 (As H) 0 1) ((As H,.cells false AA (HJ k))::H) K=K c H')/\
 (∀K:Ru,E4 Am (.ptr r 1 0) c H' K=K (Go.Abs.upd H' r (IY id c w u0)))/\Md b r z ins id (ks++[k]) xs us c w u (Go.Abs.upd H' r (IY id c w u0)):=by
 obtain⟨c,H',a1,a2,j,p,i,f⟩:=V_ (ie:=A1) (i2:=Am) (ys:=HJ k) h.sv h.wf rfl rfl (by decide) rfl (λ_=>rfl) (by show(_+1)*192<=_;omega) (by omega);obtain⟨cs,c1,c2⟩:=h.hz;have h1:=h.wf.lt h.hb;have h2:=h.wf.lt h.hr;have q:=h.wf.lt c2;have d:=i _ _ h.hr λe=>(h.av _ e).2.1 rfl;have kp:∀s x,s≠r->¬A8 v s->Aj H s=some x->Aj (Go.Abs.upd H' r (IY id c w u0)) s=some x:=λs x a hn g=>by rw[Ag a];exact i s x g hn
 refine⟨c,H',a1,λK=>Ei d (show 1<23 by decide) rfl (B0.cell a2) (B0.one a2),kp _ _ h.br (λe=>(h.av _ e).1 rfl) h.hb,AC d,⟨cs,c1,kp _ _ h.zr (λe=>(h.av _ e).2.2.1 rfl) c2⟩,?_,λe=>by simp at e,
  h.sw.kp λs x a=>kp s x (h.aw s a).2.1 (h.aw s a).2.2.2.1,h.nw,h.su.kp λs x a=>kp s x (h.au s a).2.1 (h.au s a).2.2.2.1,h.nu,h.br,h.zr,λs a=>?_,λs a=>?_,λs a=>?_,Bq j⟩
 ·rw[EC,lZ];refine B0.kp a2 λs x a g=>?_;have:=f s a;rw[Ag (by omega)];exact g
 ·have:=f s a;exact⟨by omega,by omega,by omega,λe=>by have:=h.sw.lt h.wf e;omega,λe=>by have:=h.su.lt h.wf e;omega⟩
 ·obtain⟨q1,q2,q3,q4,q5⟩:=h.aw s a;exact⟨q1,q2,q3,λe=>by have:=f s e;have:=h.sw.lt h.wf a;omega,q5⟩
 ·obtain⟨q1,q2,q3,q4,q5⟩:=h.au s a;exact⟨q1,q2,q3,λe=>by have:=f s e;have:=h.su.lt h.wf a;omega,q5⟩
def Md.w1(h:Md b r z ins id ks xs us v w u H)(y:Nd)(g:xs.length<100):∃c H',(∀K:KV,E5 AU 26 AO A0 w (.sl 26 (As H) 0 1) ((As H,.cells false AU (K! y))::H) K=K c H')/\
 (∀K:Ru,E4 A0 (.ptr r 2 0) c H' K=K (Go.Abs.upd H' r (IY id v c u0)))/\Md b r z ins id ks (xs++[y]) us v c u (Go.Abs.upd H' r (IY id v c u0))/\(∀s x,s≠r->¬A8 w s->Aj H s=some x->Aj (Go.Abs.upd H' r (IY id v c u0)) s=some x):=by
 obtain⟨c,H',a1,a2,j,k,i,f⟩:=V_ (ie:=AO) (i2:=A0) (ys:=K! y) h.sw h.wf rfl rfl (by decide) rfl (λ_=>rfl) (by show(_+1)*256<=_;omega) (by omega);obtain⟨cs,c1,c2⟩:=h.hz;have h1:=h.wf.lt h.hb;have h2:=h.wf.lt h.hr;have p:=h.wf.lt c2;have d:=i _ _ h.hr λe=>(h.aw _ e).2.1 rfl;have kp:∀s x,s≠r->¬A8 w s->Aj H s=some x->Aj (Go.Abs.upd H' r (IY id v c u0)) s=some x:=λs x a hn g=>by rw[Ag a];exact i s x g hn
 refine⟨c,H',a1,λK=>Ei d (show 2<23 by decide) rfl (B0.cell a2) (B0.one a2),⟨kp _ _ h.br (λe=>(h.aw _ e).1 rfl) h.hb,AC d,⟨cs,c1,kp _ _ h.zr (λe=>(h.aw _ e).2.2.1 rfl) c2⟩,
  h.sv.kp λs x a=>kp s x (h.av s a).2.1 (h.av s a).2.2.2.1,h.nv,?_,λe=>by simp at e,h.su.kp λs x a=>kp s x (h.au s a).2.1 (h.au s a).2.2.2.2,h.nu,h.br,h.zr,λs a=>?_,λs a=>?_,λs a=>?_,Bq j⟩,kp⟩
 ·rw[EC,lZ];refine B0.kp a2 λs x a g=>?_;have:=f s a;rw[Ag (by omega)];exact g
 ·obtain⟨q1,q2,q3,q4,q5⟩:=h.av s a;exact⟨q1,q2,q3,λe=>by have:=f s e;have:=h.sv.lt h.wf a;omega,q5⟩
 ·have:=f s a;exact⟨by omega,by omega,by omega,λe=>by have:=h.sv.lt h.wf e;omega,λe=>by have:=h.su.lt h.wf e;omega⟩
 ·obtain⟨q1,q2,q3,q4,q5⟩:=h.au s a;exact⟨q1,q2,q3,q4,λe=>by have:=f s e;have:=h.su.lt h.wf a;omega⟩
def Md.u1(h:Md b r z ins id ks xs us v w u H)(k:Nat)(d:us.length<100):∃f H',(∀K:KV,E5 AA 20 A1 Am u (.sl 20 (As H) 0 1) ((As H,.cells false AA (HJ k))::H) K=K f H')/\Md b r z ins id ks xs (us++[k]) v w f H':=by
 obtain⟨f,H',a1,a2,i,j,c,g⟩:=V_ (ie:=A1) (i2:=Am) (ys:=HJ k) h.su h.wf rfl rfl (by decide) rfl (λ_=>rfl) (by show(_+1)*192<=_;omega) (by omega);obtain⟨cs,c1,c2⟩:=h.hz;have h1:=h.wf.lt h.hb;have h2:=h.wf.lt h.hr;have p:=h.wf.lt c2;refine⟨f,H',a1,c _ _ h.hb (λe=>(h.au _ e).1 rfl),c _ _ h.hr (λe=>(h.au _ e).2.1 rfl),⟨cs,c1,c _ _ c2 (λe=>(h.au _ e).2.2.1 rfl)⟩,
  h.sv.kp λs x a d=>c s x d (h.av s a).2.2.2.2,h.nv,h.sw.kp λs x a d=>c s x d (h.aw s a).2.2.2.2,h.nw,?_,λe=>by simp at e,h.br,h.zr,λs a=>?_,λs a=>?_,λs a=>?_,i⟩
 ·rw[EC,lZ];exact a2
 ·obtain⟨q1,q2,q3,q4,q5⟩:=h.av s a;exact⟨q1,q2,q3,q4,λe=>by have:=g s e;have:=h.sv.lt h.wf a;omega⟩
 ·obtain⟨q1,q2,q3,q4,q5⟩:=h.aw s a;exact⟨q1,q2,q3,q4,λe=>by have:=g s e;have:=h.sw.lt h.wf a;omega⟩
 ·have:=g s a;exact⟨by omega,by omega,by omega,λe=>by have:=h.sv.lt h.wf e;omega,λe=>by have:=h.sw.lt h.wf e;omega⟩
def dV{s j:Nat}{K:K2}:CY j (.ptr s 0 0) K=K (.ptr s j 0):=by rw[fA,Jt]
def Md.ld1(h:Md b r z ins id ks xs us v w u H){K:K2}:AD Am (.ptr r 1 0) H K=K v:=AQ (p:=1) rfl h.hr (show 1<23 by decide)
def Md.ld2(h:Md b r z ins id ks xs us v w u H){K:K2}:AD A0 (.ptr r 2 0) H K=K w:=AQ (p:=2) rfl h.hr (show 2<23 by decide)
def ksM(ins:List Int)(i:Nat):Hb:=(ins.take i).map λc=>(pk c 7).toNat
def B4n{i:Nat}(h:i<ins.length):ksM ins (i+1)=ksM ins i++[(pk ins[i] 7).toNat]:=by
 unfold ksM;rw[lO h,Za];rfl
def C21{count:Int}{t ex y d1 d2:AV}{d:AV->AV->AV->AV->AV->AV->AV->KV}(C:100<L)(F:ins.length=3)(j:∀c∈ins,Lm c)(hc:Lm count)(g:∀v H,Md b r z ins id (ksM ins ((pk count 3).toNat+1)) [] [] v Aw Aw H->d (I count) t ex (.ptr b 0 0) (.ptr z 0 0) (.ptr r 0 0) (I (((pk count 3).toNat+1:Nat):Int)) d2 H=x):
 ∀(f i:Nat)(v:AV)(H:Hp),i<=(pk count 3).toNat+1->(pk count 3).toNat+1-i<f->Md b r z ins id (ksM ins i) [] [] v Aw Aw H->
 TR (L+20) (r! L (n+42)) K d f (I count) t ex (.ptr b 0 0) (.ptr z 0 0) (.ptr r 0 0) (I i) y d1 d2 H=x:=by
 have pr:=FQ (c:=count) (n:=3) (by decide);intro f
 induction f with
 |zero=>intro i v H _ h;omega
 |succ f ih=>
  intro i v H A D a;rw[oA];unfold TT OG A3;have q:∀H K,Ao (r! L (n+42)) Cs [I count,.v (.int .i64 3)] H K=K (I (pk count 3)):=MC (n:=n+41) hc (by decide) (by decide);rw[q,iR];by_cases h:i<=(pk count 3).toNat
  ·have e:i<ins.length:=by omega
   have hb:=a.hb;have ld:∀{K},AD Ab (.ptr b i 0) H K=K (I ins[i]):=λ{K}=>by rw[AQ (p:=i) rfl a.hb (by simp[Fa];omega),SG e]
   have ia:∀{K:K2},Ds RE (.ptr b 0 0) (I i) K=K (.ptr b i 0):=λ{K}=>EL i rfl rfl (by omega);have un:∀{H K},Ao (r! L (n+42)) Gs [I ins[i]] H K=K (.agg (CL (uu (pk ins[i] 7).toNat))):=λ{H K}=>A3f (n:=n) (j _ (PD e)) H K;have k:(ksM ins i).length<100:=by simp[ksM];omega
   obtain⟨B,H',a1,a2,s⟩:=a.v1 (pk ins[i] 7).toNat k;have ok:dZ v v=true:=A0D a.sv;have l1:∀{K},AD Am (.ptr r 1 0) ((As H,Row.cells false AA (HJ (pk ins[i] 7).toNat))::H) K=K v:=λ{K}=>AQ (p:=1) rfl (A7 (a.wf.lt a.hr) a.hr) (show 1<23 by decide);rw[Hj (by omega),Cr];simp only[dV,B4,a.ld1,ia,ld,un,A7y,Cb,a1,a2,l1];rw[B0b ok,Dd (by omega)];rw[<-B4n e]at s;exact ih (i+1) B _ (by omega) (by omega) s
  ·have:i=(pk count 3).toNat+1:=by omega
   subst this;rw[HX (by omega),Bh];exact g v H a
def C22{a1 a2 i k s:AV}{c:AV->AV->AV->AV->AV->AV->AV->AV->KV}(M:100<L)(hb:ks.length<=3)(e:∀w u H,Md b r z ins id ks (Lj ks) ks v w u H->c a1 a2 i (.ptr b 0 0) (.ptr z 0 0) (.ptr r 0 0) k u (I ks.length) H=x):
 ∀(f j:Nat)(w u:AV)(H:Hp),j<=ks.length->ks.length-j<f->Md b r z ins id ks ((List.range j).map ZA) (ks.take j) v w u H->
 TS (L+20) (r! L (n+42)) K c f a1 a2 i (.ptr b 0 0) (.ptr z 0 0) (.ptr r 0 0) k u (I j) s H=x:=by
 intro f
 induction f with
 |zero=>intro j w u H _ h;omega
 |succ f ih=>
  intro j w u H D N d;rw[oB];unfold TU Em HR A3;rw[dV,d.ld1,Le (t:=Am) rfl d.sv];by_cases h:j<ks.length
  ·have q:∀{K:K2},Ca AO [(0,1,.v (.int .i64 2)),(23,1,I j)] K=K (.agg (ZA j).cs):=λ{K}=>r_ rfl;obtain⟨J,H',b1,b2,g, -⟩:=d.w1 (ZA j) (by simp;omega);obtain⟨a,B,C⟩:=A4Z g.sv h;obtain⟨F,p,y,A⟩:=g.u1 ks[j] (by simp;omega);rw[FV (by omega),Cr,dV,d.ld2,q,C3t,b1,dV,b2,dV,g.ld1,B,C,A7y,y,Dd (by omega)];refine ih (j+1) J F p (by omega) (by omega) ?_;rw[List.range_succ,Za,lO h];exact A
  ·have:j=ks.length:=by omega
   subst this;rw[FT (by omega),Bh];rw[vO]at d;exact e w u H d
end
end
section
variable{D:Nat}{y:Nd}
variable{L n:Nat}
def exO(ks:Hb)(q a13 b4 k7 e5 l r:Nat):Ex:=match q with
 |0=>.cn (lW a13 b4) k7
 |1=>.inp l
 |6=>match XB (ks.getD l 0) e5 with
  |some k=>.po l e5 k
  |none=>.no
 |7=>.no
 |q=>match Vs (q-2) (ks.getD l 0) (ks.getD r 0) with
  |some k=>.bi (q+1) l r k
  |none=>.no
def exM(ks:Hb)(y0 y1 y2 y3:Int):Ex:=exO ks (pk y0 8).toNat (pk y1 13).toNat (pk y2 4).toNat (pk y3 7).toNat (pk y2 5).toNat (pk y1 ks.length).toNat (pk y2 ks.length).toNat
theorem B12{ks:Hb}{q a13 b4 k7 e5 l r:Nat}(h:2<=q)(a:q<6):exO ks q a13 b4 k7 e5 l r=match Vs (q-2) (ks.getD l 0) (ks.getD r 0) with
 |some k=>.bi (q+1) l r k
 |none=>.no:=by
 obtain rfl|rfl|rfl|rfl:q=2\/q=3\/q=4\/q=5:=by omega
 all_goals rfl
def A1t{a b:Nat}(c:a<13)(hb:b<4):lW a b<33:=by
 have:=GE.1 (show((List.range 52).all λi=>decide (lW (i/4) (i%4)<33))=true by kernel_rfl) (4*a+b) (KE.2 (by omega));rw[show(4*a+b)/4=a by omega,show(4*a+b)%4=b by omega]at this;simpa using this
def NS{c m:Int}(h:0<m):∃k:Nat,pk c m=k/\(k:Int)<m/\(pk c m).toNat=k:=by
 have:=FQ (c:=c) h;exact⟨(pk c m).toNat,by omega,by omega,rfl⟩
def B9P{ks:Hb}{y0 y1 y2 y3:Int}(h1:1<=ks.length):(exM ks y0 y1 y2 y3).Ok ks:=by
 obtain⟨q, -,h2,f⟩:=NS (c:=y0) (m:=8) (by decide);obtain⟨a, -,t,g⟩:=NS (c:=y1) (m:=13) (by decide);obtain⟨b, -,hb,h⟩:=NS (c:=y2) (m:=4) (by decide);obtain⟨k, -,A,j⟩:=NS (c:=y3) (m:=7) (by decide);obtain⟨e, -,he,i⟩:=NS (c:=y2) (m:=5) (by decide);obtain⟨l, -,B,p⟩:=NS (c:=y1) (m:=ks.length) (by omega);obtain⟨r, -,hr,s⟩:=NS (c:=y2) (m:=ks.length) (by omega);unfold exM;rw[f,g,h,j,i,p,s];by_cases hq:2<=q/\q<6
 ·rw[B12 hq.1 hq.2];cases d:Vs (q-2) (ks.getD l 0) (ks.getD r 0) with
  |none=>exact trivial
  |some k=>exact⟨by omega,by omega,by omega,by omega,d⟩
 ·obtain rfl|rfl|rfl|rfl:q=0\/q=1\/q=6\/q=7:=by omega
  ·exact⟨A1t (by omega) (by omega),by omega⟩
  ·show l<ks.length;omega
  ·show(match XB (ks.getD l 0) e with
    |some k=>Ex.po l e k
    |none=>.no).Ok ks
   cases d:XB (ks.getD l 0) e with
   |none=>exact trivial
   |some k=>exact⟨by omega,by omega,d⟩
  ·exact trivial
section
variable{K:KV}{x:Af}{ins:List Int}{id:Int}{ks us:Hb}{xs:List Nd}{v w u:AV}{b r z m:Nat}{H H':Hp}{y0 y1 y2 y3:Int}
def A50(h:1<=ks.length):R9 ks=BP ks:=by cases ks with|nil=>simp at h|cons _ _=>rfl
def A5m(h:1<=xs.length):ndL xs=Cu xs:=by cases xs with|nil=>simp at h|cons _ _=>rfl
def Md.proc(h:Md b r z ins id ks xs us v w u H)(h1:1<=ks.length)(h2:1<=xs.length){bb:Bool}:∃q,Fx bb (D+2) (.agg (BI id v w u0)) (.agg (BI id (BP ks) (Cu xs) u0)) H q:=by
 obtain⟨q1,a⟩:=lV (D:=D) (b:=bb) h.sv h.nv;obtain⟨q2,c⟩:=B0L (D:=D) (b:=bb) h.sw h.nw;rw[A50 h1]at a;rw[A5m h2]at c;exact⟨_,L2 (D:=D+1) (An (q:=false) C7 (An a (An c (KS (b:=bb) (D:=D+1) (H:=H) (λx:Value=>x) [.int .i64 u0.p0,.int .i64 u0.q0,.int .i64 u0.p1,.int .i64 u0.q1,.int .i64 u0.p2,.int .i64 u0.q2,.int .i64 u0.p3,.int .i64 u0.q3,.int .i64 u0.p4,.int .i64 u0.q4,.int .i64 u0.p5,.int .i64 u0.q5,.int .i64 u0.p6,.int .i64 u0.q6,
  .string ⟨⟨u0.fn⟩⟩,.string ⟨⟨u0.fd⟩⟩,.string ⟨⟨u0.on⟩⟩,.string ⟨⟨u0.od⟩⟩,.int .i64 u0.kd,.int .i64 u0.sc]))))⟩
def B9a{b:Bool}:Fx b (D+1) (.agg y.cs) (.agg y.cs) H false:=λK=>by cases D<;>cases b<;>kernel_rfl
def Md.ty(h:Md b r z ins id ks (Lj ks) ks v w u H)(h1:1<=ks.length){t:AV}(d:CS (r! L (n+42)) CF [.agg (BI id (BP ks) (Cu (Lj ks)) u0),.agg y.cs,I ks.length,R9 ks] t){K:K2}:
 Ao (r! L (n+42)) CF [.agg (BI id v w u0),.agg y.cs,I ks.length,u] H K=K t:=by
 obtain⟨q1,a⟩:=h.proc h1 (by rw[DX];exact h1) (D:=depth-2) (bb:=true);obtain⟨q2,c⟩:=B5Y (b:=true) h.su h.nu;exact AR d (An a (An (B9a (D:=depth-1)) (An (q:=false) C7 (An c AK))))
end
end
section
variable{L n:Nat}
section
variable{K:KV}{x:Af}{ins:List Int}{id:Int}{ks us:Hb}{xs:List Nd}{v w u:AV}{b r z m:Nat}{H H':Hp}{y0 y1 y2 y3:Int}
def C23{a1 i4 j5:AV}{ah:AV->AV->KV}(h:Md b r z ins id ks (Lj ks) ks v w u H)(k1:1<=ks.length)(k3:ks.length<=3)(k7:∀k∈ks,k<7)(i0:Lm y0)(i1:Lm y1)(i2:Lm y2)(i3:Lm y3)(ac:∀J F H',Md b r z ins id ks (Lj ks++(exM ks y0 y1 y2 y3).nd) (ks++(exM ks y0 y1 y2 y3).ty ks) v J F H'->ah (.ptr z 0 0) (.ptr r 0 0) F H'=x)(f:Nat):
 M0 (L+20) (r! L (n+42)) K ah (f+2) a1 (.list 1 [I y0,I y1,I y2,I y3]) (Bo true) (.ptr b 0 0) (.ptr z 0 0) (.ptr r 0 0) i4 u j5 (I ((0:Nat):Int)) H=x:=by
 have ex:∀J F H',Md b r z ins id ks (Lj ks++(exM ks y0 y1 y2 y3).nd) (ks++(exM ks y0 y1 y2 y3).ty ks) v J F H'->M0 (L+20) (r! L (n+42)) K ah (f+1) a1 (.list 1 [I y0,I y1,I y2,I y3]) (Bo true) (.ptr b 0 0) (.ptr z 0 0) (.ptr r 0 0) i4 F j5 (I ((0+1:Nat):Int)) H'=x:=by
  intro J F H' j;rw[Q6];unfold MA Em Xo dP HR Dk Hl A3 Mf HS;have el:∀{K:K2},Bm J5 (.list 1 [I y0,I y1,I y2,I y3]) K=K (I ((1:Nat):Int)):=λ{K}=>r_ rfl;rw[el,FT (by omega)];simp only[ZC,Cb,Sf];rw[Bh];exact ac J F H' j
 rw[Q6];unfold MA Em Xo dP HR Dk Hl A3 Mf HS;have el:∀{K:K2},Bm J5 (.list 1 [I y0,I y1,I y2,I y3]) K=K (I ((1:Nat):Int)):=λ{K}=>r_ rfl;have a9:(AV.v (.int .i64 14))=I ((14:Nat):Int):=rfl;have hw:=h.sw;rw[DX]at hw;rw[el,FV (by omega),a9];simp only[gT,Cb,dV,h.ld2,Le (t:=A0) rfl hw];rw[FV (by omega),Cb,Tt,Cr];refine PE λbq ak=>?_;refine PE λbj am=>?_;have B:∀J F H',Md b r z ins id ks (Lj ks++(exM ks y0 y1 y2 y3).nd) (ks++(exM ks y0 y1 y2 y3).ty ks) v J F H'->bj F H'=x:=by
  intro J F H' j;rw[am,ak];have ad:∀{K:K2},Ap Ab .add (I ((0:Nat):Int)) (.v (.int .i64 1)) K=K (I ((0+1:Nat):Int)):=λ{K}=>Dd (by omega);simp only[ad];exact ex J F H' j
 clear ak am ex ac;have be:∀{K:K2},Ds J5 (.list 1 [I y0,I y1,I y2,I y3]) (I ((0:Nat):Int)) K=K (.iptr [I y0,I y1,I y2,I y3]):=λ{K}=>r_ rfl;have bk:∀{H}{K:K2},AD CM (.iptr [I y0,I y1,I y2,I y3]) H K=K (.agg [I y0,I y1,I y2,I y3]):=λ{H K}=>r_ rfl;obtain⟨H1,e1,m1,w1,az⟩:=Il (e:=HU) (zs:=[zI,zI,zI,zI]) (vs:=[I y0,I y1,I y2,I y3]) h.wf rfl;rw[be,bk,B3 (cs:=[zI,zI,zI,zI]) rfl,Ch (cs:=[zI,zI,zI,zI]) (vs:=[I y0,I y1,I y2,I y3]) (Az (by simp)) rfl rfl rfl,<-e1];have o4:=h.oth;have h1:=h.grow w1 λs x hs=>(az s x hs).1;generalize As H=q4 at m1 o4;clear az e1;have ax:=h1.sw;rw[DX]at ax;rw[h1.ld2,Le (t:=A0) rfl ax];have y4:∀{A:Hp}{K:K2},Aj A q4=some (c_ HU [I y0,I y1,I y2,I y3])->(Ds CM (.ptr q4 0 0) (.v (.int .i64 0)) λp=>AD Ab p A K)=K (I y0):=λ{A K}P=>by
  rw[EL (z:=0) 0 rfl rfl (by decide),AQ (p:=0) rfl P (by simp)];rfl
 have Y:∀{A:Hp}{K:K2},Aj A q4=some (c_ HU [I y0,I y1,I y2,I y3])->(Ds CM (.ptr q4 0 0) (.v (.int .i64 1)) λp=>AD Ab p A K)=K (I y1):=λ{A K}P=>by
  rw[EL (z:=1) 1 rfl rfl (by decide),AQ (p:=1) rfl P (by simp)];rfl
 have a6:∀{A:Hp}{K:K2},Aj A q4=some (c_ HU [I y0,I y1,I y2,I y3])->(Ds CM (.ptr q4 0 0) (.v (.int .i64 2)) λp=>AD Ab p A K)=K (I y2):=λ{A K}P=>by
  rw[EL (z:=2) 2 rfl rfl (by decide),AQ (p:=2) rfl P (by simp)];rfl
 have bp:∀{A:Hp}{K:K2},Aj A q4=some (c_ HU [I y0,I y1,I y2,I y3])->(Ds CM (.ptr q4 0 0) (.v (.int .i64 3)) λp=>AD Ab p A K)=K (I y3):=λ{A K}P=>by
  rw[EL (z:=3) 3 rfl rfl (by decide),AQ (p:=3) rfl P (by simp)];rfl
 obtain⟨q,pq,hq,eq⟩:=NS (c:=y0) (m:=8) (by decide);obtain⟨a13,pa,ha,ea⟩:=NS (c:=y1) (m:=13) (by decide);obtain⟨b4,pb,hb,eb⟩:=NS (c:=y2) (m:=4) (by decide);obtain⟨d,bo,hk,ek⟩:=NS (c:=y3) (m:=7) (by decide);obtain⟨e5,pe,he,ee⟩:=NS (c:=y2) (m:=5) (by decide);obtain⟨l,pl,P,el⟩:=NS (c:=y1) (m:=ks.length) (by omega);obtain⟨rr,pr,hr,er⟩:=NS (c:=y2) (m:=ks.length) (by omega);have ao:∀H K,Ao (r! L (n+42)) Cs [I y0,.v (.int .i64 8)] H K=K (I (q:Int)):=by rw[<-pq];exact MC (n:=n+41) i0 (by decide) (by decide)
 have ag:∀H K,Ao (r! L (n+42)) Cs [I y1,.v (.int .i64 13)] H K=K (I (a13:Int)):=by rw[<-pa];exact MC (n:=n+41) i1 (by decide) (by decide)
 have ap:∀H K,Ao (r! L (n+42)) Cs [I y2,.v (.int .i64 4)] H K=K (I (b4:Int)):=by rw[<-pb];exact MC (n:=n+41) i2 (by decide) (by decide)
 have aq:∀H K,Ao (r! L (n+42)) Cs [I y2,.v (.int .i64 5)] H K=K (I (e5:Int)):=by rw[<-pe];exact MC (n:=n+41) i2 (by decide) (by decide)
 have D:∀H K,Ao (r! L (n+42)) Cs [I y1,I ks.length] H K=K (I (l:Int)):=by rw[<-pl];exact MC (n:=n+41) i1 (by omega) (by omega)
 have ar:∀H K,Ao (r! L (n+42)) Cs [I y2,I ks.length] H K=K (I (rr:Int)):=by rw[<-pr];exact MC (n:=n+41) i2 (by omega) (by omega)
 have bc:∀H K,Ao (r! L (n+42)) Gs [I y3] H K=K (.agg (CL (uu d))):=by rw[<-ek];exact A3f (n:=n) i3
 have an:exM ks y0 y1 y2 y3=exO ks q a13 b4 d e5 l rr:=by unfold exM;rw[eq,ea,eb,ek,ee,el,er]
 rw[an]at B;clear an pq pa pb bo pe pl pr eq ea eb ek ee el er;have bd:∀{z:Int}{K:K2},Ca AO [(0,1,I z)] K=K (.agg (Nd.mk z [] [] u0 0 0 0).cs):=λ{z K}=>r_ rfl;have ad:∀{K:K2},Ap Ab .add (.v (.int .i64 1)) (I (q:Int)) K=K (I ((q+1:Nat):Int)):=λ{K}=>by
  rw[Do,CV (by omega) (by omega)];rw[show(1:Int)+(q:Int)=((q+1:Nat):Int) by omega]
 rw[y4 m1,ao,ad,bd];obtain⟨A,e2,C,w2,ai⟩:=Il (e:=AU) (zs:=(Nd.mk 0 [] [] u0 0 0 0).cs) (vs:=(Nd.mk ((q+1:Nat):Int) [] [] u0 0 0 0).cs) h1.wf rfl;rw[B3 (cs:=(Nd.mk 0 [] [] u0 0 0 0).cs) rfl,Ch (cs:=(Nd.mk 0 [] [] u0 0 0 0).cs) (vs:=(Nd.mk ((q+1:Nat):Int) [] [] u0 0 0 0).cs) (Az (by simp)) rfl rfl rfl,<-e2];have o:=h1.oth;have h2:=h1.grow w2 λs x hs=>(ai s x hs).1;obtain⟨V,a5⟩:=ai _ _ m1;generalize As H1=m at C o a5;clear ai e2;refine PE λaf Z=>?_;have tail:∀(nd:Nd)(Hm:Hp)(U:UD)(e:Int),Md b r z ins id ks (Lj ks) ks v w u Hm->Aj Hm m=some (c_ AU nd.cs)->
  CS (r! L (n+42)) CF [.agg (BI id (BP ks) (Cu (Lj ks)) u0),.agg nd.cs,I ks.length,R9 ks] (.tup [.agg (CL U),I e])->
  (e=0/\nd.op≠8->∃k,U=uu k/\(exO ks q a13 b4 d e5 l rr).nd=[nd]/\(exO ks q a13 b4 d e5 l rr).ty ks=[k])->(¬(e=0/\nd.op≠8)->(exO ks q a13 b4 d e5 l rr).nd=[]/\(exO ks q a13 b4 d e5 l rr).ty ks=[])->af Hm=x:=by
  intro nd Hm U e hm mm y hg ab;have lp:∀{K},AD AS (.ptr r 0 0) Hm K=K (.agg (BI id v w u0)):=λ{K}=>Bv rfl rfl hm.hr;have ln:∀{K},AD AO (.ptr m 0 0) Hm K=K (.agg nd.cs):=λ{K}=>Bv rfl rfl mm;rw[Z];simp only[lp,ln,hm.ty k1 y];obtain⟨M,e3,m3,w3,aj⟩:=Il (e:=AA) (zs:=FZ) (vs:=CL U) hm.wf rfl;rw[F5,F4,B3 (cs:=FZ) rfl,Ch (cs:=FZ) (vs:=CL U) (Az (by simp)) rfl rfl rfl,<-e3];have o3:=hm.oth;have O:=hm.grow w3 λs x hs=>(aj s x hs).1;obtain⟨m5, -⟩:=aj _ _ mm;generalize As Hm=q3 at m3 o3;clear aj e3;have bm:∀{K},AD AO (.ptr m 0 0) M K=K (.agg nd.cs):=λ{K}=>Bv rfl rfl m5;have bn:∀{K},AD Ab (.ptr m 0 0) M K=K (I nd.op):=λ{K}=>AQ (p:=0) rfl m5 (show 0<26 by decide);rw[CQ];by_cases Q:e=0
  ·rw[Hj Q];simp only[gT,Cb,ntT,dV,bn,IS,Tt,Sf];by_cases h8:nd.op=8
   ·obtain⟨g1,g2⟩:=ab λj=>j.2 h8;rw[Hj h8];show A2 (Bo false) _ _=_;rw[Bh];refine B w u M ?_;rw[g1,g2,UC,UC];exact O
   ·obtain⟨k,rfl,g1,g2⟩:=hg ⟨Q,h8⟩;rw[HX h8];show A2 (Bo true) _ _=_;obtain⟨J,H4,a1,a2,a3,a4⟩:=O.w1 nd (by rw[DX];omega);obtain⟨F,H5,b1,b2⟩:=a3.u1 k (by omega);have lu:∀{K},AD A1 (.ptr q3 0 0) (Go.Abs.upd H4 r (IY id v J u0)) K=K (.agg (CL (uu k))):=λ{K}=>Bv rfl rfl (a4 _ _ o3.r o3.w m3);rw[Cr,O.ld2,bm,C3t,a1,a2,lu,A7y,b1];refine B J F H5 ?_;rw[g1,g2];exact b2
  ·obtain⟨g1,g2⟩:=ab λj=>Q j.1;rw[HX Q];simp only[ZC,Cb,gU,Sf];rw[Bh];refine B w u M ?_;rw[g1,g2,UC,UC];exact O
 clear Z B;have lo:∀{K},AD Ab (.ptr m 0 0) A K=K (I ((q+1:Nat):Int)):=λ{K}=>AQ (p:=0) rfl C (show 0<26 by decide);rw[dV,lo];refine PE λay aa=>?_;have g:∀H,ay H=af H:=λH=>by rw[aa]
 clear aa;have sm:∀{cs:Is}{N:Hp},Aj N q4=some (c_ HU [I y0,I y1,I y2,I y3])->Aj (Go.Abs.upd N m (c_ AU cs)) q4=some (c_ HU [I y0,I y1,I y2,I y3]):=λP=>by rw[Ag a5];exact P
 rw[CQ];by_cases ae:2<=q/\q<6
 ·have y:=A5a (L:=L) (n:=n) (id:=id) (o:=u0) (xs:=Lj ks) (op:=q+1) k1 k3 k7 (show l<ks.length by omega) (show rr<ks.length by omega) (by omega) (by omega);rw[show q+1-3=q-2 by omega]at y;rw[HX (by omega),Bh,CQ,HX (by omega),Bh,CQ,HX (by omega),Bh,CQ,HX (by omega),Bh,
   Y V,D,dV,Ei C (show 24<26 by decide) rfl rfl rfl,a6 (sm V),ar,dV,Ei (AC C) (show 25<26 by decide) rfl rfl rfl,g]
  have R:=B12 (ks:=ks) (a13:=a13) (b4:=b4) (k7:=d) (e5:=e5) (l:=l) (r:=rr) ae.1 ae.2;have hm:=(h2.upd o (c_ AU ((Nd.mk ((q+1:Nat):Int) [] [] u0 0 0 0).cs.set 24 (I (l:Int))))).upd o (c_ AU (((Nd.mk ((q+1:Nat):Int) [] [] u0 0 0 0).cs.set 24 (I (l:Int))).set 25 (I (rr:Int))));cases hu:Vs (q-2) (ks.getD l 0) (ks.getD rr 0) with
  |none=>
   rw[hu]at y R;exact tail (vQ (q+1) l rr) _ u0 90 hm (AC (AC C)) y (λj=>absurd j.1 (by decide)) (λ_=>by rw[R];exact⟨rfl,rfl⟩)
  |some k=>
   rw[hu]at y R;refine tail (vQ (q+1) l rr) _ (uu k) 0 hm (AC (AC C)) y (λ_=>⟨k,rfl,by rw[R];exact⟨rfl,rfl⟩⟩) (λj=>absurd ⟨rfl,?_⟩ j);show((q+1:Nat):Int)≠8;omega
 ·obtain rfl|rfl|rfl|rfl:q=0\/q=1\/q=6\/q=7:=by omega
  ·have bf:∀{K:K2},Ds CM (.ptr q4 0 0) (.v (.int .i64 1)) K=K (.ptr q4 1 0):=λ{K}=>EL (z:=1) 1 rfl rfl (by decide);have bg:∀{K:K2},Ds CM (.ptr q4 0 0) (.v (.int .i64 2)) K=K (.ptr q4 2 0):=λ{K}=>EL (z:=2) 2 rfl rfl (by decide);have d1:∀{K:K2},AD Ab (.ptr q4 1 0) A K=K (I y1):=λ{K}=>AQ (p:=1) rfl V (by simp);have d2:∀{K:K2},AD Ab (.ptr q4 2 0) A K=K (I y2):=λ{K}=>AQ (p:=2) rfl V (by simp);have sb:∀{K:K2},Ap Ab .sub (I (a13:Int)) (.v (.int .i64 6)) K=K (I ((a13:Int)-6)):=λ{K}=>by rw[KB,CV (by omega) (by omega)]
   have a7:∀{K:K2},Ap Ab .add (.v (.int .i64 1)) (I (b4:Int)) K=K (I (1+(b4:Int))):=λ{K}=>by rw[Do,CV (by omega) (by omega)]
   have ba:∀H K,Ao (r! L (n+42)) Gt [I ((a13:Int)-6),I (1+(b4:Int))] H K=K (.tup [.agg (eI (lW a13 b4)),I 0]):=by
    have:=B8I L (n+2) (4*a13+b4) (by omega);rw[show(4*a13+b4)/4=a13 by omega,show(4*a13+b4)%4=b4 by omega]at this;exact this
   have y:=A0N (L:=L) (n:=n) (id:=id) (o:=u0) (xs:=Lj ks) (ks:=ks) (at_:=ks.length) (w:=R9 ks) (A1t (a:=a13) (b:=b4) (by omega) (by omega)) (show d<7 by omega);rw[Hj (by rfl),Cr];simp only[bf,bg,d1,d2,ag,ap,sb,a7,ba,F5,F4,dV,B4];rw[mE (vs:=eI (lW a13 b4)) C (show 1+2<=26 by decide) rfl rfl,Cb,bp (sm V),bc,mE (vs:=CL (uu d)) (AC C) (show 3+20<=26 by decide) rfl rfl,g];have hm:=(h2.upd o (c_ AU (splice (Nd.mk ((0+1:Nat):Int) [] [] u0 0 0 0).cs 1 (eI (lW a13 b4))))).upd o (c_ AU (splice (splice (Nd.mk ((0+1:Nat):Int) [] [] u0 0 0 0).cs 1 (eI (lW a13 b4))) 3 (CL (uu d))));exact tail (cnN (lW a13 b4) d) _ (uu d) 0 hm (AC (AC C)) y (λ_=>⟨d,rfl,rfl,rfl⟩) (λj=>absurd ⟨rfl,show(1:Int)≠8 by decide⟩ j)
  ·have y:=YS (L:=L) (n:=n+39) (id:=id) (o:=u0) (xs:=Lj ks) (ks:=ks) (i:=l) (by omega) (by omega) (at_:=ks.length) (w:=R9 ks);have eg:ks[l]'(by omega)=ks.getD l 0:=by simp[List.getD,K8 (show l<ks.length by omega)]
   rw[eg]at y;rw[HX (by decide),Bh,CQ,Hj (by rfl),Cr,Y V,h2.ld1,Le (t:=Am) rfl h2.sv,D,dV,Ei C (show 23<26 by decide) rfl rfl rfl,g];have hm:=h2.upd o (c_ AU ((Nd.mk ((1+1:Nat):Int) [] [] u0 0 0 0).cs.set 23 (I (l:Int))));exact tail (ZA l) _ (uu (ks.getD l 0)) 0 hm (AC C) y (λ_=>⟨ks.getD l 0,rfl,rfl,rfl⟩) (λj=>absurd ⟨rfl,show(2:Int)≠8 by decide⟩ j)
  ·have y:=A59 (L:=L) (n:=n) (id:=id) (o:=u0) (xs:=Lj ks) k1 k3 k7 (show l<ks.length by omega) (show e5<5 by omega);have a8:∀{N:Hp}{K:KV},GM Hd 1 Ab 5 [(0,1,(AV.v (.int .i64 2))),(1,1,(AV.v (.int .i64 (-1)))),(2,1,(AV.v (.int .i64 3))),(3,1,(AV.v (.int .i64 (-2)))),(4,1,(AV.v (.int .i64 1)))] N K=K (.sl 1 (As N) 0 5) ((As N,.cells false Hd [I 2,I (-1),I 3,I (-2),I 1])::N):=λ{N K}=>by
    have e:GM Hd 1 Ab 5 [(0,1,(AV.v (.int .i64 2))),(1,1,(AV.v (.int .i64 (-1)))),(2,1,(AV.v (.int .i64 3))),(3,1,(AV.v (.int .i64 (-2)))),(4,1,(AV.v (.int .i64 1)))] N K=Ik N (λs=>K (.sl 1 s 0 5) ((s,.cells false Hd [I 2,I (-1),I 3,I (-2),I 1])::N)):=r_ rfl;rw[e,BW]
   have bh:∀{s:Nat}{K:K2},Ds Bj (.sl 1 s 0 5) (I (e5:Int)) K=K (.ptr s e5 0):=λ{s K}=>by
    have e1:Ds Bj (.sl 1 s 0 5) (I (e5:Int)) K=iN (e5:Int) λm=>ck (Nat.blt m 5) (fN (Nat.add 0 (Nat.mul m 1)) λp=>K (.ptr s p 0)):=r_ rfl;rw[e1,Ju,Dy];have O:Nat.blt e5 5=true:=by rw[Wr];omega
    rw[O];show K (.ptr s (0+e5*1) 0)=_;rw[Jt,pZ]
   have gd:([I 2,I (-1),I 3,I (-2),I 1]:Is).getD e5 .dk=I (mC e5):=by
    obtain rfl|rfl|rfl|rfl|rfl:e5=0\/e5=1\/e5=2\/e5=3\/e5=4:=by omega
    all_goals rfl
   rw[HX (by decide),Bh,CQ,HX (by decide),Bh,CQ,Hj (by rfl),Cr,Y V,D,dV,Ei C (show 24<26 by decide) rfl rfl rfl,a8];have m3:=AC (q:=true) (e:=AU) (cs:=(Nd.mk ((6+1:Nat):Int) [] [] u0 0 0 0).cs.set 24 (I (l:Int))) C;have O:=h2.upd o (c_ AU ((Nd.mk ((6+1:Nat):Int) [] [] u0 0 0 0).cs.set 24 (I (l:Int))));have s3:=sm (cs:=(Nd.mk ((6+1:Nat):Int) [] [] u0 0 0 0).cs.set 24 (I (l:Int))) V;generalize Go.Abs.upd A m (c_ AU ((Nd.mk ((6+1:Nat):Int) [] [] u0 0 0 0).cs.set 24 (I (l:Int))))=M at m3 O s3;have w4:=AJ (x:=.cells false Hd [I 2,I (-1),I 3,I (-2),I 1]) O.wf;have k4:∀s x,Aj M s=some x->Aj ((As M,.cells false Hd [I 2,I (-1),I 3,I (-2),I 1])::M) s=some x:=λs x hs=>A7 (O.wf.lt hs) hs;have h4:=O.grow w4 k4;have X:=k4 _ _ m3;have s4:=k4 _ _ s3;have n4:=Az (H:=M) (x:=.cells false Hd [I 2,I (-1),I 3,I (-2),I 1]) (by simp);generalize ((As M,Row.cells false Hd [I 2,I (-1),I 3,I (-2),I 1])::M)=H4 at h4 X s4 n4;rw[a6 s4,aq,bh,AQ (p:=e5) rfl n4 (show e5<5 by omega),gd,dV,Ei X (show 23<26 by decide) rfl rfl rfl,g];have hm:=h4.upd o (c_ AU (((Nd.mk ((6+1:Nat):Int) [] [] u0 0 0 0).cs.set 24 (I (l:Int))).set 23 (I (mC e5))));have R:exO ks 6 a13 b4 d e5 l rr=match XB (ks.getD l 0) e5 with
    |some k=>.po l e5 k
    |none=>.no:=rfl
   cases hu:XB (ks.getD l 0) e5 with
   |none=>
    rw[hu]at y R;exact tail (poN l e5) _ u0 90 hm (AC X) y (λj=>absurd j.1 (by decide)) (λ_=>by rw[R];exact⟨rfl,rfl⟩)
   |some k=>
    rw[hu]at y R;exact tail (poN l e5) _ (uu k) 0 hm (AC X) y (λ_=>⟨k,rfl,by rw[R];exact⟨rfl,rfl⟩⟩) (λj=>absurd ⟨rfl,show(7:Int)≠8 by decide⟩ j)
  ·have g7:=MJ k7 (show l<ks.length by omega);have he:=GE.1 (show((List.range 7).all λk=>decide ((usq k).2=0\/(usq k).2=70))=true by kernel_rfl) (ks.getD l 0) (KE.2 g7);have y:=B3K (L:=L) (n:=n) (id:=id) (o:=u0) (xs:=Lj ks) (l2z he) k1 k3 (show l<ks.length by omega) (C1K L (n+1) _ g7).o;rw[HX (by decide),Bh,CQ,HX (by decide),Bh,CQ,HX (by decide),Bh,CQ,Hj (by rfl),Cr,Y V,D,dV,Ei C (show 24<26 by decide) rfl rfl rfl,g];have hm:=h2.upd o (c_ AU ((Nd.mk ((7+1:Nat):Int) [] [] u0 0 0 0).cs.set 24 (I (l:Int))));by_cases h0:(usq (ks.getD l 0)).2=0
   ·rw[Dl h0]at y;exact tail (sqN l) _ _ 0 hm (AC C) y (λj=>absurd rfl j.2) (λ_=>⟨rfl,rfl⟩)
   ·rw[C5 h0]at y;exact tail (sqN l) _ u0 90 hm (AC C) y (λj=>absurd rfl j.2) (λ_=>⟨rfl,rfl⟩)
end
end
section
variable{L n:Nat}
abbrev Y4:=Option (Int×Int×Int×Int)
def exY(ks:Hb):Y4->Ex
 |none=>.no
 |some (a,b,c,d)=>exM ks a b c d
def yA:Y4->AV
 |none=>Aw
 |some (a,b,c,d)=>.list 1 [I a,I b,I c,I d]
def yI:Y4->Prop
 |none=>True
 |some (a,b,c,d)=>Lm a/\Lm b/\Lm c/\Lm d
def pW(ins:List Int)(count:Int)(y:Y4):Pr:=⟨1+(pk count 900).toNat,ksM ins ((pk count 3).toNat+1),exY (ksM ins ((pk count 3).toNat+1)) y⟩
section
variable{K:KV}{x:Af}{ins:List Int}{id:Int}{ks us:Hb}{xs:List Nd}{v w u:AV}{b r z m:Nat}{H H':Hp}{count:Int}{y:Y4}
def A5s(h:ins.length=3):(ksM ins ((pk count 3).toNat+1)).length=(pk count 3).toNat+1/\(pk count 3).toNat<3:=by
 have pr:=FQ (c:=count) (n:=3) (by decide);unfold ksM;rw[Qa,vN];omega
def B5S{i:Nat}:∀k∈ksM ins i,k<7:=by
 intro k a;obtain⟨c,_,rfl⟩:=Mj.1 a;have pr:=FQ (c:=c) (n:=7) (by decide);omega
def A3o(h:ins.length=3):(pW ins count y).Ok:=by
 have pr:=FQ (c:=count) (n:=900) (by decide);obtain⟨h1,h2⟩:=A5s (count:=count) h;have e:(pW ins count y).ks.length=(pk count 3).toNat+1:=h1;refine⟨by show 1<=1+_;omega,by show 1+_<950;omega,by rw[e];omega,by rw[e];omega,B5S,?_⟩
 match y with
 |none=>exact trivial
 |some (a,b,c,d)=>exact B9P (by show 1<=(ksM ins ((pk count 3).toNat+1)).length;rw[h1];omega)
def A9U(sv:B0 H AA 20 v ks.length (ks.flatMap HJ))(nv:ks=[]->v=Aw)(sw:B0 H AU 26 w xs.length (xs.flatMap K!))(nw:xs=[]->w=Aw)(h1:1<=ks.length)(h2:1<=xs.length){D:Nat}{bb:Bool}{o:UD}:∃q,Fx bb (D+2) (.agg (BI id v w o)) (.agg (BI id (BP ks) (Cu xs) o)) H q:=by
 obtain⟨q1,a⟩:=lV (D:=D) (b:=bb) sv nv;obtain⟨q2,c⟩:=B0L (D:=D) (b:=bb) sw nw;rw[A50 h1]at a;rw[A5m h2]at c;exact⟨_,L2 (D:=D+1) (An (q:=false) C7 (An a (An c (KS (b:=bb) (D:=D+1) (H:=H) (λx:Value=>x) [.int .i64 o.p0,.int .i64 o.q0,.int .i64 o.p1,.int .i64 o.q1,.int .i64 o.p2,.int .i64 o.q2,.int .i64 o.p3,.int .i64 o.q3,.int .i64 o.p4,.int .i64 o.q4,.int .i64 o.p5,.int .i64 o.q5,.int .i64 o.p6,.int .i64 o.q6,
  .string ⟨⟨o.fn⟩⟩,.string ⟨⟨o.fd⟩⟩,.string ⟨⟨o.on⟩⟩,.string ⟨⟨o.od⟩⟩,.int .i64 o.kd,.int .i64 o.sc]))))⟩
def yG{o:UD}(h1:AV.one v=true)(h2:AV.one w=true):(BI id v w o).all AV.one=true:=by
 show(true&&(AV.one v&&(AV.one w&&true)))=true;rw[h1,h2];rfl
def B9b(h:Md b r z ins id ks xs us v w u H)(h1:1<=ks.length)(h2:1<=xs.length)(Y:us.length=xs.length)(Z:us.length<1000)(O:∀P N,(∀b,∃q,Fx b depth P (.agg (BI id (BP ks) (Cu xs) (uu (us.getD (xs.length-1) 0)))) N q)->K P N=x):
 (Bm Am u λp=>
  Ap Ab .sub p (AV.v (.int .i64 1)) λA=>
  Ds Am u A λB=>
  AD A1 B H λC=>
  CY 3 (.ptr r 0 0) λF=>
  E4 A1 F C H λc=>
  AD AS (.ptr r 0 0) c λJ=>
  E4 AS (.ptr z 0 0) J c λd=>
  AD AS (.ptr z 0 0) d λM=>
  K M d)=x:=by
 have f:us.length-1<us.length:=by omega
 obtain⟨a,X,g⟩:=A4Z h.su f;have R:us[us.length-1]=us.getD (xs.length-1) 0:=by rw[<-Y];simp[List.getD,K8 f]
 rw[R]at g;generalize us.getD (xs.length-1) 0=k at g O;obtain⟨cs,c1,c2⟩:=h.hz;rw[Le (t:=Am) rfl h.su,fB (by omega) (by omega),X,g,dV,mE (vs:=CL (uu k)) h.hr (show 3+20<=23 by decide) rfl rfl];have r1:=AC (q:=true) (e:=Cx) (cs:=BI id v w (uu k)) h.hr;have Q:Aj (Go.Abs.upd H r (IY id v w (uu k))) z=some (c_ Cx cs):=by rw[Ag h.zr];exact c2
 have V:splice (BI id v w u0) 3 (CL (uu k))=BI id v w (uu k):=rfl;rw[V,Bv (cs:=BI id v w (uu k)) rfl rfl r1,Ch Q (by exact c1.symm) (by exact c1.symm) (yG (B0.one h.sv) (B0.one h.sw)),Bv (cs:=BI id v w (uu k)) rfl rfl (AC Q)];refine O _ _ λq=>?_;refine A9U (D:=depth-2) (h.sv.kp λs x j i=>?_) h.nv (h.sw.kp λs x j i=>?_) h.nw h1 h2
 ·have:=h.av s j;rw[Ag this.2.2.1,Ag this.2.1];exact i
 ·have:=h.aw s j;rw[Ag this.2.2.1,Ag this.2.1];exact i
def A9I(D:100<L)(B:ins.length=3)(d:∀c∈ins,Lm c)(hc:Lm count)(p:yI y):
 CS (r! L (n+43)) Rj [.agg (Fa ins),I count,yA y,Bo true] (.agg (BI (pW ins count y).id (BP (pW ins count y).ks) (Cu (pW ins count y).xs) (uu (pW ins count y).out))):=by
 intro K X;have F:=A3o (count:=count) (y:=y) B;obtain⟨p1,p2,p3⟩:=kT F;obtain⟨l1,l2⟩:=A5s (count:=count) B;have pr:=FQ (c:=count) (n:=900) (by decide);rw[sX];unfold VZ HR A3;have k1:∀H K,Ao (r! L (n+42)) Cs [I count,.v (.int .i64 900)] H K=K (I (pk count 900)):=MC (n:=n+41) hc (by decide) (by decide);have A:((pW ins count y).id:Int)=1+pk count 900:=by show((1+(pk count 900).toNat:Nat):Int)=_;omega
 have M:∀{K:K2},Ap Ab .add (.v (.int .i64 1)) (I (pk count 900)) K=K (I ((pW ins count y).id:Int)):=λ{K}=>by rw[Do,CV (by omega) (by omega),A]
 have N:∀{i:Int}{K:K2},Ca AS [(0,1,I i)] K=K (.agg (BI i Aw Aw u0)):=λ{i K}=>r_ rfl;rw[En (yR ins)];have hb:=Az (H:=[]) (x:=.cells true UN (Fa ins)) (by simp);have w0:=AJ (x:=.cells true UN (Fa ins)) Fl;generalize ((As [],c_ UN (Fa ins))::([]:Hp))=j at hb w0;generalize As []=b at hb;rw[B3 (cs:=BI 0 Aw Aw u0) rfl];have hz:=Az (H:=j) (x:=.cells true Cx (BI 0 Aw Aw u0)) (by simp);have b1:=A7 (x:=.cells true Cx (BI 0 Aw Aw u0)) (w0.lt hb) hb;have w1:=AJ (x:=.cells true Cx (BI 0 Aw Aw u0)) w0;generalize ((As j,c_ Cx (BI 0 Aw Aw u0))::j)=J at hz w1 b1;generalize As j=z at hz;rw[k1,M,N,B3 (cs:=BI 0 Aw Aw u0) rfl];obtain⟨C,Q,r2,Y,kp⟩:=Il (e:=Cx) (zs:=BI 0 Aw Aw u0) (vs:=BI (pW ins count y).id Aw Aw u0) w1 rfl;rw[Ch (cs:=BI 0 Aw Aw u0) (vs:=BI (pW ins count y).id Aw Aw u0) (Az (by simp)) rfl rfl rfl,<-Q];obtain⟨b2,f⟩:=kp _ _ b1;obtain⟨Z,g⟩:=kp _ _ hz;generalize As J=r at r2 f g;have no:∀{s:Nat}{P:Prop},A8 Aw s->P:=λ⟨_,_,_,h⟩=>by cases h
 have V:Md b r z ins (pW ins count y).id (ksM ins 0) [] [] Aw Aw Aw C:=⟨b2,r2,⟨_,rfl,Z⟩,.inl ⟨rfl,rfl,rfl⟩,λ_=>rfl,.inl ⟨rfl,rfl,rfl⟩,λ_=>rfl,.inl ⟨rfl,rfl,rfl⟩,λ_=>rfl,f,g,λ_=>no,λ_=>no,λ_=>no,Y⟩
 simp only[BJ];refine C21 D B d hc (λv H k=>?_) (L+20) 0 Aw C (by omega) (by omega) V;refine C22 (n:=n) D (by rw[l1];omega) (λw u H k=>?_) (L+20) 0 Aw Aw H (by omega) (by omega) k;have fin:∀t q H',Md b r z ins (pW ins count y).id (pW ins count y).ks (pW ins count y).xs (pW ins count y).ty v t q H'->_:=λt q H' a=>B9b (K:=K) a F.k1 p2 p1 (by omega) X
 match y with
 |none=>
  show M0 (L+20) (r! L (n+42)) K _ ((L+19)+1) _ Aw _ _ _ _ _ _ _ _ H=_;rw[Q6];unfold MA Em Xo dP HR Dk Hl A3 Mf HS;have R:∀{K:K2},Bm J5 Aw K=K (I ((0:Nat):Int)):=λ{K}=>r_ rfl;have O:(AV.v (.int .i64 0))=I ((0:Nat):Int):=rfl;rw[R,O,FT (by omega)];simp only[ZC,Cb,Sf];rw[Bh];refine fin w u H ?_;show Md b r z ins _ _ (Lj _++[]) (_++[]) v w u H;rw[UC,UC];exact k
 |some (y0,y1,y2,y3)=>
  exact C23 (n:=n) k (by rw[l1];omega) (by rw[l1];omega) B5S p.1 p.2.1 p.2.2.1 p.2.2.2 (λt q H' a=>fin t q H' a) (L+18)
end
end
section
variable{x1:Int}{ks:Hb}{i:Nat}
variable{L n:Nat}
def PL(H:Hp)(l:List Ha)(a:AV):Prop:=SA l a\/B0 H Av 1 a l.length (AG l)
section
variable{H H':Hp}{l:List Ha}{a:AV}{K:K2}
theorem PL.len(h:PL H l a):Bm Ac a K=K (I l.length):=by
 rcases h with h|h
 ·exact h.len
 ·exact Le (t:=Ac) rfl h
def B8o(h:B0 H Av 1 a l.length (AG l))(b:i<l.length):(Ds Ac a (I i) λp=>AD Ak p H K)=K (S l[i]):=by
 rcases h with⟨_,h2,_⟩|⟨r,q,rfl,h2,c⟩
 ·omega
 ·have d:∀K:K2,Ds Ac (.sl 1 r 0 l.length) (I (i:Int)) K=iN (i:Int) λm=>ck (Nat.blt m l.length) (fN (Nat.add 0 (Nat.mul m 1)) λp=>K (.ptr r p 0)):=λK=>r_ rfl;rw[d,Ju,Dy];have c:Nat.blt i l.length=true:=by rw[Wr];exact b
  rw[c];show AD Ak (.ptr r (0+i*1) 0) H K=_;rw[Jt,pZ,AQ rfl h2 (by simp[AG];exact b),Pe b]
def PL.at2(h:PL H l a)(b:i<l.length):∃p,(∀K:K2,Ds Ac a (I i) K=K p)/\∀K:K2,AD Ak p H K=K (S l[i]):=by
 rcases h with h|h
 ·exact⟨_,λK=>h.ia b,λK=>LD⟩
 ·rcases h with⟨_,h2,_⟩|⟨r,q,rfl,h2,c⟩
  ·omega
  ·refine⟨.ptr r i 0,λK=>?_,λK=>by rw[AQ rfl h2 (by simp[AG];exact b),Pe b]⟩;have d:∀K:K2,Ds Ac (.sl 1 r 0 l.length) (I (i:Int)) K=iN (i:Int) λm=>ck (Nat.blt m l.length) (fN (Nat.add 0 (Nat.mul m 1)) λp=>K (.ptr r p 0)):=λK=>r_ rfl;rw[d,Ju,Dy];have c:Nat.blt i l.length=true:=by rw[Wr];exact b
   rw[c];show K (.ptr r (0+i*1) 0)=_;rw[Jt,pZ]
theorem PL.kp(h:PL H l a)(k:∀s x,Aj H s=some x->Aj H' s=some x):PL H' l a:=by
 rcases h with h|h
 ·exact .inl h
 ·exact .inr (h.kp λs x _=>k s x)
end
def YA(H:Hp)(y:Y4)(a:AV):Prop:=∀H',(∀s x,Aj H s=some x->Aj H' s=some x)->∃q,Fx true depth a (yA y) H' q
def fO(i:Int)(p:Ha)(ps:List Ha):Ha:=ps.foldl (λp q=>if q=p then J? (-1-i) else p) p
def I_(x1:Int)(l:List Ha):Nat->List Ha
 |0=>[]
 |i+1=>I_ x1 l i++[fO i (if h:i<l.length then l[i] else J? (pk (x1.tdiv 3) 1000+i)) (I_ x1 l i)]
def fH{l:List Ha}:∀i,(I_ x1 l i).length=i:=by
 intro i
 induction i with
 |zero=>rfl
 |succ i ih=>simp[I_,ih]
def A12(c:Int):(J? c).length=32:=XS _ 8
def A6T{i:Int}:∀(ps:List Ha)(p:Ha),p.length=32->(fO i p ps).length=32:=by
 intro ps
 induction ps with
 |nil=>intro p h;exact h
 |cons q ps ih=>
  intro p h;show(fO i (if q=p then J? (-1-i) else p) ps).length=32;by_cases hq:q=p
  ·rw[Dl hq];exact ih _ (A12 _)
  ·rw[C5 hq];exact ih _ h
def B8U{l:List Ha}(c:∀s∈l,s.length=32):∀i,∀s∈I_ x1 l i,s.length=32:=by
 intro i
 induction i with
 |zero=>intro s b;simp[I_]at b
 |succ i ih=>
  intro s b;rcases Yn.1 b with b|b
  ·exact ih s b
  ·rw[Tx]at b;subst b;apply A6T;by_cases h:i<l.length
   ·rw[dif_pos h];exact c _ (PD h)
   ·rw[dif_neg h];exact A12 _
def NG{a b:Int}(h:Lm a)(hb:1<=b):Lm (a.tdiv b):=by
 unfold Lm at h⊢;by_cases c:0<=a
 ·have h1:=Int.tdiv_nonneg c (by omega:0<=b);have h2:a.tdiv b<=a:=Int.tdiv_le_self b c;omega
 ·have e:a.tdiv b= -((-a).tdiv b):=by rw[Int.neg_tdiv,Int.neg_neg]
  have h1:=Int.tdiv_nonneg (by omega:0<= -a) (by omega:0<=b);have h2:(-a).tdiv b<= -a:=Int.tdiv_le_self b (by omega);omega
def mU{a b:Int}{K:K2}(h:Lm a)(hb:1<=b):Ap Ab .quo (I a) (.v (.int .i64 b)) K=K (I (a.tdiv b)):=by
 have h1:=NG h hb;rw[A1V (by omega),CV h1.1 h1.2]
structure Mc(H0:Hp)(b1 b2 r z:Nat)(X F:Is)(H:Hp):Prop where
 h1:Aj H b1=some (c_ Jm X)
 h2:Aj H b2=some (c_ Jm F)
 hz:∃cs,cs.length=68/\Aj H z=some (c_ Ad cs)
 wf:Wf H
 n1:b1≠r
 n2:b2≠r
 nz:z≠r
 f1:As H0<=b1
 f2:As H0<=b2
 f3:As H0<=r
 f4:As H0<=z
 w0:Wf H0
 kp:∀s x,Aj H0 s=some x->Aj H s=some x
section
variable{K:KV}{x:Af}{H0 H H':Hp}{b1 b2 r z:Nat}{X F:Is}{ps l:List Ha}{v a3:AV}{cR:AV->Is}
theorem Mc.upd(h:Mc H0 b1 b2 r z X F H)(y:Row):Mc H0 b1 b2 r z X F (upd H r y):=by
 obtain⟨cs,c1,c2⟩:=h.hz;exact⟨by rw[Ag h.n1];exact h.h1,by rw[Ag h.n2];exact h.h2,⟨cs,c1,by rw[Ag h.nz];exact c2⟩,Bq h.wf,h.n1,h.n2,h.nz,h.f1,h.f2,h.f3,h.f4,h.w0,λs x b=>by
  have:=h.w0.lt b;have:=h.f3;rw[Ag (by omega)];exact h.kp s x b⟩
structure Pl(H0:Hp)(b1 b2 r z:Nat)(X F:Is)(cR:AV->Is)(ps:List Ha)(v:AV)(H:Hp):Prop where
 mc:Mc H0 b1 b2 r z X F H
 hr:Aj H r=some (c_ Ad (cR v))
 sv:B0 H Av 1 v ps.length (AG ps)
 nv:ps=[]->v=Aw
 fr:∀s,A8 v s->As H0<=s/\s≠b1/\s≠b2/\s≠r/\s≠z
structure CR(cR:AV->Is)(ks:Hb):Prop where
 len:∀v,(cR v).length=68
 set:∀v v',(cR v).set 31 v'=cR v'
 get:∀v,(cR v).getD 31 .dk=v
 ins:∀v,(cR v).getD 33 .dk=BP ks
def C1R{b:AV->AV->AV->AV->AV->AV->KV}(q:40000<L)(hc:CR cR ks)(w:i<3)(g:Pl H0 b1 b2 r z X F cR ps v H)(hb:ps.length<=3):
 ∀(f k:Nat)(p:Ha),k<=ps.length->ps.length-k<f->b a3 (.ptr b1 0 0) (.ptr z 0 0) (.ptr r 0 0) (I i) (S (fO i p (ps.drop k))) (I ps.length) H=x->
 TN (L+20) (r! L (n+43)) K b f a3 (.ptr b1 0 0) (.ptr z 0 0) (.ptr r 0 0) (I i) (S p) (I k) H=x:=by
 intro f
 induction f with
 |zero=>intro k p _ h;omega
 |succ f ih=>
  intro k p y u e;rw[nY];unfold TP Em HR A3;have d:∀{K},AD Ac (.ptr r 31 0) H K=K v:=λ{K}=>by rw[AQ (p:=31) rfl g.hr (by rw[hc.len];decide),hc.get]
  rw[dV,d,Le (t:=Ac) rfl g.sv];by_cases h:k<ps.length
  ·rw[FV (by omega),Cr];simp only[BJ];have j:∀{K:K2},Ap Ab .add (I k) (.v (.int .i64 1)) K=K (I ((k+1:Nat):Int)):=λ{K}=>Dd (by omega);have sb:∀{K:K2},Ap Ab .sub (.v (.int .i64 (-1))) (I (i:Int)) K=K (I (-1-(i:Int))):=λ{K}=>by rw[KB,CV (by omega) (by omega)]
   have s:∀{K:K2},Ao (r! L (n+43)) JV [I (-1-(i:Int))] H K=K (S (J? (-1-(i:Int)))):=λ{K}=>A0R (n:=n+23) q (by omega) (by omega) H K;have m:ps.drop k=ps[k]::ps.drop (k+1):=vM h;rw[m]at e;have c:b a3 (.ptr b1 0 0) (.ptr z 0 0) (.ptr r 0 0) (I i) (S (fO i (if ps[k]=p then J? (-1-i) else p) (ps.drop (k+1)))) (I ps.length) H=x:=e;rw[dV,d,B8o g.sv h,Mb];by_cases hq:ps[k]=p
   ·rw[Hj hq,Cr,sb,s,j];rw[Dl hq]at c;exact ih (k+1) _ (by omega) (by omega) c
   ·rw[HX hq,Bh,j];rw[C5 hq]at c;exact ih (k+1) _ (by omega) (by omega) c
  ·have:k=ps.length:=by omega
   subst this;rw[List.drop_length]at e;rw[FT (by omega),Bh];exact e
def C1S{g:AV->AV->KV}{x0 x1 x2 x3 x4 x5:Int}(Y:40000<L)(hc:CR cR ks)(h1:Lm x1)(aa:ks.length<=3)(M:PL H0 l a3)(hb:l.length<1000)(J:∀s∈l,s.length=32)(m:∀v H,Pl H0 b1 b2 r z [I x0,I x1,I x2,I x3,I x4,I x5] F cR (I_ x1 l ks.length) v H->g (.ptr b1 0 0) (.ptr z 0 0) (.ptr r 0 0) H=x):
 ∀(f i:Nat)(v C d1:AV)(H:Hp),i<=ks.length->ks.length-i<f->Pl H0 b1 b2 r z [I x0,I x1,I x2,I x3,I x4,I x5] F cR (I_ x1 l i) v H->
 TO (L+20) (r! L (n+43)) K g f a3 (.ptr b1 0 0) (.ptr z 0 0) (.ptr r 0 0) (I i) C d1 H=x:=by
 intro f
 induction f with
 |zero=>intro i v C d1 H _ h;omega
 |succ f ih=>
  intro i v C d1 H hi hf b;rw[nZ];unfold TQ Em HR Dk A3 HS;have O:∀{K},AD Am (.ptr r 33 0) H K=K (BP ks):=λ{K}=>by rw[AQ (p:=33) rfl b.hr (by rw[hc.len];decide),hc.ins]
  have fa:∀{K:K2},CY 1 (.ptr r 32 0) K=K (.ptr r 33 0):=λ{K}=>by rw[fA]
  rw[dV,fa,O,Qt];by_cases h:i<ks.length
  ·have pr:=FQ (c:=x1.tdiv 3) (n:=1000) (by decide);have ia:∀{K:K2},Ds B7 (.ptr b1 0 0) (.v (.int .i64 1)) K=K (.ptr b1 1 0):=λ{K}=>EL (z:=1) 1 rfl rfl (by decide);have d1:∀{K:K2},AD Ab (.ptr b1 1 0) H K=K (I x1):=λ{K}=>AQ (p:=1) rfl b.mc.h1 (by simp);have P:∀{H K},Ao (r! L (n+43)) BM [I (x1.tdiv 3),.v (.int .i64 1000)] H K=K (I (pk (x1.tdiv 3) 1000)):=λ{H K}=>MB (n:=n+42) (NG h1 (by decide)) (by decide) (by decide) H K;have ad:∀{K:K2},Ap Ab .add (I (pk (x1.tdiv 3) 1000)) (I (i:Int)) K=K (I (pk (x1.tdiv 3) 1000+i)):=λ{K}=>by rw[Do,CV (by omega) (by omega)]
   have pa:∀{K:K2},Ao (r! L (n+43)) JV [I (pk (x1.tdiv 3) 1000+i)] H K=K (S (J? (pk (x1.tdiv 3) 1000+i))):=λ{K}=>A0R (n:=n+23) Y (by omega) (by omega) H K;rw[FV (by omega),Cr,ia,d1,mU h1 (by decide),P,ad,pa];refine PE λw d=>?_;have Z:∀p:Ha,p=(if h:i<l.length then l[i] else J? (pk (x1.tdiv 3) 1000+i))->w (S p) H=x:=by
    intro p hp;rw[d];simp only[BJ];refine C1R Y hc (by omega) b (by rw[fH];omega) (L+20) 0 p (by omega) (by rw[fH];omega) ?_;rw[pE];have N:∀{K},AD Ac (.ptr r 31 0) H K=K v:=λ{K}=>by rw[AQ (p:=31) rfl b.hr (by rw[hc.len];decide),hc.get]
    obtain⟨v',H',a1,a2,B,a4,k,Q⟩:=V_ (ie:=Ak) (i2:=Ac) (ys:=AG [fO i p (I_ x1 l i)]) b.sv b.mc.wf rfl rfl (by decide) rfl (λ_=>rfl) (by rw[fH];show(i+1)*16<=_;omega) (by rw[fH];omega);obtain⟨cs,c1,c2⟩:=b.mc.hz;have u:=k _ _ b.hr λe=>(b.fr _ e).2.2.2.1 rfl;have q1:=b.mc.wf.lt b.mc.h1;have q2:=b.mc.wf.lt b.mc.h2;have q3:=b.mc.wf.lt b.hr;have q4:=b.mc.wf.lt c2;have q0:=b.mc.f1;rw[dV,N,iX,a1,dV,Ei u (by rw[hc.len];decide) rfl (B0.cell a2) (B0.one a2),hc.set,Dd (by omega)];have y:I_ x1 l (i+1)=I_ x1 l i++[fO i p (I_ x1 l i)]:=by rw[hp];rfl
    refine ih (i+1) v' _ _ _ (by omega) (by omega) ⟨?_,AC u,?_,λe=>?_,λs j=>?_⟩
    ·refine⟨by rw[Ag b.mc.n1];exact k _ _ b.mc.h1 (λe=>(b.fr _ e).2.1 rfl),by rw[Ag b.mc.n2];exact k _ _ b.mc.h2 (λe=>(b.fr _ e).2.2.1 rfl),⟨cs,c1,by rw[Ag b.mc.nz];exact k _ _ c2 (λe=>(b.fr _ e).2.2.2.2 rfl)⟩,Bq B,b.mc.n1,b.mc.n2,b.mc.nz,b.mc.f1,b.mc.f2,b.mc.f3,b.mc.f4,b.mc.w0,λs x j=>?_⟩;have R:=b.mc.w0.lt j;have V:=b.mc.f3;rw[Ag (by omega)];exact k _ _ (b.mc.kp s x j) (λe=>by have:=(b.fr _ e).1;omega)
    ·rw[y,EC];have:AG (I_ x1 l i++[fO i p (I_ x1 l i)])=AG (I_ x1 l i)++AG [fO i p (I_ x1 l i)]:=by simp[AG]
     rw[this];refine B0.kp a2 λs x j M=>?_;have:=Q s j;rw[Ag (by omega)];exact M
    ·rw[y]at e;simp at e
    ·have:=Q s j;omega
   clear d;have q:=M.kp b.mc.kp;rw[q.len];by_cases A:i<l.length
   ·obtain⟨p,R,V⟩:=q.at2 A;have D:∀{K:K2},Ap Ab .eql (I ((l[i].length:Nat):Int)) (.v (.int .i64 32)) K=K (Bo true):=λ{K}=>by
     rw[CQ,J _ (PD A)];rfl
    rw[FV (by omega)];simp only[gT,Cb,R,V,PQ (t:=Ak) rfl,D,Tt];rw[Cr];exact Z _ (by rw[dif_pos A])
   ·rw[FT (by omega)];simp only[ZC,Cb,Sf];rw[Bh];exact Z _ (by rw[dif_neg A])
  ·have:i=ks.length:=by omega
   subst this;rw[FT (by omega),Bh];exact m v H b
end
end
section
variable{b:Nat}
variable{L n:Nat}
def Cd.csP(c:Cd)(P:AV):Is:=match c with
 |.re b u=>Ey 1 b.m (uu u) (qn b.c) (qd b.c) (FF b.ts) (qn b.r) (qd b.r) P 0 Aw Aw u0 r0 0
 |.co b p _ none=>Ey 2 b.m (uu p.out) (qn b.c) (qd b.c) (FF b.ts) (qn b.r) (qd b.r) P p.id (BP p.ks) (Cu p.xs) (uu p.out) r0 0
 |.co b p _ (some (k,vd))=>Ey 3 b.m (uu p.out) (qn b.c) (qd b.c) (FF b.ts) (qn b.r) (qd b.r) P p.id (BP p.ks) (Cu p.xs) (uu p.out) (rr k) vd
def A4k(c:Cd):c.csP (DJ c.ps)=c.cs:=by
 match c with
 |.re b u=>rfl
 |.co b p ps none=>rfl
 |.co b p ps (some (k,vd))=>rfl
def cbM(x1 x2 x3 x4 x5:Int)(a:List Int):CB:=⟨⟨1+pk x1 3,1+pk x2 9,1+pk x3 4,pk x4 50,pk x5 30⟩,pk (x3.tdiv 4) 161-80,pk (x4.tdiv 50) 9,Lq a 6⟩
def cdM(x0 x1 x2 x3 x4 x5 f0 f1 f2 f3 f4 f5:Int)(y:Y4)(l:List Ha):Cd:=
 if pk x0 3=0 then .re (cbM x1 x2 x3 x4 x5 [f0,f1,f2,f3,f4,f5]) (pk (x5.tdiv 30) 7).toNat
 else .co (cbM x1 x2 x3 x4 x5 [f0,f1,f2,f3,f4,f5]) (pW [f0,f1,f2] (x2.tdiv 9) y) (I_ x1 l (pW [f0,f1,f2] (x2.tdiv 9) y).ks.length)
  (if pk x0 3=1 then none else some (1+(pk (x0.tdiv 3) 3).toNat,1+pk (x0.tdiv 9) 3))
def A4q{x0 x1 x2 x3 x4 x5 f0 f1 f2 f3 f4 f5:Int}{y:Y4}{l:List Ha}(a:∀s∈l,s.length=32):(cdM x0 x1 x2 x3 x4 x5 f0 f1 f2 f3 f4 f5 y l).Ok:=by
 have p1:=FQ (c:=x1) (n:=3) (by decide);have p2:=FQ (c:=x2) (n:=9) (by decide);have p3:=FQ (c:=x3) (n:=4) (by decide);have p4:=FQ (c:=x4) (n:=50) (by decide);have p5:=FQ (c:=x5) (n:=30) (by decide);have p6:=FQ (c:=x3.tdiv 4) (n:=161) (by decide);have d:=FQ (c:=x4.tdiv 50) (n:=9) (by decide);have e:=FQ (c:=x5.tdiv 30) (n:=7) (by decide);have f:=FQ (c:=x0.tdiv 3) (n:=3) (by decide);have g:=FQ (c:=x0.tdiv 9) (n:=3) (by decide);have hb:(cbM x1 x2 x3 x4 x5 [f0,f1,f2,f3,f4,f5]).Ok:=by
  refine⟨?_,?_,?_,?_,?_,(A51 _ 6 (by omega)).1⟩
  ·refine⟨?_,?_,?_,?_,?_,?_,?_,?_,?_,?_⟩
   all_goals (simp only[cbM];omega)
  all_goals (simp only[cbM];omega)
 unfold cdM;by_cases h:pk x0 3=0
 ·rw[Dl h];exact⟨hb,by omega⟩
 ·rw[C5 h];refine⟨hb,A3o rfl,fH _,B8U a _,?_⟩;by_cases h1:pk x0 3=1
  ·rw[Dl h1];exact trivial
  ·rw[C5 h1];exact⟨by omega,by omega,by omega⟩
def okI{z:Int}{H:Hp}{K:Af}:Ra (Bc (some (I z,H)) (I z)) K=K:=UX rfl
def C4i{k:IntKind}{z:Int}:AV.one (.v (.int k z))=true:=rfl
def C4g{l:Ha}:AV.one (S l)=true:=rfl
def C4h:AV.one (.v (.slice none 0 0))=true:=rfl
def VA(ts:jL):AV.one (FF ts)=true:=by cases ts<;>rfl
section
variable{K:KV}{x:Af}{H0 H H':Hp}{b1 b2 r z:Nat}{X F:Is}{ps l:List Ha}{v a2 a3:AV}{cR:AV->Is}{y:Y4}{x0 x1 x2 x3 x4 x5 f0 f1 f2 f3 f4 f5:Int}
def R4{kd:Int}{m:ND}{u o:UD}{ca cb ra rb:Ha}{T P ins a:AV}{id vd:Int}{rd:RD}(h1:AV.one T=true)(h2:AV.one P=true)(c:AV.one ins=true)(d:AV.one a=true):(Ey kd m u ca cb T ra rb P id ins a o rd vd).all AV.one=true:=by
 simp only[pY,l3c,C4i,C4g,C4h,h1,h2,c,d,Z!,l1g]
def A1a(h:Mc H0 b1 b2 r z X F H){cs:Is}(hr:Aj H r=some (c_ Ad cs))(h1:cs.length=68)(h2:cs.all AV.one=true)(e:∀H',Wf H'->(∀s q,s≠z->Aj H s=some q->Aj H' s=some q)->K (.agg cs) H'=x):
 (AD Ae (.ptr r 0 0) H λc=>
  E4 Ae (.ptr z 0 0) c H λa=>
  AD Ae (.ptr z 0 0) a λd=>
  K d a)=x:=by
 obtain⟨i,c1,c2⟩:=h.hz;rw[Bv (cs:=cs) rfl (by exact h1.symm) hr,Ch c2 (by rw[c1,h1]) (by exact c1.symm) h2,Bv (cs:=cs) rfl (by exact h1.symm) (AC c2)];exact e _ (Bq h.wf) λs q g f=>by rw[Ag g];exact f
def push(w:Wf H)(x:Row)(a:x≠.gone):∃H' s,H'=(s,x)::H/\s=As H/\Aj H' s=some x/\Wf H'/\∀t q,Aj H t=some q->Aj H' t=some q/\t≠s:=
 ⟨_,_,rfl,rfl,Az a,AJ w,λt q h=>⟨A7 (w.lt h) h,by have:=w.lt h;omega⟩⟩
def B9u{K:K2}:Ds B7 (.ptr b 0 0) (.v (.int .i64 0)) K=K (.ptr b 0 0):=EL (z:=0) 0 rfl rfl (by decide)
def C4D{K:K2}:Ds B7 (.ptr b 0 0) (.v (.int .i64 1)) K=K (.ptr b 1 0):=EL (z:=1) 1 rfl rfl (by decide)
def C4C{K:K2}:Ds B7 (.ptr b 0 0) (.v (.int .i64 2)) K=K (.ptr b 2 0):=EL (z:=2) 2 rfl rfl (by decide)
def C4B{K:K2}:Ds B7 (.ptr b 0 0) (.v (.int .i64 3)) K=K (.ptr b 3 0):=EL (z:=3) 3 rfl rfl (by decide)
def C4A{K:K2}:Ds B7 (.ptr b 0 0) (.v (.int .i64 4)) K=K (.ptr b 4 0):=EL (z:=4) 4 rfl rfl (by decide)
def C4z{K:K2}:Ds B7 (.ptr b 0 0) (.v (.int .i64 5)) K=K (.ptr b 5 0):=EL (z:=5) 5 rfl rfl (by decide)
def rd6{a0 a1 a2 a3 a c:Int}(h:Aj H b=some (c_ Jm [I a0,I a1,I a2,I a3,I a,I c])):
 (∀{K},AD Ab (.ptr b 0 0) H K=K (I a0))/\(∀{K},AD Ab (.ptr b 1 0) H K=K (I a1))/\(∀{K},AD Ab (.ptr b 2 0) H K=K (I a2))/\(∀{K},AD Ab (.ptr b 3 0) H K=K (I a3))/\(∀{K},AD Ab (.ptr b 4 0) H K=K (I a))/\(∀{K},AD Ab (.ptr b 5 0) H K=K (I c)):=
 ⟨λ{K}=>AQ (p:=0) rfl h (by simp),λ{K}=>AQ (p:=1) rfl h (by simp),λ{K}=>AQ (p:=2) rfl h (by simp),λ{K}=>AQ (p:=3) rfl h (by simp),λ{K}=>AQ (p:=4) rfl h (by simp),λ{K}=>AQ (p:=5) rfl h (by simp)⟩
def A93(mc:Mc H0 b1 b2 r z X F H){cs cs' vs:Is}(hr:Aj H r=some (c_ Ad cs)){i:TI}{p:Nat}(a:cs.length=68)(d:p+vs.length<=68)(hz:i.size=vs.length)(h1:vs.all AV.one=true)(es:splice cs p vs=cs'):
 ∃H',(∀K:Ru,E4 i (.ptr r p 0) (.agg vs) H K=K H')/\Mc H0 b1 b2 r z X F H'/\Aj H' r=some (c_ Ad cs')/\(∀s q,s≠r->Aj H s=some q->Aj H' s=some q):=
 ⟨_,λK=>mE hr (by rw[a];exact d) hz h1,mc.upd _,by rw[es];exact AC hr,λs q e c=>by rw[Ag e];exact c⟩
def sI(hL:40000<L)(w:Wf H0)(i0:Lm x0)(i1:Lm x1)(i2:Lm x2)(i3:Lm x3)(i4:Lm x4)(i5:Lm x5)(j0:Lm f0)(j1:Lm f1)(j2:Lm f2)(j3:Lm f3)(j4:Lm f4)(j5:Lm f5)(hy:YA H0 y a2)(az:yI y)(hl:PL H0 l a3)(hb:l.length<1000)(ar:∀s∈l,s.length=32)(V:∀v H',B0 H' Av 1 v (cdM x0 x1 x2 x3 x4 x5 f0 f1 f2 f3 f4 f5 y l).ps.length (AG (cdM x0 x1 x2 x3 x4 x5 f0 f1 f2 f3 f4 f5 y l).ps)->((cdM x0 x1 x2 x3 x4 x5 f0 f1 f2 f3 f4 f5 y l).ps=[]->v=Aw)->Wf H'->(∀s q,Aj H0 s=some q->Aj H' s=some q)->(∀s,A8 v s->As H0<=s)->
  K (.agg ((cdM x0 x1 x2 x3 x4 x5 f0 f1 f2 f3 f4 f5 y l).csP v)) H'=x):
 (r! L (n+44)).call I7 [.agg [I x0,I x1,I x2,I x3,I x4,I x5],.agg [I f0,I f1,I f2,I f3,I f4,I f5],a2,a3] H0 K=x:=by
 rw[sV];unfold VV Em A3 Mf;obtain⟨H1,b1,O,s1,l1,w1,k1⟩:=push w (c_ Jm [I x0,I x1,I x2,I x3,I x4,I x5]) (by simp);rw[En (cs:=[I x0,I x1,I x2,I x3,I x4,I x5]) rfl,<-s1,<-O];obtain⟨H2,b2,e2,s2,l2,w2,k2⟩:=push w1 (c_ Jm [I f0,I f1,I f2,I f3,I f4,I f5]) (by simp);rw[En (cs:=[I f0,I f1,I f2,I f3,I f4,I f5]) rfl,<-s2,<-e2];obtain⟨H3,z,P,s3,l3,w3,k3⟩:=push w2 (c_ Ad CJ) (by simp);rw[B3 (cs:=CJ) rfl,<-s3,<-P];obtain⟨H4,r,e4,s4,l4,w4,k4⟩:=push w3 (c_ Ad CJ) (by simp);have m1:=k2 _ _ l1;have m2:=k3 _ _ m1.1;have m3:=k3 _ _ l2;have q1:=k4 _ _ m2.1;have q2:=k4 _ _ m3.1;have q3:=k4 _ _ l3;have g1:As H0<=b1:=by omega
 have g2:As H0<=b2:=by have:=w1.lt l1;omega
 have g3:As H0<=z:=by have:=w2.lt l2;omega
 have g4:As H0<=r:=by have:=w3.lt l3;omega
 have af:∀s q,Aj H0 s=some q->Aj H4 s=some q:=λs q j=>(k4 _ _ (k3 _ _ (k2 _ _ (k1 _ _ j).1).1).1).1;clear O e2 P s1 s2 s3 k1 k2 k3 m1 m3 l1 l2 w1 w2;have p0:=FQ (c:=x0) (n:=3) (by decide);have p1:=FQ (c:=x1) (n:=3) (by decide);have p2:=FQ (c:=x2) (n:=9) (by decide);have p3:=FQ (c:=x3) (n:=4) (by decide);have c0:∀{H K},Ao (r! L (n+43)) BM [I x0,.v (.int .i64 3)] H K=K (I (pk x0 3)):=λ{H K}=>MB (n:=n+42) i0 (by decide) (by decide) H K;have c1:∀{H K},Ao (r! L (n+43)) BM [I x1,.v (.int .i64 3)] H K=K (I (pk x1 3)):=λ{H K}=>MB (n:=n+42) i1 (by decide) (by decide) H K;have c2:∀{H K},Ao (r! L (n+43)) BM [I x2,.v (.int .i64 9)] H K=K (I (pk x2 9)):=λ{H K}=>MB (n:=n+42) i2 (by decide) (by decide) H K;have c3:∀{H K},Ao (r! L (n+43)) BM [I x3,.v (.int .i64 4)] H K=K (I (pk x3 4)):=λ{H K}=>MB (n:=n+42) i3 (by decide) (by decide) H K;have c4:∀{H K},Ao (r! L (n+43)) BM [I x4,.v (.int .i64 50)] H K=K (I (pk x4 50)):=λ{H K}=>MB (n:=n+42) i4 (by decide) (by decide) H K;have c5:∀{H K},Ao (r! L (n+43)) BM [I x5,.v (.int .i64 30)] H K=K (I (pk x5 30)):=λ{H K}=>MB (n:=n+42) i5 (by decide) (by decide) H K;have a0:∀{K:K2},Ap Ab .add (.v (.int .i64 1)) (I (pk x0 3)) K=K (I (1+pk x0 3)):=λ{K}=>by rw[Do,CV (by omega) (by omega)]
 have a1:∀{K:K2},Ap Ab .add (.v (.int .i64 1)) (I (pk x1 3)) K=K (I (1+pk x1 3)):=λ{K}=>by rw[Do,CV (by omega) (by omega)]
 have Z:∀{K:K2},Ap Ab .add (.v (.int .i64 1)) (I (pk x2 9)) K=K (I (1+pk x2 9)):=λ{K}=>by rw[Do,CV (by omega) (by omega)]
 have aa:∀{K:K2},Ap Ab .add (.v (.int .i64 1)) (I (pk x3 4)) K=K (I (1+pk x3 4)):=λ{K}=>by rw[Do,CV (by omega) (by omega)]
 obtain⟨m,d1,d2,A,B,C⟩:=rd6 m2.1;simp only[B9u,C4D,C4C,C4B,C4A,C4z,m,d1,d2,A,B,C,c0,c1,c2,c3,c4,c5,a0,a1,Z,aa,B4];clear m d1 d2 A B C;have bd:∀{a b c d e f:Int}{K:K2},Ca Ae [(0,1,I a),(1,1,I b),(2,1,I c),(3,1,I d),(4,1,I e),(5,1,I f)] K=K (.agg (Ey a ⟨b,c,d,e,f⟩ u0 [] [] Aw [] [] Aw 0 Aw Aw u0 r0 0)):=λ{a b c d e f K}=>r_ rfl;rw[bd,B4,B3 (cs:=CJ) rfl,Cb,<-s4,<-e4,Ch (vs:=Ey (1+pk x0 3) ⟨1+pk x1 3,1+pk x2 9,1+pk x3 4,pk x4 50,pk x5 30⟩ u0 [] [] Aw [] [] Aw 0 Aw Aw u0 r0 0) l4 rfl rfl rfl,Cb];clear e4 s4;obtain⟨m,d1,d2,A,B,C⟩:=rd6 q1.1;simp only[m,d1,d2,A,B,C,c0,c1,c2,c3,c4,c5,okI];clear m d1 d2 A B C c0 c1 c2 c3 c4 c5 a0 a1 Z aa bd;have mc:Mc H0 b1 b2 r z [I x0,I x1,I x2,I x3,I x4,I x5] [I f0,I f1,I f2,I f3,I f4,I f5] H4:=⟨q1.1,q2.1,⟨_,rfl,q3.1⟩,w4,q1.2,q2.2,q3.2,g1,g2,g4,g3,w,af⟩
 have u:=mc.upd (c_ Ad (Ey (1+pk x0 3) ⟨1+pk x1 3,1+pk x2 9,1+pk x3 4,pk x4 50,pk x5 30⟩ u0 [] [] Aw [] [] Aw 0 Aw Aw u0 r0 0));have r5:=AC (q:=true) (e:=Ad) (cs:=Ey (1+pk x0 3) ⟨1+pk x1 3,1+pk x2 9,1+pk x3 4,pk x4 50,pk x5 30⟩ u0 [] [] Aw [] [] Aw 0 Aw Aw u0 r0 0) l4;generalize Go.Abs.upd H4 r (c_ Ad (Ey (1+pk x0 3) ⟨1+pk x1 3,1+pk x2 9,1+pk x3 4,pk x4 50,pk x5 30⟩ u0 [] [] Aw [] [] Aw 0 Aw Aw u0 r0 0))=H5 at u r5;clear mc af q1 q2 q3 k4 l4 w4 l3 w3 m2 g1 g2 g3 g4 H4 H3 H2 H1;have ag:∀{H K},Ao (r! L (n+43)) Rk [I (x3.tdiv 4),I (x4.tdiv 50),.agg [I f0,I f1,I f2,I f3,I f4,I f5]] H K=K (.agg [S (qn (pk (x3.tdiv 4) 161-80)),S (qd (pk (x3.tdiv 4) 161-80)),FF (Lq [f0,f1,f2,f3,f4,f5] 6),S (qn (pk (x4.tdiv 50) 9)),S (qd (pk (x4.tdiv 50) 9))]):=λ{H K}=>
  AR (A9J (n:=n+2) (xs:=[f0,f1,f2,f3,f4,f5]) (by omega) (NG i3 (by decide)) (NG i4 (by decide)) rfl (by simp[j0,j1,j2,j3,j4,j5]))
   (An (q:=false) C7 (An (q:=false) C7 (An (L2 (D:=depth-1) (KS (λz:Int=>Value.int .i64 z) [f0,f1,f2,f3,f4,f5])) AK)))
 have lF:∀{K},AD B7 (.ptr b2 0 0) H5 K=K (.agg [I f0,I f1,I f2,I f3,I f4,I f5]):=λ{K}=>Bv rfl rfl u.h2;obtain⟨m,d1,d2,A,B,C⟩:=rd6 u.h1;obtain⟨H6,ak,R,r6, -⟩:=A93 (i:=Fg) (p:=26) (vs:=[S (qn (pk (x3.tdiv 4) 161-80)),S (qd (pk (x3.tdiv 4) 161-80)),FF (Lq [f0,f1,f2,f3,f4,f5] 6),S (qn (pk (x4.tdiv 50) 9)),S (qd (pk (x4.tdiv 50) 9))]) u r5 rfl (by show 26+5<=68;decide) rfl (by show(true&&(true&&(AV.one (FF (Lq [f0,f1,f2,f3,f4,f5] 6))&&(true&&(true&&true)))))=true;rw[VA];rfl)
  (cs':=Ey (1+pk x0 3) ⟨1+pk x1 3,1+pk x2 9,1+pk x3 4,pk x4 50,pk x5 30⟩ u0 (qn (pk (x3.tdiv 4) 161-80)) (qd (pk (x3.tdiv 4) 161-80)) (FF (Lq [f0,f1,f2,f3,f4,f5] 6)) (qn (pk (x4.tdiv 50) 9)) (qd (pk (x4.tdiv 50) 9)) Aw 0 Aw Aw u0 r0 0) rfl
 rw[A,mU i3 (by decide),B,mU i4 (by decide),lF,ag,dV,ak];clear m d1 d2 A B C lF ak u r5 ag;have ae:∀{H K},Ao (r! L (n+43)) Gs [I (x5.tdiv 30)] H K=K (.agg (CL (uu (pk (x5.tdiv 30) 7).toNat))):=λ{H K}=>A3f (n:=n+1) (NG i5 (by decide)) H K;obtain⟨m,d1,d2,A,B,C⟩:=rd6 R.h1;obtain⟨H7,am,g,r7, -⟩:=A93 (i:=A1) (p:=6) (vs:=CL (uu (pk (x5.tdiv 30) 7).toNat)) R r6 rfl (by show 6+20<=68;decide) rfl rfl
  (cs':=Ey (1+pk x0 3) ⟨1+pk x1 3,1+pk x2 9,1+pk x3 4,pk x4 50,pk x5 30⟩ (uu (pk (x5.tdiv 30) 7).toNat) (qn (pk (x3.tdiv 4) 161-80)) (qd (pk (x3.tdiv 4) 161-80)) (FF (Lq [f0,f1,f2,f3,f4,f5] 6)) (qn (pk (x4.tdiv 50) 9)) (qd (pk (x4.tdiv 50) 9)) Aw 0 Aw Aw u0 r0 0) rfl
 have lk:∀{K},AD Ab (.ptr r 0 0) H7 K=K (I (1+pk x0 3)):=λ{K}=>AQ (p:=0) rfl r7 (show 0<68 by decide);rw[C,mU i5 (by decide),ae,dV,am,dV,lk,CQ];clear m d1 d2 A B C am R r6 ae lk;by_cases h0:pk x0 3=0
 ·have J:cdM x0 x1 x2 x3 x4 x5 f0 f1 f2 f3 f4 f5 y l=.re (cbM x1 x2 x3 x4 x5 [f0,f1,f2,f3,f4,f5]) (pk (x5.tdiv 30) 7).toNat:=Dl h0;have O:1+pk x0 3=1:=by omega
  rw[Hj O,Cr];rw[J]at V;rw[O]at r7;refine A1a g r7 rfl (R4 (VA _) rfl rfl rfl) λH' w' kp=>?_;exact V Aw H' (.inl ⟨rfl,rfl,rfl⟩) (λ_=>rfl) w' (λs q j=>kp s q (by have:=g.w0.lt j;have:=g.f4;omega) (g.kp s q j)) (λs ⟨_,_,_,h⟩=>by cases h)
 ·have J:cdM x0 x1 x2 x3 x4 x5 f0 f1 f2 f3 f4 f5 y l=.co (cbM x1 x2 x3 x4 x5 [f0,f1,f2,f3,f4,f5]) (pW [f0,f1,f2] (x2.tdiv 9) y) (I_ x1 l (pW [f0,f1,f2] (x2.tdiv 9) y).ks.length) (if pk x0 3=1 then none else some (1+(pk (x0.tdiv 3) 3).toNat,1+pk (x0.tdiv 9) 3)):=C5 h0;rw[J]at V;clear J;have Q:∀{K},Ao (r! L (n+43)) Rj [.agg [I f0,I f1,I f2],I (x2.tdiv 9),a2,.v (.bool true)] H7 K=K (.agg (BI (pW [f0,f1,f2] (x2.tdiv 9) y).id (BP (pW [f0,f1,f2] (x2.tdiv 9) y).ks) (Cu (pW [f0,f1,f2] (x2.tdiv 9) y).xs) (uu (pW [f0,f1,f2] (x2.tdiv 9) y).out))):=λ{K}=>by
   obtain⟨q,hq⟩:=hy H7 g.kp;exact AR (A9I (n:=n) (ins:=[f0,f1,f2]) (by omega) rfl (by simp[j0,j1,j2]) (NG i2 (by decide)) az) (An (L2 (D:=depth-1) (KS (λz:Int=>Value.int .i64 z) [f0,f1,f2])) (An (q:=false) C7 (An hq (An (q:=false) C7 AK))))
  have hp:=A3o (ins:=[f0,f1,f2]) (count:=x2.tdiv 9) (y:=y) rfl;generalize pW [f0,f1,f2] (x2.tdiv 9) y=p at V Q hp;have O:¬(1+pk x0 3=1):=by omega
  rw[HX O,Bh];obtain⟨g0,g1,g2, -, -, -⟩:=rd6 g.h2;obtain⟨m,d1,d2, -, -, -⟩:=rd6 g.h1;have b3:∀{K:K2},Ca RE [(0,1,I f0),(1,1,I f1),(2,1,I f2)] K=K (.agg [I f0,I f1,I f2]):=λ{K}=>r_ rfl;obtain⟨H8,an,ah,r8, -⟩:=A93 (i:=AS) (p:=32) (vs:=BI p.id (BP p.ks) (Cu p.xs) (uu p.out)) g r7 rfl (by show 32+23<=68;decide) rfl (yG rfl rfl)
   (cs':=Ey (1+pk x0 3) ⟨1+pk x1 3,1+pk x2 9,1+pk x3 4,pk x4 50,pk x5 30⟩ (uu (pk (x5.tdiv 30) 7).toNat) (qn (pk (x3.tdiv 4) 161-80)) (qd (pk (x3.tdiv 4) 161-80)) (FF (Lq [f0,f1,f2,f3,f4,f5] 6)) (qn (pk (x4.tdiv 50) 9)) (qd (pk (x4.tdiv 50) 9)) Aw p.id (BP p.ks) (Cu p.xs) (uu p.out) r0 0) rfl
  have lu:∀{K},AD A1 (.ptr r 35 0) H8 K=K (.agg (CL (uu p.out))):=λ{K}=>GB (p:=35) rfl r8 (show 55<=68 by decide);obtain⟨H9,ao,ai,r9, -⟩:=A93 (i:=A1) (p:=6) (vs:=CL (uu p.out)) ah r8 rfl (by show 6+20<=68;decide) rfl rfl
   (cs':=Ey (1+pk x0 3) ⟨1+pk x1 3,1+pk x2 9,1+pk x3 4,pk x4 50,pk x5 30⟩ (uu p.out) (qn (pk (x3.tdiv 4) 161-80)) (qd (pk (x3.tdiv 4) 161-80)) (FF (Lq [f0,f1,f2,f3,f4,f5] 6)) (qn (pk (x4.tdiv 50) 9)) (qd (pk (x4.tdiv 50) 9)) Aw p.id (BP p.ks) (Cu p.xs) (uu p.out) r0 0) rfl
  have f35:∀{K:K2},CY 3 (.ptr r 32 0) K=K (.ptr r 35 0):=λ{K}=>by rw[fA]
  rw[g0,g1,g2,b3,d2,mU i2 (by decide),Q,dV,an,dV,f35,lu,dV,ao];clear g0 g1 g2 m d1 d2 b3 an ah r8 lu ao f35 Q g r7;refine PE λa7 ab=>?_;refine PE λa6 N=>?_;have hc:CR (λv=>Ey (1+pk x0 3) ⟨1+pk x1 3,1+pk x2 9,1+pk x3 4,pk x4 50,pk x5 30⟩ (uu p.out) (qn (pk (x3.tdiv 4) 161-80)) (qd (pk (x3.tdiv 4) 161-80)) (FF (Lq [f0,f1,f2,f3,f4,f5] 6)) (qn (pk (x4.tdiv 50) 9)) (qd (pk (x4.tdiv 50) 9)) v p.id (BP p.ks) (Cu p.xs) (uu p.out) r0 0) p.ks:=⟨λ_=>rfl,λ_ _=>rfl,λ_=>rfl,λ_=>rfl⟩
  refine C1S (n:=n) (l:=l) hL hc i1 hp.k3 hl hb ar ?_ (L+20) 0 Aw _ _ H9 (by omega) (by have:=hp.k3;omega) ⟨ai,r9,.inl ⟨rfl,rfl,rfl⟩,λ_=>rfl,λs ⟨_,_,_,h⟩=>by cases h⟩;intro v H t;rw[N,ab];clear N ab ai r9;refine PE λa4 ac=>?_;have k:∀(cs:Is)(Y:Hp),Mc H0 b1 b2 r z [I x0,I x1,I x2,I x3,I x4,I x5] [I f0,I f1,I f2,I f3,I f4,I f5] Y->Aj Y r=some (c_ Ad cs)->cs.length=68->cs.all AV.one=true->cs=(Cd.co (cbM x1 x2 x3 x4 x5 [f0,f1,f2,f3,f4,f5]) p (I_ x1 l p.ks.length) (if pk x0 3=1 then none else some (1+(pk (x0.tdiv 3) 3).toNat,1+pk (x0.tdiv 9) 3))).csP v->(∀s q,s≠r->Aj H s=some q->Aj Y s=some q)->a4 Y=x:=by
   intro cs Y M rx c1 c2 aq kx;rw[ac];refine A1a M rx c1 c2 λH' w' kp=>?_;rw[aq];refine V v H' ?_ t.nv w' (λs q j=>kp s q (by have:=M.w0.lt j;have:=M.f4;omega) (M.kp s q j)) (λs j=>(t.fr s j).1);exact t.sv.kp λs q j hl=>kp s q (t.fr s j).2.2.2.2 (kx s q (t.fr s j).2.2.2.1 hl)
  clear ac V;have lk:∀{K},AD Ab (.ptr r 0 0) H K=K (I (1+pk x0 3)):=λ{K}=>AQ (p:=0) rfl t.hr (show 0<68 by decide);rw[dV,lk,CQ];by_cases h1:pk x0 3=1
  ·have P:¬(1+pk x0 3=3):=by omega
   rw[HX P,Bh];rw[Dl h1]at k;have e2:1+pk x0 3=2:=by omega
   have hr:=t.hr;rw[e2]at hr;exact k _ H t.mc hr rfl (R4 (VA _) (B0.one t.sv) rfl rfl) rfl (λs q _ h=>h)
  ·have P:1+pk x0 3=3:=by omega
   have pv:=FQ (c:=x0.tdiv 9) (n:=3) (by decide);rw[Hj P,Cr];rw[C5 h1]at k;have hr:=t.hr;rw[P]at hr;have ay:∀{H K},Ao (r! L (n+43)) Kq [I (x0.tdiv 3)] H K=K (.agg (rr (1+(pk (x0.tdiv 3) 3).toNat)).cs):=λ{H K}=>B3Q (n:=n+41) (NG i0 (by decide)) H K;have ax:∀{H K},Ao (r! L (n+43)) BM [I (x0.tdiv 9),.v (.int .i64 3)] H K=K (I (pk (x0.tdiv 9) 3)):=λ{H K}=>MB (n:=n+42) (NG i0 (by decide)) (by decide) (by decide) H K;have ad:∀{K:K2},Ap Ab .add (.v (.int .i64 1)) (I (pk (x0.tdiv 9) 3)) K=K (I (1+pk (x0.tdiv 9) 3)):=λ{K}=>by rw[Do,CV (by omega) (by omega)]
   obtain⟨m, -⟩:=rd6 t.mc.h1;obtain⟨HA,a5,aj,rA,kA⟩:=A93 (i:=DV) (p:=55) (vs:=(rr (1+(pk (x0.tdiv 3) 3).toNat)).cs) t.mc hr rfl (by show 55+9<=68;decide) rfl rfl
    (cs':=Ey 3 ⟨1+pk x1 3,1+pk x2 9,1+pk x3 4,pk x4 50,pk x5 30⟩ (uu p.out) (qn (pk (x3.tdiv 4) 161-80)) (qd (pk (x3.tdiv 4) 161-80)) (FF (Lq [f0,f1,f2,f3,f4,f5] 6)) (qn (pk (x4.tdiv 50) 9)) (qd (pk (x4.tdiv 50) 9)) v p.id (BP p.ks) (Cu p.xs) (uu p.out) (rr (1+(pk (x0.tdiv 3) 3).toNat)) 0) rfl
   obtain⟨ap, -⟩:=rd6 aj.h1;rw[B9u,m,mU i0 (by decide),ay,dV,a5,B9u,ap,mU i0 (by decide),ax,ad,dV,Ei rA (show 64<68 by decide) rfl rfl rfl];exact k _ _ (aj.upd _) (AC rA) rfl (R4 (VA _) (B0.one t.sv) rfl rfl) rfl (λs q j h=>by rw[Ag j];exact kA s q j h)
end
end
end Go.Abs
end
