import Derived.Test.YtjbpmepbnkbmfaaGreatDoorP25
set_option linter.all false
set_option maxHeartbeats 0
noncomputable section
namespace Go.Abs
open Go.RowKit Go.Proofs
set_option maxRecDepth 100000
section
variable{L n:Nat}
abbrev Y4:=Option (Int×Int×Int×Int)
def exY(ks:Hb):Y4->Ex
 |none=>.no
 |some (a,b,c,d)=>exM ks a b c d
def yA:Y4->AV
 |none=>Aw
 |some (a,b,c,d)=>.list 1 [I a,I b,I c,I d]
def yI:Y4->Prop
 |none=>True
 |some (a,b,c,d)=>Kv a/\Kv b/\Kv c/\Kv d
def rR(ins:List Int)(count:Int)(y:Y4):Pr:=⟨1+(pk count 900).toNat,ksM ins ((pk count 3).toNat+1),exY (ksM ins ((pk count 3).toNat+1)) y⟩
section
variable{K:KV}{x:Af}{ins:List Int}{id:Int}{ks us:Hb}{xs:List Nd}{v w u:AV}{b r z:Nat}{H H':Hp}{count:Int}{y:Y4}
def A6l(h:ins.length=3):(ksM ins ((pk count 3).toNat+1)).length=(pk count 3).toNat+1/\(pk count 3).toNat<3:=by
 have pr:=FT (c:=count) (n:=3) (by decide);unfold ksM;rw[QK,E!];omega
def B7d{i:Nat}:∀k∈ksM ins i,k<7:=by
 intro k a;obtain⟨c,_,rfl⟩:=Pu.1 a;have pr:=FT (c:=c) (n:=7) (by decide);omega
def A4f(h:ins.length=3):(rR ins count y).Ok:=by
 have pr:=FT (c:=count) (n:=900) (by decide);have⟨h1,h2⟩:=A6l (count:=count) h;have e:(rR ins count y).ks.length=(pk count 3).toNat+1:=h1;refine⟨by show 1<=1+_;omega,by show 1+_<950;omega,by rw[e];omega,by rw[e];omega,B7d,?_⟩
 match y with
 |none=>exact trivial
 |some (a,b,c,d)=>exact C1d (by show 1<=(ksM ins ((pk count 3).toNat+1)).length;rw[h1];omega)
def B0U(sv:Bp H AB 20 v ks.length (ks.flatMap HM))(nv:ks=[]->v=Aw)(sw:Bp H AX 26 w xs.length (xs.flatMap X'))(nw:xs=[]->w=Aw)(h1:1<=ks.length)(h2:1<=xs.length){D:Nat}{bb:Bool}{o:UD}:∃q,Fx bb (D+2) (.agg (B0 id v w o)) (.agg (B0 id (BE ks) (Ck xs) o)) H q:=by
 have⟨q1,a⟩:=nW (D:=D) (b:=bb) sv nv;have⟨q2,c⟩:=B1K (D:=D) (b:=bb) sw nw;rw[A5Q h1]at a;rw[A6d h2]at c;exact⟨_,L0 (D:=D+1) (Al (q:=false) C7 (Al a (Al c (Lz (b:=bb) (D:=D+1) (H:=H) (λx:Value=>x) [.int .i64 o.p0,.int .i64 o.q0,.int .i64 o.p1,.int .i64 o.q1,.int .i64 o.p2,.int .i64 o.q2,.int .i64 o.p3,.int .i64 o.q3,.int .i64 o.p4,.int .i64 o.q4,.int .i64 o.p5,.int .i64 o.q5,.int .i64 o.p6,.int .i64 o.q6,
  .string ⟨⟨o.fn⟩⟩,.string ⟨⟨o.fd⟩⟩,.string ⟨⟨o.on⟩⟩,.string ⟨⟨o.od⟩⟩,.int .i64 o.kd,.int .i64 o.sc]))))⟩
def B?{o:UD}(h1:AV.one v=true)(h2:AV.one w=true):(B0 id v w o).all AV.one=true:=by
 show(true&&(AV.one v&&(AV.one w&&true)))=true;rw[h1,h2];rfl
def C0x(h:Md b r z ins id ks xs us v w u H)(h1:1<=ks.length)(h2:1<=xs.length)(Y:us.length=xs.length)(Z:us.length<1000)(O:∀P N,(∀b,∃q,Fx b depth P (.agg (B0 id (BE ks) (Ck xs) (uu (us.getD (xs.length-1) 0)))) N q)->K P N=x):
 (Ba Ak u λp=>
  Aq Ad .sub p (AV.v (.int .i64 1)) λA=>
  D4 Ak u A λB=>
  AE A0 B H λC=>
  CI 3 (.ptr r 0 0) λF=>
  DE A0 F C H λc=>
  AE AU (.ptr r 0 0) c λJ=>
  DE AU (.ptr z 0 0) J c λd=>
  AE AU (.ptr z 0 0) d λM=>
  K M d)=x:=by
 have f:us.length-1<us.length:=by omega
 have⟨a,X,g⟩:=A5P h.su f;have R:us[us.length-1]=us.getD (xs.length-1) 0:=by rw[<-Y];simp[List.getD,KJ f]
 rw[R]at g;generalize us.getD (xs.length-1) 0=k at g O;have⟨cs,c1,c2⟩:=h.hz;rw[LD (t:=Ak) rfl h.su,iH (by omega) (by omega),X,g,Wh,gA (vs:=Cz (uu k)) h.hr (show 3+20<=23 by decide) rfl rfl];have r1:=AC (q:=true) (e:=Co) (cs:=B0 id v w (uu k)) h.hr;have Q:Ah (Go.Abs.upd H r (Jg id v w (uu k))) z=some (c_ Co cs):=by rw[Ag h.zr];exact c2
 have V:splice (B0 id v w u0) 3 (Cz (uu k))=B0 id v w (uu k):=rfl;rw[V,Bu (cs:=B0 id v w (uu k)) rfl rfl r1,BO Q (by exact c1.symm) (by exact c1.symm) (B? (Bp.one h.sv) (Bp.one h.sw)),Bu (cs:=B0 id v w (uu k)) rfl rfl (AC Q)];refine O _ _ λq=>?_;refine B0U (D:=depth-2) (h.sv.kp λs x j i=>?_) h.nv (h.sw.kp λs x j i=>?_) h.nw h1 h2
 ·have:=h.av s j;rw[Ag this.2.2.1,Ag this.2.1];exact i
 ·have:=h.aw s j;rw[Ag this.2.2.1,Ag this.2.1];exact i
def B0G(D:100<L)(hi:ins.length=3)(d:∀c∈ins,Kv c)(hc:Kv count)(p:yI y):
 CS (r! L (n+43)) RE [.agg (Ff ins),I count,yA y,Bo true] (.agg (B0 (rR ins count y).id (BE (rR ins count y).ks) (Ck (rR ins count y).xs) (uu (rR ins count y).out))):=by
 intro K V;have F:=A4f (count:=count) (y:=y) hi;have⟨p1,p2,p3⟩:=mM F;have⟨B,Z⟩:=A6l (count:=count) hi;have pr:=FT (c:=count) (n:=900) (by decide);rw[uU];unfold Xj Ia A4;have k1:∀H K,Ap (r! L (n+42)) C5 [I count,.v (.int .i64 900)] H K=K (I (pk count 900)):=MV (n:=n+41) hc (by decide) (by decide);have A:((rR ins count y).id:Int)=1+pk count 900:=by show((1+(pk count 900).toNat:Nat):Int)=_;omega
 have M:∀{K:K2},Aq Ad .add (.v (.int .i64 1)) (I (pk count 900)) K=K (I ((rR ins count y).id:Int)):=λ{K}=>by rw[Dp,CX (by omega) (by omega),A]
 have N:∀{i:Int}{K:K2},Cb AU [(0,1,I i)] K=K (.agg (B0 i Aw Aw u0)):=λ{i K}=>r_ rfl;rw[DZ (F' ins)];have hb:=Ay (H:=[]) (x:=.cells true Vz (Ff ins)) (by simp);have w0:=AG (x:=.cells true Vz (Ff ins)) Ft;generalize ((Ar [],c_ Vz (Ff ins))::([]:Hp))=j at hb w0;generalize Ar []=b at hb;rw[Bv (cs:=B0 0 Aw Aw u0) rfl];have hz:=Ay (H:=j) (x:=.cells true Co (B0 0 Aw Aw u0)) (by simp);have b1:=A6 (x:=.cells true Co (B0 0 Aw Aw u0)) (w0.lt hb) hb;have w1:=AG (x:=.cells true Co (B0 0 Aw Aw u0)) w0;generalize ((Ar j,c_ Co (B0 0 Aw Aw u0))::j)=J at hz w1 b1;generalize Ar j=z at hz;rw[k1,M,N,Bv (cs:=B0 0 Aw Aw u0) rfl];have⟨C,Q,r2,X,kp⟩:=GC (e:=Co) (zs:=B0 0 Aw Aw u0) (vs:=B0 (rR ins count y).id Aw Aw u0) w1 rfl;rw[BO (cs:=B0 0 Aw Aw u0) (vs:=B0 (rR ins count y).id Aw Aw u0) (Ay (by simp)) rfl rfl rfl,<-Q];have⟨b2,f⟩:=kp _ _ b1;have⟨Y,g⟩:=kp _ _ hz;generalize Ar J=r at r2 f g;have no:∀{s:Nat}{P:Prop},A8 Aw s->P:=λ⟨_,_,_,h⟩=>by cases h
 have R:Md b r z ins (rR ins count y).id (ksM ins 0) [] [] Aw Aw Aw C:=⟨b2,r2,⟨_,rfl,Y⟩,.inl ⟨rfl,rfl,rfl⟩,λ_=>rfl,.inl ⟨rfl,rfl,rfl⟩,λ_=>rfl,.inl ⟨rfl,rfl,rfl⟩,λ_=>rfl,f,g,λ_=>no,λ_=>no,λ_=>no,X⟩
 simp only[BF];refine C3o D hi d hc (λv H k=>?_) (L+20) 0 Aw C (by omega) (by omega) R;refine C3p (n:=n) D (by rw[B];omega) (λw u H k=>?_) (L+20) 0 Aw Aw H (by omega) (by omega) k;have fin:∀t q H',Md b r z ins (rR ins count y).id (rR ins count y).ks (rR ins count y).xs (rR ins count y).ty v t q H'->_:=λt q H' a=>C0x (K:=K) a F.k1 p2 p1 (by omega) V
 match y with
 |none=>
  show MS (L+20) (r! L (n+42)) K _ ((L+19)+1) _ Aw _ _ _ _ _ _ _ _ H=_;rw[QY];unfold MT DN Yo OV Ia D5 Fg A4 Ks FW;have el:∀{K:K2},Ba JF Aw K=K (I ((0:Nat):Int)):=λ{K}=>r_ rfl;have O:(AV.v (.int .i64 0))=I ((0:Nat):Int):=rfl;rw[el,O,Fk (by omega)];simp only[dY,BK,QA];rw[AY];refine fin w u H ?_;show Md b r z ins _ _ (Ly _++[]) (_++[]) v w u H;rw[Vq,Vq];exact k
 |some (y0,y1,y2,y3)=>
  exact C3q (n:=n) k (by rw[B];omega) (by rw[B];omega) B7d p.1 p.2.1 p.2.2.1 p.2.2.2 (λt q H' a=>fin t q H' a) (L+18)
end
end
section
variable{x1:Int}{ks:Hb}{i:Nat}
variable{L n:Nat}
def PL(H:Hp)(l:List Ha)(a:AV):Prop:=SA l a\/Bp H Au 1 a l.length (AF l)
section
variable{H H':Hp}{l:List Ha}{a:AV}{K:K2}
def PL.len(h:PL H l a):Ba Ac a K=K (I l.length):=by
 rcases h with h|h
 ·exact h.len
 ·exact LD (t:=Ac) rfl h
def B03(h:Bp H Au 1 a l.length (AF l))(hi:i<l.length):(D4 Ac a (I i) λp=>AE Ai p H K)=K (S l[i]):=by
 rcases h with⟨_,h2,_⟩|⟨r,q,rfl,h2,b⟩
 ·omega
 ·have c:∀K:K2,D4 Ac (.sl 1 r 0 l.length) (I (i:Int)) K=iN (i:Int) λm=>ck (Nat.blt m l.length) (fN (Nat.add 0 (Nat.mul m 1)) λp=>K (.ptr r p 0)):=λK=>r_ rfl;rw[c,JU,DF];have b:Nat.blt i l.length=true:=by rw[Wg];exact hi
  rw[b];show AE Ai (.ptr r (0+i*1) 0) H K=_;rw[JZ,rT,AL rfl h2 (by simp[AF];exact hi),PK hi]
def PL.at(h:PL H l a)(hi:i<l.length):(D4 Ac a (I i) λp=>AE Ai p H K)=K (S l[i]):=by
 rcases h with h|h
 ·rw[h.ia hi,JS]
 ·exact B03 h hi
def PL.at2(h:PL H l a)(hi:i<l.length):∃p,(∀K:K2,D4 Ac a (I i) K=K p)/\∀K:K2,AE Ai p H K=K (S l[i]):=by
 rcases h with h|h
 ·exact⟨_,λK=>h.ia hi,λK=>JS⟩
 ·rcases h with⟨_,h2,_⟩|⟨r,q,rfl,h2,b⟩
  ·omega
  ·refine⟨.ptr r i 0,λK=>?_,λK=>by rw[AL rfl h2 (by simp[AF];exact hi),PK hi]⟩;have c:∀K:K2,D4 Ac (.sl 1 r 0 l.length) (I (i:Int)) K=iN (i:Int) λm=>ck (Nat.blt m l.length) (fN (Nat.add 0 (Nat.mul m 1)) λp=>K (.ptr r p 0)):=λK=>r_ rfl;rw[c,JU,DF];have b:Nat.blt i l.length=true:=by rw[Wg];exact hi
   rw[b];show K (.ptr r (0+i*1) 0)=_;rw[JZ,rT]
def PL.kp(h:PL H l a)(k:∀s x,Ah H s=some x->Ah H' s=some x):PL H' l a:=by
 rcases h with h|h
 ·exact .inl h
 ·exact .inr (h.kp λs x _=>k s x)
end
def YA(H:Hp)(y:Y4)(a:AV):Prop:=∀H',(∀s x,Ah H s=some x->Ah H' s=some x)->∃q,Fx true depth a (yA y) H' q
def iS(i:Int)(p:Ha)(ps:List Ha):Ha:=ps.foldl (λp q=>if q=p then W? (-1-i) else p) p
def V?(x1:Int)(l:List Ha):Nat->List Ha
 |0=>[]
 |i+1=>V? x1 l i++[iS i (if h:i<l.length then l[i] else W? (pk (x1.tdiv 3) 1000+i)) (V? x1 l i)]
def iO{l:List Ha}:∀i,(V? x1 l i).length=i:=by
 intro i
 induction i with
 |zero=>rfl
 |succ i ih=>simp[V?,ih]
def A1R(c:Int):(W? c).length=32:=YP _ 8
def A7O{i:Int}:∀(ps:List Ha)(p:Ha),p.length=32->(iS i p ps).length=32:=by
 intro ps
 induction ps with
 |nil=>intro p h;exact h
 |cons q ps ih=>
  intro p h;show(iS i (if q=p then W? (-1-i) else p) ps).length=32;by_cases hq:q=p
  ·rw[Dv hq];exact ih _ (A1R _)
  ·rw[CL hq];exact ih _ h
def C0g{l:List Ha}(c:∀s∈l,s.length=32):∀i,∀s∈V? x1 l i,s.length=32:=by
 intro i
 induction i with
 |zero=>intro s b;simp[V?]at b
 |succ i ih=>
  intro s b;rcases dV.1 b with b|b
  ·exact ih s b
  ·rw[XY]at b;subst b;apply A7O;by_cases h:i<l.length
   ·rw[dif_pos h];exact c _ (Ql h)
   ·rw[dif_neg h];exact A1R _
def Ol{a b:Int}(h:Kv a)(hb:1<=b):Kv (a.tdiv b):=by
 unfold Kv at h⊢;by_cases c:0<=a
 ·have h1:=Int.tdiv_nonneg c (by omega:0<=b);have h2:a.tdiv b<=a:=Int.tdiv_le_self b c;omega
 ·have e:a.tdiv b= -((-a).tdiv b):=by rw[Int.neg_tdiv,Int.neg_neg]
  have h1:=Int.tdiv_nonneg (by omega:0<= -a) (by omega:0<=b);have h2:(-a).tdiv b<= -a:=Int.tdiv_le_self b (by omega);omega
def oR{a b:Int}{K:K2}(h:Kv a)(hb:1<=b):Aq Ad .quo (I a) (.v (.int .i64 b)) K=K (I (a.tdiv b)):=by
 have h1:=Ol h hb;rw[A2N (by omega),CX h1.1 h1.2]
structure Mc(H0:Hp)(b1 b2 r z:Nat)(X F:Is)(H:Hp):Prop where
 h1:Ah H b1=some (c_ Jv X)
 h2:Ah H b2=some (c_ Jv F)
 hz:∃cs,cs.length=68/\Ah H z=some (c_ Ab cs)
 wf:Wf H
 n1:b1≠r
 n2:b2≠r
 nz:z≠r
 f1:Ar H0<=b1
 f2:Ar H0<=b2
 f3:Ar H0<=r
 f4:Ar H0<=z
 w0:Wf H0
 kp:∀s x,Ah H0 s=some x->Ah H s=some x
section
variable{K:KV}{x:Af}{H0 H H':Hp}{b1 b2 r z:Nat}{X F:Is}{ps l:List Ha}{v a3:AV}{cR:AV->Is}
def Mc.upd(h:Mc H0 b1 b2 r z X F H)(y:Row):Mc H0 b1 b2 r z X F (upd H r y):=by
 have⟨cs,c1,c2⟩:=h.hz;exact⟨by rw[Ag h.n1];exact h.h1,by rw[Ag h.n2];exact h.h2,⟨cs,c1,by rw[Ag h.nz];exact c2⟩,Bm h.wf,h.n1,h.n2,h.nz,h.f1,h.f2,h.f3,h.f4,h.w0,λs x b=>by
  have:=h.w0.lt b;have:=h.f3;rw[Ag (by omega)];exact h.kp s x b⟩
structure Pl(H0:Hp)(b1 b2 r z:Nat)(X F:Is)(cR:AV->Is)(ps:List Ha)(v:AV)(H:Hp):Prop where
 mc:Mc H0 b1 b2 r z X F H
 hr:Ah H r=some (c_ Ab (cR v))
 sv:Bp H Au 1 v ps.length (AF ps)
 nv:ps=[]->v=Aw
 fr:∀s,A8 v s->Ar H0<=s/\s≠b1/\s≠b2/\s≠r/\s≠z
structure CR(cR:AV->Is)(ks:Hb):Prop where
 len:∀v,(cR v).length=68
 set:∀v v',(cR v).set 31 v'=cR v'
 get:∀v,(cR v).getD 31 .dk=v
 ins:∀v,(cR v).getD 33 .dk=BE ks
def C3d{b:AV->AV->AV->AV->AV->AV->KV}(q:40000<L)(hc:CR cR ks)(hi:i<3)(g:Pl H0 b1 b2 r z X F cR ps v H)(hb:ps.length<=3):
 ∀(f k:Nat)(p:Ha),k<=ps.length->ps.length-k<f->b a3 (.ptr b1 0 0) (.ptr z 0 0) (.ptr r 0 0) (I i) (S (iS i p (ps.drop k))) (I ps.length) H=x->
 Up (L+20) (r! L (n+43)) K b f a3 (.ptr b1 0 0) (.ptr z 0 0) (.ptr r 0 0) (I i) (S p) (I k) H=x:=by
 intro f
 induction f with
 |zero=>intro k p _ h;omega
 |succ f ih=>
  intro k p w u e;rw[pO];unfold Ur DN Ia A4;have d:∀{K},AE Ac (.ptr r 31 0) H K=K v:=λ{K}=>by rw[AL (p:=31) rfl g.hr (by rw[hc.len];decide),hc.get]
  rw[Wh,d,LD (t:=Ac) rfl g.sv];by_cases h:k<ps.length
  ·rw[XA2 (by omega),Cy];simp only[BF];have j:∀{K:K2},Aq Ad .add (I k) (.v (.int .i64 1)) K=K (I ((k+1:Nat):Int)):=λ{K}=>CW (by omega);have sb:∀{K:K2},Aq Ad .sub (.v (.int .i64 (-1))) (I (i:Int)) K=K (I (-1-(i:Int))):=λ{K}=>by rw[Le,CX (by omega) (by omega)]
   have s:∀{K:K2},Ap (r! L (n+43)) Kn [I (-1-(i:Int))] H K=K (S (W? (-1-(i:Int)))):=λ{K}=>A1H (n:=n+23) q (by omega) (by omega) H K;have m:ps.drop k=ps[k]::ps.drop (k+1):=rV h;rw[m]at e;have c:b a3 (.ptr b1 0 0) (.ptr z 0 0) (.ptr r 0 0) (I i) (S (iS i (if ps[k]=p then W? (-1-i) else p) (ps.drop (k+1)))) (I ps.length) H=x:=e;rw[Wh,d,B03 g.sv h,MA];by_cases hq:ps[k]=p
   ·rw[Hu hq,Cy,sb,s,j];rw[Dv hq]at c;exact ih (k+1) _ (by omega) (by omega) c
   ·rw[Ir hq,AY,j];rw[CL hq]at c;exact ih (k+1) _ (by omega) (by omega) c
  ·have:k=ps.length:=by omega
   subst this;rw[List.drop_length]at e;rw[Fk (by omega),AY];exact e
def C3e{g:AV->AV->KV}{Z x1 x2 x3 x4 x5:Int}(V:40000<L)(hc:CR cR ks)(h1:Kv x1)(aa:ks.length<=3)(J:PL H0 l a3)(hb:l.length<1000)(D:∀s∈l,s.length=32)(m:∀v H,Pl H0 b1 b2 r z [I Z,I x1,I x2,I x3,I x4,I x5] F cR (V? x1 l ks.length) v H->g (.ptr b1 0 0) (.ptr z 0 0) (.ptr r 0 0) H=x):
 ∀(f i:Nat)(v d0 d1:AV)(H:Hp),i<=ks.length->ks.length-i<f->Pl H0 b1 b2 r z [I Z,I x1,I x2,I x3,I x4,I x5] F cR (V? x1 l i) v H->
 Uq (L+20) (r! L (n+43)) K g f a3 (.ptr b1 0 0) (.ptr z 0 0) (.ptr r 0 0) (I i) d0 d1 H=x:=by
 intro f
 induction f with
 |zero=>intro i v d0 d1 H _ h;omega
 |succ f ih=>
  intro i v d0 d1 H hi hf b;rw[pP];unfold Us DN Ia D5 A4 FW;have N:∀{K},AE Ak (.ptr r 33 0) H K=K (BE ks):=λ{K}=>by rw[AL (p:=33) rfl b.hr (by rw[hc.len];decide),hc.ins]
  have fa:∀{K:K2},CI 1 (.ptr r 32 0) K=K (.ptr r 33 0):=λ{K}=>by rw[fA]
  rw[Wh,fa,N,Na];by_cases h:i<ks.length
  ·have pr:=FT (c:=x1.tdiv 3) (n:=1000) (by decide);have ia:∀{K:K2},D4 BB (.ptr b1 0 0) (.v (.int .i64 1)) K=K (.ptr b1 1 0):=λ{K}=>XA0 (z:=1) 1 rfl rfl (by decide);have d1:∀{K:K2},AE Ad (.ptr b1 1 0) H K=K (I x1):=λ{K}=>AL (p:=1) rfl b.mc.h1 (by simp);have O:∀{H K},Ap (r! L (n+43)) BU [I (x1.tdiv 3),.v (.int .i64 1000)] H K=K (I (pk (x1.tdiv 3) 1000)):=λ{H K}=>MU (n:=n+42) (Ol h1 (by decide)) (by decide) (by decide) H K;have ad:∀{K:K2},Aq Ad .add (I (pk (x1.tdiv 3) 1000)) (I (i:Int)) K=K (I (pk (x1.tdiv 3) 1000+i)):=λ{K}=>by rw[Dp,CX (by omega) (by omega)]
   have pa:∀{K:K2},Ap (r! L (n+43)) Kn [I (pk (x1.tdiv 3) 1000+i)] H K=K (S (W? (pk (x1.tdiv 3) 1000+i))):=λ{K}=>A1H (n:=n+23) V (by omega) (by omega) H K;rw[XA2 (by omega),Cy,ia,d1,oR h1 (by decide),O,ad,pa];refine Qm λw d=>?_;have Y:∀p:Ha,p=(if h:i<l.length then l[i] else W? (pk (x1.tdiv 3) 1000+i))->w (S p) H=x:=by
    intro p hp;rw[d];simp only[BF];refine C3d V hc (by omega) b (by rw[iO];omega) (L+20) 0 p (by omega) (by rw[iO];omega) ?_;rw[qV];have M:∀{K},AE Ac (.ptr r 31 0) H K=K v:=λ{K}=>by rw[AL (p:=31) rfl b.hr (by rw[hc.len];decide),hc.get]
    have⟨v',H',a1,a2,B,a4,k,P⟩:=zG (ie:=Ai) (i2:=Ac) (ys:=AF [iS i p (V? x1 l i)]) b.sv b.mc.wf rfl rfl (by decide) rfl (λ_=>rfl) (by rw[iO];show(i+1)*16<=_;omega) (by rw[iO];omega);have⟨cs,c1,c2⟩:=b.mc.hz;have u:=k _ _ b.hr λe=>(b.fr _ e).2.2.2.1 rfl;have q1:=b.mc.wf.lt b.mc.h1;have q2:=b.mc.wf.lt b.mc.h2;have q3:=b.mc.wf.lt b.hr;have q4:=b.mc.wf.lt c2;have q0:=b.mc.f1;rw[Wh,M,kP,a1,Wh,DT u (by rw[hc.len];decide) rfl (Bp.cell a2) (Bp.one a2),hc.set,CW (by omega)];have y:V? x1 l (i+1)=V? x1 l i++[iS i p (V? x1 l i)]:=by rw[hp];rfl
    refine ih (i+1) v' _ _ _ (by omega) (by omega) ⟨?_,AC u,?_,λe=>?_,λs j=>?_⟩
    ·refine⟨by rw[Ag b.mc.n1];exact k _ _ b.mc.h1 (λe=>(b.fr _ e).2.1 rfl),by rw[Ag b.mc.n2];exact k _ _ b.mc.h2 (λe=>(b.fr _ e).2.2.1 rfl),⟨cs,c1,by rw[Ag b.mc.nz];exact k _ _ c2 (λe=>(b.fr _ e).2.2.2.2 rfl)⟩,Bm B,b.mc.n1,b.mc.n2,b.mc.nz,b.mc.f1,b.mc.f2,b.mc.f3,b.mc.f4,b.mc.w0,λs x j=>?_⟩;have Q:=b.mc.w0.lt j;have R:=b.mc.f3;rw[Ag (by omega)];exact k _ _ (b.mc.kp s x j) (λe=>by have:=(b.fr _ e).1;omega)
    ·rw[y,EN];have:AF (V? x1 l i++[iS i p (V? x1 l i)])=AF (V? x1 l i)++AF [iS i p (V? x1 l i)]:=by simp[AF]
     rw[this];refine Bp.kp a2 λs x j J=>?_;have:=P s j;rw[Ag (by omega)];exact J
    ·rw[y]at e;simp at e
    ·have:=P s j;omega
   clear d;have q:=J.kp b.mc.kp;rw[q.len];by_cases A:i<l.length
   ·have⟨p,Q,R⟩:=q.at2 A;have C:∀{K:K2},Aq Ad .eql (I ((l[i].length:Nat):Int)) (.v (.int .i64 32)) K=K (Bo true):=λ{K}=>by
     rw[CV,D _ (Ql A)];rfl
    rw[XA2 (by omega)];simp only[gT,BK,Q,R,Qt (t:=Ai) rfl,C,SJ];rw[Cy];exact Y _ (by rw[dif_pos A])
   ·rw[Fk (by omega)];simp only[dY,BK,QA];rw[AY];exact Y _ (by rw[dif_neg A])
  ·have:i=ks.length:=by omega
   subst this;rw[Fk (by omega),AY];exact m v H b
end
end
section
variable{b:Nat}
variable{L n:Nat}
def Cd.csP(c:Cd)(P:AV):Is:=match c with
 |.re b u=>Ea 1 b.m (uu u) (qn b.c) (qd b.c) (E4 b.ts) (qn b.r) (qd b.r) P 0 Aw Aw u0 r0 0
 |.co b p _ none=>Ea 2 b.m (uu p.out) (qn b.c) (qd b.c) (E4 b.ts) (qn b.r) (qd b.r) P p.id (BE p.ks) (Ck p.xs) (uu p.out) r0 0
 |.co b p _ (some (k,vd))=>Ea 3 b.m (uu p.out) (qn b.c) (qd b.c) (E4 b.ts) (qn b.r) (qd b.r) P p.id (BE p.ks) (Ck p.xs) (uu p.out) (rr k) vd
def A0o(c:Cd):c.csP (Di c.ps)=c.cs:=by
 match c with
 |.re b u=>rfl
 |.co b p ps none=>rfl
 |.co b p ps (some (k,vd))=>rfl
def cbM(x1 x2 x3 x4 x5:Int)(a:List Int):CB:=⟨⟨1+pk x1 3,1+pk x2 9,1+pk x3 4,pk x4 50,pk x5 30⟩,pk (x3.tdiv 4) 161-80,pk (x4.tdiv 50) 9,LP a 6⟩
def cdM(x0 x1 x2 x3 x4 x5 f0 f1 f2 f3 f4 f5:Int)(y:Y4)(l:List Ha):Cd:=
 if pk x0 3=0 then .re (cbM x1 x2 x3 x4 x5 [f0,f1,f2,f3,f4,f5]) (pk (x5.tdiv 30) 7).toNat
 else .co (cbM x1 x2 x3 x4 x5 [f0,f1,f2,f3,f4,f5]) (rR [f0,f1,f2] (x2.tdiv 9) y) (V? x1 l (rR [f0,f1,f2] (x2.tdiv 9) y).ks.length)
  (if pk x0 3=1 then none else some (1+(pk (x0.tdiv 3) 3).toNat,1+pk (x0.tdiv 9) 3))
def A5h{x0 x1 x2 x3 x4 x5 f0 f1 f2 f3 f4 f5:Int}{y:Y4}{l:List Ha}(a:∀s∈l,s.length=32):(cdM x0 x1 x2 x3 x4 x5 f0 f1 f2 f3 f4 f5 y l).Ok:=by
 have p1:=FT (c:=x1) (n:=3) (by decide);have p2:=FT (c:=x2) (n:=9) (by decide);have p3:=FT (c:=x3) (n:=4) (by decide);have p4:=FT (c:=x4) (n:=50) (by decide);have p5:=FT (c:=x5) (n:=30) (by decide);have p6:=FT (c:=x3.tdiv 4) (n:=161) (by decide);have d:=FT (c:=x4.tdiv 50) (n:=9) (by decide);have e:=FT (c:=x5.tdiv 30) (n:=7) (by decide);have f:=FT (c:=x0.tdiv 3) (n:=3) (by decide);have g:=FT (c:=x0.tdiv 9) (n:=3) (by decide);have hb:(cbM x1 x2 x3 x4 x5 [f0,f1,f2,f3,f4,f5]).Ok:=by
  refine⟨?_,?_,?_,?_,?_,(A5S _ 6 (by omega)).1⟩
  ·refine⟨?_,?_,?_,?_,?_,?_,?_,?_,?_,?_⟩
   all_goals (simp only[cbM];omega)
  all_goals (simp only[cbM];omega)
 unfold cdM;by_cases h:pk x0 3=0
 ·rw[Dv h];exact⟨hb,by omega⟩
 ·rw[CL h];refine⟨hb,A4f rfl,iO _,C0g a _,?_⟩;by_cases h1:pk x0 3=1
  ·rw[Dv h1];exact trivial
  ·rw[CL h1];exact⟨by omega,by omega,by omega⟩
def okI{z:Int}{H:Hp}{K:Af}:RQ (Bj (some (I z,H)) (I z)) K=K:=VI rfl
def C5L{k:IntKind}{z:Int}:AV.one (.v (.int k z))=true:=rfl
def C5J{l:Ha}:AV.one (S l)=true:=rfl
def C5K:AV.one (.v (.slice none 0 0))=true:=rfl
def Wp(ts:eO):AV.one (E4 ts)=true:=by cases ts<;>rfl
section
variable{K:KV}{x:Af}{H0 H H':Hp}{b1 b2 r z:Nat}{X F:Is}{ps l:List Ha}{v a2 a3:AV}{y:Y4}{x0 x1 x2 x3 x4 x5 f0 f1 f2 f3 f4 f5:Int}
def RY{kd:Int}{m:ND}{u o:UD}{ca cb ra rb:Ha}{T P ins a:AV}{id vd:Int}{rd:RD}(h1:AV.one T=true)(h2:AV.one P=true)(c:AV.one ins=true)(d:AV.one a=true):(Ea kd m u ca cb T ra rb P id ins a o rd vd).all AV.one=true:=by
 simp only[qU,l3a,C5L,C5J,C5K,h1,h2,c,d,l1b,l1g]
def A21(h:Mc H0 b1 b2 r z X F H){cs:Is}(hr:Ah H r=some (c_ Ab cs))(h1:cs.length=68)(h2:cs.all AV.one=true)(e:∀H',Wf H'->(∀s q,s≠z->Ah H s=some q->Ah H' s=some q)->K (.agg cs) H'=x):
 (AE Ae (.ptr r 0 0) H λc=>
  DE Ae (.ptr z 0 0) c H λa=>
  AE Ae (.ptr z 0 0) a λd=>
  K d a)=x:=by
 have⟨i,c1,c2⟩:=h.hz;rw[Bu (cs:=cs) rfl (by exact h1.symm) hr,BO c2 (by rw[c1,h1]) (by exact c1.symm) h2,Bu (cs:=cs) rfl (by exact h1.symm) (AC c2)];exact e _ (Bm h.wf) λs q g f=>by rw[Ag g];exact f
def push(w:Wf H)(x:Row)(a:x≠.gone):∃H' s,H'=(s,x)::H/\s=Ar H/\Ah H' s=some x/\Wf H'/\∀t q,Ah H t=some q->Ah H' t=some q/\t≠s:=
 ⟨_,_,rfl,rfl,Ay a,AG w,λt q h=>⟨A6 (w.lt h) h,by have:=w.lt h;omega⟩⟩
def C0R{K:K2}:D4 BB (.ptr b 0 0) (.v (.int .i64 0)) K=K (.ptr b 0 0):=XA0 (z:=0) 0 rfl rfl (by decide)
def C67{K:K2}:D4 BB (.ptr b 0 0) (.v (.int .i64 1)) K=K (.ptr b 1 0):=XA0 (z:=1) 1 rfl rfl (by decide)
def C66{K:K2}:D4 BB (.ptr b 0 0) (.v (.int .i64 2)) K=K (.ptr b 2 0):=XA0 (z:=2) 2 rfl rfl (by decide)
def C65{K:K2}:D4 BB (.ptr b 0 0) (.v (.int .i64 3)) K=K (.ptr b 3 0):=XA0 (z:=3) 3 rfl rfl (by decide)
def C64{K:K2}:D4 BB (.ptr b 0 0) (.v (.int .i64 4)) K=K (.ptr b 4 0):=XA0 (z:=4) 4 rfl rfl (by decide)
def C63{K:K2}:D4 BB (.ptr b 0 0) (.v (.int .i64 5)) K=K (.ptr b 5 0):=XA0 (z:=5) 5 rfl rfl (by decide)
def rd6{a0 a1 a2 a3 a c:Int}(h:Ah H b=some (c_ Jv [I a0,I a1,I a2,I a3,I a,I c])):
 (∀{K},AE Ad (.ptr b 0 0) H K=K (I a0))/\(∀{K},AE Ad (.ptr b 1 0) H K=K (I a1))/\(∀{K},AE Ad (.ptr b 2 0) H K=K (I a2))/\(∀{K},AE Ad (.ptr b 3 0) H K=K (I a3))/\(∀{K},AE Ad (.ptr b 4 0) H K=K (I a))/\(∀{K},AE Ad (.ptr b 5 0) H K=K (I c)):=
 ⟨λ{K}=>AL (p:=0) rfl h (by simp),λ{K}=>AL (p:=1) rfl h (by simp),λ{K}=>AL (p:=2) rfl h (by simp),λ{K}=>AL (p:=3) rfl h (by simp),λ{K}=>AL (p:=4) rfl h (by simp),λ{K}=>AL (p:=5) rfl h (by simp)⟩
def B00(mc:Mc H0 b1 b2 r z X F H){cs cs' vs:Is}(hr:Ah H r=some (c_ Ab cs)){i:TI}{p:Nat}(a:cs.length=68)(d:p+vs.length<=68)(hz:i.size=vs.length)(h1:vs.all AV.one=true)(es:splice cs p vs=cs'):
 ∃H',(∀K:Ru,DE i (.ptr r p 0) (.agg vs) H K=K H')/\Mc H0 b1 b2 r z X F H'/\Ah H' r=some (c_ Ab cs')/\(∀s q,s≠r->Ah H s=some q->Ah H' s=some q):=
 ⟨_,λK=>gA hr (by rw[a];exact d) hz h1,mc.upd _,by rw[es];exact AC hr,λs q e c=>by rw[Ag e];exact c⟩
def uA(hL:40000<L)(w:Wf H0)(i0:Kv x0)(i1:Kv x1)(i2:Kv x2)(i3:Kv x3)(i4:Kv x4)(i5:Kv x5)(j0:Kv f0)(j1:Kv f1)(j2:Kv f2)(j3:Kv f3)(j4:Kv f4)(j5:Kv f5)(hy:YA H0 y a2)(az:yI y)(hl:PL H0 l a3)(hb:l.length<1000)(ar:∀s∈l,s.length=32)(R:∀v H',Bp H' Au 1 v (cdM x0 x1 x2 x3 x4 x5 f0 f1 f2 f3 f4 f5 y l).ps.length (AF (cdM x0 x1 x2 x3 x4 x5 f0 f1 f2 f3 f4 f5 y l).ps)->((cdM x0 x1 x2 x3 x4 x5 f0 f1 f2 f3 f4 f5 y l).ps=[]->v=Aw)->Wf H'->(∀s q,Ah H0 s=some q->Ah H' s=some q)->(∀s,A8 v s->Ar H0<=s)->
  K (.agg ((cdM x0 x1 x2 x3 x4 x5 f0 f1 f2 f3 f4 f5 y l).csP v)) H'=x):
 (r! L (n+44)).call IA [.agg [I x0,I x1,I x2,I x3,I x4,I x5],.agg [I f0,I f1,I f2,I f3,I f4,I f5],a2,a3] H0 K=x:=by
 rw[uP];unfold Xe DN A4 Ks;have⟨H1,b1,N,s1,l1,w1,k1⟩:=push w (c_ Jv [I x0,I x1,I x2,I x3,I x4,I x5]) (by simp);rw[DZ (cs:=[I x0,I x1,I x2,I x3,I x4,I x5]) rfl,<-s1,<-N];have⟨H2,b2,e2,s2,l2,w2,k2⟩:=push w1 (c_ Jv [I f0,I f1,I f2,I f3,I f4,I f5]) (by simp);rw[DZ (cs:=[I f0,I f1,I f2,I f3,I f4,I f5]) rfl,<-s2,<-e2];have⟨H3,z,O,s3,l3,w3,k3⟩:=push w2 (c_ Ab BI) (by simp);rw[Bv (cs:=BI) rfl,<-s3,<-O];have⟨H4,r,e4,s4,l4,w4,k4⟩:=push w3 (c_ Ab BI) (by simp);have m1:=k2 _ _ l1;have m2:=k3 _ _ m1.1;have m3:=k3 _ _ l2;have q1:=k4 _ _ m2.1;have q2:=k4 _ _ m3.1;have q3:=k4 _ _ l3;have g1:Ar H0<=b1:=by omega
 have g2:Ar H0<=b2:=by have:=w1.lt l1;omega
 have g3:Ar H0<=z:=by have:=w2.lt l2;omega
 have g4:Ar H0<=r:=by have:=w3.lt l3;omega
 have ae:∀s q,Ah H0 s=some q->Ah H4 s=some q:=λs q j=>(k4 _ _ (k3 _ _ (k2 _ _ (k1 _ _ j).1).1).1).1;clear N e2 O s1 s2 s3 k1 k2 k3 m1 m3 l1 l2 w1 w2;have p0:=FT (c:=x0) (n:=3) (by decide);have p1:=FT (c:=x1) (n:=3) (by decide);have p2:=FT (c:=x2) (n:=9) (by decide);have p3:=FT (c:=x3) (n:=4) (by decide);have c0:∀{H K},Ap (r! L (n+43)) BU [I x0,.v (.int .i64 3)] H K=K (I (pk x0 3)):=λ{H K}=>MU (n:=n+42) i0 (by decide) (by decide) H K;have c1:∀{H K},Ap (r! L (n+43)) BU [I x1,.v (.int .i64 3)] H K=K (I (pk x1 3)):=λ{H K}=>MU (n:=n+42) i1 (by decide) (by decide) H K;have c2:∀{H K},Ap (r! L (n+43)) BU [I x2,.v (.int .i64 9)] H K=K (I (pk x2 9)):=λ{H K}=>MU (n:=n+42) i2 (by decide) (by decide) H K;have c3:∀{H K},Ap (r! L (n+43)) BU [I x3,.v (.int .i64 4)] H K=K (I (pk x3 4)):=λ{H K}=>MU (n:=n+42) i3 (by decide) (by decide) H K;have c4:∀{H K},Ap (r! L (n+43)) BU [I x4,.v (.int .i64 50)] H K=K (I (pk x4 50)):=λ{H K}=>MU (n:=n+42) i4 (by decide) (by decide) H K;have c5:∀{H K},Ap (r! L (n+43)) BU [I x5,.v (.int .i64 30)] H K=K (I (pk x5 30)):=λ{H K}=>MU (n:=n+42) i5 (by decide) (by decide) H K;have a0:∀{K:K2},Aq Ad .add (.v (.int .i64 1)) (I (pk x0 3)) K=K (I (1+pk x0 3)):=λ{K}=>by rw[Dp,CX (by omega) (by omega)]
 have a1:∀{K:K2},Aq Ad .add (.v (.int .i64 1)) (I (pk x1 3)) K=K (I (1+pk x1 3)):=λ{K}=>by rw[Dp,CX (by omega) (by omega)]
 have Y:∀{K:K2},Aq Ad .add (.v (.int .i64 1)) (I (pk x2 9)) K=K (I (1+pk x2 9)):=λ{K}=>by rw[Dp,CX (by omega) (by omega)]
 have Z:∀{K:K2},Aq Ad .add (.v (.int .i64 1)) (I (pk x3 4)) K=K (I (1+pk x3 4)):=λ{K}=>by rw[Dp,CX (by omega) (by omega)]
 have⟨d0,d1,d2,u,A,B⟩:=rd6 m2.1;simp only[C0R,C67,C66,C65,C64,C63,d0,d1,d2,u,A,B,c0,c1,c2,c3,c4,c5,a0,a1,Y,Z,B1];clear d0 d1 d2 u A B;have bd:∀{a b c d e f:Int}{K:K2},Cb Ae [(0,1,I a),(1,1,I b),(2,1,I c),(3,1,I d),(4,1,I e),(5,1,I f)] K=K (.agg (Ea a ⟨b,c,d,e,f⟩ u0 [] [] Aw [] [] Aw 0 Aw Aw u0 r0 0)):=λ{a b c d e f K}=>r_ rfl;rw[bd,B1,Bv (cs:=BI) rfl,BK,<-s4,<-e4,BO (vs:=Ea (1+pk x0 3) ⟨1+pk x1 3,1+pk x2 9,1+pk x3 4,pk x4 50,pk x5 30⟩ u0 [] [] Aw [] [] Aw 0 Aw Aw u0 r0 0) l4 rfl rfl rfl,BK];clear e4 s4;have⟨d0,d1,d2,u,A,B⟩:=rd6 q1.1;simp only[d0,d1,d2,u,A,B,c0,c1,c2,c3,c4,c5,okI];clear d0 d1 d2 u A B c0 c1 c2 c3 c4 c5 a0 a1 Y Z bd;have mc:Mc H0 b1 b2 r z [I x0,I x1,I x2,I x3,I x4,I x5] [I f0,I f1,I f2,I f3,I f4,I f5] H4:=⟨q1.1,q2.1,⟨_,rfl,q3.1⟩,w4,q1.2,q2.2,q3.2,g1,g2,g4,g3,w,ae⟩
 have t:=mc.upd (c_ Ab (Ea (1+pk x0 3) ⟨1+pk x1 3,1+pk x2 9,1+pk x3 4,pk x4 50,pk x5 30⟩ u0 [] [] Aw [] [] Aw 0 Aw Aw u0 r0 0));have r5:=AC (q:=true) (e:=Ab) (cs:=Ea (1+pk x0 3) ⟨1+pk x1 3,1+pk x2 9,1+pk x3 4,pk x4 50,pk x5 30⟩ u0 [] [] Aw [] [] Aw 0 Aw Aw u0 r0 0) l4;generalize Go.Abs.upd H4 r (c_ Ab (Ea (1+pk x0 3) ⟨1+pk x1 3,1+pk x2 9,1+pk x3 4,pk x4 50,pk x5 30⟩ u0 [] [] Aw [] [] Aw 0 Aw Aw u0 r0 0))=H5 at t r5;clear mc ae q1 q2 q3 k4 l4 w4 l3 w3 m2 g1 g2 g3 g4 H4 H3 H2 H1;have af:∀{H K},Ap (r! L (n+43)) RF [I (x3.tdiv 4),I (x4.tdiv 50),.agg [I f0,I f1,I f2,I f3,I f4,I f5]] H K=K (.agg [S (qn (pk (x3.tdiv 4) 161-80)),S (qd (pk (x3.tdiv 4) 161-80)),E4 (LP [f0,f1,f2,f3,f4,f5] 6),S (qn (pk (x4.tdiv 50) 9)),S (qd (pk (x4.tdiv 50) 9))]):=λ{H K}=>
  AO (B0H (n:=n+2) (xs:=[f0,f1,f2,f3,f4,f5]) (by omega) (Ol i3 (by decide)) (Ol i4 (by decide)) rfl (by simp[j0,j1,j2,j3,j4,j5]))
   (Al (q:=false) C7 (Al (q:=false) C7 (Al (L0 (D:=depth-1) (Lz (λz:Int=>Value.int .i64 z) [f0,f1,f2,f3,f4,f5])) AD)))
 have lF:∀{K},AE BB (.ptr b2 0 0) H5 K=K (.agg [I f0,I f1,I f2,I f3,I f4,I f5]):=λ{K}=>Bu rfl rfl t.h2;have⟨d0,d1,d2,u,A,B⟩:=rd6 t.h1;obtain⟨H6,aj,Q,r6, -⟩:=B00 (i:=Fo) (p:=26) (vs:=[S (qn (pk (x3.tdiv 4) 161-80)),S (qd (pk (x3.tdiv 4) 161-80)),E4 (LP [f0,f1,f2,f3,f4,f5] 6),S (qn (pk (x4.tdiv 50) 9)),S (qd (pk (x4.tdiv 50) 9))]) t r5 rfl (by show 26+5<=68;decide) rfl (by show(true&&(true&&(AV.one (E4 (LP [f0,f1,f2,f3,f4,f5] 6))&&(true&&(true&&true)))))=true;rw[Wp];rfl)
  (cs':=Ea (1+pk x0 3) ⟨1+pk x1 3,1+pk x2 9,1+pk x3 4,pk x4 50,pk x5 30⟩ u0 (qn (pk (x3.tdiv 4) 161-80)) (qd (pk (x3.tdiv 4) 161-80)) (E4 (LP [f0,f1,f2,f3,f4,f5] 6)) (qn (pk (x4.tdiv 50) 9)) (qd (pk (x4.tdiv 50) 9)) Aw 0 Aw Aw u0 r0 0) rfl
 rw[u,oR i3 (by decide),A,oR i4 (by decide),lF,af,Wh,aj];clear d0 d1 d2 u A B lF aj t r5 af;have ac:∀{H K},Ap (r! L (n+43)) Gw [I (x5.tdiv 30)] H K=K (.agg (Cz (uu (pk (x5.tdiv 30) 7).toNat))):=λ{H K}=>A45 (n:=n+1) (Ol i5 (by decide)) H K;have⟨d0,d1,d2,u,A,B⟩:=rd6 Q.h1;obtain⟨H7,ak,g,r7, -⟩:=B00 (i:=A0) (p:=6) (vs:=Cz (uu (pk (x5.tdiv 30) 7).toNat)) Q r6 rfl (by show 6+20<=68;decide) rfl rfl
  (cs':=Ea (1+pk x0 3) ⟨1+pk x1 3,1+pk x2 9,1+pk x3 4,pk x4 50,pk x5 30⟩ (uu (pk (x5.tdiv 30) 7).toNat) (qn (pk (x3.tdiv 4) 161-80)) (qd (pk (x3.tdiv 4) 161-80)) (E4 (LP [f0,f1,f2,f3,f4,f5] 6)) (qn (pk (x4.tdiv 50) 9)) (qd (pk (x4.tdiv 50) 9)) Aw 0 Aw Aw u0 r0 0) rfl
 have lk:∀{K},AE Ad (.ptr r 0 0) H7 K=K (I (1+pk x0 3)):=λ{K}=>AL (p:=0) rfl r7 (show 0<68 by decide);rw[B,oR i5 (by decide),ac,Wh,ak,Wh,lk,CV];clear d0 d1 d2 u A B ak Q r6 ac lk;by_cases h0:pk x0 3=0
 ·have C:cdM x0 x1 x2 x3 x4 x5 f0 f1 f2 f3 f4 f5 y l=.re (cbM x1 x2 x3 x4 x5 [f0,f1,f2,f3,f4,f5]) (pk (x5.tdiv 30) 7).toNat:=Dv h0;have N:1+pk x0 3=1:=by omega
  rw[Hu N,Cy];rw[C]at R;rw[N]at r7;refine A21 g r7 rfl (RY (Wp _) rfl rfl rfl) λH' w' kp=>?_;exact R Aw H' (.inl ⟨rfl,rfl,rfl⟩) (λ_=>rfl) w' (λs q j=>kp s q (by have:=g.w0.lt j;have:=g.f4;omega) (g.kp s q j)) (λs ⟨_,_,_,h⟩=>by cases h)
 ·have C:cdM x0 x1 x2 x3 x4 x5 f0 f1 f2 f3 f4 f5 y l=.co (cbM x1 x2 x3 x4 x5 [f0,f1,f2,f3,f4,f5]) (rR [f0,f1,f2] (x2.tdiv 9) y) (V? x1 l (rR [f0,f1,f2] (x2.tdiv 9) y).ks.length) (if pk x0 3=1 then none else some (1+(pk (x0.tdiv 3) 3).toNat,1+pk (x0.tdiv 9) 3)):=CL h0;rw[C]at R;clear C;have P:∀{K},Ap (r! L (n+43)) RE [.agg [I f0,I f1,I f2],I (x2.tdiv 9),a2,.v (.bool true)] H7 K=K (.agg (B0 (rR [f0,f1,f2] (x2.tdiv 9) y).id (BE (rR [f0,f1,f2] (x2.tdiv 9) y).ks) (Ck (rR [f0,f1,f2] (x2.tdiv 9) y).xs) (uu (rR [f0,f1,f2] (x2.tdiv 9) y).out))):=λ{K}=>by
   have⟨q,hq⟩:=hy H7 g.kp;exact AO (B0G (n:=n) (ins:=[f0,f1,f2]) (by omega) rfl (by simp[j0,j1,j2]) (Ol i2 (by decide)) az) (Al (L0 (D:=depth-1) (Lz (λz:Int=>Value.int .i64 z) [f0,f1,f2])) (Al (q:=false) C7 (Al hq (Al (q:=false) C7 AD))))
  have hp:=A4f (ins:=[f0,f1,f2]) (count:=x2.tdiv 9) (y:=y) rfl;generalize rR [f0,f1,f2] (x2.tdiv 9) y=p at R P hp;have N:¬(1+pk x0 3=1):=by omega
  rw[Ir N,AY];obtain⟨g0,g1,g2, -, -, -⟩:=rd6 g.h2;obtain⟨d0,d1,d2, -, -, -⟩:=rd6 g.h1;have b3:∀{K:K2},Cb Sg [(0,1,I f0),(1,1,I f1),(2,1,I f2)] K=K (.agg [I f0,I f1,I f2]):=λ{K}=>r_ rfl;obtain⟨H8,am,ag,r8, -⟩:=B00 (i:=AU) (p:=32) (vs:=B0 p.id (BE p.ks) (Ck p.xs) (uu p.out)) g r7 rfl (by show 32+23<=68;decide) rfl (B? rfl rfl)
   (cs':=Ea (1+pk x0 3) ⟨1+pk x1 3,1+pk x2 9,1+pk x3 4,pk x4 50,pk x5 30⟩ (uu (pk (x5.tdiv 30) 7).toNat) (qn (pk (x3.tdiv 4) 161-80)) (qd (pk (x3.tdiv 4) 161-80)) (E4 (LP [f0,f1,f2,f3,f4,f5] 6)) (qn (pk (x4.tdiv 50) 9)) (qd (pk (x4.tdiv 50) 9)) Aw p.id (BE p.ks) (Ck p.xs) (uu p.out) r0 0) rfl
  have lu:∀{K},AE A0 (.ptr r 35 0) H8 K=K (.agg (Cz (uu p.out))):=λ{K}=>DD (p:=35) rfl r8 (show 55<=68 by decide);obtain⟨H9,ao,ah,r9, -⟩:=B00 (i:=A0) (p:=6) (vs:=Cz (uu p.out)) ag r8 rfl (by show 6+20<=68;decide) rfl rfl
   (cs':=Ea (1+pk x0 3) ⟨1+pk x1 3,1+pk x2 9,1+pk x3 4,pk x4 50,pk x5 30⟩ (uu p.out) (qn (pk (x3.tdiv 4) 161-80)) (qd (pk (x3.tdiv 4) 161-80)) (E4 (LP [f0,f1,f2,f3,f4,f5] 6)) (qn (pk (x4.tdiv 50) 9)) (qd (pk (x4.tdiv 50) 9)) Aw p.id (BE p.ks) (Ck p.xs) (uu p.out) r0 0) rfl
  have f35:∀{K:K2},CI 3 (.ptr r 32 0) K=K (.ptr r 35 0):=λ{K}=>by rw[fA]
  rw[g0,g1,g2,b3,d2,oR i2 (by decide),P,Wh,am,Wh,f35,lu,Wh,ao];clear g0 g1 g2 d0 d1 d2 b3 am ag r8 lu ao f35 P g r7;refine Qm λa7 aa=>?_;refine Qm λa6 M=>?_;have hc:CR (λv=>Ea (1+pk x0 3) ⟨1+pk x1 3,1+pk x2 9,1+pk x3 4,pk x4 50,pk x5 30⟩ (uu p.out) (qn (pk (x3.tdiv 4) 161-80)) (qd (pk (x3.tdiv 4) 161-80)) (E4 (LP [f0,f1,f2,f3,f4,f5] 6)) (qn (pk (x4.tdiv 50) 9)) (qd (pk (x4.tdiv 50) 9)) v p.id (BE p.ks) (Ck p.xs) (uu p.out) r0 0) p.ks:=⟨λ_=>rfl,λ_ _=>rfl,λ_=>rfl,λ_=>rfl⟩
  refine C3e (n:=n) (l:=l) hL hc i1 hp.k3 hl hb ar ?_ (L+20) 0 Aw _ _ H9 (by omega) (by have:=hp.k3;omega) ⟨ah,r9,.inl ⟨rfl,rfl,rfl⟩,λ_=>rfl,λs ⟨_,_,_,h⟩=>by cases h⟩;intro v H m;rw[M,aa];clear M aa ah r9;refine Qm λa4 ab=>?_;have k:∀(cs:Is)(V:Hp),Mc H0 b1 b2 r z [I x0,I x1,I x2,I x3,I x4,I x5] [I f0,I f1,I f2,I f3,I f4,I f5] V->Ah V r=some (c_ Ab cs)->cs.length=68->cs.all AV.one=true->cs=(Cd.co (cbM x1 x2 x3 x4 x5 [f0,f1,f2,f3,f4,f5]) p (V? x1 l p.ks.length) (if pk x0 3=1 then none else some (1+(pk (x0.tdiv 3) 3).toNat,1+pk (x0.tdiv 9) 3))).csP v->(∀s q,s≠r->Ah H s=some q->Ah V s=some q)->a4 V=x:=by
   intro cs V J rx c1 c2 aq kx;rw[ab];refine A21 J rx c1 c2 λH' w' kp=>?_;rw[aq];refine R v H' ?_ m.nv w' (λs q j=>kp s q (by have:=J.w0.lt j;have:=J.f4;omega) (J.kp s q j)) (λs j=>(m.fr s j).1);exact m.sv.kp λs q j hl=>kp s q (m.fr s j).2.2.2.2 (kx s q (m.fr s j).2.2.2.1 hl)
  clear ab R;have lk:∀{K},AE Ad (.ptr r 0 0) H K=K (I (1+pk x0 3)):=λ{K}=>AL (p:=0) rfl m.hr (show 0<68 by decide);rw[Wh,lk,CV];by_cases h1:pk x0 3=1
  ·have O:¬(1+pk x0 3=3):=by omega
   rw[Ir O,AY];rw[Dv h1]at k;have e2:1+pk x0 3=2:=by omega
   have hr:=m.hr;rw[e2]at hr;exact k _ H m.mc hr rfl (RY (Wp _) (Bp.one m.sv) rfl rfl) rfl (λs q _ h=>h)
  ·have O:1+pk x0 3=3:=by omega
   have pv:=FT (c:=x0.tdiv 9) (n:=3) (by decide);rw[Hu O,Cy];rw[CL h1]at k;have hr:=m.hr;rw[O]at hr;have ay:∀{H K},Ap (r! L (n+43)) KK [I (x0.tdiv 3)] H K=K (.agg (rr (1+(pk (x0.tdiv 3) 3).toNat)).cs):=λ{H K}=>B4S (n:=n+41) (Ol i0 (by decide)) H K;have ax:∀{H K},Ap (r! L (n+43)) BU [I (x0.tdiv 9),.v (.int .i64 3)] H K=K (I (pk (x0.tdiv 9) 3)):=λ{H K}=>MU (n:=n+42) (Ol i0 (by decide)) (by decide) (by decide) H K;have ad:∀{K:K2},Aq Ad .add (.v (.int .i64 1)) (I (pk (x0.tdiv 9) 3)) K=K (I (1+pk (x0.tdiv 9) 3)):=λ{K}=>by rw[Dp,CX (by omega) (by omega)]
   obtain⟨d0, -⟩:=rd6 m.mc.h1;have⟨HA,a5,ai,rA,kA⟩:=B00 (i:=Ef) (p:=55) (vs:=(rr (1+(pk (x0.tdiv 3) 3).toNat)).cs) m.mc hr rfl (by show 55+9<=68;decide) rfl rfl
    (cs':=Ea 3 ⟨1+pk x1 3,1+pk x2 9,1+pk x3 4,pk x4 50,pk x5 30⟩ (uu p.out) (qn (pk (x3.tdiv 4) 161-80)) (qd (pk (x3.tdiv 4) 161-80)) (E4 (LP [f0,f1,f2,f3,f4,f5] 6)) (qn (pk (x4.tdiv 50) 9)) (qd (pk (x4.tdiv 50) 9)) v p.id (BE p.ks) (Ck p.xs) (uu p.out) (rr (1+(pk (x0.tdiv 3) 3).toNat)) 0) rfl
   obtain⟨ap, -⟩:=rd6 ai.h1;rw[C0R,d0,oR i0 (by decide),ay,Wh,a5,C0R,ap,oR i0 (by decide),ax,ad,Wh,DT rA (show 64<68 by decide) rfl rfl rfl];exact k _ _ (ai.upd _) (AC rA) rfl (RY (Wp _) (Bp.one m.sv) rfl rfl) rfl (λs q j h=>by rw[Ag j];exact kA s q j h)
end
end
section
variable{P:AV}{y6:Int}
variable{n:Nat}
def A7V{f:AV->(Bool->K2)->Af}:∀(l m:Is)(K:Bool->Is->Af),IG f (l++m) K=IG f l λq c=>IG f m λd h=>K (q||d) (c++h):=by
 intro l
 induction l with
 |nil=>intro m K;rfl
 |cons a l ih=>
  intro m K;have e:∀(l:Is)(K:Bool->Is->Af),IG f (a::l) K=f a λq g=>IG f l λd c=>K (@Bool.rec (λ_=>Bool) d true q) (g::c):=λ_ _=>rfl;rw[List.cons_append,e,e]
  congr 1
  funext q g
  rw[ih]
  congr 1
  funext q1 i
  congr 1
  funext q2 j
  cases q<;>rfl
def rZ{b:Bool}{D:Nat}{l a m c:Is}{H:Hp}{q q':Bool}(h:RZ b D l a H q)(k:RZ b D m c H q'):RZ b D (l++m) (a++c) H (q||q'):=λK=>by
 rw[A7V,h,k]
def fixB:AV->Bool
 |.v _=>true
 |.list _ _=>true
 |_=>false
def TX{D:Nat}{H:Hp}:∀l:Is,l.all fixB=true->RZ true D l l H false:=by
 intro l
 induction l with
 |nil=>intro _;exact AD
 |cons a l ih=>
  intro h;simp only[qU,KW]at h;have h2:=ih h.2;cases a with
  |v x=>exact Al (q:=false) C7 h2
  |list n cs=>exact Al (q:=false) OW h2
  |_=>cases h.1
def T!(ts:eO):fixB (E4 ts)=true:=by cases ts<;>rfl
def A8d{k:IntKind}{z:Int}:fixB (.v (.int k z))=true:=rfl
def G?{l:Ha}:fixB (S l)=true:=rfl
def C19:fixB (.v (.slice none 0 0))=true:=rfl
def C4s{l:Is}:fixB (.list n l)=true:=rfl
def ZZ(c:Cd):∃A B:Is,(∀P,c.csP P=A++P::B)/\A.all fixB=true/\B.all fixB=true:=by
 match c with
 |.re b u=>
  refine⟨((Cd.re b u).csP Aw).take 31,((Cd.re b u).csP Aw).drop 32,λ_=>rfl,?_,?_⟩
  ·simp only[Cd.csP,List.take_succ_cons,List.take_zero,qU,l3a,A8d,G?,T!,l1g,l1b]
  ·simp only[Cd.csP,List.drop_succ_cons,qV,qU,l3a,A8d,G?,C19,l1g,l1b]
 |.co b p ps none=>
  refine⟨((Cd.co b p ps none).csP Aw).take 31,((Cd.co b p ps none).csP Aw).drop 32,λ_=>rfl,?_,?_⟩
  ·simp only[Cd.csP,List.take_succ_cons,List.take_zero,qU,l3a,A8d,G?,T!,l1g,l1b]
  ·simp only[Cd.csP,List.drop_succ_cons,qV,qU,l3a,A8d,G?,C19,C4s,l1g,l1b]
 |.co b p ps (some (k,vd))=>
  refine⟨((Cd.co b p ps (some (k,vd))).csP Aw).take 31,((Cd.co b p ps (some (k,vd))).csP Aw).drop 32,λ_=>rfl,?_,?_⟩
  ·simp only[Cd.csP,List.take_succ_cons,List.take_zero,qU,l3a,A8d,G?,T!,l1g,l1b]
  ·simp only[Cd.csP,List.drop_succ_cons,qV,qU,l3a,A8d,G?,C19,C4s,l1g,l1b]
def kM(c:Cd)(h:AV.one P=true):(c.csP P).all AV.one=true:=by
 match c with
 |.re b u=>exact RY (Wp _) h rfl rfl
 |.co b p ps none=>exact RY (Wp _) h rfl rfl
 |.co b p ps (some (k,vd))=>exact RY (Wp _) h rfl rfl
def JC(c:Cd):(c.csP P).length=68:=by
 match c with
 |.re b u=>rfl
 |.co b p ps none=>rfl
 |.co b p ps (some (k,vd))=>rfl
section
variable{H:Hp}{v:AV}{l:List Ha}{D:Nat}{b:Bool}
def jR(h:Bp H Au 1 v l.length (AF l))(c:l=[]->v=Aw):∃q,Fx b (D+1) v (Di l) H q:=by
 rcases h with⟨rfl,h2,_⟩|⟨r,q,rfl,h2,d⟩
 ·cases l with
  |nil=>exact⟨false,C7⟩
  |cons a l=>simp at h2
 ·cases l with
  |nil=>have:=c rfl;cases this
  |cons a l=>
   refine⟨true,?_⟩;show Fx b (D+1) _ (.list (a::l).length (AF (a::l))) H true;exact Yb (q':=false) h2 d (Lz (λs=>Value.string ⟨⟨s⟩⟩) (a::l))
def A0n{c:Cd}(h:Bp H Au 1 v c.ps.length (AF c.ps))(a:c.ps=[]->v=Aw):∃q,RZ true (D+1) (c.csP v) c.cs H q:=by
 have⟨q,hq⟩:=jR (D:=D) (b:=true) h a;have⟨A,B,e,f1,f2⟩:=ZZ c;rw[<-A0o c,e,e];exact⟨_,rZ (TX A f1) (Al hq (TX B f2))⟩
abbrev GV:=List (Cd×AV)
def gvC(g:GV):Is:=g.flatMap λp=>p.1.csP p.2
structure GvOk(g:GV)(H:Hp):Prop where
 sl:∀p∈g,Bp H Au 1 p.2 p.1.ps.length (AF p.1.ps)
 nl:∀p∈g,p.1.ps=[]->p.2=Aw
def C48{g:GV}(h:GvOk g H):∃q,RZ true (D+1) (gvC g) ((g.map Prod.fst).flatMap Cd.cs) H q:=by
 induction g with
 |nil=>exact⟨_,AD⟩
 |cons p g ih=>
  have⟨q1,h1⟩:=ih ⟨λr hr=>h.sl r (by simp[hr]),λr hr=>h.nl r (by simp[hr])⟩;have⟨q2,h2⟩:=A0n (D:=D) (h.sl p (by simp)) (h.nl p (by simp));exact⟨_,rZ h2 h1⟩
def Xy(gs:ed):AV:=match gs with
 |[]=>Aw
 |c::gs=>.list (c::gs).length ((c::gs).flatMap Cd.cs)
def OS(gs:ed):LA gs (Xy gs):=by cases gs with|nil=>exact .inr ⟨rfl,rfl⟩|cons _ _=>exact .inl rfl
def C0U{g:GV}{lv:AV}(h:GvOk g H)(f:Bp H Ab 68 lv g.length (gvC g))(c:g=[]->lv=Aw):∃q,Fx true (D+2) lv (Xy (g.map Prod.fst)) H q:=by
 rcases f with⟨rfl,h2,_⟩|⟨r,q,rfl,h2,d⟩
 ·cases g with
  |nil=>exact⟨false,C7⟩
  |cons a l=>simp at h2
 ·cases g with
  |nil=>have:=c rfl;cases this
  |cons p g=>
   have⟨q1,h1⟩:=C48 (D:=D) h;refine⟨true,?_⟩;have e:Xy ((p::g).map Prod.fst)=.list (p::g).length (((p::g).map Prod.fst).flatMap Cd.cs):=by
    show AV.list _ _=_;rw[show(p.1::g.map Prod.fst).length=(p::g).length by simp];rfl
   rw[e];exact Yb h2 d h1
end
structure Y7 where
 (y0 y1 y2 y3 y4 y5 y6:Int)
def Y7.cs(y:Y7):Is:=[I y.y0,I y.y1,I y.y2,I y.y3,I y.y4,I y.y5,I y.y6]
def Y7.Ok(y:Y7):Prop:=Kv y.y0/\Kv y.y1/\Kv y.y2/\Kv y.y3/\Kv y.y4/\Kv y.y5/\Kv y.y6
def yD(ids:List Ha)(y6:Int):Nat->List Ha
 |0=>[]
 |k+1=>if 0<ids.length/\pk (y6.fdiv (2^(4*k))) 16<14 then yD ids y6 k++[ids.getD ((pk (y6.fdiv (2^(4*k))) 16).toNat%ids.length) []] else yD ids y6 k
def A69{ids:List Ha}:∀k,∀s∈yD ids y6 k,s∈ids:=by
 intro k
 induction k with
 |zero=>intro s a;simp[yD]at a
 |succ k ih=>
  intro s a;unfold yD at a;split at a
  ·rename_i h;rcases dV.1 a with a|a
   ·exact ih s a
   ·rw[XY]at a;subst a;have:=Nat.mod_lt (pk (y6.fdiv (2^(4*k))) 16).toNat h.1;rw[TV,KJ this];exact Ql this
  ·exact ih s a
def A6a{ids:List Ha}:∀k,(yD ids y6 k).length<=k:=by
 intro k
 induction k with
 |zero=>simp[yD]
 |succ k ih=>
  unfold yD;split
  ·simp;omega
  ·omega
def kdM(i:Nat)(y:Y7):Int:=if i<2/\0<pk (y.y0.tdiv 3) 4 then 0 else y.y0
def cM(i:Nat)(y:Y7)(ids:List Ha):Cd:=cdM (kdM i y) y.y1 y.y2 y.y3 y.y4 y.y5 y.y1 y.y2 y.y3 y.y4 y.y5 y.y6 (some (y.y3,y.y4,y.y5,y.y6)) (yD ids y.y6 3)
def QV(xs:List Y7):Nat->ed
 |0=>[]
 |i+1=>
  if(cM i (xs.getD i ⟨0,0,0,0,0,0,0⟩) ((QV xs i).map Cd.id)).ps.Nodup/\(cM i (xs.getD i ⟨0,0,0,0,0,0,0⟩) ((QV xs i).map Cd.id)).id∉(QV xs i).map Cd.id
  then QV xs i++[cM i (xs.getD i ⟨0,0,0,0,0,0,0⟩) ((QV xs i).map Cd.id)] else QV xs i
def B7x{i:Nat}{y:Y7}{gs:ed}:(cM i y (gs.map Cd.id)).Ok:=by
 refine A5h λs a=>?_;obtain⟨c,_,rfl⟩:=Pu.1 (A69 _ s a);exact A5g c
def B1G(xs:List Y7):∀i,i<=8->GOk (QV xs i)/\(QV xs i).length<=i:=by
 intro i
 induction i with
 |zero=>intro _;exact⟨⟨by simp[QV],by simp[QV],by simp[QV],by simp[QV]⟩,by simp[QV]⟩
 |succ i ih=>
  intro hi;have⟨h,f⟩:=ih (by omega);unfold QV;split
  ·rename_i hc;refine⟨⟨λc hm=>?_,λc hm=>?_,?_,by simp;omega⟩,by simp;omega⟩
   ·rcases dV.1 hm with hm|hm
    ·exact h.ok c hm
    ·rw[XY]at hm;subst hm;exact B7x
   ·rcases dV.1 hm with hm|hm
    ·exact h.nd c hm
    ·rw[XY]at hm;subst hm;exact hc.1
   ·rw[dW,l36];refine⟨h.ids,by simp,λa g b hb e=>?_⟩;obtain⟨j,d,rfl⟩:=Pu.1 hb;rw[XY]at d;subst d;exact hc.2 (e▸g)
  ·exact⟨h,by omega⟩
end
section
variable{L n:Nat}
abbrev AN:=Ha
section
variable{gs:ed}{b:List (AN×Unit)}{p:AN}{ids:List AN}
def A0y(ids:List AN)(b:List (AN×Unit)):List AN->List (AN×Unit)
 |[]=>b
 |p::ps=>A0y ids (if p∈ids then b else Ku b p ()) ps
def mI:∀b:List (AN×Unit),(Ku b p ()).map Prod.fst=if p∈b.map Prod.fst then b.map Prod.fst else b.map Prod.fst++[p]:=by
 intro b
 induction b with
 |nil=>rfl
 |cons e b ih=>
  unfold Ku;by_cases h:e.1=p
  ·simp[h]
  ·rw[CL h,X0,ih,X0];have hm:(p∈e.1::b.map Prod.fst)↔p∈b.map Prod.fst:=by simp[Ne.symm h]
   by_cases h2:p∈b.map Prod.fst
   ·rw[Dv h2,Dv (hm.2 h2)]
   ·rw[CL h2,CL (λa=>h2 (hm.1 a))];rfl
def oM:∀(ps:List AN)(b:List (AN×Unit)),(b.map Prod.fst).Nodup->((A0y ids b ps).map Prod.fst).Nodup/\∀x,x∈(A0y ids b ps).map Prod.fst↔x∈b.map Prod.fst\/(x∈ps/\x∉ids):=by
 intro ps
 induction ps with
 |nil=>intro b h;exact⟨h,λx=>by simp[A0y]⟩
 |cons p ps ih=>
  intro b h;have h1:((if p∈ids then b else Ku b p ()).map Prod.fst).Nodup/\∀x,x∈(if p∈ids then b else Ku b p ()).map Prod.fst↔x∈b.map Prod.fst\/(x=p/\x∉ids):=by
   by_cases f:p∈ids
   ·rw[Dv f];refine⟨h,λx=>⟨.inl,λd=>d.elim id λ⟨e,hn⟩=>absurd (e▸f) hn⟩⟩
   ·rw[CL f,mI];by_cases hm:p∈b.map Prod.fst
    ·rw[Dv hm];exact⟨h,λx=>⟨.inl,λd=>d.elim id λ⟨e,_⟩=>e▸hm⟩⟩
    ·rw[CL hm];refine⟨l36.2 ⟨h,by simp,λa j c hc=>by simp at hc;subst hc;exact λe=>hm (e▸j)⟩,λx=>?_⟩;rw[dV,XY];exact⟨λd=>d.imp id λe=>⟨e,e▸f⟩,λd=>d.imp id λe=>e.1⟩
  have⟨h2,i⟩:=ih _ h1.1;refine⟨h2,λx=>?_⟩;show x∈(A0y ids (if p∈ids then b else Ku b p ()) ps).map Prod.fst↔_;rw[i,h1.2,Vp];constructor
  ·rintro((h|h)|h)
   ·exact .inl h
   ·exact .inr ⟨.inl h.1,h.2⟩
   ·exact .inr ⟨.inr h.1,h.2⟩
  ·rintro(h|⟨h|h,g⟩)
   ·exact .inl (.inl h)
   ·exact .inl (.inr ⟨h,g⟩)
   ·exact .inr ⟨h,g⟩
def J0(gs:ed):List AN:=Eu ((A0y (gs.map Cd.id) [] (gs.flatMap Cd.ps)).map Prod.fst)
def vL:(J0 gs).Nodup:=(Bb _).symm.nodup (oM _ [] (by simp)).1
def Y?:(J0 gs).Pairwise (· <= ·):=Da _
def Qh{x:AN}:x∈J0 gs↔x∉gs.map Cd.id/\∃c∈gs,x∈c.ps:=by
 rw[J0,(Bb _).mem_iff,(oM _ [] (by simp)).2];simp only[List.map_nil,List.not_mem_nil,false_or,l39];exact and_comm
def rJ{H:Hp}{K:K2}:Ap (r! L (n+1)) EA [gV gs,S p] H K=K (Bo (decide (p∈gs.map Cd.id))):=by
 refine AO (λK a=>?_) (Al jS (Al (q:=false) C7 AD));rw[VN];unfold Lw LF;have d:∀(F:Value->Af),Kk (S p) F=F (SV p):=λF=>id rfl;rw[d,wG (f:=DU) (b:=gE gs) (λK=>id rfl)];by_cases h:p∈gs.map Cd.id
 ·obtain⟨c,hc⟩:∃c,Lg (gE gs) p=some c:=by
   rcases A6s (gs:=gs) (s:=p) with⟨_,k,e,h1,_⟩|⟨h1,_⟩
   ·exact⟨_,h1⟩
   ·exact absurd h h1
  rw[hc];simp only[];rw[EG,EF,Bv (cs:=BI) rfl,BO (cs:=BI) (vs:=c.cs) (Ay (by simp)) CY rfl Ja];rw[Hu h]at a⊢;exact a _ _ λb=>⟨false,C7⟩
 ·rw[Zs (by rw[XD];exact h)];simp only[];rw[EG,EF,Bv (cs:=BI) rfl]
  erw[BO (cs:=BI) (vs:=BI) (Ay (by simp)) rfl rfl rfl]
  rw[Ir h]at a⊢;exact a _ _ λb=>⟨false,C7⟩
end
section
variable{gs:ed}{ids:List AN}
def A37:∀(ps:List AN)(b:List (AN×Unit)),(A0y ids b ps).length<=b.length+ps.length:=by
 intro ps
 induction ps with
 |nil=>intro b;exact MC _
 |cons p ps ih=>
  intro b;have h1:(if p∈ids then b else Ku b p ()).length<=b.length+1:=by
   split
   ·omega
   ·have:=congrArg List.length (mI (p:=p) b);rw[QK]at this;rw[this];split<;>simp
  have h2:=ih (if p∈ids then b else Ku b p ());show(A0y ids (if p∈ids then b else Ku b p ()) ps).length<=_;rw[LI];omega
def B5W:∀gs:ed,(∀c∈gs,c.ps.length<100)->(gs.flatMap Cd.ps).length<=gs.length*100:=by
 intro gs
 induction gs with
 |nil=>intro _;simp
 |cons c gs ih=>
  intro h;have h1:=h c (by simp);have h2:=ih λd a=>h d (by simp[a]);rw[nM,EN,LI,l1e];omega
def A7T(a:GOk gs)(d:∀c∈gs,c.ps.length<100):(J0 gs).length<1000:=by
 have h1:=A37 (ids:=gs.map Cd.id) (gs.flatMap Cd.ps) [];have h2:=B5W gs d;have e:=a.len;rw[J0,(Bb _).length_eq,QK];simp at h1;simp at h2;omega
def B11:∀l:List AN,pl 6 (Di l)=true:=by
 intro l;cases l with
 |nil=>rfl
 |cons a l=>
  show(AF (a::l)).all (pl 5)=true;rw[G9];intro y c;obtain⟨s,_,rfl⟩:=Pu.1 c;rfl
def wJ{ty:Nat}{es:IH}{H:Hp}{K:KV}:FV ty (.imap es) H K=K (.ptr (Ar H) 0 0) ((Ar H,c_ ty [.imap es])::H):=by
 unfold FV;rw[CP,FM,BS];rfl
end
abbrev B26(gs:ed):AV:=.fn (.func Fi) [] [.iptr [gV gs]]
def lpM(gs:ed)(p:Option (Option Code)):Row:=.loop 27 [(2,Aw),(3,.ptr 0 0 0),(5,.ptr 2 0 0),(7,.dk),(15,B26 gs),(17,.dk),(18,.dk),(19,.dk),(20,.dk),(21,.dk),(22,.dk),(23,.dk),(24,.dk)] (En).2.1 (En).2.2.1 (En).2.2.2 p
structure Ms(gs:ed)(b:List (AN×Unit))(H:Hp):Prop where
 net:Ah H 0=some (c_ CK [gV gs])
 mm:Ah H 1=some (.map false (Dd uS b) none)
 st:Ah H 2=some (c_ BX [.mp 1])
 lp:Ah H 3=some (lpM gs (some none))
 wf:Wf H
section
variable{gs:ed}{b:List (AN×Unit)}{H:Hp}{K:KV}{x:Af}{p s:AN}
def Ms.kp{H':Hp}(h:Ms gs b H)(w:Wf H')(k:∀u y,u<4->Ah H u=some y->Ah H' u=some y):Ms gs b H':=
 ⟨k _ _ (by decide) h.net,k _ _ (by decide) h.mm,k _ _ (by decide) h.st,k _ _ (by decide) h.lp,w⟩
def B78{a:Hp}{K:Ru}(h:Ah a 3=some (lpM gs none)):EC a 3 false (some none) K=K (upd a 3 (lpM gs (some none))):=PN h
def B4A(h:Ms gs b H)(r:∀t,Ms gs (if p∈gs.map Cd.id then b else Ku b p ()) t->(∀u y,3<u->Ah H u=some y->Ah t u=some y)->K (Bo true) t=x):
 CH (E (L+20)) (r! L (n+2)) (.yl 3) [S s,S p] H K=x:=by
 show Oj (r! L (n+2)) 3 [S s,S p] H K=x;rw[PG h.lp (by kernel_rfl)];have j:(r! L (n+2)).run= λw=>MD (E (L+20)) (r! L (n+1)) w:=rfl;rw[j,fD,PQ h.lp];simp only[BF];have d:Ah (upd H 3 (lpM gs none)) 0=some (c_ CK [gV gs]):=by rw[Ag (by decide)];exact h.net
 have c:Ah (upd H 3 (lpM gs none)) 1=some (.map false (Dd uS b) none):=by rw[Ag (by decide)];exact h.mm
 have e:Ah (upd H 3 (lpM gs none)) 2=some (c_ BX [.mp 1]):=by rw[Ag (by decide)];exact h.st
 have a:Ah (upd H 3 (lpM gs none)) 3=some (lpM gs none):=Fl h.lp;have g:∀u y,3<u->Ah H u=some y->Ah (upd H 3 (lpM gs none)) u=some y:=λu y q k=>by rw[Ag (by omega)];exact k
 have w1:Wf (upd H 3 (lpM gs none)):=Bm h.wf;show AE Aj (.ptr 0 0 0) (upd H 3 (lpM gs none)) _=_;rw[AL (p:=0) rfl d (by simp)];show Ap (r! L (n+1)) EA [gV gs,S p] (upd H 3 (lpM gs none)) _=_;rw[rJ,DK];by_cases m:p∈gs.map Cd.id
 ·rw[Dv m]at r;rw[Hu m];show A2 (.v (.bool false)) _ _=_;rw[AY];show EC (upd H 3 (lpM gs none)) 3 false (some none) _=_;rw[B78 a];refine r _ ⟨?_,?_,?_,Fl a,Bm w1⟩ λu y q k=>?_
  ·rw[Ag (by decide)];exact d
  ·rw[Ag (by decide)];exact c
  ·rw[Ag (by decide)];exact e
  ·rw[Ag (by omega)];exact g u y q k
 ·rw[CL m]at r;rw[Ir m];show A2 (.v (.bool true)) _ _=_;rw[Cy];show AE CM (.ptr 2 0 0) (upd H 3 (lpM gs none)) _=_;rw[AL (p:=0) rfl e (by simp)];have A:∀{K:K2},Cb BH [] K=K (.agg []):=λ{K}=>id rfl;have B:∀(F:Value->Af),Kk (S p) F=F (SV p):=λF=>id rfl;rw[A,B];show Mg (.mp 1) (SV p) (uS ()) (upd H 3 (lpM gs none)) _=_;rw[ZW (f:=uS) (v:=()) c];have i:Ah (upd (upd H 3 (lpM gs none)) 1 (.map false (Dd uS (Ku b p ())) none)) 3=some (lpM gs none):=by rw[Ag (by decide)];exact a
  show EC (upd (upd H 3 (lpM gs none)) 1 (.map false (Dd uS (Ku b p ())) none)) 3 false (some none) _=_;rw[B78 i];refine r _ ⟨?_,?_,?_,Fl i,Bm (Bm w1)⟩ λu y q k=>?_
  ·rw[Ag (by decide),Ag (by decide)];exact d
  ·rw[Ag (by decide)];exact(BC c).trans rfl
  ·rw[Ag (by decide),Ag (by decide)];exact e
  ·rw[Ag (by omega),Ag (by omega)];exact g u y q k
def C1f{c:AV->AV->AV->AV->AV->KV}{j:AV}{y:Row}{ps:List AN}(hb:ps.length<100):∀(f i:Nat)(b:List (AN×Unit))(H:Hp),i<=ps.length->ps.length-i<f->Ms gs b H->Ah H 4=some y->
 (∀d a,Ms gs (A0y (gs.map Cd.id) b (ps.drop i)) a->Ah a 4=some y->c (.yl 3) (S s) j (Di ps) (I ps.length) d a=x)->
 Gq (L+20) (r! L (n+2)) K c f (.yl 3) (S s) j (Di ps) (I ps.length) (I i) H=x:=by
 intro f
 induction f with
 |zero=>intro i b H _ h;omega
 |succ f ih=>
  intro i b H hi q hm k e;rw[Lb];unfold Gs Ia A4;by_cases h:i<ps.length
  ·rw[XA2 (by omega),Cy,(Lo ps).ia h,JS];rw[rV h]at e;refine B4A hm λa g m=>?_;rw[DK];show A2 (.v (.bool false)) _ _=_;rw[AY,CW (by omega)];exact ih (i+1) _ a (by omega) (by omega) g (m 4 y (by decide) k) e
  ·rw[Fk (by omega),AY];have:i=ps.length:=by omega
   subst this;rw[List.drop_length]at e;exact e _ H hm k
def C1g{X:Ru}{w:AV}(hw:Vo 6 w w=true)(R:∀c∈gs,c.ps.length<100)(hL:100<L)(r:∀b H,Ms gs b H->(b.map Prod.fst).Perm (J0 gs)->X H=some (w,[])):
 ∀(f:Nat)(es:List (AN×Cd))(b:List (AN×Unit))(H:Hp)(o:Option (Value×AV))(d0 d1 d2 B:AV),es.length<f->(∀e∈es,e∈gE gs)->Ms gs b H->Ah H 4=some (.iter (Dd DU es) o)->
 (b.map Prod.fst).Nodup->(∀q∈b.map Prod.fst,q∈J0 gs)->(∀q∈J0 gs,q∈b.map Prod.fst\/∃e∈es,q∈e.2.ps)->
 Gr (L+20) (r! L (n+2)) K X f (.yl 3) d0 (.it 4) d1 d2 B H=some (w,[]):=by
 intro f
 induction f with
 |zero=>intro es b H o d0 d1 d2 B h;omega
 |succ f ih=>
  intro es b H o d0 d1 d2 B hf he hm Q A h1 h2;rw[Lc];unfold Gt DN A4;refine YU (f:=DU) hw Q (λe=>?_) (λa e c J=>?_)
  ·subst e;rw[Fm,AY];refine r b H hm ((l35 A vL).2 λq=>⟨h1 q,λhq=>(h2 q hq).elim id λ⟨e,he,_⟩=>absurd he (by simp)⟩)
  ·subst J;have⟨cd,i,F⟩:=Pu.1 (he e (by simp));subst F;have j:=LY (es:=Dd DU (a++c)) (o:=some (.string ⟨⟨cd.id⟩⟩,DU cd)) Q;have k:Ms gs b (upd H 4 (.iter (Dd DU (a++c)) (some (.string ⟨⟨cd.id⟩⟩,DU cd)))):=hm.kp (Bm hm.wf) λu y hu P=>by rw[Ag (by omega)];exact P
   rw[Fm,Cy];simp only[BF];rw[NW j,Fm,Pq];generalize upd H 4 (.iter (Dd DU (a++c)) (some (.string ⟨⟨cd.id⟩⟩,DU cd)))=H1 at j k;have⟨Z,e2,D,w2,V⟩:=GC (e:=Ab) (zs:=BI) (vs:=cd.cs) k.wf CY;rw[Bv (cs:=BI) rfl,BO (cs:=BI) (vs:=cd.cs) (Ay (by simp)) CY rfl Ja,<-e2,fA,JZ,B2L D,kE];have O:=k.kp w2 λu y _ P=>(V u y P).1;have N:=(V _ _ j).1;have e0:(AV.v (.int .i64 0))=I ((0:Nat):Int):=rfl;rw[e0];refine C1f (n:=n) (R cd i) (L+20) 0 b Z (by omega) (by have:=R cd i;omega) O N λd Y t M=>?_;rw[qV]at t;have⟨g1,C⟩:=oM (ids:=gs.map Cd.id) cd.ps b A;refine ih (a++c) _ Y _ _ _ _ _ (by simp at hf⊢;omega) (λe g=>he e (by simp at g⊢;rcases g with g|g;exact .inl g;exact .inr (.inr g))) t M g1 (λq hq=>?_) (λq hq=>?_)
   ·rcases(C q).1 hq with hq|⟨hq,hn⟩
    ·exact h1 q hq
    ·exact Qh.2 ⟨hn,cd,i,hq⟩
   ·rcases h2 q hq with h|⟨e,g,m⟩
    ·exact .inl ((C q).2 (.inl h))
    ·simp at g;rcases g with g|g|g
     ·exact .inr ⟨e,by simp[g],m⟩
     ·subst g;exact .inl ((C q).2 (.inr ⟨m,(Qh.1 hq).1⟩))
     ·exact .inr ⟨e,by simp[g],m⟩
def zR{a:AV}(m:GOk gs)(O:40000<L)(w:∀c∈gs,c.ps.length<100)(u:LA gs a):CS (r! L (n+80)) Jw [a] (Di (J0 gs)):=by
 intro K d;rw[jC];unfold Rf;have k:RZ true depth [a] [a] [] false:=by rcases u with rfl|⟨_,rfl⟩<;>exact λK=>by kernel_rfl
 have of:∀{K:K2},Ap (r! L (n+79)) IZ [a] [] K=K (.tup [gV gs,Bo true]):=λ{K}=>Iw (λK d=>A9w (n:=n+15) m O u K d) k;have j:∀{H}{K:K2},Ap (r! L (n+79)) Fs [gV gs] H K=K (B26 gs):=λ{H K}=>by
  refine Iw (λK d=>?_) (Al (q:=false) jS AD);rw[show n+79=(n+78)+1 from rfl,NS];unfold Jd Ih;rw[wJ];exact d _ _ ⟨true,λK=>by kernel_rfl⟩
 rw[of,EG,EF];have w0:Vo 6 (Di (J0 gs)) (Di (J0 gs))=true:=TB 6 _ (B11 _);have J:∀{F:AV->KV},(Bx CK Aj [] λy A=>DE Aj y (gV gs) A λB=>Ld BH B λR C=>Bx BX CM C λg h=>DE CM g R h λi=>F y g i)=
  F (.ptr 0 0 0) (.ptr 2 0 0) [(2,c_ BX [.mp 1]),(1,.map false [] none),(0,c_ CK [gV gs])]:=λ{F}=>by kernel_rfl
 rw[J];simp only[BF];have M:∀{K:K2},AE Aj (.ptr 0 0 0) [(2,c_ BX [.mp 1]),(1,.map false [] none),(0,c_ CK [gV gs])] K=K (gV gs):=λ{K}=>by kernel_rfl
 rw[M,j,Wt,show n+79=(n+78)+1 from rfl,L6];unfold GH;have N:∀{H:Hp}{K:K2},AE Aj (.iptr [gV gs]) H K=K (gV gs):=λ{H K}=>by kernel_rfl
 rw[N,XO];simp only[BF];refine C1g (n:=n+76) w0 w (by omega) (λb H hm f=>?_) (L+20) (gE gs) [] _ none _ _ _ _ (by have:=m.len;simp[gE];omega) (λe he=>he)
  ⟨rfl,rfl,rfl,rfl,AG (AG (AG (AG (AG Ft))))⟩ rfl (by simp) (by simp) (λq hq=>.inr ?_)
 ·show IP H 3 _=_;rw[Bl hm.lp];show LJ H 3 .gone _=_;rw[Dh];have Q:Ah (upd H 3 .gone) 2=some (c_ BX [.mp 1]):=by rw[Ag (by decide)];exact hm.st
  have r:Ah (upd H 3 .gone) 1=some (.map false (Dd uS b) none):=by rw[Ag (by decide)];exact hm.mm
  show AE CM (.ptr 2 0 0) (upd H 3 .gone) _=_;rw[AL (p:=0) rfl Q (by simp)];have P:b.length<1000:=by
   have:=f.length_eq;rw[QK]at this;rw[this];exact A7T m w
  refine oP (n:=n+73) w0 (by omega) (by omega) (Bm hm.wf) r f Y? λv V hv t=>?_;exact d _ _ λbb=>by
   have⟨q,hq⟩:=jR (D:=depth-1) (b:=bb) hv t;exact⟨q,hq⟩
 ·have⟨_,c,hc,hq⟩:=Qh.1 hq;exact⟨(c.id,c),Pu.2 ⟨c,hc,rfl⟩,hq⟩
end
end
section
variable{b nx:List AN}
def JW(gs:ed)(s:AN):List AN:=match Lg (gE gs) s with
 |some c=>c.ps
 |none=>[]
inductive Anc(gs:ed)(s:AN):AN->Prop
 |one {x:AN}:x∈gs.map Cd.id->x∈JW gs s->Anc gs s x
 |more {x y:AN}:Anc gs s y->x∈gs.map Cd.id->x∈JW gs y->Anc gs s x
section
variable{gs:ed}{s x y p:AN}
def Anc.ids(h:Anc gs s x):x∈gs.map Cd.id:=by
 cases h with
 |one h _=>exact h
 |more _ h _=>exact h
def A8F:Anc gs s x↔(x∈gs.map Cd.id/\x∈JW gs s)\/∃p∈JW gs s,p∈gs.map Cd.id/\Anc gs p x:=by
 constructor
 ·intro h
  induction h with
  |one h1 h2=>exact .inl ⟨h1,h2⟩
  |@more x y e h1 h2 ih=>
   rcases ih with⟨c,a⟩|⟨p,c,a,d⟩
   ·exact .inr ⟨y,a,c,.one h1 h2⟩
   ·exact .inr ⟨p,c,a,.more d h1 h2⟩
 ·rintro(⟨h1,h2⟩|⟨p,h1,h2,c⟩)
  ·exact .one h1 h2
  ·induction c with
   |one a d=>exact .more (.one h2 h1) a d
   |more _ a d ih=>exact .more ih a d
end
open Classical in
def eB(gs:ed)(s:AN):List AN:=Eu ((gs.map Cd.id).filter λx=>decide (Anc gs s x))
section
variable{gs:ed}{s x p:AN}
def ZC:x∈eB gs s↔Anc gs s x:=by
 rw[eB,(Bb _).mem_iff,l2z,@decide_eq_true_iff _ (_)];exact⟨λh=>h.2,λh=>⟨h.ids,h⟩⟩
def B6s(h:(gs.map Cd.id).Nodup):(eB gs s).Nodup:=(Bb _).symm.nodup (h.sublist List.filter_sublist)
def C1Q:(eB gs s).Pairwise (· <= ·):=Da _
def A33:(eB gs s).length<=gs.length:=by
 rw[eB,(Bb _).length_eq];have:=l30 (λx=>@decide (Anc gs s x) (Classical.propDecidable _)) (gs.map Cd.id);rw[QK]at this;exact this
structure An(gs:ed)(s:AN)(b ns:List AN):Prop where
 nd:b.Nodup
 an:∀q∈b,Anc gs s q
 nx:∀q∈ns,q∈JW gs s\/∃y∈b,q∈JW gs y
 cl:∀q∈gs.map Cd.id,(q∈JW gs s\/∃y∈b,q∈JW gs y)->q∈b\/q∈ns
def An.start:An gs s [] (JW gs s):=⟨List.nodup_nil,by simp,λq h=>.inl h,λq _ h=>h.elim .inr λ⟨_,h,_⟩=>absurd h (by simp)⟩
def An.fin(hn:(gs.map Cd.id).Nodup)(h:An gs s b []):b.Perm (eB gs s):=by
 refine(l35 h.nd (B6s hn)).2 λq=>⟨λhq=>ZC.2 (h.an q hq),λhq=>?_⟩
 rw[ZC]at hq
 induction hq with
 |one h1 h2=>exact(h.cl _ h1 (.inl h2)).elim id λh=>absurd h (by simp)
 |more _ h1 h2 ih=>exact(h.cl _ h1 (.inr ⟨_,ih,h2⟩)).elim id λh=>absurd h (by simp)
def An.skip(h:An gs s b (p::nx))(a:p∈b\/p∉gs.map Cd.id):An gs s b nx:=
 ⟨h.nd,h.an,λq hq=>h.nx q (by simp[hq]),λq hq hc=>by
  rcases h.cl q hq hc with h1|h1
  ·exact .inl h1
  ·rcases Vp.1 h1 with rfl|h1
   ·exact a.elim .inl λh2=>absurd hq h2
   ·exact .inr h1⟩
def An.step(h:An gs s b (p::nx))(hb:p∉b)(g:p∈gs.map Cd.id):An gs s (b++[p]) (nx++JW gs p):=by
 refine⟨l36.2 ⟨h.nd,by simp,λa i c hc=>by simp at hc;subst hc;exact λe=>hb (e▸i)⟩,λq hq=>?_,λq hq=>?_,λq hq hc=>?_⟩
 ·rcases dV.1 hq with h1|h1
  ·exact h.an q h1
  ·rw[XY]at h1;subst h1;rcases h.nx q (by simp) with h2|⟨y,h2,d⟩
   ·exact .one g h2
   ·exact .more (h.an y h2) g d
 ·rcases dV.1 hq with h1|h1
  ·rcases h.nx q (by simp[h1]) with h2|⟨y,h2,d⟩
   ·exact .inl h2
   ·exact .inr ⟨y,by simp[h2],d⟩
  ·exact .inr ⟨p,by simp,h1⟩
 ·by_cases f:q=p
  ·exact .inl (by simp[f])
  ·have h1:(q∈JW gs s\/∃y∈b,q∈JW gs y)\/q∈JW gs p:=by
    rcases hc with h1|⟨y,h1,h2⟩
    ·exact .inl (.inl h1)
    ·rcases dV.1 h1 with d|d
     ·exact .inl (.inr ⟨y,d,h2⟩)
     ·rw[XY]at d;exact .inr (d▸h2)
   rcases h1 with h1|h1
   ·rcases h.cl q hq h1 with h2|h2
    ·exact .inl (by simp[h2])
    ·rcases Vp.1 h2 with h2|h2
     ·exact absurd h2 f
     ·exact .inr (by simp[h2])
   ·exact .inr (by simp[h1])
def A9U(gs:ed)(b:List AN):Nat:=((gs.map Cd.id).filter λq=>decide (q∉b)).length
def B45:A9U gs b<=gs.length:=by
 have:=l30 (λq=>decide (q∉b)) (gs.map Cd.id);rw[QK]at this;exact this
def A7r(hb:p∉b)(c:p∈gs.map Cd.id):A9U gs (b++[p])<A9U gs b:=by
 refine H! (p:=λq=>decide (q∉b++[p])) (q:=λq=>decide (q∉b)) (λa _ h=>?_) c (by simp[hb]) (by simp);simp only[decide_eq_true_eq,dV,not_or]at h⊢;exact h.1
def A65(a:∀c∈gs,c.ps.length<100):(JW gs p).length<100:=by
 unfold JW;cases h:Lg (gE gs) p with
 |none=>simp
 |some c=>exact a c (C16 h).1
end
def Mk(H:Hp)(v:AV)(l:List AN):Prop:=(v=Aw/\l=[])\/∃r o q cs,v=.sl 1 r o l.length/\Ah H r=some (.cells q Au cs)/\cs.drop o=AF l/\o+l.length=cs.length
section
variable{H:Hp}{v:AV}{l ps:List AN}{K:K2}{p:AN}
def Mk.len(h:Mk H v l):Ba Ac v K=K (I l.length):=by
 rcases h with⟨rfl,rfl⟩|⟨r,o,q,cs,rfl,_⟩<;>exact r_ rfl
def B6c{r o m:Nat}(h:0<m):D4 Ac (.sl 1 r o m) (.v (.int .i64 0)) K=K (.ptr r o 0):=by
 have a:D4 Ac (.sl 1 r o m) (I ((0:Nat):Int)) K=iN ((0:Nat):Int) λn=>ck (Nat.blt n m) (fN (Nat.add o (Nat.mul n 1)) λp=>K (.ptr r p 0)):=rfl;show D4 Ac (.sl 1 r o m) (I ((0:Nat):Int)) K=_;rw[a,JU,DF];have h1:Nat.blt 0 m=true:=by rw[Wg];exact h
 rw[h1];rfl
def B6b{r o m:Nat}(h:0<m):D3 Ac (.sl 1 r o m) (some (.v (.int .i64 1))) none none K=K (.sl 1 r (o+1) (m-1)):=by
 have d:D3 Ac (.sl 1 r o m) (some (I ((1:Nat):Int))) none none K=ck (Nat.beq 1 1) (iN ((1:Nat):Int) λl=>fN m λh=>fN m λx=>ck ((true||false)&&(Nat.ble l h&&(Nat.ble h x&&Nat.ble x m))) (fN (Nat.add o (Nat.mul l 1)) λa=>fN (Nat.sub h l) λn=>K (.sl 1 r a n))):=rfl;show D3 Ac (.sl 1 r o m) (some (I ((1:Nat):Int))) none none K=_;rw[d,JU,DF,DF];have c:((true||false)&&(Nat.ble 1 m&&(Nat.ble m m&&Nat.ble m m)))=true:=by simp;omega
 rw[c];show fN (Nat.add o (Nat.mul 1 1)) (λa=>fN (Nat.sub m 1) λn=>K (.sl 1 r a n))=_;rw[DF,DF];rfl
def Mk.front(h:Mk H v (p::l)):∃r o v1,(∀K:K2,D4 Ac v (.v (.int .i64 0)) K=K (.ptr r o 0))/\(∀K:K2,AE Ai (.ptr r o 0) H K=K (S p))/\
 (∀K:K2,D3 Ac v (some (.v (.int .i64 1))) none none K=K v1)/\Mk H v1 l/\∀u,A8 v1 u->A8 v u:=by
 rcases h with⟨_,h⟩|⟨r,o,q,cs,rfl,h1,h2,f⟩
 ·cases h
 ·rw[LI]at f;have d:o<cs.length:=by omega
  rw[rV d]at h2;injection h2 with g i
  refine⟨r,o,.sl 1 r (o+1) l.length,λK=>B6c (by simp),λK=>?_,λK=>?_,.inr ⟨r,o+1,q,cs,rfl,h1,i,by omega⟩,λu ⟨a,b,c,e⟩=>?_⟩
  ·rw[AL (p:=o) rfl h1 d];rw[TV,KJ d,l1q,g]
  ·rw[B6b (by simp)];rfl
  ·injection e with _ e;subst e;exact⟨1,o,_,rfl⟩
def Mk.lat{H':Hp}{P:Nat->Prop}(h:Mk H v l)(w:Wf H)(k:Lat H H' P)(c:∀u,A8 v u->¬P u):Mk H' v l:=by
 rcases h with h|⟨r,o,q,cs,h1,h2,a⟩
 ·exact .inl h
 ·exact .inr ⟨r,o,q,cs,h1,k.keep w r _ h2 (c r ⟨1,o,_,h1⟩),a⟩
def Mk.lt(h:Mk H v l)(w:Wf H){u:Nat}(d:A8 v u):u<Ar H:=by
 obtain⟨a,b,c,rfl⟩:=d;rcases h with⟨h,_⟩|⟨r,o,q,cs,h1,h2,e⟩
 ·cases h
 ·injection h1 with _ h1;subst h1;exact w.lt h2
def A2w{K:Nat->Is->Af}:Tw H (Di ps) K=K ps.length (AF ps):=by
 cases ps with
 |nil=>exact B2b
 |cons a l=>exact VX
def A1o:(AF ps).all AV.one=true:=by
 rw[G9];intro y a;obtain⟨s,_,rfl⟩:=Pu.1 a;rfl
def A?:(YD Ac.d&&Sj 1 (Di ps))=true:=by
 cases ps<;>rfl
def Mk.app(h:Mk H v l)(hn:l.length+ps.length<1000000):∃k f,(∀K:KV,E0 Au 1 Ai Ac v (Di ps) H K=K k f)/\Mk f k (l++ps)/\(∀u,A8 k u->u=Ar H)/\Lat H f (A8 v):=by
 have hb:(l.length+ps.length)*Ai.bytes<=70368744177664:=by
  have:Ai.bytes<=100000:=by decide
  exact fR (Nat.mul_le_mul (show l.length+ps.length<=1000000 by omega) this) (by decide)
 rcases h with⟨rfl,rfl⟩|⟨r,o,q,cs,rfl,h1,h2,O⟩
 ·have⟨k,f,J,L,M,N⟩:=apt (H:=H) (e:=Au) (sz:=1) (n:=0) (m:=ps.length) (ie:=Ai) (i2:=Ac) (v:=Aw) (src:=Di ps) (cs:=[]) (ys:=AF ps) (.inl ⟨rfl,rfl,rfl⟩) (λK=>A2w) (by rw[Be];omega) A1o (by decide) rfl A? (by simpa using hb) (by omega);refine⟨k,f,J,?_,M,N⟩;rcases L with⟨rfl,a,b⟩|⟨r,q,rfl,a,b⟩
  ·left;refine⟨rfl,?_⟩;have:ps.length=0:=by omega
   rw[l3b];exact gM this
  ·exact .inr ⟨r,0,q,_,by simp,a,by simp,by simp[Be]⟩
 ·have j:∀K:KV,Wa Au 1 Ai Ac (.sl 1 r o l.length) (Di ps) H K=IP H r λx=>Kb x λE cs=>HN cs 0 λcl=>
   ck (Nat.beq E Au&&(Nat.beq 1 1&&(Nat.beq (Nat.add o (Nat.mul l.length 1)) cl&&(Nat.ble (Nat.mul (Nat.add l.length ps.length) Ai.bytes) 70368744177664&&Nat.ble (Nat.add l.length ps.length) 70368744177664))))
    (Zu (Dn o cs) (AF ps) λg=>LJ H r .gone λf=>HE H λr=>fN (Nat.add l.length ps.length) λnm=>K (.sl 1 r 0 nm) ((r,.cells false Au g)::f)):=λK=>by
   unfold Wa;rw[A2w,C4,CP,C4];have c:(Nat.beq (0+(AF ps).length) (Nat.mul ps.length 1)&&(Oe (AF ps)&&(!Nat.beq 1 0&&(Nat.beq (0+(B4 Ai.zero).length) 1&&(YD Ac.d&&Sj 1 (Di ps))))))=true:=by
    rw[FM,A1o,A?,Be];have t:Nat.beq (0+ps.length) (Nat.mul ps.length 1)=true:=by
     rw[JZ];show Nat.beq ps.length (ps.length*1)=true;rw[rT];exact oW _
    rw[t];rfl
   rw[c];rfl
  refine⟨.sl 1 (Ar H) 0 (l.length+ps.length),(Ar H,.cells false Au (AF (l++ps)))::upd H r .gone,λK=>?_,?_,λu ⟨a,b,c,w⟩=>by injection w with _ w;exact w.symm,?_⟩
  ·have t:E0 Au 1 Ai Ac (.sl 1 r o l.length) (Di ps) H K=IP H r λx=>Kb x λE cs=>HN cs 0 λcl=>@Bool.rec (λ_=>Af) (To (Nat.add o (Nat.mul l.length 1)) cs λg=>LJ H r (.cells false E g) λC=>Wa Au 1 Ai Ac (.sl 1 r o l.length) (Di ps) C K) (Wa Au 1 Ai Ac (.sl 1 r o l.length) (Di ps) H K) (Nat.beq (Nat.add o (Nat.mul l.length 1)) cl):=rfl;rw[t,Bl h1];have B:∀F:TypeId->Is->Af,Kb (.cells q Au cs) F=F Au cs:=λ_=>rfl;rw[B,C4];have A:Nat.beq (Nat.add o (Nat.mul l.length 1)) (0+cs.length)=true:=by
    show Nat.beq (o+l.length*1) (0+cs.length)=true;rw[rT,O,JZ];exact oW _
   rw[A];show Wa Au 1 Ai Ac (.sl 1 r o l.length) (Di ps) H K=_;rw[j K];rw[Bl h1,B,C4];have c:(Nat.beq Au Au&&(Nat.beq 1 1&&(Nat.beq (Nat.add o (Nat.mul l.length 1)) (0+cs.length)&&(Nat.ble (Nat.mul (Nat.add l.length ps.length) Ai.bytes) 70368744177664&&Nat.ble (Nat.add l.length ps.length) 70368744177664))))=true:=by
    rw[A,oW,oW];simp only[l1b,KW,kZ];exact⟨hb,show l.length+ps.length<=_ by omega⟩
   rw[c];show Zu (Dn o cs) (AF ps) _=_;rw[Ni,Dh,BS,DF,CA,h2];have D:AF l++AF ps=AF (l++ps):=by simp[AF]
   rw[D];rfl
  ·have i:=Ay (H:=upd H r .gone) (x:=.cells false Au (AF (l++ps))) (by simp);rw[B9]at i;exact .inr ⟨Ar H,0,false,_,by rw[EN],i,rfl,by rw[Be];omega⟩
  ·have P:Lat H (upd H r .gone) (A8 (.sl 1 r o l.length)):=Lat.upd H r .gone ⟨1,o,_,rfl⟩;have i:=Lat.cons (upd H r .gone) (.cells false Au (AF (l++ps))) (A8 (.sl 1 r o l.length));rw[B9]at i;exact P.trans i (λ_ _ h=>h) (λ_ _ h=>h)
end
end
section
variable{L n:Nat}
section
variable{gs:ed}{s p:AN}{H:Hp}{K:KV}{x:Af}{ps:List AN}
def C4r(c:Cd){K:K2}:A0l 31 Ac (.agg c.cs) K=K (Di c.ps):=by
 match c with
 |.re b u=>exact r_ rfl
 |.co b p ps none=>exact r_ rfl
 |.co b p ps (some (k,vd))=>exact r_ rfl
def B2h{K:K2}:(Ye Ae false (gV gs) (SV s) H λv=>A0l 31 Ac v K)=K (Di (JW gs s)):=by
 rw[kD (f:=DU) (b:=gE gs) (λK=>id rfl)];unfold JW;cases a:Lg (gE gs) s with
 |none=>exact r_ rfl
 |some c=>exact C4r c
def B7A:GF Au 1 Ai 0 [] H K=K (.sl 1 (Ar H) 0 0) ((Ar H,.cells false Au [])::H):=by
 have e:GF Au 1 Ai 0 [] H K=HE H (λs=>K (.sl 1 s 0 0) ((s,.cells false Au [])::H)):=r_ rfl;rw[e,BS]
def S_(wf:Wf H)(hn:ps.length<100)(f:∀v b,Mk b v ps->(∀u y,Ah H u=some y->Ah b u=some y)->(∀u,A8 v u->Ar H<=u)->Wf b->K v b=x):
 (r! L (n+1)).call AH [Di ps] H K=x:=by
 rw[FU];unfold DM Ih;cases ps with
 |nil=>
  have e:∀{K:K2},Aq Ac .eql (Di []) (AV.v (.slice none 0 0)) K=K (Bo true):=λ{K}=>id rfl;rw[e,Cy];exact f Aw H (.inl ⟨rfl,rfl⟩) (λu y h=>h) (λu ⟨_,_,_,h⟩=>by cases h) wf
 |cons a l=>
  have e:∀{K:K2},Aq Ac .eql (Di (a::l)) (AV.v (.slice none 0 0)) K=K (Bo false):=λ{K}=>id rfl;rw[e,AY,B7A];have hb:=Ay (H:=H) (x:=.cells false Au []) (by simp);have w1:=AG (x:=.cells false Au []) wf;have⟨m,b,g,i,j,d⟩:=Mk.app (H:=(Ar H,.cells false Au [])::H) (v:=.sl 1 (Ar H) 0 0) (l:=[]) (ps:=a::l) (.inr ⟨Ar H,0,false,[],rfl,hb,rfl,rfl⟩) (by simp at hn⊢;omega);rw[g];refine f m b i (λu y c=>?_) (λu c=>?_) (d.wf w1)
  ·have k:=wf.lt c;refine d.keep w1 u y (A6 k c) λ⟨_,_,_,h⟩=>?_;injection h with _ h;omega
  ·have:=j u c;have h2:Ar ((Ar H,Row.cells false Au [])::H)=Ar H+1:=rfl;omega
structure As(m:Nat)(b:List (AN×Unit))(v:AV)(nx:List AN)(H:Hp):Prop where
 mm:Ah H m=some (.map false (Dd uS b) none)
 sl:Mk H v nx
 nm:¬A8 v m
 wf:Wf H
end
end
section
variable{a:Int}{b k:Nat}
variable{L n:Nat}
def B1S(h:Kv a)(c:k<3):Kv (a.fdiv (2^(4*k))):=by
 unfold Kv at h⊢;have e:a.fdiv (2^(4*k))=a/(2^(4*k)):=Int.fdiv_eq_ediv_of_nonneg _ (Int.le_of_lt (Int.pow_pos (by decide)));rw[e];obtain rfl|rfl|rfl:k=0\/k=1\/k=2:=by omega
 ·rw[show(2:Int)^(4*0)=1 by decide];omega
 ·rw[show(2:Int)^(4*1)=16 by decide];omega
 ·rw[show(2:Int)^(4*2)=256 by decide];omega
def B05{j:TI}{K:K2}(c:k<=64):Aq j .shr (I a) (I k) K=K (I (a.fdiv (2^k))):=by
 have:Aq j .shr (I a) (I k) K=ck (qZ 0 (k:Int)) (fI (a.fdiv (2^(min (k:Int).toNat 64))) λz=>K (.v (.int .i64 z))):=rfl;rw[this,VW,kY,l22 c];have h1:qZ 0 (k:Int)=true:=by rw[LZ];simp
 rw[h1];rfl
def rd7{H:Hp}{y:Y7}(h:Ah H b=some (c_ ZI y.cs)):
 (∀{K},AE Ad (.ptr b 0 0) H K=K (I y.y0))/\(∀{K},AE Ad (.ptr b 1 0) H K=K (I y.y1))/\(∀{K},AE Ad (.ptr b 2 0) H K=K (I y.y2))/\(∀{K},AE Ad (.ptr b 3 0) H K=K (I y.y3))/\(∀{K},AE Ad (.ptr b 4 0) H K=K (I y.y4))/\(∀{K},AE Ad (.ptr b 5 0) H K=K (I y.y5))/\(∀{K},AE Ad (.ptr b 6 0) H K=K (I y.y6)):=
 ⟨λ{K}=>AL (p:=0) rfl h (by simp[Y7.cs]),λ{K}=>AL (p:=1) rfl h (by simp[Y7.cs]),λ{K}=>AL (p:=2) rfl h (by simp[Y7.cs]),λ{K}=>AL (p:=3) rfl h (by simp[Y7.cs]),λ{K}=>AL (p:=4) rfl h (by simp[Y7.cs]),λ{K}=>AL (p:=5) rfl h (by simp[Y7.cs]),λ{K}=>AL (p:=6) rfl h (by simp[Y7.cs])⟩
def C3S{K:K2}:D4 Cw (.ptr b 0 0) (.v (.int .i64 0)) K=K (.ptr b 0 0):=XA0 (z:=0) 0 rfl rfl (by decide)
def C62{K:K2}:D4 Cw (.ptr b 0 0) (.v (.int .i64 1)) K=K (.ptr b 1 0):=XA0 (z:=1) 1 rfl rfl (by decide)
def C61{K:K2}:D4 Cw (.ptr b 0 0) (.v (.int .i64 2)) K=K (.ptr b 2 0):=XA0 (z:=2) 2 rfl rfl (by decide)
def C60{K:K2}:D4 Cw (.ptr b 0 0) (.v (.int .i64 3)) K=K (.ptr b 3 0):=XA0 (z:=3) 3 rfl rfl (by decide)
def C5Z{K:K2}:D4 Cw (.ptr b 0 0) (.v (.int .i64 4)) K=K (.ptr b 4 0):=XA0 (z:=4) 4 rfl rfl (by decide)
def C5Y{K:K2}:D4 Cw (.ptr b 0 0) (.v (.int .i64 5)) K=K (.ptr b 5 0):=XA0 (z:=5) 5 rfl rfl (by decide)
def C3R{K:K2}:D4 Cw (.ptr b 0 0) (.v (.int .i64 6)) K=K (.ptr b 6 0):=XA0 (z:=6) 6 rfl rfl (by decide)
structure Pa(H0:Hp)(ps:List Ha)(u:AV)(H:Hp):Prop where
 sl:Bp H Au 1 u ps.length (AF ps)
 nl:ps=[]->u=Aw
 fr:∀s,A8 u s->Ar H0<=s
 wf:Wf H
 w0:Wf H0
 nx:Ar H0<=Ar H
 kp:∀s q,Ah H0 s=some q->Ah H s=some q
section
variable{K:KV}{x:Af}{H0 H H':Hp}{y:Y7}{ids:List Ha}{a0 lv iv kd:AV}{q7 i:Nat}
def C3g{m:AV->AV->AV->AV->AV->AV->AV->KV}(hL:100<L)(Z:Kv y.y6)(hq:Ah H0 q7=some (c_ ZI y.cs))(hi:Bp H0 Au 1 iv ids.length (AF ids))(hb:ids.length<100)(j:∀u k H,Pa H0 (yD ids y.y6 3) u H->m a0 lv iv (I i) (.ptr q7 0 0) kd u k H=x):
 ∀(f k:Nat)(u:AV)(H:Hp),k<=3->3-k<f->Pa H0 (yD ids y.y6 k) u H->
 Uj (L+20) (r! L (n+64)) K m f a0 lv iv (I i) (.ptr q7 0 0) kd u (I k) H=x:=by
 intro f
 induction f with
 |zero=>intro k u H _ h;omega
 |succ f ih=>
  intro k u H hk hf d;rw[pK];unfold Ul Ia D5 A4 FW;have V:(AV.v (.int .i64 3))=I ((3:Nat):Int):=rfl;have w:=hi.kp λs q _=>d.kp s q;rw[V];by_cases h:k<3
  ·rw[XA2 (by omega)];simp only[gT,BK,LD (t:=Ac) rfl w,Eh];by_cases B:0<ids.length
   ·have hm:=Nat.mod_lt (pk (y.y6.fdiv (2^(4*k))) 16).toNat B;have pr:=FT (c:=y.y6.fdiv (2^(4*k))) (n:=16) (by decide);obtain⟨-, -, -, -, -, -,P⟩:=rd7 (d.kp _ _ hq);have ml:∀{K:K2},Aq Ad .mul (.v (.int .i64 4)) (I (k:Int)) K=K (I ((4*k:Nat):Int)):=λ{K}=>by
     rw[QS,CX (by omega) (by omega)];rw[show(4:Int)*(k:Int)=((4*k:Nat):Int) by omega]
    have C:∀{H K},Ap (r! L (n+64)) Mz [I (y.y6.fdiv (2^(4*k))),.v (.int .i64 16)] H K=K (I (pk (y.y6.fdiv (2^(4*k))) 16)):=λ{H K}=>A1P (n:=n+63) (B1S Z h) (by decide) (by decide) H K;have J:∀{K:K2},Aq Ad .add (I k) (.v (.int .i64 1)) K=K (I ((k+1:Nat):Int)):=λ{K}=>CW (by omega);rw[Hu (by omega),SJ,Cy];simp only[BF];rw[C3R,P,ml,B05 (by omega),C,DO];have r:yD ids y.y6 (k+1)=if 0<ids.length/\pk (y.y6.fdiv (2^(4*k))) 16<14 then yD ids y.y6 k++[ids.getD ((pk (y.y6.fdiv (2^(4*k))) 16).toNat%ids.length) []] else yD ids y.y6 k:=rfl
    by_cases g:pk (y.y6.fdiv (2^(4*k))) 16<14
    ·rw[Dv ⟨B,g⟩]at r;have D:PL H ids iv:=.inr w;have⟨p,X,Y⟩:=D.at2 hm;have rm:∀{K:K2},Aq Ad .rem (I (pk (y.y6.fdiv (2^(4*k))) 16)) (I (ids.length:Int)) K=K (I (((pk (y.y6.fdiv (2^(4*k))) 16).toNat%ids.length:Nat):Int)):=λ{K}=>by
      rw[Tz (by omega),Int.tmod_eq_emod_of_nonneg pr.1];have:(pk (y.y6.fdiv (2^(4*k))) 16)=(((pk (y.y6.fdiv (2^(4*k))) 16).toNat:Nat):Int):=by omega
      rw[this,kY];rfl
     have aa:=A6a (ids:=ids) (y6:=y.y6) k;have⟨u',H',a1,a2,M,a4,N,O⟩:=zG (ie:=Ai) (i2:=Ac) (ys:=AF [ids[(pk (y.y6.fdiv (2^(4*k))) 16).toNat%ids.length]]) d.sl d.wf rfl rfl (by decide) rfl (λ_=>rfl) (by show(_+1)*16<=_;omega) (by omega);have R:ids.getD ((pk (y.y6.fdiv (2^(4*k))) 16).toNat%ids.length) []=ids[(pk (y.y6.fdiv (2^(4*k))) 16).toNat%ids.length]:=by simp[List.getD,KJ hm]
     rw[R]at r;have g0:=d.nx;rw[Hu g,Cy,rm,X,Y,kP,a1,J];refine ih (k+1) u' H' (by omega) (by omega) ⟨?_,λe=>?_,λs A=>?_,M,d.w0,by omega,λs q A=>?_⟩
     ·rw[r,EN];have:AF (yD ids y.y6 k++[ids[(pk (y.y6.fdiv (2^(4*k))) 16).toNat%ids.length]])=AF (yD ids y.y6 k)++AF [ids[(pk (y.y6.fdiv (2^(4*k))) 16).toNat%ids.length]]:=by simp[AF]
      rw[this];exact a2
     ·rw[r]at e;simp at e
     ·have:=O s A;omega
     ·exact N _ _ (d.kp s q A) λe=>by have:=d.fr s e;have:=d.w0.lt A;omega
    ·rw[CL λhc=>g hc.2]at r;rw[Ir g,AY,J];exact ih (k+1) u H (by omega) (by omega) (by rw[r];exact d)
   ·rw[Ir (by omega),SJ,AY];have Q:∀k,yD ids y.y6 k=[]:=by
     intro k
     induction k with
     |zero=>rfl
     |succ k F=>unfold yD;rw[CL λhc=>B hc.1];exact F
    refine j u _ H ?_;rw[Q]at d⊢;exact d
  ·have:k=3:=by omega
   subst this;rw[Fk (by omega)];simp only[dY,BK,QA];rw[AY];exact j u _ H d
end
end
section
variable{a:AV}{s:Nat}
variable{n:Nat}
structure Gm(g:GV)(lv iv:AV)(H:Hp):Prop where
 gv:GvOk g H
 sl:Bp H Ab 68 lv g.length (gvC g)
 nl:g=[]->lv=Aw
 si:Bp H Au 1 iv g.length (AF ((g.map Prod.fst).map Cd.id))
 ni:g=[]->iv=Aw
 dl:∀s,A8 lv s->¬A8 iv s/\∀p∈g,¬A8 p.2 s
 di:∀s,A8 iv s->∀p∈g,¬A8 p.2 s
 wf:Wf H
section
variable{K:KV}{H H':Hp}{g:GV}{lv iv:AV}{c:Cd}{v:AV}
def Gm.grow(h:Gm g lv iv H)(wf:Wf H')(kp:∀s q,Ah H s=some q->Ah H' s=some q):Gm g lv iv H':=
 ⟨⟨λp b=>(h.gv.sl p b).kp λs q _=>kp s q,h.gv.nl⟩,h.sl.kp λs q _=>kp s q,h.nl,h.si.kp λs q _=>kp s q,h.ni,h.dl,h.di,wf⟩
def Gm.lti(h:Gm g lv iv H)(b:A8 iv s):s<Ar H:=h.si.lt h.wf b
def Gm.ltl(h:Gm g lv iv H)(b:A8 lv s):s<Ar H:=h.sl.lt h.wf b
def Gm.ltp(h:Gm g lv iv H){p:Cd×AV}(b:p∈g)(d:A8 p.2 s):s<Ar H:=(h.gv.sl p b).lt h.wf d
def C1I{cs:Is}(d:cs.length=68)(h1:cs.all AV.one=true):GF Ab 68 Ae 1 [(0,68,.agg cs)] H K=K (.sl 68 (Ar H) 0 1) ((Ar H,.cells false Ab cs)::H):=by
 have e:GF Ab 68 Ae 1 [(0,68,.agg cs)] H K=He (.agg cs) λvs=>HN vs 0 λn=>ck (Nat.beq n 68) (ck (Oe vs) (Ey 0 vs BI λb=>HE H λs=>K (.sl 68 s 0 1) ((s,.cells false Ab b)::H))):=r_ rfl;have hc:B4 (.agg cs)=cs:=rfl;rw[e,CP,hc,C4,d,FM,h1];show Ey 0 cs BI _=_;rw[It _ _ _ _ (by rw[d];decide),Wr _ _ (by rw[d];rfl),BS]
def Gm.add(h:Gm g lv iv H)(hv:Bp H Au 1 v c.ps.length (AF c.ps))(hn:c.ps=[]->v=Aw)(B:∀s,A8 v s->¬A8 lv s/\¬A8 iv s)(hb:g.length<100):
 ∃i j f k,(∀K:KV,(GF Ab 68 Ae 1 [(0,68,.agg (c.csP v))] H λv1 j=>E0 Ab 68 Ae Am lv v1 j K)=K i j)/\
  (∀K:KV,(GF Au 1 Ai 1 [(0,1,S c.id)] j λv1 k=>E0 Au 1 Ai Ac iv v1 k K)=K f k)/\Gm (g++[(c,v)]) i f k:=by
 have⟨i,j,a1,a2,u,D,w,y⟩:=zG (ie:=Ae) (i2:=Am) (ys:=c.csP v) h.sl h.wf (JC c) (kM c (Bp.one hv)) (by decide) rfl (λ_=>rfl) (by show(_+1)*800<=_;omega) (by omega);have t:Bp j Au 1 iv g.length (AF ((g.map Prod.fst).map Cd.id)):=h.si.kp λs q d r=>w s q r (λe=>(h.dl s e).1 d);have⟨f,k,b1,b2,C,b4,A,b6⟩:=zG (ie:=Ai) (i2:=Ac) (ys:=AF [c.id]) t u rfl rfl (by decide) rfl (λ_=>rfl) (by show(_+1)*16<=_;omega) (by omega);have kp:∀s q,¬A8 lv s->¬A8 iv s->Ah H s=some q->Ah k s=some q:=λs q h1 h2 d=>A _ _ (w _ _ d h1) h2;refine⟨i,j,f,k,λK=>by rw[C1I (JC c) (kM c (Bp.one hv))];exact a1 K,λK=>by rw[kP];exact b1 K,⟨λp b=>?_,λp b=>?_⟩,?_,λe=>by simp at e,?_,λe=>by simp at e,λs d=>⟨λe=>?_,λp b e=>?_⟩,λs d p b e=>?_,C⟩
 ·rcases dV.1 b with b|b
  ·exact(h.gv.sl p b).kp λs q d=>kp s q (λe=>(h.dl s e).2 p b d) (λe=>h.di s e p b d)
  ·rw[XY]at b;subst b;exact hv.kp λs q d=>kp s q (B s d).1 (B s d).2
 ·rcases dV.1 b with b|b
  ·exact h.gv.nl p b
  ·rw[XY]at b;subst b;exact hn
 ·have m:gvC (g++[(c,v)])=gvC g++c.csP v:=by simp[gvC]
  rw[m,EN];exact Bp.kp a2 λs q d r=>A s q r λe=>by have:=y s d;have:=h.lti e;omega
 ·have m:AF (((g++[(c,v)]).map Prod.fst).map Cd.id)=AF ((g.map Prod.fst).map Cd.id)++AF [c.id]:=by simp[AF]
  rw[m,EN];exact b2
 ·have:=b6 s e;have:=Bp.lt a2 u d;omega
 ·have:=y s d;rcases dV.1 b with b|b
  ·have:=h.ltp b e;omega
  ·rw[XY]at b;subst b;have:=hv.lt h.wf e;omega
 ·have:=b6 s d;rcases dV.1 b with b|b
  ·have:=h.ltp b e;omega
  ·rw[XY]at b;subst b;have:=hv.lt h.wf e;omega
def XA(xs:List Y7)(a:AV):Prop:=a=.list xs.length (xs.flatMap Y7.cs)\/(xs=[]/\a=Aw)
def XA.len{xs:List Y7}{K:K2}(h:XA xs a):Ba MQ a K=K (I xs.length):=by
 rcases h with rfl|⟨rfl,rfl⟩<;>exact r_ rfl
def XA.ia{xs:List Y7}{i:Nat}{K:K2}(h:XA xs a)(hi:i<xs.length):D4 MQ a (I i) K=K (.iptr xs[i].cs):=by
 rcases h with rfl|⟨rfl,rfl⟩
 ·exact Z5 (f:=Y7.cs) rfl (λ_=>rfl) hi
 ·simp at hi
end
end
section
variable{a b c d:Int}
variable{L n:Nat}
section
variable{K:KV}{x:Af}{xs:List Y7}{a0:AV}
def b6{a b c d e f:Int}{K:K2}:Cb BB [(0,1,I a),(1,1,I b),(2,1,I c),(3,1,I d),(4,1,I e),(5,1,I f)] K=K (.agg [I a,I b,I c,I d,I e,I f]):=id rfl
def b4{K:K2}:Cb CQ [(0,1,I a),(1,1,I b),(2,1,I c),(3,1,I d)] K=K (.agg [I a,I b,I c,I d]):=id rfl
def bs4{H:Hp}:GF HX 4 CQ 1 [(0,4,.agg [I a,I b,I c,I d])] H K=K (.sl 4 (Ar H) 0 1) ((Ar H,.cells false HX [I a,I b,I c,I d])::H):=by
 have e:GF HX 4 CQ 1 [(0,4,.agg [I a,I b,I c,I d])] H K=HE H (λs=>K (.sl 4 s 0 1) ((s,.cells false HX [I a,I b,I c,I d])::H)):=r_ rfl;rw[e,BS]
def C3t{k4:KV}(hL:40000<L)(hx:XA xs a0)(a5:∀y∈xs,y.Ok)(w:∀g lv iv H,g.map Prod.fst=QV xs (min 8 xs.length)->Gm g lv iv H->k4 lv H=x):
 ∀(f i:Nat)(g:GV)(lv iv:AV)(H:Hp)(d0 d1 d2 d3:AV),i<=min 8 xs.length->min 8 xs.length-i<f->g.map Prod.fst=QV xs i->Gm g lv iv H->
 Uk (L+20) (r! L (n+64)) K k4 f a0 lv iv (I i) d0 d1 d2 d3 H=x:=by
 intro f
 induction f with
 |zero=>intro i g lv iv H d0 d1 d2 d3 _ h;omega
 |succ f ih=>
  intro i g lv iv H d0 d1 d2 d3 hi hf M hh;rw[pL];unfold Um Ia D5 A4 FW;have e8:(AV.v (.int .i64 8))=I ((8:Nat):Int):=rfl;rw[hx.len,e8];by_cases h:i<min 8 xs.length
  ·have R:i<xs.length:=by omega
   obtain⟨y,hy⟩:∃y,xs[i]=y:=⟨_,rfl⟩
   have ak:=a5 _ (Ql R);have az:xs.getD i ⟨0,0,0,0,0,0,0⟩=y:=by rw[<-hy];simp[List.getD,KJ R]
   rw[hy]at ak;have⟨o0,o1,o2,o3,o4,o5,o6⟩:=ak;rw[XA2 (by omega)];simp only[gT,BK];rw[XA2 (by omega),BK,SJ,Cy];refine Qm λbf aa=>?_;refine Qm λa9 ab=>?_;have ax:(QV xs i).length=g.length:=by rw[<-M,QK]
   have g8:=(B1G xs i (by omega)).2;have O:QV xs (i+1)=if(cM i y ((QV xs i).map Cd.id)).ps.Nodup/\(cM i y ((QV xs i).map Cd.id)).id∉(QV xs i).map Cd.id then QV xs i++[cM i y ((QV xs i).map Cd.id)] else QV xs i:=by
    have:QV xs (i+1)=if(cM i (xs.getD i ⟨0,0,0,0,0,0,0⟩) ((QV xs i).map Cd.id)).ps.Nodup/\(cM i (xs.getD i ⟨0,0,0,0,0,0,0⟩) ((QV xs i).map Cd.id)).id∉(QV xs i).map Cd.id
     then QV xs i++[cM i (xs.getD i ⟨0,0,0,0,0,0,0⟩) ((QV xs i).map Cd.id)] else QV xs i:=rfl
    rw[this,az]
   have B:∀g' t p q kd u k C,g'.map Prod.fst=QV xs (i+1)->Gm g' t p C->a9 a0 t p (I i) q kd u k C=x:=by
    intro g' t p q kd u k C h1 h2;have ad:∀{K:K2},Aq Ad .add (I i) (.v (.int .i64 1)) K=K (I ((i+1:Nat):Int)):=λ{K}=>CW (by omega);rw[ab,aa];simp only[ad];exact ih (i+1) g' t p C q kd u k (by omega) (by omega) h1 h2
   clear aa ab ih w;have l7:∀{H}{K:K2},AE Cw (.iptr y.cs) H K=K (.agg y.cs):=λ{H K}=>r_ rfl;have⟨H1,e1,m1,w1,am⟩:=GC (e:=ZI) (zs:=[zI,zI,zI,zI,zI,zI,zI]) (vs:=y.cs) hh.wf rfl;rw[hx.ia R,hy,l7,Bv (cs:=[zI,zI,zI,zI,zI,zI,zI]) rfl,BO (cs:=[zI,zI,zI,zI,zI,zI,zI]) (vs:=y.cs) (Ay (by simp)) rfl rfl rfl,<-e1];have h1:=hh.grow w1 λs q m=>(am s q m).1;generalize Ar H=q7 at m1;clear e1 am hh;obtain⟨Y, -⟩:=rd7 m1;rw[C3S,Y];refine Qm λba ac=>?_;have j:ba (I (kdM i y)) H1=x:=by
    rw[ac];clear ac;refine Qm λbg ae=>?_;refine Qm λbd J=>?_;have aj:=h1.si;rw[M]at aj;have A:((QV xs i).map Cd.id).length=g.length:=by rw[QK,ax]
    refine C3g (n:=n) (ids:=(QV xs i).map Cd.id) (by omega) o6 m1 (by rw[A];exact aj) (by rw[A];omega) (λu k H2 hp=>?_) (L+20) 0 Aw H1 (by omega) (by omega) ⟨.inl ⟨rfl,rfl,rfl⟩,λ_=>rfl,(λs m=>by have⟨_,_,_,h⟩:=m;cases h),w1,w1,MC _,λ_ _ h=>h⟩;rw[J,ae];clear J ae;obtain⟨-,r1,r2,r3,r4,r5,r6⟩:=rd7 (hp.kp _ _ m1);simp only[C62,C61,C60,C5Z,C5Y,C3R,r1,r2,r3,r4,r5,r6];rw[b6,b6,b4,bs4];have⟨H3,s3,e3,Z,m3,w3,ao⟩:=push hp.wf (.cells false HX [I y.y3,I y.y4,I y.y5,I y.y6]) (by simp);rw[<-Z,<-e3];have a3:Kv (kdM i y):=by
     unfold kdM;split
     ·unfold Kv;omega
     ·exact o0
    have a8:YA H3 (some (y.y3,y.y4,y.y5,y.y6)) (.sl 4 s3 0 1):=λC kp=>⟨true,Yb (D:=depth-1) (q':=false) (kp _ _ m3) rfl (Lz (λz:Int=>Value.int .i64 z) [y.y3,y.y4,y.y5,y.y6])⟩
    have a7:PL H3 (yD ((QV xs i).map Cd.id) y.y6 3) u:=.inr (hp.sl.kp λs q _ m=>(ao _ _ m).1);have h3:=h1.grow w3 λs q m=>(ao _ _ (hp.kp s q m)).1;have be:=A6a (ids:=(QV xs i).map Cd.id) (y6:=y.y6) 3;clear r1 r2 r3 r4 r5 r6 e3 Z m3 h1;have ay:∀s∈yD ((QV xs i).map Cd.id) y.y6 3,s.length=32:=λs m=>by
     obtain⟨c,_,rfl⟩:=Pu.1 (A69 _ s m);exact A5g c
    refine uA (n:=n+20) (y:=some (y.y3,y.y4,y.y5,y.y6)) hL w3 a3 o1 o2 o3 o4 o5 o1 o2 o3 o4 o5 o6 a8 ⟨o3,o4,o5,o6⟩ a7 (by omega) ay ?_;show∀v C,Bp C Au 1 v (cM i y ((QV xs i).map Cd.id)).ps.length (AF (cM i y ((QV xs i).map Cd.id)).ps)->((cM i y ((QV xs i).map Cd.id)).ps=[]->v=Aw)->Wf C->(∀s q,Ah H3 s=some q->Ah C s=some q)->(∀s,A8 v s->Ar H3<=s)->_;intro v H4 sv nv w4 ap P;have N:(cM i y ((QV xs i).map Cd.id)).Ok:=B7x;have ec:cdM (kdM i y) y.y1 y.y2 y.y3 y.y4 y.y5 y.y1 y.y2 y.y3 y.y4 y.y5 y.y6 (some (y.y3,y.y4,y.y5,y.y6)) (yD ((QV xs i).map Cd.id) y.y6 3)=cM i y ((QV xs i).map Cd.id):=rfl;rw[ec];generalize cM i y ((QV xs i).map Cd.id)=c at sv nv N O⊢;have h4:=h3.grow w4 ap;have hd:∀s,A8 v s->¬A8 lv s/\¬A8 iv s:=λs m=>⟨λe=>by have:=h3.ltl e;have:=P s m;omega,λe=>by have:=h3.lti e;have:=P s m;omega⟩
    have⟨X,e5,m5,w5,V⟩:=GC (e:=Ab) (zs:=BI) (vs:=c.csP v) w4 (JC c);rw[Bv (cs:=BI) rfl,BO (cs:=BI) (vs:=c.csP v) (Ay (by simp)) (JC c) rfl (kM c (Bp.one sv)),<-e5];have h5:=h4.grow w5 λs q m=>(V s q m).1;have ar:=Bp.kp sv λs q _ m=>(V s q m).1;generalize Ar H4=r at m5;have lc:∀{K},AE Ae (.ptr r 0 0) X K=K (.agg (c.csP v)):=λ{K}=>Bu rfl (by exact(JC c).symm) m5;clear e5 V h4 h3 sv ap P m5;have ah:((QV xs i).map Cd.id).length<1000:=by rw[A];omega
    have a4:([]:Ha)∉(QV xs i).map Cd.id:=λe=>by
     have⟨d,_,hd⟩:=Pu.1 e;exact wR d hd
    have af:∀{s:Ha}{K},Ap (r! L (n+64)) TY [iv,S s] X K=K (nQ s ((QV xs i).map Cd.id) 0):=λ{s K}=>by
     have aq:=h5.si;rw[M,<-A]at aq;have bc:(QV xs i).map Cd.id=[]->iv=Aw:=λe=>h5.ni (by
      have:g.length=0:=by rw[<-A,e];rfl
      exact gM this)
     have⟨q,hq⟩:=jR (D:=depth-1) (b:=true) aq bc;exact AO (B6U (L:=L) (n:=n+63) (s:=s) (Lo ((QV xs i).map Cd.id)) ah (by omega)) (Al hq (Al (q:=false) C7 AD))
    have⟨qc,ai⟩:=A0n (D:=depth-2) ar nv;by_cases F:c.ps.Nodup
    ·have Q:∀{K},Ap (r! L (n+64)) GY [.agg (c.csP v)] X K=K (S c.id):=λ{K}=>AO (A5f (n:=n) hL N F) (Al (L0 (D:=depth-1) ai) AD);rw[lc,Q,af];by_cases hm:c.id∈(QV xs i).map Cd.id
     ·obtain⟨k,hk, -, -,e⟩:=jO _ 0 hm;rw[CL λhc=>hc.2 hm]at O;rw[e,EG,EF,RS,Ir (wR c),Bool.not_false];simp only[gT,BK,ntT,SJ];rw[AY];exact B g lv iv _ _ _ _ X (by rw[O];exact M) h5
     ·rw[Dv ⟨F,hm⟩]at O;have⟨t,H6,p,H7,b1,b2,b3⟩:=h5.add ar nv hd (by omega);rw[jP _ 0 hm,EG,EF,RS,Ir (wR c),Bool.not_false];simp only[gT,BK,ntF,SJ];rw[Cy,lc,b1,b2];exact B (g++[(c,v)]) t p _ _ _ _ H7 (by rw[O,dW,M];rfl) b3
    ·have Q:∀{K},Ap (r! L (n+64)) GY [.agg (c.csP v)] X K=K (S []):=λ{K}=>AO (B6l (n:=n) hL N F) (Al (L0 (D:=depth-1) ai) AD);rw[CL λhc=>F hc.1]at O;rw[lc,Q,af,jP _ 0 a4,EG,EF,RS,Hu rfl,Bool.not_true];simp only[dY,BK,QA];rw[AY];exact B g lv iv _ _ _ _ X (by rw[O];exact M) h5
   have e2:(AV.v (.int .i64 2))=I ((2:Nat):Int):=rfl;rw[e2];by_cases ag:i<2
   ·have a6:∀{H K},Ap (r! L (n+64)) Mz [I (y.y0.tdiv 3),.v (.int .i64 4)] H K=K (I (pk (y.y0.tdiv 3) 4)):=λ{H K}=>A1P (n:=n+63) (Ol o0 (by decide)) (by decide) (by decide) H K;rw[XA2 (by omega)];simp only[gT,BK,C3S,Y,oR o0 (show(1:Int)<=3 by decide),a6,Eh,SJ];by_cases h0:0<pk (y.y0.tdiv 3) 4
    ·rw[Hu h0,Cy];have e:kdM i y=0:=Dv ⟨ag,h0⟩;rw[e]at j;exact j
    ·rw[Ir h0,AY];have e:kdM i y=y.y0:=CL λhc=>h0 hc.2;rw[e]at j;exact j
   ·rw[Fk (by omega)];simp only[dY,BK,gU,QA];rw[AY];have e:kdM i y=y.y0:=CL λhc=>ag hc.1;rw[e]at j;exact j
  ·have:i=min 8 xs.length:=by omega
   subst this;by_cases h8:xs.length<=8
   ·rw[Fk (by omega)];simp only[dY,BK,QA];rw[AY];exact w g lv iv H M hh
   ·rw[XA2 (by omega)];simp only[gT,BK];rw[Fk (by omega),BK,SJ,AY];exact w g lv iv H M hh
def B0F(m:40000<L)(r:XA xs a0)(f:∀y∈xs,y.Ok):CT (r! L (n+65)) XK [a0] (Xy (QV xs (min 8 xs.length))):=by
 intro K k;rw[uL];unfold WZ A4;simp only[BF];refine C3t m r f (λg lv iv H q e=>?_) (L+20) 0 [] Aw Aw [] _ _ _ _ (by omega) (by omega) rfl ⟨⟨(λp i=>by cases i),(λp i=>by cases i)⟩,.inl ⟨rfl,rfl,rfl⟩,λ_=>rfl,.inl ⟨rfl,rfl,rfl⟩,λ_=>rfl,(λs j=>by have⟨_,_,_,h⟩:=j;cases h),(λs j=>by have⟨_,_,_,h⟩:=j;cases h),Ft⟩;refine k _ _ ?_;rw[<-q];exact C0U (D:=depth-2) e.gv e.sl e.nl
end
end
section
variable{K:KV}
def rQ{ps:List Ha}{K:K2}:Ba Ac (Di ps) K=K (I ps.length):=(Lo ps).len
def C5M{b c:Bool}{K:K2}:Aq Wn .neq (Bo b) (Bo c) K=K (Bo (b !=c)):=by cases b<;>cases c<;>exact r_ rfl
end
section
variable{K:KV}
def C6b{b c:Bool}{K:K2}:Aq Wn .eql (Bo b) (Bo c) K=K (Bo (b==c)):=by cases b<;>cases c<;>exact r_ rfl
end
section
variable{n:Nat}
section
variable{α:Type}{f:α->Is}{w:Nat}
def A6u(b:∀x,(f x).length=w):∀(l:List α)(m:Nat),(l.flatMap f).take (m*w)=(l.take m).flatMap f/\(l.flatMap f).drop (m*w)=(l.drop m).flatMap f:=by
 intro l
 induction l with
 |nil=>intro m;simp
 |cons a l ih=>
  intro m;cases m with
  |zero=>simp
  |succ m=>
   have⟨h1,h2⟩:=ih m;have e:(m+1)*w=(f a).length+m*w:=by rw[b,l1e];omega
   rw[nM,e,List.take_length_add_append,List.drop_length_add_append,h1,h2];exact⟨rfl,rfl⟩
def jV(b:∀x,(f x).length=w):∀l:List α,(l.flatMap f).length=l.length*w:=by
 intro l
 induction l with
 |nil=>simp
 |cons a l ih=>rw[nM,EN,b,ih,LI,l1e];omega
end
section
variable{H:Hp}{K:K2}
def A8x:∀l:ed,(l.flatMap Cd.cs).all AV.one=true:=by
 intro l
 induction l with
 |nil=>rfl
 |cons c l ih=>rw[nM,List.all_append,Ja,ih];rfl
def C6e(c:Cd):c.cs.getD 31 .dk=Di c.ps:=by
 match c with
 |.re b u=>rfl
 |.co b p ps none=>rfl
 |.co b p ps (some (k,vd))=>rfl
def A0k{r m i:Nat}(h:i<m):D4 Am (.sl 68 r 0 m) (I (i:Int)) K=K (.ptr r (i*68) 0):=by
 have a:D4 Am (.sl 68 r 0 m) (I (i:Int)) K=iN (i:Int) λn=>ck (Nat.blt n m) (fN (Nat.add 0 (Nat.mul n 68)) λp=>K (.ptr r p 0)):=rfl;rw[a,JU,DF];have h1:Nat.blt i m=true:=by rw[Wg];exact h
 have b:Nat.add 0 (Nat.mul i 68)=i*68:=JZ _;rw[h1,b];rfl
def C6I{K:KV}:GF Ab 68 Ae 0 [] H K=K (.sl 68 (Ar H) 0 0) ((Ar H,.cells false Ab [])::H):=by
 have e:GF Ab 68 Ae 0 [] H K=HE H (λs=>K (.sl 68 s 0 0) ((s,.cells false Ab [])::H)):=r_ rfl;rw[e,BS]
end
end
section
variable{gs:ed}
def B5T(h:(gs.map Cd.id).Nodup){i:Nat}(hi:i<gs.length):Lg (gr gs) gs[i].id=some (cE gs[i]):=by
 induction gs generalizing i with
 |nil=>simp at hi
 |cons c gs ih=>
  rw[X0,List.nodup_cons]at h;show Lg ((c.id,cE c)::gr gs) _=_;unfold Lg;cases i with
  |zero=>rw[List.getElem_cons_zero,Dv rfl]
  |succ i=>
   rw[List.getElem_cons_succ];have a:i<gs.length:=by simpa using hi
   rw[CL (λe=>h.1 (Pu.2 ⟨_,Ql a,e.symm⟩))];exact ih h.2 a
end
section
variable{gs:ed}
def A64(h:(gs.map Cd.id).Nodup){i:Nat}(hi:i<gs.length):JW gs gs[i].id=gs[i].ps:=by
 have h1:=B5T h hi;rw[C15]at h1;unfold JW;cases b:Lg (gE gs) gs[i].id with
 |none=>rw[b]at h1;cases h1
 |some c=>
  rw[b]at h1;simp only[D?,l0z]at h1;exact congrArg Ce.ps h1
end
section
variable{gs:ed}{out l:List AN}{x y p m:AN}
def C1G(gs:ed)(out:List AN)(x:AN):Bool:=decide (x∉out)&&(JW gs x).all λp=>decide (p∉gs.map Cd.id)||decide (p∈out)
def B2I:C1G gs out x=true↔x∉out/\∀p∈JW gs x,p∈gs.map Cd.id->p∈out:=by
 unfold C1G;rw[KW,decide_eq_true_eq,G9];refine and_congr Iff.rfl ⟨λh p a hi=>?_,λh p a=>?_⟩
 ·have:=h p a;rw[l1i,decide_eq_true_eq,decide_eq_true_eq]at this;exact this.resolve_left λh=>h hi
 ·rw[l1i,decide_eq_true_eq,decide_eq_true_eq];by_cases hi:p∈gs.map Cd.id
  ·exact .inr (h p a hi)
  ·exact .inl hi
def mF(gs:ed)(out:List AN):List AN:=(gs.map Cd.id).filter (C1G gs out)
def WW:x∈mF gs out↔x∈gs.map Cd.id/\x∉out/\∀p∈JW gs x,p∈gs.map Cd.id->p∈out:=by
 rw[mF,l2z,B2I]
def mO(gs:ed):Nat->List AN->List AN
 |0,out=>out
 |n+1,out=>match Eu (mF gs out) with
  |[]=>out
  |m::_=>mO gs n (out++[m])
def R5(gs:ed):List AN:=mO gs gs.length []
structure OrdK(gs:ed)(out:List AN):Prop where
 nd:out.Nodup
 ids:∀x∈out,x∈gs.map Cd.id
 pr:∀a x b,out=a++x::b->∀p∈JW gs x,p∈gs.map Cd.id->p∈a
def OrdK.nil:OrdK gs []:=⟨List.nodup_nil,by simp,λa x b h=>by cases a<;>cases h⟩
def OrdK.step(h:OrdK gs out)(hm:m∈mF gs out):OrdK gs (out++[m]):=by
 have⟨h1,h2,n⟩:=WW.1 hm;refine⟨l36.2 ⟨h.nd,by simp,λa q c hc=>by simp at hc;subst hc;exact λe=>h2 (e▸q)⟩,λx d=>?_,λa x b e p j hi=>?_⟩
 ·rcases dV.1 d with d|d
  ·exact h.ids x d
  ·rw[XY]at d;subst d;exact h1
 ·rcases List.eq_nil_or_concat b with rfl|⟨g,z,rfl⟩
  ·have:=List.append_inj' e rfl;have⟨f,i⟩:=this;cases i
   subst f;exact n p j hi
  ·have k:out++[m]=(a++x::g)++[z]:=by rw[e];simp
   have⟨f,i⟩:=List.append_inj' k rfl;exact h.pr a x g f p j hi
def YV{α:Type}:∀{l1 l2:List α},l1.Nodup->(∀x∈l1,x∈l2)->l1.length<=l2.length:=by
 intro l1
 induction l1 with
 |nil=>intro _ _ _;exact l1h _
 |cons a l ih=>
  intro l2 hn b;rw[List.nodup_cons]at hn;have d:a∈l2:=b a (by simp);obtain⟨u,v,rfl⟩:=List.append_of_mem d;have:=ih (l2:=u++v) hn.2 λx c=>by
   have h1:=b x (by simp[c]);rw[dV,Vp]at h1;rw[dV];rcases h1 with h1|h1|h1
   ·exact .inl h1
   ·subst h1;exact absurd c hn.1
   ·exact .inr h1
  simp at this⊢;omega
def OrdK.len(h:OrdK gs out):out.length<=gs.length:=by
 have:=YV h.nd h.ids;rw[QK]at this;exact this
def OrdK.all(h:OrdK gs out)(c:gs.length<=out.length)(b:x∈gs.map Cd.id):x∈out:=by
 apply l37;intro hn;have:=YV (l1:=x::out) (l2:=gs.map Cd.id) (List.nodup_cons.2 ⟨hn,h.nd⟩) λy a=>by
  rcases Vp.1 a with rfl|a
  ·exact b
  ·exact h.ids y a
 rw[QK,LI]at this;omega
def A1z(h:OrdK gs out)(a:gs.length<=out.length):mF gs out=[]:=by
 rw[List.eq_nil_iff_forall_not_mem];intro x b;have⟨h1,h2,_⟩:=WW.1 b;exact h2 (h.all a h1)
def B18:∀(n:Nat)(out:List AN),OrdK gs out->gs.length<=out.length+n->OrdK gs (mO gs n out)/\mF gs (mO gs n out)=[]:=by
 intro n
 induction n with
 |zero=>intro out h a;exact⟨h,A1z h a⟩
 |succ n ih=>
  intro out h a;unfold mO;cases b:Eu (mF gs out) with
  |nil=>
   refine⟨h,?_⟩;have:=(Bb (mF gs out)).length_eq;rw[b]at this;exact gM this.symm
  |cons m l=>
   have hm:m∈mF gs out:=(Bb _).mem_iff.1 (by rw[b];simp);exact ih (out++[m]) (h.step hm) (by rw[EN,List.length_singleton];omega)
def QC:OrdK gs (R5 gs)/\mF gs (R5 gs)=[]:=B18 gs.length [] OrdK.nil (by simp)
def OrdK.before(h:OrdK gs out){a b:List AN}(e:out=a++x::b)(c:Anc gs x y):y∈a:=by
 induction c with
 |one h1 h2=>exact h.pr a x b e _ h2 h1
 |more _ h1 h2 ih=>
  obtain⟨u,v,rfl⟩:=List.append_of_mem ih;have:=h.pr u _ (v++x::b) (by rw[e];simp) _ h2 h1;exact List.mem_append_left _ this
def OrdK.acyc(h:OrdK gs out)(d:x∈out):¬Anc gs x x:=by
 intro c;obtain⟨a,b,rfl⟩:=List.append_of_mem d;have:=h.before rfl c;have hn:=h.nd;rw[l36]at hn;exact hn.2.2 x this x (by simp) rfl
def M!(h:Anc gs x p)(hq:Anc gs p y):Anc gs x y:=by
 induction hq with
 |one h1 h2=>exact .more h h1 h2
 |more _ h1 h2 ih=>exact .more ih h1 h2
open Classical in
def A6Q(b:¬Anc gs p p)(h:Anc gs x p):(eB gs p).length<(eB gs x).length:=by
 unfold eB;rw[(Bb _).length_eq,(Bb _).length_eq];refine H! (λa _ hq=>?_) h.ids (Hu h) (Ir b);rw[decide_eq_true_eq]at hq⊢;exact M! h hq
def OrdK.full(h:OrdK gs out)(hr:mF gs out=[])(a:∀x∈gs.map Cd.id,¬Anc gs x x):∀(n:Nat)(x:AN),(eB gs x).length<n->x∈gs.map Cd.id->x∈out:=by
 intro n
 induction n with
 |zero=>intro x h;omega
 |succ n ih=>
  intro x e d;apply l37;intro hn;have h1:x∉mF gs out:=by rw[hr];simp
  refine h1 (WW.2 ⟨d,hn,λp c hi=>?_⟩);have b:Anc gs x p:=.one hi c;have:=A6Q (a p hi) b;exact ih p (by omega) hi
def A1T(hn:(gs.map Cd.id).Nodup):gs.length<=(R5 gs).length↔∀x∈gs.map Cd.id,¬Anc gs x x:=by
 have⟨h1,h2⟩:=QC (gs:=gs);constructor
 ·intro b x a;exact h1.acyc (h1.all b a)
 ·intro h;have:=YV hn λx a=>h1.full h2 h _ x (Nat.lt_succ_self _) a;rw[QK]at this;exact this
def J1(gs:ed):List AN:=Eu ((gs.map Cd.id).filter λx=>decide (∀c∈gs,x∉c.ps))
def nP:x∈J1 gs↔x∈gs.map Cd.id/\∀c∈gs,x∉c.ps:=by
 rw[J1,(Bb _).mem_iff,l2z,decide_eq_true_eq]
def vV(h:(gs.map Cd.id).Nodup):(J1 gs).Nodup:=(Bb _).symm.nodup (h.sublist List.filter_sublist)
def A85:(J1 gs).length<=gs.length:=by
 rw[J1,(Bb _).length_eq];have:=l30 (λx=>decide (∀c∈gs,x∉Cd.ps c)) (gs.map Cd.id);rw[QK]at this;exact this
end
section
variable{v:AV}{PP:Af->Prop}{q:Bool}{D i r:Nat}
variable{L n:Nat}
section
variable{l:List AN}{m a b:AN}{x:Af}{K:KV}{H:Hp}
def C4B{K:K2}:eMM true (S a) (S b) K=K (S (if a<=b then a else b)):=by
 have e:eMM true (S a) (S b) K=@Bool.rec (λ_=>Af) (K (S b)) (K (S a)) (ltB a b||eqB a b):=rfl;rw[e,Z!,Rm,bytesLess_eq];by_cases h:a<=b
 ·have h1:(decide (a<b)||a==b)=true:=by
   by_cases h2:a<b
   ·simp[h2]
   ·have:=tM h h2;simp[this]
  rw[Dv h,h1]
 ·have h1:(decide (a<b)||a==b)=false:=by
   have h2:¬a<b:=λh2=>h ((NP a b).elim id λc=>absurd h2 c);have c:a≠b:=λe=>h (e▸((NP a a).elim id id));simp[h2,c]
  rw[CL h,h1]
def C0y{g:KV}(hm:m∈l)(e:∀y∈l,m<=y)(hb:l.length<1000000)(j:g (S m) H=x):∀(f i:Nat)(cur:AN),i<=l.length->l.length-i<f->cur∈l->(∀y∈l.take i,cur<=y)->
 GP (L+20) (rt (L+20) n) K g f (Ls l) (S cur) (I i) H=x:=by
 intro f
 induction f with
 |zero=>intro i cur _ h;omega
 |succ f ih=>
  intro i cur hi k hc d;rw[On];unfold GQ Ia A4;rw[Nk];by_cases h:i<l.length
  ·rw[XA2 (by omega),Cy,Tx h,JS,C4B,CW (by omega)];refine ih (i+1) _ (by omega) (by omega) ?_ λy c=>?_
   ·split
    ·exact hc
    ·exact Ql h
   ·rw[nL h,dV,XY]at c;split
    ·rename_i h1;rcases c with c|rfl
     ·exact d y c
     ·exact h1
    ·rename_i h1;have h2:l[i]<=cur:=(NP cur l[i]).elim (λh=>absurd h h1) id;rcases c with c|rfl
     ·exact lO h2 (d y c)
     ·exact(NP _ _).elim id id
  ·have:i=l.length:=by omega
   subst this;rw[rW]at d;rw[Fk (by omega),AY];have:cur=m:=tM (d m hm) (e cur hc);rw[this];exact j
def C2q(hm:m∈l)(d:∀y∈l,m<=y)(hb:l.length<1000000)(j:l.length<L):CS (rt (L+20) (n+1)) HO [Ls l] (S m):=by
 intro K h;rw[Px];unfold HF A4;have c:0<l.length:=List.length_pos_of_mem hm;simp only[BF];have ls:∀{K:K2},Aq Ad .lss (I (l.length:Int)) (AV.v (.int .i64 1)) K=K (Bo false):=λ{K}=>Fk (by omega);have f:(AV.v (.int .i64 0))=I ((0:Nat):Int):=rfl;have g:(AV.v (.int .i64 1))=I ((1:Nat):Int):=rfl;rw[Nk,ls,AY,f,Tx c,JS,g];refine C0y (n:=n) hm d hb (h _ _ λb=>⟨false,C7⟩) (L+20) 1 _ (by omega) (by omega) (Ql c) λy e=>?_;rw[show 1=0+1 from rfl,nL c,List.take_zero,l3b,XY]at e;subst e;exact(NP _ _).elim id id
end
section
variable{l:List AN}{x:Af}{K:KV}{H:Hp}{fn:AV}{P:AN->Bool}{R:Rt}
def fiN(P:AN->Bool):List AN->Nat->Int
 |[],_=> -1
 |a::l,i=>if P a=true then(i:Int) else fiN P l (i+1)
def B1R{a:AN}:fiN P (a::l) i=if P a=true then(i:Int) else fiN P l (i+1):=rfl
def C0Q{d:Ru}{a:AV}(e:SA l a)(g:∀(s:AN)(K:KV),CH (E (L+20)) R fn [S s] H K=K (Bo (P s)) H)(hb:l.length<1000000)(k:∀v,v=fiN P l 0->K (I v) H=x)(p:fiN P l 0= -1->d H=x):
 ∀(f i:Nat),i<=l.length->l.length-i<f->fiN P (l.drop i) i=fiN P l 0->
 DR (L+20) R K d f a fn (I l.length) (I i) H=x:=by
 intro f
 induction f with
 |zero=>intro i _ h;omega
 |succ f ih=>
  intro i hi j he;rw[Hy];unfold DS Ia A4;by_cases h:i<l.length
  ·rw[XA2 (by omega),Cy,e.ia h,JS,g];rw[rV h]at he;rw[B1R]at he;cases c:P l[i] with
   |true=>
    rw[c,Dv rfl]at he;rw[Cy];exact k _ he
   |false=>
    rw[c,CL (by simp)]at he;rw[AY,CW (by omega)];exact ih (i+1) (by omega) (by omega) he
  ·have:i=l.length:=by omega
   subst this;rw[List.drop_length]at he;rw[Fk (by omega),AY];exact p he.symm
def B6M{a:AV}(c:SA l a)(g:∀(s:AN)(K:KV),CH (E (L+20)) (rt (L+20) n) fn [S s] [] K=K (Bo (P s)) [])(hb:l.length<1000000)(h:l.length<L):CS (rt (L+20) (n+1)) Ed [a,fn] (I (fiN P l 0)):=by
 intro K f;rw[HZ];unfold Ec A4;simp only[BF];have d:(AV.v (.int .i64 0))=I ((0:Nat):Int):=rfl;rw[c.len,d];have fin:∀v H,v=fiN P l 0->K (I v) H=some (I (fiN P l 0),[]):=λv H e=>by
  rw[e];exact f _ _ λb=>⟨false,C7⟩
 refine C0Q (R:=rt (L+20) n) c g hb (λv e=>fin v _ e) (λe=>fin (-1) _ e.symm) (L+20) 0 (by omega) (by omega) (by rw[qV])
def MB(H:Hp)(v:AV)(l:List AN):Prop:=(v=Aw/\l=[])\/∃r q c,v=.sl 1 r 0 l.length/\Ah H r=some (.cells q Au (AF l++c))
def MB.len(h:MB H v l){K:K2}:Ba Ac v K=K (I l.length):=by
 rcases h with⟨rfl,rfl⟩|⟨r,q,c,rfl,_⟩<;>exact r_ rfl
def MB.kp{H':Hp}(h:MB H v l)(k:∀u y,A8 v u->Ah H u=some y->Ah H' u=some y):MB H' v l:=by
 rcases h with h|⟨r,q,c,h1,h2⟩
 ·exact .inl h
 ·exact .inr ⟨r,q,c,h1,k r _ ⟨1,0,_,h1⟩ h2⟩
def MB.lt(h:MB H v l)(w:Wf H){u:Nat}(d:A8 v u):u<Ar H:=by
 obtain⟨a,b,c,rfl⟩:=d;rcases h with⟨h,_⟩|⟨r,q,e,h1,h2⟩
 ·cases h
 ·injection h1 with _ h1;subst h1;exact w.lt h2
def VT{b:Bool}:∀l:List AN,RZ b D (AF l) (AF l) H false:=by
 intro l
 induction l with
 |nil=>exact AD
 |cons s l ih=>exact Al (q:=false) C7 ih
def MB.fx(h:MB H v l):∃a q,SA l a/\Fx true (D+1) v a H q:=by
 rcases h with⟨rfl,rfl⟩|⟨r,q,c,rfl,h2⟩
 ·exact⟨Aw,false,.inr ⟨rfl,rfl⟩,C7⟩
 ·refine⟨Ls l,true,.inl rfl,XF (q':=false) h2 (by rw[EN,Be];omega) ?_⟩;have:((AF l++c).drop 0).take (l.length*1)=AF l:=by
   rw[qV,rT];have:=List.take_left (l₁:=AF l) (l₂:=c);rw[Be]at this;exact this
  rw[this];exact VT l
def ZV{m i:Nat}(h:i<=m){K:K2}:D3 Ac (.sl 1 r 0 m) (some (I (i:Int))) none none K=K (.sl 1 r i (m-i)):=by
 have e:D3 Ac (.sl 1 r 0 m) (some (I (i:Int))) none none K=ck (Nat.beq 1 1) (iN (i:Int) λl=>fN m λh=>fN m λx=>ck ((true||false)&&(Nat.ble l h&&(Nat.ble h x&&Nat.ble x m))) (fN (Nat.add 0 (Nat.mul l 1)) λd=>fN (Nat.sub h l) λn=>K (.sl 1 r d n))):=rfl;rw[e,JU,DF,DF];have c:((true||false)&&(Nat.ble i m&&(Nat.ble m m&&Nat.ble m m)))=true:=by simp;omega
 rw[c];show fN (Nat.add 0 (Nat.mul i 1)) (λd=>fN (Nat.sub m i) λn=>K (.sl 1 r d n))=_;rw[DF,DF];have f:Nat.add 0 (Nat.mul i 1)=i:=by show 0+i*1=i;omega
 rw[f];rfl
def VY{m i:Nat}(h:i<=m){K:K2}:D3 Ac (.sl 1 r 0 m) none (some (I (i:Int))) none K=K (.sl 1 r 0 i):=by
 have e:D3 Ac (.sl 1 r 0 m) none (some (I (i:Int))) none K=ck (Nat.beq 1 1) (fN 0 λl=>iN (i:Int) λh=>fN m λx=>ck ((true||true)&&(Nat.ble l h&&(Nat.ble h x&&Nat.ble x m))) (fN (Nat.add 0 (Nat.mul l 1)) λd=>fN (Nat.sub h l) λn=>K (.sl 1 r d n))):=rfl;rw[e,DF,JU,DF];have c:((true||true)&&(Nat.ble 0 i&&(Nat.ble i m&&Nat.ble m m)))=true:=by simp;omega
 rw[c];show fN (Nat.add 0 (Nat.mul 0 1)) (λd=>fN (Nat.sub i 0) λn=>K (.sl 1 r d n))=_;rw[DF,DF];rfl
def B2s{r i m:Nat}{cs:Is}(e:Ah H r=some (.cells q Au cs))(h:i+m<=cs.length):∃c d,(∀K:Ru,wI 1 Ai (.sl 1 r i m) H K=K d)/\Ah d r=some (.cells q Au c)/\c.take i=cs.take i/\Lat H d (λu=>u=r):=by
 cases m with
 |zero=>exact⟨cs,H,λK=>rfl,e,rfl,Lat.refl _ _⟩
 |succ m=>
  refine⟨splice cs i (List.replicate (m+1) (S [])),upd H r (.cells q Au (splice cs i (List.replicate (m+1) (S [])))),λK=>?_,AC e,?_,Lat.upd _ _ _ rfl⟩
  ·have f:wI 1 Ai (.sl 1 r i (m+1)) H K=He Ai.zero λz=>HN z 0 λk=>ck (Nat.beq k 1&&(Nat.beq 1 1&&Oe z)) (Zq (m+1) z λg=>IP H r λx=>iK x λq E cs=>Ey i g cs λc=>LJ H r (.cells q E c) K):=rfl;have hz:B4 Ai.zero=[S []]:=rfl;rw[f,CP,hz,C4];show Zq (m+1) [S []] _=_;rw[F_,Bl e];show Ey i (List.replicate (m+1) (S [])) cs _=_;rw[It _ _ _ _ (by rw[List.length_replicate];omega),Dh]
  ·unfold splice;rw[eI,l32 (by rw[E!];omega),List.take_take,Nat.min_self]
def A2q(P:AN->Bool):∀(l:List AN)(k:Nat),(fiN P l k= -1/\∀a∈l,P a=false)\/∃(i:Nat)(h:i<l.length),fiN P l k=((k+i:Nat):Int)/\P l[i]=true/\∀a∈l.take i,P a=false:=by
 intro l
 induction l with
 |nil=>intro k;exact .inl ⟨rfl,by simp⟩
 |cons a l ih=>
  intro k;unfold fiN;cases c:P a with
  |true=>
   rw[Dv rfl];exact .inr ⟨0,by simp,by simp,c,by simp⟩
  |false=>
   rw[CL (by simp)];rcases ih (k+1) with⟨h1,h2⟩|⟨i,h,h1,h2,d⟩
   ·refine .inl ⟨h1,λb hb=>?_⟩;rcases Vp.1 hb with rfl|hb
    ·exact c
    ·exact h2 b hb
   ·refine .inr ⟨i+1,by simp;omega,by rw[h1];congr 1;omega,h2,λb hb=>?_⟩;rw[List.take_succ_cons]at hb;rcases Vp.1 hb with rfl|hb
    ·exact c
    ·exact d b hb
def C1t{k12:AV->KV}{H0:Hp}{tl:Is}(hb:l.length<1000000)(w0:Wf H0)(N:∀H',Lat H0 H' (λu=>u=r)->∀(s:AN)(K:KV),CH (E (L+20)) R fn [S s] H' K=K (Bo (P s)) H')(e:∀cs H',Ah H' r=some (.cells q Au cs)->cs.length=l.length+tl.length->cs.take (l.filter λs=>!P s).length=AF (l.filter λs=>!P s)->Lat H0 H' (λu=>u=r)->PP (k12 (.sl 1 r 0 l.length) (I (l.filter λs=>!P s).length) H')):
 ∀(f j:Nat)(cs:Is)(H':Hp),j<=l.length->l.length-j<f->Ah H' r=some (.cells q Au cs)->cs.length=l.length+tl.length->cs.take ((l.take j).filter λs=>!P s).length=AF ((l.take j).filter λs=>!P s)->cs.drop j=AF (l.drop j)++tl->Lat H0 H' (λu=>u=r)->((l.take j).filter λs=>!P s).length<j->
 PP (EV (L+20) R K k12 f (.sl 1 r 0 l.length) fn (I ((l.take j).filter λs=>!P s).length) (I j) H'):=by
 intro f
 induction f with
 |zero=>intro j cs H' _ h;omega
 |succ f ih=>
  intro j cs H' V O g c w M t Q;rw[XA4];unfold EW Ia A4;have el:∀K,Ba Ac (.sl 1 r 0 l.length) K=K (I l.length):=λK=>id rfl;rw[el];by_cases h:j<l.length
  ·have hc:j<cs.length:=by omega
   have k:=M;rw[rV hc,rV h]at k;injection k with k B
   have y:∀{K:K2},AE Ai (.ptr r j 0) H' K=K (S l[j]):=λ{K}=>by
    rw[AL (p:=j) rfl g hc,TV,KJ hc,l1q,k]
   rw[XA2 (by omega),Cy];simp only[BF];rw[RM h,y,N H' t,DK];have F:(l.take (j+1)).filter (λs=>!P s)=(l.take j).filter (λs=>!P s)++[l[j]].filter (λs=>!P s):=by
    rw[nL h,List.filter_append]
   cases J:P l[j] with
   |true=>
    have d:(l.take (j+1)).filter (λs=>!P s)=(l.take j).filter (λs=>!P s):=by rw[F];simp[J]
    show PP (A2 (.v (.bool false)) _ _);rw[AY,CW (by omega)];have:=ih (j+1) cs H' (by omega) (by omega) g c (by rw[d];exact w) B t (by rw[d];omega);rw[d]at this;exact this
   |false=>
    have d:(l.take (j+1)).filter (λs=>!P s)=(l.take j).filter (λs=>!P s)++[l[j]]:=by rw[F];simp[J]
    have hi:((l.take j).filter λs=>!P s).length<l.length:=by omega
    show PP (A2 (.v (.bool true)) _ _);rw[Cy,RM hi,DT g (by omega) rfl rfl rfl,CW (by omega),CW (by omega)];have C:((l.take (j+1)).filter λs=>!P s).length=((l.take j).filter λs=>!P s).length+1:=by rw[d,EN];rfl
    rw[<-C];refine ih (j+1) (cs.set ((l.take j).filter λs=>!P s).length (S l[j])) _ (by omega) (by omega) (AC g) (by rw[List.length_set];exact c) ?_ ?_ (t.trans (Lat.upd _ _ _ (P:=λu=>u=r) rfl) (λ_ _ h=>h) (λ_ _ h=>h)) (by omega)
    ·have A:((l.take j).filter λs=>!P s).length<(cs.set ((l.take j).filter λs=>!P s).length (S l[j])).length:=by rw[List.length_set];omega
     rw[C,nL A,List.getElem_set_self,d,List.take_set_of_le (MC _),w];simp[AF]
    ·rw[List.drop_set_of_lt (by omega)];exact B
  ·have:j=l.length:=by omega
   subst this;rw[rW]at w⊢;rw[Fk (by omega),AY];exact e cs H' g c w t
def A9I(wf:Wf H)(h:MB H v l)(hb:l.length<100000)(hL:200000<L)(F:∃d q,Fx true depth fn d H q/\∀(s:AN)(K:KV),CH (E (L+20)) (rt (L+20) n) d [S s] [] K=K (Bo (P s)) [])(hf:∀c,Lat H c (A8 v)->∀(s:AN)(K:KV),CH (E (L+20)) (rt (L+20) (n+1)) fn [S s] c K=K (Bo (P s)) c)(M:∀N c,MB c N (l.filter λs=>!P s)->(∀u,A8 N u↔A8 v u)->Lat H c (A8 v)->PP (K N c)):PP ((rt (L+20) (n+2)).call Bn [v,fn] H K):=by
 rw[LU];unfold Fj A4;have⟨a,q,f,hq⟩:=h.fx (D:=depth-1);have⟨d,q',J,C⟩:=F;rw[AO (B6M (n:=n) f C (by omega) (by omega)) (Al hq (Al J AD))];rcases A2q P l 0 with⟨h1,h2⟩|⟨i,hi,h1,h2,h3⟩
 ·have e:∀{K:K2},Aq Ad .eql (I (-1)) (AV.v (.int .i64 (-1))) K=K (Bo true):=λ{K}=>by rw[CV,Hu rfl]
  rw[h1,e,Cy];have Z:l.filter (λs=>!P s)=l:=List.filter_eq_self.2 λa f=>by rw[h2 a f];rfl
  rw[Z]at M;exact M v H h (λ_=>Iff.rfl) (Lat.refl _ _)
 ·rw[JZ]at h1;have e:∀{K:K2},Aq Ad .eql (I (i:Int)) (AV.v (.int .i64 (-1))) K=K (Bo false):=λ{K}=>by rw[CV,Ir (by omega)]
  rw[h1,e,AY];simp only[BF];rcases h with⟨_,rfl⟩|⟨r,q0,tl,rfl,hl⟩
  ·simp at hi
  have j:∀u,A8 (.sl 1 r 0 l.length) u↔u=r:=λu=>⟨λ⟨_,_,_,h⟩=>by injection h with _ h;exact h.symm,λh=>h▸⟨1,0,_,rfl⟩⟩
  have lat:∀{c},Lat H c (λu=>u=r)->Lat H c (A8 (.sl 1 r 0 l.length)):=λk=>⟨k.wf,k.nx,λw u y hu hn=>k.keep w u y hu λe=>hn ((j u).2 e)⟩
  have Q:(l.take (i+1)).filter (λs=>!P s)=l.take i:=by
   rw[nL hi,List.filter_append];have a1:(l.take i).filter (λs=>!P s)=l.take i:=List.filter_eq_self.2 λa f=>by rw[h3 a f];rfl
   rw[a1];simp[h2]
  have V:((l.take (i+1)).filter λs=>!P s).length=i:=by rw[Q,E!];omega
  have ht:AF (l.take i)=(AF l).take i:=by simp[AF,List.map_take]
  have hd:AF (l.drop (i+1))=(AF l).drop (i+1):=by simp[AF,List.map_drop]
  rw[CW (by omega)];have main:=C1t (L:=L) (R:=rt (L+20) (n+1)) (K:=K) (fn:=fn) (P:=P) (l:=l) (H0:=H) (r:=r) (q:=q0) (tl:=tl) (PP:=PP)
   (k12:=λp t A=>D3 Ac p (some t) none none λv7=>wI 1 Ai v7 A λY=>D3 Ac p none (some t) none λO=>K O Y)
   (by omega) wf (λc k=>hf c (lat k)) (λcs c g1 g2 g3 g4=>?_) (L+20) (i+1) (AF l++tl) H (by omega) (by omega) hl (by rw[EN,Be]) (by rw[V,Q,ht,l32 (by rw[Be];omega)]) (by rw[hd,l34 (by rw[Be];omega)]) (Lat.refl _ _) (by omega)
  ·rw[V]at main;exact main
  ·have g:(l.filter λs=>!P s).length<=l.length:=l30 _ _;have⟨B,X,c1,c2,c3,c4⟩:=B2s (H:=c) (r:=r) (i:=(l.filter λs=>!P s).length) (m:=l.length-(l.filter λs=>!P s).length) g1 (by omega);show PP (D3 Ac (.sl 1 r 0 l.length) (some (I ((l.filter λs=>!P s).length:Nat))) none none _);rw[ZV g,c1,VY g];refine M _ X (.inr ⟨r,q0,B.drop (l.filter λs=>!P s).length,rfl,?_⟩) (λu=>⟨λ⟨_,_,_,h⟩=>?_,λ⟨_,_,_,h⟩=>?_⟩) (lat (g4.trans c4 (λ_ _ h=>h) (λ_ _ h=>h)))
   ·rw[c2,<-g3,<-c3,l38]
   ·injection h with _ h
    exact⟨1,0,_,by rw[h]⟩
   ·injection h with _ h
    exact⟨1,0,_,by rw[h]⟩
def A9J(wf:Wf H)(h:MB H v l)(hb:l.length<100000)(g:200000<L)(e:∃d q,Fx true depth fn d H q/\∀(s:AN)(K:KV),CH (E (L+20)) (rt (L+20) n) d [S s] [] K=K (Bo (P s)) [])(j:∀c,Lat H c (A8 v)->∀(s:AN)(K:KV),CH (E (L+20)) (rt (L+20) (n+1)) fn [S s] c K=K (Bo (P s)) c)(k:∀f c,MB c f (l.filter λs=>!P s)->(∀u,A8 f u↔A8 v u)->Lat H c (A8 v)->K f c=x):(rt (L+20) (n+2)).call Bn [v,fn] H K=x:=
 A9I (PP:=λa=>a=x) wf h hb g e j k
def A9K(wf:Wf H)(h:MB H v l)(hb:l.length<100000)(j:200000<L)(g:∃e q,Fx true depth fn e H q/\∀(s:AN)(K:KV),CH (E (L+20)) (rt (L+20) n) e [S s] [] K=K (Bo (P s)) [])(k:∀d,Lat H d (A8 v)->∀(s:AN)(K:KV),CH (E (L+20)) (rt (L+20) (n+1)) fn [S s] d K=K (Bo (P s)) d)(p:∀f d,MB d f (l.filter λs=>!P s)->(∀u,A8 f u->A8 v u)->Lat H d (A8 v)->K f d=x):(rt (L+20) (n+2)).call Bn [v,fn] H K=x:=
 A9J wf h hb j g k λf d a b c=>p f d a (λu h=>(b u).1 h) c
end
end
section
variable{w:AV}{H H0:Hp}{k4:Ru}
variable{L n:Nat}
abbrev xK:=AN×AN
def PD(gs:ed):List xK:=gs.flatMap λc=>c.ps.map λp=>(c.id,p)
def xE(R:Rt)(L s0 it:Nat)(I:List xK->Hp->Prop):Prop:=∀(b:List xK)(s p:AN)(H:Hp)(K:KV)(x:Af),b.length<1000->I b H->(∀a,I (b++[(s,p)]) a->(∀y,Ah H it=some y->Ah a it=some y)->K (Bo true) a=x)->CH (E (L+20)) R (.yl s0) [S s,S p] H K=x
def A2j{rem:ed}{a c:List (AN×Cd)}{e:AN×Cd}(h:gE rem=a++e::c):∃b cd rc,rem=b++cd::rc/\a=gE b/\e=(cd.id,cd)/\c=gE rc:=by
 have⟨b,j,h1,h2,d⟩:=List.map_eq_append_iff.1 h;have⟨cd,rc,f,g,i⟩:=List.map_eq_cons_iff.1 d;subst f;exact⟨b,cd,rc,h1,h2.symm,g.symm,i.symm⟩
section
variable{gs:ed}{K:KV}{x:Af}{s0 it:Nat}{Q:List xK->Hp->Prop}
def A2u:∀gs:ed,(∀c∈gs,c.ps.length<100)->(PD gs).length<=gs.length*100:=by
 intro gs
 induction gs with
 |nil=>intro _;simp[PD]
 |cons c gs ih=>
  intro h;have h1:=h c (by simp);have h2:=ih λd a=>h d (by simp[a]);have e:PD (c::gs)=c.ps.map (λp=>(c.id,p))++PD gs:=rfl;rw[e,EN,QK,LI,l1e];omega
def B67{b:AV->AV->AV->AV->AV->KV}{j:AV}{s:AN}{ps:List AN}(hb:ps.length<100)(hr:xE (r! L (n+2)) L s0 it Q):∀(f i:Nat)(es:List xK)(H:Hp)(y:Row),i<=ps.length->ps.length-i<f->es.length+(ps.length-i)<1000->Q es H->Ah H it=some y->
 (∀d a,Q (es++(ps.drop i).map λp=>(s,p)) a->Ah a it=some y->b (.yl s0) (S s) j (Di ps) (I ps.length) d a=x)->
 Gq (L+20) (r! L (n+2)) K b f (.yl s0) (S s) j (Di ps) (I ps.length) (I i) H=x:=by
 intro f
 induction f with
 |zero=>intro i es H y _ h;omega
 |succ f ih=>
  intro i es H y hi r hn hm k c;rw[Lb];unfold Gs Ia A4;by_cases h:i<ps.length
  ·rw[XA2 (by omega),Cy,(Lo ps).ia h,JS];rw[rV h]at c;refine hr es s ps[i] H _ x (by omega) hm λa e q=>?_;rw[DK];show A2 (.v (.bool false)) _ _=_;rw[AY,CW (by omega)];refine ih (i+1) (es++[(s,ps[i])]) a y (by omega) (by omega) (by rw[EN,List.length_singleton];omega) e (q y k) λd m h2 g=>c d m ?_ g;rw[X0];rw[eI]at h2;exact h2
  ·rw[Fk (by omega),AY];have:i=ps.length:=by omega
   subst this;rw[List.drop_length,List.map_nil,Vq]at c;exact c _ H hm k
def B68(hw:Vo 6 w w=true)(hg:gs.length<=8)(R:∀c∈gs,c.ps.length<100)(hL:100<L)(hr:xE (r! L (n+2)) L s0 it Q)(r:∀es H m,Q es H->Wf m->(∀u y,u≠it->Ah H u=some y->Ah m u=some y)->Q es m)(A:∀es H,Q es H->Wf H)(q:∀done H,done.Perm gs->Q (PD done) H->k4 H=some (w,[])):
 ∀(f:Nat)(rem done:ed)(H:Hp)(o:Option (Value×AV))(d0 d1 d2 B:AV),rem.length<f->(done++rem).Perm gs->Q (PD done) H->Ah H it=some (.iter (Dd DU (gE rem)) o)->
 Gr (L+20) (r! L (n+2)) K k4 f (.yl s0) d0 (.it it) d1 d2 B H=some (w,[]):=by
 intro f
 induction f with
 |zero=>intro rem done H o d0 d1 d2 B h;omega
 |succ f ih=>
  intro rem done H o d0 d1 d2 B hf b hm P;rw[Lc];unfold Gt DN A4;refine YU (f:=DU) hw P (λe=>?_) (λa e c F=>?_)
  ·have Y:rem=[]:=by
    cases rem with
    |nil=>rfl
    |cons _ _=>cases e
   subst Y;rw[Fm,AY];rw[Vq]at b;exact q done H b hm
  ·obtain⟨g,cd,rc,rfl,rfl,rfl,rfl⟩:=A2j F;have D:cd∈gs:=b.mem_iff.1 (by simp);have N:=R cd D;have e9:gE g++gE rc=gE (g++rc):=by simp[gE]
   have i:=LY (es:=Dd DU (gE g++gE rc)) (o:=some (.string ⟨⟨cd.id⟩⟩,DU cd)) P;have k:Q (PD done) (upd H it (.iter (Dd DU (gE g++gE rc)) (some (.string ⟨⟨cd.id⟩⟩,DU cd)))):=r _ _ _ hm (Bm (A _ _ hm)) λu y hu O=>by rw[Ag hu];exact O
   show C9 (.tup [.v (.bool true),S cd.id,DU cd]) 0 _=_;rw[Fm,Cy];simp only[BF];show eA (.it it) (upd H it (.iter (Dd DU (gE g++gE rc)) (some (.string ⟨⟨cd.id⟩⟩,DU cd)))) _=_;rw[NW i,Fm,Pq];generalize upd H it (.iter (Dd DU (gE g++gE rc)) (some (.string ⟨⟨cd.id⟩⟩,DU cd)))=H1 at i k;have⟨X,e2,C,w2,V⟩:=GC (e:=Ab) (zs:=BI) (vs:=cd.cs) (A _ _ k) CY;rw[Bv (cs:=BI) rfl,BO (cs:=BI) (vs:=cd.cs) (Ay (by simp)) CY rfl Ja,<-e2,fA,JZ,B2L C,kE];have M:=r _ _ _ k w2 λu y _ O=>(V u y O).1;have J:=(V _ _ i).1;have Z:(AV.v (.int .i64 0))=I ((0:Nat):Int):=rfl;have t:=b.length_eq;rw[EN,EN,LI]at t;have aa:=A2u done λc hc=>R c (b.mem_iff.1 (by simp[hc]));rw[Z];refine B67 (n:=n) N hr (L+20) 0 (PD done) X _ (by omega) (by omega) (by omega) M J λd m j s=>?_;rw[qV]at j;have e8:PD done++cd.ps.map (λp=>(cd.id,p))=PD (done++[cd]):=by simp[PD]
   rw[e8]at j;rw[e9]at s;refine ih (g++rc) (done++[cd]) m _ _ _ _ _ (by simp at hf⊢;omega) ?_ j s;refine List.Perm.trans ?_ b;rw[eI];refine List.Perm.append_left done ?_;show(cd::(g++rc)).Perm _;exact List.perm_middle.symm
def A5N(q:Vo 6 w w=true)(m:gs.length<=8)(p:∀c∈gs,c.ps.length<100)(j:100<L)(hr:xE (r! L (n+2)) L s0 (Ar H) Q)(e:∀b g d,Q b g->Wf d->(∀u y,u≠Ar H->Ah g u=some y->Ah d u=some y)->Q b d)(f:∀b H,Q b H->Wf H)(i:Q [] ((Ar H,.iter (Dd DU (gE gs)) none)::H))(a:∀done H,done.Perm gs->Q (PD done) H->K (.tup []) H=some (w,[])):
 (r! L (n+3)).call Fi [.yl s0,.iptr [gV gs]] H K=some (w,[]):=by
 rw[L6];unfold GH;have h:∀{H:Hp}{K:K2},AE Aj (.iptr [gV gs]) H K=K (gV gs):=λ{H K}=>NI rfl;rw[h,XO];simp only[BF];exact B68 (n:=n) (it:=Ar H) q m p j hr e f (λdone H k hq=>a done H k hq) (L+20) gs [] _ none _ _ _ _ (by omega) (List.Perm.refl _) i (Ay (by simp))
def A9G{K:K2}:Ap (r! L (n+1)) Fs [gV gs] H K=K (B26 gs):=by
 refine Iw (λK a=>?_) (Al (q:=false) jS AD);rw[NS];unfold Jd Ih;rw[wJ];exact a _ _ ⟨true,λK=>by kernel_rfl⟩
abbrev jJ(gs:ed):AV:=.fn (.func E3) [] [.iptr [gV gs]]
def B1x{r0 s e0 it:Nat}{q0:Bool}{c6 w:AV}{ks:List AN}(F:Vo 6 w w=true)(q:ks.length<1000000)(i:∀l v H,l.Perm ks->(l=[]->v=Aw)->Coll H0 r0 s q0 e0 c6 l v H->k4 H=some (w,[]))(c:it≠r0/\it≠s/\Ar H0<=it):
 ∀(f:Nat)(es:List (AN×Cd))(l:List AN)(v:AV)(H:Hp)(o:Option (Value×AV)),es.length<f->(l++es.map Prod.fst).Perm ks->(l=[]->v=Aw)->Coll H0 r0 s q0 e0 c6 l v H->¬A8 v it->Ah H it=some (.iter (Dd DU es) o)->
 Cr (L+20) (r! L (n+1)) K k4 f (.yl s) (.it it) H=some (w,[]):=by
 intro f
 induction f with
 |zero=>intro es l v H o h;omega
 |succ f ih=>
  intro es l v H o B m A hc hv p;rw[HL];unfold Db;refine YU (f:=DU) F p (λe=>?_) (λa e b he=>?_)
  ·subst e;rw[Fm,AY];exact i l v H (by simpa using m) A hc
  ·subst he;have g:=hc.it (.iter (Dd DU (a++b)) (some (.string ⟨⟨e.1⟩⟩,DU e.2))) c hv;have d:=LY (es:=Dd DU (a++b)) (o:=some (.string ⟨⟨e.1⟩⟩,DU e.2)) p;have k:(l++(a++e::b).map Prod.fst).length=ks.length:=m.length_eq;simp at k;have t:uJ (.string ⟨⟨e.1⟩⟩)=S e.1:=rfl;rw[Fm,Cy,NW d,Fm,t];refine U! g (by omega) λJ r j C hr=>?_;rw[DK];show A2 (.v (.bool false)) _ _=_;rw[AY];refine ih (a++b) (l++[e.1]) J r _ (by simp at B⊢;omega) ?_ (by simp) j (λD=>?_) (C it _ c.1 c.2.1 hv d)
   ·refine List.Perm.trans ?_ m;simp only[dW,X0,eI];refine List.Perm.append_left l ?_;show(e.1::(a.map Prod.fst++b.map Prod.fst)).Perm _;exact List.perm_middle.symm
   ·have u:=hr it D;have y:=g.wf.lt d;rw[B9]at u y;omega
def A3I(B:Vo 6 w w=true)(J:gs.length<=8)(F:100<L)(wf:Wf H0)(C:∀l v H,l.Perm (gs.map Cd.id)->(l=[]->v=Aw)->NewSl H0 l v H->K v H=some (w,[])):
 (r! L (n+4)).call EK [jJ gs] H0 K=some (w,[]):=by
 rw[GG];unfold EJ;rw[DJ];unfold CD;simp only[BF];rw[oG (by rfl),Wt,HT];unfold Dg;simp only[BF];have w1:=AG (x:=.cells true A7 [Aw]) wf;have c:=Ay (H:=H0) (x:=.cells true A7 [Aw]) (by simp);have t:Ar ((Ar H0,c_ A7 [Aw])::H0)=Ar H0+1:=rfl;have i:Wf ((Ar H0+1,Oi (.ptr (Ar H0) 0 0) (jJ gs) (some none))::(Ar H0,c_ A7 [Aw])::H0):=AG (x:=Oi (.ptr (Ar H0) 0 0) (jJ gs) (some none)) w1;have e:Ah ((Ar H0+1,Oi (.ptr (Ar H0) 0 0) (jJ gs) (some none))::(Ar H0,c_ A7 [Aw])::H0) (Ar H0+1)=some (Oi (.ptr (Ar H0) 0 0) (jJ gs) (some none)):=Ay (H:=((Ar H0,c_ A7 [Aw])::H0)) (x:=Oi (.ptr (Ar H0) 0 0) (jJ gs) (some none)) (by simp[Oi]);have ol:∀u y,Ah H0 u=some y->Ah ((Ar H0+1,Oi (.ptr (Ar H0) 0 0) (jJ gs) (some none))::(Ar H0,c_ A7 [Aw])::H0) u=some y:=λu y a=>by
  have a1:=A6 (x:=.cells true A7 [Aw]) (wf.lt a) a;exact A6 (w1.lt a1) a1
 have k:∀{H:Hp}{K:K2},AE Aj (.iptr [gV gs]) H K=K (gV gs):=λ{H K}=>NI rfl;rw[k,XO];have d:Ah ((Ar H0+1,Oi (.ptr (Ar H0) 0 0) (jJ gs) (some none))::(Ar H0,c_ A7 [Aw])::H0) (Ar H0)=some (c_ A7 [Aw]):=A6 (w1.lt c) c;show Cr (L+20) (r! L (n+1)) _ _ (L+20) (.yl (Ar H0+1)) (.it (Ar ((Ar H0+1,Oi (.ptr (Ar H0) 0 0) (jJ gs) (some none))::(Ar H0,c_ A7 [Aw])::H0))) ((Ar ((Ar H0+1,Oi (.ptr (Ar H0) 0 0) (jJ gs) (some none))::(Ar H0,c_ A7 [Aw])::H0),.iter (Dd DU (gE gs)) none)::((Ar H0+1,Oi (.ptr (Ar H0) 0 0) (jJ gs) (some none))::(Ar H0,c_ A7 [Aw])::H0))=_;generalize f:((Ar H0+1,Oi (.ptr (Ar H0) 0 0) (jJ gs) (some none))::(Ar H0,c_ A7 [Aw])::H0:Hp)=b at i e ol d;have r:Ar b=Ar H0+2:=by rw[<-f];rfl
 have D:=AG (x:=.iter (Dd DU (gE gs)) none) i;have up:∀u y,Ah b u=some y->Ah ((Ar b,Row.iter (Dd DU (gE gs)) none)::b) u=some y:=λu y j=>A6 (i.lt j) j;have g:Ah ((Ar b,Row.iter (Dd DU (gE gs)) none)::b) (Ar b)=some (.iter (Dd DU (gE gs)) none):=Ay (by simp);have q:(gE gs).length=gs.length:=by simp[gE]
 refine B1x (n:=n) (H0:=H0) (r0:=Ar H0) (s:=Ar H0+1) (it:=Ar b) (q0:=true) (e0:=A7) (c6:=jJ gs) (ks:=gs.map Cd.id) B (by rw[QK];omega) ?_ (by omega) (L+20) (gE gs) [] Aw _ none (by omega) (by rw[l3b,XD]) (λ_=>rfl)
  ⟨up _ _ d,.inl ⟨rfl,rfl,rfl⟩,up _ _ e,λu ⟨_,_,_,h⟩=>(by cases h),D,λu y a=>up u y (ol u y a),by omega,by omega,by omega,wf⟩ (λ⟨_,_,_,h⟩=>(by cases h)) g
 intro l v H A m hc;show IP H (Ar H0+1) _=_;rw[Bl hc.lp];show LJ H (Ar H0+1) .gone _=_;rw[Dh];have hr:Ah (upd H (Ar H0+1) .gone) (Ar H0)=some (c_ A7 [v]):=by rw[Ag (by omega)];exact hc.at_
 show AE Ac (.ptr (Ar H0) 0 0) (upd H (Ar H0+1) .gone) _=_;rw[AL (p:=0) rfl hr (by simp)];refine C _ _ _ A m ⟨?_,λu a=>(hc.new u a).2.2,Bm hc.wf,λu y a=>?_,?_⟩
 ·exact hc.sl.lat hc.wf (Lat.upd H _ _ (P:=λu=>u=Ar H0+1) rfl) (λu a=>(hc.new u a).2.1)
 ·have:=wf.lt a;rw[Ag (by omega)];exact hc.keep u y a
 ·rw[B9];have:=hc.wf.lt hc.at_;omega
def A9x(k:Vo 6 w w=true)(j:gs.length<=8)(i:100<L)(wf:Wf H0)(m:∀v H,NewSl H0 (Eu (gs.map Cd.id)) v H->(gs=[]->v=Aw)->K v H=some (w,[])):(r! L (n+6)).call MI [gV gs] H0 K=some (w,[]):=by
 rw[Yn];unfold MH;have ky:∀{K:K2},Ap (r! L (n+5)) D2 [gV gs] H0 K=K (jJ gs):=λ{K}=>by
  refine Iw (λK g=>?_) (Al (q:=false) jS AD);rw[show n+5=(n+4)+1 from rfl,IW];unfold D0 Ih;have f:∀{H:Hp}{K:KV},FV CK (gV gs) H K=K (.ptr (Ar H) 0 0) ((Ar H,c_ CK [gV gs])::H):=λ{H K}=>wJ;rw[f];exact g _ _ ⟨true,λK=>by kernel_rfl⟩
 rw[ky,Fw];unfold Eo;refine A3I (n:=n) k j i wf λl v H b c hc=>?_;refine S? (n:=n) wf (by rw[b.length_eq,QK];omega) c hc λd a=>?_;have e:Eu l=Eu (gs.map Cd.id):=FZ ((Bb l).trans (b.trans (Bb _).symm)) (Da l) (Da _);rw[e]at a;refine m v d a λh=>c ?_;subst h;exact gM (by rw[b.length_eq];rfl)
end
end
section
variable{L n:Nat}
section
variable{α:Type}{f:α->AV}{b:List (AN×α)}{x:AN}{H:Hp}
def wL(b:List (AN×α))(x:AN):List (AN×α):=match b with
 |[]=>[]
 |e::b=>if e.1=x then b else e::wL b x
def B1P:∀(b:List (AN×α))(i:Nat),(match Zt x b i with|none=>b|some (j,_)=>b.eraseIdx (j-i))=wL b x/\(∀j w,Zt x b i=some (j,w)->i<=j):=by
 intro b
 induction b with
 |nil=>intro i;exact⟨rfl,λj w h=>by cases h⟩
 |cons e b ih=>
  intro i;rw[ZS];unfold wL;by_cases h:e.1=x
  ·refine⟨?_,λj w a=>?_⟩
   ·simp[h]
   ·simp[h]at a;omega
  ·have⟨h1,h2⟩:=ih (i+1);refine⟨?_,λj w a=>?_⟩
   ·rw[CL h,CL h,<-h1];cases d:Zt x b (i+1) with
    |none=>rfl
    |some p=>
     have⟨j,w⟩:=p;have:=h2 j w d;have c:j-i=(j-(i+1))+1:=by omega
     simp only[c,List.eraseIdx_cons_succ]
   ·rw[CL h]at a;have:=h2 j w a;omega
def A8v:∀b:List (AN×α),(b.map Prod.fst).Nodup->((wL b x).map Prod.fst).Nodup/\∀y,y∈(wL b x).map Prod.fst↔y∈b.map Prod.fst/\y≠x:=by
 intro b
 induction b with
 |nil=>intro _;exact⟨by simp[wL],λy=>by simp[wL]⟩
 |cons e b ih=>
  intro h;rw[X0,List.nodup_cons]at h;have⟨h1,h2⟩:=ih h.2;unfold wL;by_cases he:e.1=x
  ·rw[Dv he];subst he;refine⟨h.2,λy=>?_⟩;rw[X0,Vp];constructor
   ·intro a;exact⟨.inr a,λe=>h.1 (e▸a)⟩
   ·rintro⟨a|a,hn⟩
    ·exact absurd a hn
    ·exact a
  ·rw[CL he];refine⟨?_,λy=>?_⟩
   ·rw[X0,List.nodup_cons];exact⟨λhm=>h.1 ((h2 _).1 hm).1,h1⟩
   ·rw[X0,Vp,h2,X0,Vp];constructor
    ·rintro(rfl|⟨a,hn⟩)
     ·exact⟨.inl rfl,he⟩
     ·exact⟨.inr a,hn⟩
    ·rintro⟨a|a,hn⟩
     ·exact .inl a
     ·exact .inr ⟨a,hn⟩
def C1e{β:Type}(g:α->β):∀(l:List α)(i:Nat),(l.map g).eraseIdx i=(l.eraseIdx i).map g:=by
 intro l
 induction l with
 |nil=>intro i;rfl
 |cons a l ih=>
  intro i;cases i with
  |zero=>rfl
  |succ i=>show g a::(l.map g).eraseIdx i=g a::(l.eraseIdx i).map g;rw[ih]
def B2g{r:Nat}(h:Ah H r=some (.map false (Dd f b) none)):∃c,(∀K:Ru,kC (.mp r) (SV x) H K=K c)/\Ah c r=some (.map false (Dd f (wL b x)) none)/\Lat H c (λu=>u=r):=by
 have e:∀K:Ru,kC (.mp r) (SV x) H K=IP H r λy=>nI y λd g=>I9 (SV x) d λq=>match q with
  |none=>K H
  |some (i,_)=>LJ H r (.map false (d.eraseIdx i) (C1O g i)) K:=λK=>rfl
 have⟨h1,h2⟩:=B1P (x:=x) b 0;cases a:Zt x b 0 with
 |none=>
  rw[a]at h1;refine⟨H,λK=>?_,by rw[<-h1];exact h,Lat.refl _ _⟩;rw[e,Bl h];show I9 (SV x) (Dd f b) _=_;rw[kfK,a];rfl
 |some p=>
  have⟨j,w⟩:=p;rw[a]at h1;refine⟨upd H r (.map false (Dd f (wL b x)) none),λK=>?_,(BC h).trans rfl,Lat.upd _ _ _ rfl⟩;rw[e,Bl h];show I9 (SV x) (Dd f b) _=_;rw[kfK,a];show LJ H r (.map false ((Dd f b).eraseIdx j) none) K=_;rw[Dh,<-h1,Dd,Dd,C1e];rfl
end
def A0h{gs:ed}{e:xK}:e∈PD gs↔∃c∈gs,e.1=c.id/\e.2∈c.ps:=by
 unfold PD;rw[l39];constructor
 ·rintro⟨c,hc,he⟩;obtain⟨p,a,rfl⟩:=Pu.1 he;exact⟨c,hc,rfl,a⟩
 ·rintro⟨c,hc,h1,h2⟩;exact⟨c,hc,Pu.2 ⟨e.2,h2,by rw[<-h1]⟩⟩
def vO(gs:ed)(p:Option (Option Code)):Row:=.loop 32 [(2,Aw),(3,gV gs),(5,.ptr 1 0 0),(8,.dk),(16,.it 2),(25,B26 gs),(27,.dk),(28,.dk),(29,.dk)] (EY).2.1 (EY).2.2.1 (EY).2.2.2 p
structure Hs(gs:ed)(es:List xK)(b:List (AN×Unit))(H:Hp):Prop where
 mm:Ah H 0=some (.map false (Dd uS b) none)
 st:Ah H 1=some (c_ BX [.mp 0])
 lp:Ah H 3=some (vO gs (some none))
 wf:Wf H
 nd:(b.map Prod.fst).Nodup
 ky:∀x,x∈b.map Prod.fst↔x∈gs.map Cd.id/\∀e∈es,e.2≠x
section
variable{gs:ed}{K:KV}{x:Af}
def C3x{a:Hp}{K:Ru}(h:Ah a 3=some (vO gs none)):EC a 3 false (some none) K=K (upd a 3 (vO gs (some none))):=PN h
def B4B:xE (r! L (n+2)) L 3 4 (λq H=>∃b,Hs gs q b H):=by
 intro q s p H K x _ ⟨b,h⟩ w;show Oj (r! L (n+2)) 3 [S s,S p] H K=x;rw[PG h.lp (by kernel_rfl)];have c:(r! L (n+2)).run= λt=>MD (E (L+20)) (r! L (n+1)) t:=rfl;rw[c,mH,PQ h.lp];have j:Ah (upd H 3 (vO gs none)) 0=some (.map false (Dd uS b) none):=by rw[Ag (by decide)];exact h.mm
 have d:Ah (upd H 3 (vO gs none)) 1=some (c_ BX [.mp 0]):=by rw[Ag (by decide)];exact h.st
 have i:Ah (upd H 3 (vO gs none)) 3=some (vO gs none):=Fl h.lp;have w1:Wf (upd H 3 (vO gs none)):=Bm h.wf;have k1:∀y,Ah H 4=some y->Ah (upd H 3 (vO gs none)) 4=some y:=λy m=>by rw[Ag (by decide)];exact m
 show AE CM (.ptr 1 0 0) (upd H 3 (vO gs none)) _=_;rw[AL (p:=0) rfl d (by simp)];have u:∀(F:Value->Af),Kk (S p) F=F (SV p):=λF=>id rfl;rw[u];have⟨r,d1,d2,g⟩:=B2g (f:=uS) (x:=p) j;show kC (.mp 0) (SV p) (upd H 3 (vO gs none)) _=_;rw[d1];have k:=g.keep w1 _ _ d (by decide);have a:=g.keep w1 _ _ i (by decide);show EC r 3 false (some none) _=_;rw[C3x a];have⟨n1,n2⟩:=A8v (x:=p) b h.nd;refine w _ ⟨wL b p,?_,?_,Fl a,Bm (g.wf w1),n1,λz=>?_⟩ λy m=>?_
 ·rw[Ag (by decide)];exact d2
 ·rw[Ag (by decide)];exact k
 ·rw[n2,h.ky];constructor
  ·rintro⟨⟨h1,h2⟩,v⟩;refine⟨h1,λe he=>?_⟩;rcases dV.1 he with he|he
   ·exact h2 e he
   ·rw[XY]at he;subst he;exact Ne.symm v
  ·rintro⟨h1,h2⟩;exact⟨⟨h1,λe he=>h2 e (List.mem_append_left _ he)⟩,Ne.symm (h2 (s,p) (by simp))⟩
 ·rw[Ag (by decide)];exact g.keep w1 _ _ (k1 y m) (by decide)
def B1D{s:AV->AV->AV->AV->AV->AV->AV->KV}{w a0 a1 d0 d2 u y:AV}(Q:Vo 6 w w=true)(hn:(gs.map Cd.id).Nodup)(m:∀b H,Ah H 0=some (.map false (Dd uS b) none)->Ah H 1=some (c_ BX [.mp 0])->Wf H->Ar H=3->(b.map Prod.fst).Perm (gs.map Cd.id)->s a0 a1 (.ptr 1 0 0) d0 (.it 2) d2 u y H=some (w,[])):
 ∀(f:Nat)(rem:ed)(b:List (AN×Unit))(H:Hp)(o:Option (Value×AV))(d1:AV),rem.length<f->(b.map Prod.fst++rem.map Cd.id).Perm (gs.map Cd.id)->Ah H 0=some (.map false (Dd uS b) none)->Ah H 1=some (c_ BX [.mp 0])->Wf H->Ar H=3->Ah H 2=some (.iter (Dd DU (gE rem)) o)->
 Tl (L+20) (r! L n) K s f a0 a1 (.ptr 1 0 0) d0 (.it 2) d1 d2 u y H=some (w,[]):=by
 intro f
 induction f with
 |zero=>intro rem b H o d1 h;omega
 |succ f ih=>
  intro rem b H o d1 P i hm B wf r A;rw[nV];unfold Tn;refine YU (f:=DU) Q A (λe=>?_) (λa e c t=>?_)
  ·have D:rem=[]:=by
    cases rem with
    |nil=>rfl
    |cons _ _=>cases e
   subst D;rw[Fm,AY];rw[List.map_nil,Vq]at i;exact m b H hm B wf r i
  ·obtain⟨d,cd,rc,rfl,rfl,rfl,rfl⟩:=A2j t;have J:gE d++gE rc=gE (d++rc):=by simp[gE]
   have g:=LY (es:=Dd DU (gE d++gE rc)) (o:=some (.string ⟨⟨cd.id⟩⟩,DU cd)) A;have j:Ah (upd H 2 (.iter (Dd DU (gE d++gE rc)) (some (.string ⟨⟨cd.id⟩⟩,DU cd)))) 0=some (.map false (Dd uS b) none):=by rw[Ag (by decide)];exact hm
   have k:Ah (upd H 2 (.iter (Dd DU (gE d++gE rc)) (some (.string ⟨⟨cd.id⟩⟩,DU cd)))) 1=some (c_ BX [.mp 0]):=by rw[Ag (by decide)];exact B
   have w1:Wf (upd H 2 (.iter (Dd DU (gE d++gE rc)) (some (.string ⟨⟨cd.id⟩⟩,DU cd)))):=Bm wf;have n1:Ar (upd H 2 (.iter (Dd DU (gE d++gE rc)) (some (.string ⟨⟨cd.id⟩⟩,DU cd))))=3:=by rw[B9];exact r
   show C9 (.tup [.v (.bool true),S cd.id,DU cd]) 0 _=_;rw[Fm,Cy];show eA (.it 2) (upd H 2 (.iter (Dd DU (gE d++gE rc)) (some (.string ⟨⟨cd.id⟩⟩,DU cd)))) _=_;rw[NW g,Fm];generalize upd H 2 (.iter (Dd DU (gE d++gE rc)) (some (.string ⟨⟨cd.id⟩⟩,DU cd)))=C at g j k w1 n1;have O:uJ (.string ⟨⟨cd.id⟩⟩)=S cd.id:=rfl;have M:∀{K:K2},Cb BH [] K=K (.agg []):=λ{K}=>id rfl;have N:∀(F:Value->Af),Kk (S cd.id) F=F (SV cd.id):=λF=>id rfl;rw[AL (p:=0) rfl k (by simp),M,O,N];show Mg (.mp 0) (SV cd.id) (uS ()) C _=_;rw[ZW (f:=uS) (v:=()) j];have q:cd.id∉b.map Prod.fst:=λhc=>by
    have h2:=(i.nodup_iff).2 hn;rw[l36]at h2;exact h2.2.2 _ hc cd.id (by simp) rfl
   rw[ZM q];rw[J]at g;refine ih (d++rc) (b++[(cd.id,())]) _ (some (.string ⟨⟨cd.id⟩⟩,DU cd)) _ (by simp at P⊢;omega) ?_ ((BC j).trans rfl) ?_ (Bm w1) (by rw[B9];exact n1) ?_
   ·refine List.Perm.trans ?_ i;simp only[dW,X0,List.map_nil,eI];refine List.Perm.append_left _ ?_;show(cd.id::(d.map Cd.id++rc.map Cd.id)).Perm _;exact List.perm_middle.symm
   ·rw[Ag (by decide)];exact k
   ·rw[Ag (by decide)];exact g
def B3R{a:AV}(r:GOk gs)(hL:40000<L)(hp:∀c∈gs,c.ps.length<100)(R:LA gs a):CS (r! L (n+80)) Vf [a] (Di (J1 gs)):=by
 intro K B;rw[qS];unfold UV;have C:RZ true depth [a] [a] [] false:=by rcases R with rfl|⟨_,rfl⟩<;>exact λK=>by kernel_rfl
 have of:∀{K:K2},Ap (r! L (n+79)) IZ [a] [] K=K (.tup [gV gs,Bo true]):=λ{K}=>Iw (λK B=>A9w (n:=n+15) r hL R K B) C;have w0:Vo 6 (Di (J1 gs)) (Di (J1 gs))=true:=TB 6 _ (B11 _);have h8:=r.len;rw[of,EG,EF];have e0:∀{F:KV},(Ld BH [] λv4 Z=>Bx BX CM Z λX H7=>DE CM X v4 H7 λH8=>F X H8)=F (.ptr 1 0 0) [(1,c_ BX [.mp 0]),(0,.map false [] none)]:=λ{F}=>by kernel_rfl
 rw[e0];simp only[BF];rw[XO];refine B1D (n:=n+79) w0 r.ids (λb H hm N wf d s=>?_) (L+20) gs [] _ none _ (by omega) (List.Perm.refl _) rfl rfl (AG (AG (AG Ft))) rfl rfl;rw[A9G (n:=n+78),Wt,d];have ab:Ar ((3,vO gs (some none))::H)=4:=rfl;have Y:Wf ((3,vO gs (some none))::H):=by
  have:=AG (x:=vO gs (some none)) wf;rw[d]at this;exact this
 have M:Ah ((3,vO gs (some none))::H) 3=some (vO gs (some none)):=by
  have:=Ay (H:=H) (x:=vO gs (some none)) (by simp[vO]);rw[d]at this;exact this
 have ol:∀u y,Ah H u=some y->Ah ((3,vO gs (some none))::H) u=some y:=λu y t=>by
  have:=A6 (x:=vO gs (some none)) (wf.lt t) t;rw[d]at this;exact this
 have i:∀u y,Ah ((3,vO gs (some none))::H) u=some y->Ah ((4,.iter (Dd DU (gE gs)) none)::(3,vO gs (some none))::H) u=some y:=λu y t=>A6 (x:=.iter (Dd DU (gE gs)) none) (Y.lt t) t;show(r! L (n+79)).call Fi [.yl 3,.iptr [gV gs]] ((3,vO gs (some none))::H) _=_;refine A5N (n:=n+76) (s0:=3) (Q:=λA H=>∃b,Hs gs A b H) w0 h8 hp (by omega) B4B (λA H1 j ⟨b,h⟩ P k=>⟨b,k _ _ (show 0≠4 by decide) h.mm,k _ _ (show 1≠4 by decide) h.st,k _ _ (show 3≠4 by decide) h.lp,P,h.nd,h.ky⟩) (λA H ⟨b,h⟩=>h.wf) ?_ (λdone j V ⟨w,m⟩=>?_)
 ·refine⟨b,i _ _ (ol _ _ hm),i _ _ (ol _ _ N),i _ _ M,AG Y,s.symm.nodup r.ids,λz=>?_⟩;rw[s.mem_iff];exact⟨λh=>⟨h,by simp⟩,λh=>h.1⟩
 ·show IP j 3 _=_;rw[Bl m.lp];show LJ j 3 .gone _=_;rw[Dh];have N:Ah (upd j 3 .gone) 1=some (c_ BX [.mp 0]):=by rw[Ag (by decide)];exact m.st
  have J:Ah (upd j 3 .gone) 0=some (.map false (Dd uS w) none):=by rw[Ag (by decide)];exact m.mm
  show AE CM (.ptr 1 0 0) (upd j 3 .gone) _=_;rw[AL (p:=0) rfl N (by simp)];have g:(w.map Prod.fst).Perm (J1 gs):=by
   refine(l35 m.nd (vV r.ids)).2 λz=>?_;rw[m.ky,nP];refine and_congr Iff.rfl ⟨λh c hc hz=>?_,λh e he=>?_⟩
   ·exact h (c.id,z) (A0h.2 ⟨c,V.mem_iff.2 hc,rfl,hz⟩) rfl
   ·have⟨c,hc,h1,h2⟩:=A0h.1 he;exact λe'=>h c (V.mem_iff.1 hc) (e'▸h2)
  have aa:w.length<1000:=by
   have h1:=g.length_eq;have h2:=A85 (gs:=gs);rw[QK]at h1;omega
  refine oP (n:=n+73) w0 (by omega) (by omega) (Bm m.wf) J g (Da _) λv H hv O=>?_;exact B _ _ λbb=>by
   have⟨q,hq⟩:=jR (D:=depth-1) (b:=bb) hv O;exact⟨q,hq⟩
end
end
end Go.Abs
end
