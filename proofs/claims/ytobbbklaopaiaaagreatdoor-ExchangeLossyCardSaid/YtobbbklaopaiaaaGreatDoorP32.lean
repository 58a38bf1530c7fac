import Derived.Test.YtobbbklaopaiaaaGreatDoorP31
set_option linter.all false
set_option maxHeartbeats 100000000
noncomputable section
namespace Go.Abs
open Go.RowKit Go.Proofs
set_option maxRecDepth 100000
section
variable{d:Cd}
variable{L n:Nat}
section
variable{H H0 H':Hp}{v dv cv pv:AV}{A:ed}{K:KV}{x0:Af}{x:AV}{r m:Nat}{q:Pk}{l:List PC}{p:PC}
def A2e(h:d.id∈A.map Cd.id):add1 A (.c d)=(A,false,0):=Dl h
def vG(h:d.id∉A.map Cd.id):add1 A (.c d)=(A++[d],true,0):=C5 h
def zY:Mt A (p::l)=Mt (add1 A p).1 l:=by
 cases p with
 |z=>rfl
 |c d=>
  show Mt (if d.id∈A.map Cd.id then A else A++[d]) l=_;by_cases h:d.id∈A.map Cd.id
  ·rw[Dl h,A2e h]
  ·rw[C5 h,vG h]
def A2f:(add1 A p).1.length=A.length+if(add1 A p).2.1 then 1 else 0:=by
 cases p with
 |z=>rfl
 |c d=>
  by_cases h:d.id∈A.map Cd.id
  ·rw[A2e h];rfl
  ·rw[vG h];simp
def B5j:A.length<=(Mt A l).length:=by
 induction l generalizing A with
 |nil=>exact Me _
 |cons p l ih=>
  rw[zY];have:=ih (A:=(add1 A p).1);have e:=A2f (A:=A) (p:=p);omega
def bxC{F:KV}(g:∀H',Lat H H' (λ_=>False)->F (.agg p.cells) H'=x0):
 (Bz Ad Ae H λb c=>E4 Ae b (.agg p.cells) c λa=>AD Ae b a λe=>F e a)=x0:=by
 rw[B3 (cs:=CJ) rfl,Ch (cs:=CJ) (vs:=p.cells) (Az (by simp)) p.len rfl p.one,Bv rfl p.len.symm (B8 (Az (by simp)))];refine g _ ⟨λw=>Bq (AJ w),by rw[BB];show As H<=As H+1;omega,λw u y f _=>?_⟩;have:=w.lt f;rw[Ag (by omega)];exact A7 this f
def C3h(hc:YN H cv l)(c:StAt H r m A){u:Nat}(a:A8 cv u):u≠m:=by
 rcases hc with⟨rfl,_⟩|rfl|⟨g,f,i,rfl,h⟩
 ·exact absurd a (by simp[A8])
 ·exact absurd a (by simp[A8])
 ·intro e;obtain⟨_,_,_,b⟩:=a;cases b
  subst e;have:=c.mm;rw[h]at this;cases this
theorem A1q{B:ed}{k:AV->KV}(Q:40000<L)(hq:∀p∈l,p.Ok)(D:l.length<1000)(X:B.length<60)(e:Wf H0)(j:StAt H0 r m A)(c:YN H0 cv l)(V:∀H',StAt H' r m B->Lat H0 H' (λu=>u=m)->k (.ptr r 0 0) (Bo (decide (B.length≠A.length))) H'=x0):
 ∀(fuel i:Nat)(a:ed)(H:Hp),l.length<fuel+i->i<=l.length->Mt a (l.drop i)=B->A.length<=a.length->StAt H r m a->Lat H0 H (λu=>u=m)->
  Jd (L+20) (r! L (n+65)) K k fuel (.ptr r 0 0) (Bo (decide (a.length≠A.length))) cv (I l.length) (I i) H=x0
 |0,i,a,H,h1,h2,_,_,_,_=>by omega
 |fuel+1,i,a,H,h1,h2,b,h4,R,s=>by
  rw[QZ];unfold Je HR Hl A3 Mf;by_cases C:i<l.length
  ·have hc:YN H cv l:=c.keep λu y ru J=>s.keep e u y J (C3h c j ru);rw[FV (by omega),Cr,hc.get C];refine bxC λH1 l1=>?_;have w:=s.wf e;have s1:=R.keep λu y J=>l1.keep w u y J id;have Y:l.drop i=l[i]::l.drop (i+1):=vM C;rw[Y,zY]at b;have Z:(add1 a l[i]).1.length<=B.length:=by rw[<-b];exact B5j
   have O:=A2f (A:=a) (p:=l[i]);refine B6M (n:=n) Q (hq _ (PD C)) (l1.wf w) s1 (by omega) λf s2 l2=>?_;rw[F3,PT];have ef:∀{F:KV},(D5 (gdV false (Bo (decide (a.length≠A.length))) λg=>@Bool.rec (λ_=>Af) (some (AV.v undef,f)) (some (Bo (add1 a l[i]).2.1,f)) g) λM t=>Ck (Bo (decide (a.length≠A.length))) (AV.v (.bool true)) M λN=>F N t)=F (Bo (decide ((add1 a l[i]).1.length≠A.length))) f:=λ{F}=>by
    by_cases P:a.length=A.length
    ·rw[HX (by simpa using P),gT];show D5 (some (Bo (add1 a l[i]).2.1,f)) _=_;rw[Cb,Sf]
     congr 2
     cases hb:(add1 a l[i]).2.1<;>rw[hb]at O<;>simp at O
     ·exact(HX (by simp;omega)).symm
     ·exact(Hj (by omega)).symm
    ·rw[Hj P,xG];show D5 (some (AV.v undef,f)) _=_;rw[Cb,Tt];rw[Hj (p:=(add1 a l[i]).1.length≠A.length) (by omega)]
   rw[ef,Dd (by omega)];exact A1q Q hq D X e j c V fuel (i+1) _ f (by omega) (by omega) b (by omega) s2 (s.trans (l1.trans l2 (λ_ _ h=>h.elim) (λ_ _ h=>h)) (λ_ _ h=>h) (λ_ _ h=>h))
  ·rw[FT (by omega),Bh];rw[List.drop_of_length_le (by omega)]at b;have b:a=B:=b;subst b;exact V H R s
def A8G(C:200000<L)(D:GOk (Mt A q.cs))(hq:∀p∈q.cs,p.Ok)(wf:Wf H)(k:StAt H r m A)(F:PkS H pv q)(f:q.cs.length<1000)(w:(Mt A q.cs).length<60)(c:∀s H',StAt H' r m (Mt A q.cs)->PksAt H' s (if(Mt A q.cs).length=A.length then[] else Tf (Mt A q.cs) [])->Lat H H' (λu=>u=m)->K s H'=x0):(r! L (n+83)).call D8 [.ptr r 0 0,pv] H K=x0:=by
 obtain⟨dv,cv,rfl,h1,h2,M⟩:=F.at_;rw[Ss];unfold J8 Em A3 HS;have J:([I q.kd,dv,cv]:Is).all AV.one=true:=by
  have a1:=h1.one.2;have a2:=h2.one.2;simp only[pY,l3c,a1,a2];rfl
 rw[En J];have w1:=AJ (x:=.cells true Aq [I q.kd,dv,cv]) wf;have e:∀u y,Aj H u=some y->Aj ((As H,c_ Aq [I q.kd,dv,cv])::H) u=some y:=λu y b=>A7 (wf.lt b) b;have b1:Aj ((As H,c_ Aq [I q.kd,dv,cv])::H) (As H)=some (c_ Aq [I q.kd,dv,cv]):=Az (by simp);have l1:Lat H ((As H,c_ Aq [I q.kd,dv,cv])::H) (λu=>u=m):=Lat.cons _ _ _;generalize ((As H,c_ Aq [I q.kd,dv,cv])::H:Hp)=i at w1 e b1 l1;simp only[BJ];have c1:=h2.keep (H':=i) λu y _ b=>e u y b;rw[fA,Jt,AQ (p:=2) rfl b1 (by simp)];show Bm Ay cv _=_;have t:(AV.v (.bool false))=Bo (decide (A.length≠A.length)):=by simp
 rw[c1.len,t,show(AV.v (.int .i64 0))=I ((0:Nat):Int) from rfl];refine A1q (n:=n+17) (B:=Mt A q.cs) (l:=q.cs) (by omega) hq f w w1 (k.keep e) c1 (λj g l2=>?_) (L+20) 0 A i (by omega) (by omega) rfl (Me _) (k.keep e) (Lat.refl _ _);have a:=l1.trans l2 (R:=λu=>u=m) (λ_ _ h=>h) (λ_ _ h=>h);rw[Et];by_cases he:(Mt A q.cs).length=A.length
 ·rw[HX (by simpa using he)];show A2 (Bo true) _ _=_;rw[Cr];rw[Dl he]at c;exact c Aw j g (PksAt.pks (ls:=[])) a
 ·rw[Hj he];show A2 (Bo false) _ _=_;rw[Bh];rw[C5 he]at c;rw[A8k (n:=n) (ex:=[]) (lv:=.v (.slice none 0 0)) D C g.sv (.inl (.inr ⟨rfl,rfl⟩)) (by simp)];exact c _ j g PksAt.pks a
end
end
section
variable{PP:Af->Prop}{F:Option (Nat×AV)->Af}
variable{L n:Nat}
section
variable{H H0 H':Hp}{v pv:AV}{A:ed}{K:KV}{x0:Af}{x:AV}{r m:Nat}{q:Pk}{l:List PC}{p:PC}
def mu1{k:Value}{es:IH}{K:Ru}(h:Aj H r=some (.map false es none))(b:∀F:Option (Nat×AV)->Af,I5 k es F=F none):Mm (.mp r) k v H K=K (upd H r (.map false (es++[(k,v)]) none)):=by
 have e:Mm (.mp r) k v H K=I6 H r λy=>lL y λes a=>I5 k es λq=>match q with
  |none=>Ll H r (.map false (es++[(k,v)]) (uZ a)) K
  |some (i,_)=>Ll H r (.map false (es.set i (k,v)) a) K:=rfl
 rw[e,AX h];show I5 k es _=_;rw[b];show Ll H r _ K=_;rw[Dh];rfl
abbrev fnR(f:Nat):AV:=.fn (.func f) [] []
abbrev A32:IH:=[(.int .i64 1,fnR CG),(.int .i64 2,fnR Dv),(.int .i64 3,fnR D8)]
def C1s{F:KV}(wf:Wf H)(k:∀H' t,Aj H' t=some (.map false A32 none)->Lat H H' (λ_=>False)->PP (F (.mp t) H')):
 PP (LC Aa H λa b=>
  Ws .i64 (AV.v (.int .i64 1)) λg=>Mm a g (AV.fn (.func CG) [] []) b λc=>
  Ws .i64 (AV.v (.int .i64 2)) λh=>Mm a h (AV.fn (.func Dv) [] []) c λe=>
  Ws .i64 (AV.v (.int .i64 3)) λi=>Mm a i (AV.fn (.func D8) [] []) e λf=>F a f):=by
 have em:∀(H:Hp)(K:KV),LC Aa H K=K (.mp (As H)) ((As H,.map false [] none)::H):=λH K=>by
  show Ik H (λs=>K (.mp s) ((s,.map false [] (lJ Aa.d))::H))=_;rw[BW];rfl
 have kk:∀{z:Int}{F:Value->Af},Ws .i64 (AV.v (.int .i64 z)) F=F (.int .i64 z):=λ{z F}=>r_ rfl;rw[em,kk,mu1 (Az (by simp)) (λF=>rfl),kk,mu1 (B8 (Az (by simp))) (λF=>rfl),kk,mu1 (B8 (B8 (Az (by simp)))) (λF=>rfl)];refine k _ _ (B8 (B8 (B8 (Az (by simp))))) ⟨λw=>Bq (Bq (Bq (AJ w))),by simp only[BB];show As H<=As H+1;omega,λw u y j _=>?_⟩;have:=w.lt j;rw[Ag (by omega),Ag (by omega),Ag (by omega)];exact A7 this j
def C2a{t:Nat}{k:Int}{F:K2}(h:Aj H t=some (.map false A32 none)):(Ws .i64 (I k) λa=>Zi Aa false (.mp t) a H F)=I5 (.int .i64 k) A32 λf=>match f with|none=>F Aa.zero|some (_,v)=>F v:=by
 show Zi Aa false (.mp t) (.int .i64 k) H F=_;show I6 H t _=_;rw[AX h];show I5 _ A32 _=_
 congr 1
 funext f
 cases f with
 |none=>rfl
 |some p=>obtain⟨_,_⟩:=p;rfl
def C2q:I5 (.int .i64 1) A32 F=F (some (0,fnR CG)):=by kernel_rfl
def C4q:I5 (.int .i64 2) A32 F=F (some (1,fnR Dv)):=by kernel_rfl
def C4p:I5 (.int .i64 3) A32 F=F (some (2,fnR D8)):=by kernel_rfl
def B2s{f:Nat}{ws:Is}{N:Nat}(h1:(E (L+20)).imp f=true)(h2:(E (L+20)).ne f=false):Ct (E (L+20)) (rt (L+20) N) (fnR f) ws H K=(rt (L+20) N).call f ws H K:=by
 show SN ws [] (λa=>SN [] a λall=>A1B ((E (L+20)).ne f) all H K (@Bool.rec (λ_=>Af) (zpm (E (L+20)) f (rt (L+20) N) all H λv=>K v H) ((rt (L+20) N).call f all H K) ((E (L+20)).imp f)))=_;rw[Jv,Jv,h1,h2];show(rt (L+20) N).call f (ws++[]) H K=_;rw[UC]
def Pb(M:200000<L)(Z:GOk A)(hq:∀p∈q.cs,p.Ok)(wf:Wf H)(hs:StAt H r m A)(hp:PkS H pv q)(N:q.ds.length<1000)(hd:q.kd=1->q.ds.length<=40)(B:q.cs.length<1000)(b:GOk (Dx A q).1)(k:(Dx A q).1.length<60)(e:∀v' H',StAt H' r m (Dx A q).1->PksAt H' v' (Dx A q).2->Lat H H' (λu=>u=m)->K v' H'=x0):(r! L (n+84)).call AI [.ptr r 0 0,pv] H K=x0:=by
 obtain⟨d,cv,rfl,h1,h2,J⟩:=id hp.at_;rw[K7];unfold Gh Em Hl A3 Mf;have o3:([I q.kd,d,cv]:Is).all AV.one=true:=by
  have a1:=h1.one.2;have a2:=h2.one.2;simp only[pY,l3c,a1,a2];rfl
 rw[En o3];have w1:=AJ (x:=.cells true Aq [I q.kd,d,cv]) wf;have V:∀u y,Aj H u=some y->Aj ((As H,c_ Aq [I q.kd,d,cv])::H) u=some y:=λu y f=>A7 (wf.lt f) f;have b1:Aj ((As H,c_ Aq [I q.kd,d,cv])::H) (As H)=some (c_ Aq [I q.kd,d,cv]):=Az (by simp);have l1:Lat H ((As H,c_ Aq [I q.kd,d,cv])::H) (λu=>u=m):=Lat.cons _ _ _;generalize P:As H=r1 at b1;have:((r1,c_ Aq [I q.kd,d,cv])::H:Hp)=(As H,c_ Aq [I q.kd,d,cv])::H:=by rw[P]
 rw[this]at b1⊢;clear this;generalize ((As H,c_ Aq [I q.kd,d,cv])::H:Hp)=Y at w1 V b1 l1;have X:=hs.keep V;have p1:=hp.keep V;have ld:∀{j:Hp}{F:K2},Aj j r1=some (c_ Aq [I q.kd,d,cv])->AD Au (.ptr r1 0 0) j F=F (.agg [I q.kd,d,cv]):=λ{j F}h=>Bv rfl rfl h;rw[X.sv.nn];simp only[gT,ld b1,Cb];rw[A4V (n:=n+79) (by omega) p1.pk N B];simp only[Cb,Et,Sf];by_cases s:q.Right
 ·rw[@decide_eq_true _ (_) s];show A2 (Bo false) _ _=_;rw[Bh];refine C1s (PP:=λa=>a=x0) w1 λj t ht l2=>?_;have Q:∀u y,Aj Y u=some y->Aj j u=some y:=λu y f=>l2.keep w1 u y f id;have b2:=Q _ _ b1;have C:=X.keep Q;have p2:=p1.keep Q;have D:=l2.wf w1;have g:=l1.trans l2 (R:=λu=>u=m) (λ_ _ h=>h) (λ_ _ h=>h.elim);rw[fA,Jt];have lk:∀{F:K2},AD Ab (.ptr r1 0 0) j F=F (I q.kd):=λ{F}=>AQ (p:=0) rfl b2 (by simp);rw[lk,C2a ht];simp only[ld b2];have c:q.kd=1\/q.kd=2\/q.kd=3:=by
   obtain⟨_,_,_,h⟩:=s;rcases h with⟨_,h|h⟩|⟨_,h⟩
   ·exact .inl h
   ·exact .inr (.inl h)
   ·exact .inr (.inr h)
  unfold Dx at e b k;rw[@if_pos _ (_) s]at e b k;rcases c with c|c|c
  ·rw[Dl c]at e b k;rw[c,C2q,<-c];show Ct (E (L+20)) (r! L (n+83)) (fnR CG) _ _ _=_;rw[B2s rfl rfl];refine A8D (n:=n) Z M D C p2 (hd c) λw i=>?_;exact e _ w (C.keep λu y f=>i.keep D u y f id) PksAt.pks (g.trans i (λ_ _ h=>h) (λ_ _ h=>h.elim))
  ·have hn:¬q.kd=1:=by omega
   rw[C5 hn,Dl c]at e b k;rw[c,C4q,<-c];show Ct (E (L+20)) (r! L (n+83)) (fnR Dv) _ _ _=_;rw[B2s rfl rfl];refine A6f (n:=n) Z M D C p2 s.1 λv3 w J i=>?_;exact e _ w (C.keep λu y f=>i.keep D u y f id) J (g.trans i (λ_ _ h=>h) (λ_ _ h=>h.elim))
  ·have hn:¬q.kd=1:=by omega
   have O:¬q.kd=2:=by omega
   rw[C5 hn,C5 O]at e b k;rw[c,C4p,<-c];show Ct (E (L+20)) (r! L (n+83)) (fnR D8) _ _ _=_;rw[B2s rfl rfl];refine A8G (n:=n) M b hq D C p2 B k λv3 w s3 J i=>?_;exact e _ w s3 J (g.trans i (λ_ _ h=>h) (λ_ _ h=>h))
 ·rw[@decide_eq_false _ (_) s];show A2 (Bo true) _ _=_;rw[Cr];unfold Dx at e;rw[@if_neg _ (_) s]at e;exact e _ Y X (PksAt.pks (ls:=[])) l1
def A4W(N:200000<L)(P:GOk A)(d:q.Right)(e:q.kd=1)(wf:Wf H)(Q:StAt H r m A)(s:PkS H pv q)(O:q.ds.length<=40)(g:∀H',StAt H' r m A->Lat H H' (λu=>u=m)->PP (K (wI (Dx A q).2) H')):PP ((r! L (n+84)).call AI [.ptr r 0 0,pv] H K):=by
 obtain⟨a,cv,rfl,h1,h2,Z⟩:=id s.at_;rw[K7];unfold Gh Em Hl A3 Mf;have Y:([I q.kd,a,cv]:Is).all AV.one=true:=by
  have a1:=h1.one.2;have a2:=h2.one.2;simp only[pY,l3c,a1,a2];rfl
 rw[En Y];have w1:=AJ (x:=.cells true Aq [I q.kd,a,cv]) wf;have k:∀u y,Aj H u=some y->Aj ((As H,c_ Aq [I q.kd,a,cv])::H) u=some y:=λu y c=>A7 (wf.lt c) c;have b1:Aj ((As H,c_ Aq [I q.kd,a,cv])::H) (As H)=some (c_ Aq [I q.kd,a,cv]):=Az (by simp);have l1:Lat H ((As H,c_ Aq [I q.kd,a,cv])::H) (λu=>u=m):=Lat.cons _ _ _;generalize f:As H=r1 at b1;have:((r1,c_ Aq [I q.kd,a,cv])::H:Hp)=(As H,c_ Aq [I q.kd,a,cv])::H:=by rw[f]
 rw[this]at b1⊢;clear this;generalize ((As H,c_ Aq [I q.kd,a,cv])::H:Hp)=J at w1 k b1 l1;have B:=Q.keep k;have p1:=s.keep k;have ld:∀{b:Hp}{F:K2},Aj b r1=some (c_ Aq [I q.kd,a,cv])->AD Au (.ptr r1 0 0) b F=F (.agg [I q.kd,a,cv]):=λ{b F}h=>Bv rfl rfl h;rw[B.sv.nn];simp only[gT,ld b1,Cb];rw[A4V (n:=n+79) (by omega) p1.pk (by omega) (by have:=d.2.1;omega)];simp only[Cb,Et,Sf];rw[@decide_eq_true _ (_) d];show PP (A2 (Bo false) _ _);rw[Bh];refine C1s w1 λb t V l2=>?_;have i:∀u y,Aj J u=some y->Aj b u=some y:=λu y c=>l2.keep w1 u y c id;have b2:=i _ _ b1;have C:=B.keep i;have p2:=p1.keep i;have D:=l2.wf w1;have j:=l1.trans l2 (R:=λu=>u=m) (λ_ _ h=>h) (λ_ _ h=>h.elim);rw[fA,Jt];have X:∀{F:K2},AD Ab (.ptr r1 0 0) b F=F (I q.kd):=λ{F}=>AQ (p:=0) rfl b2 (by simp);rw[X,C2a V];simp only[ld b2];unfold Dx at g;rw[@if_pos _ (_) d,Dl e]at g;rw[e,C2q,<-e];show PP (Ct (E (L+20)) (r! L (n+83)) (fnR CG) _ _ _);rw[B2s rfl rfl];refine A0p (n:=n) P N D C p2 O λM w=>?_;exact g M (C.keep λu y c=>w.keep D u y c id) (j.trans w (λ_ _ h=>h) (λ_ _ h=>h.elim))
end
end
section
variable{w:AV}{H0:Hp}
variable{L n:Nat}
section
variable{gs A:ed}{H:Hp}{K:KV}{x x0:AV}
abbrev gO(gs:ed):AV:=.fn (.func Dn) [] [.iptr [gV gs]]
def B0w{r0 s e0 it:Nat}{q0:Bool}{c6 w:AV}{r:Ru}{ks:List AN}(M:Vw 6 w w=true)(q:ks.length<1000000)(i:∀l v H,l.Perm ks->(l=[]->v=Aw)->Coll H0 r0 s q0 e0 c6 l v H->r H=some (w,[]))(c:it≠r0/\it≠s/\As H0<=it):
 ∀(f:Nat)(es:List (AN×Cd))(l:List AN)(v:AV)(H:Hp)(o:Option (Value×AV)),es.length<f->(l++es.map Prod.fst).Perm ks->(l=[]->v=Aw)->Coll H0 r0 s q0 e0 c6 l v H->¬A8 v it->Aj H it=some (.iter (Df DK es) o)->
 B1 (L+20) (r! L (n+1)) K r f (.yl s) (.it it) H=some (w,[]):=by
 intro f
 induction f with
 |zero=>intro es l v H o h;omega
 |succ f ih=>
  intro es l v H o D m C hc hv p;rw[Fi];unfold Cc;refine XW (f:=DK) M p (λe=>?_) (λa e b he=>?_)
  ·subst e;rw[F3,Bh];exact i l v H (by simpa using m) C hc
  ·subst he;have g:=hc.it (.iter (Df DK (a++b)) (some (.string ⟨⟨e.1⟩⟩,DK e.2))) c hv;have d:=L0 (es:=Df DK (a++b)) (o:=some (.string ⟨⟨e.1⟩⟩,DK e.2)) p;have k:(l++(a++e::b).map Prod.fst).length=ks.length:=m.length_eq;simp at k;have u:sQ (.string ⟨⟨e.1⟩⟩)=S e.1:=rfl;rw[F3,Cr,Nu d,F3,u];refine H! g (by omega) λN t j F hr=>?_;rw[Et];show A2 (.v (.bool false)) _ _=_;rw[Bh];refine ih (a++b) (l++[e.1]) N t _ (by simp at D⊢;omega) ?_ (by simp) j (λJ=>?_) (F it _ c.1 c.2.1 hv d)
   ·refine List.Perm.trans ?_ m;simp only[Za,Xa,ZL];refine List.Perm.append_left l ?_;show(e.1::(a.map Prod.fst++b.map Prod.fst)).Perm _;exact List.perm_middle.symm
   ·have y:=hr it J;have B:=g.wf.lt d;rw[BB]at y B;omega
def A2Q(C:Vw 6 w w=true)(M:gs.length<=100)(J:100<L)(wf:Wf H0)(D:∀l v H,l.Perm (gs.map Cd.id)->(l=[]->v=Aw)->NewSl H0 l v H->K v H=some (w,[])):
 (r! L (n+4)).call EF [gO gs] H0 K=some (w,[]):=by
 rw[GC];unfold EE;rw[D9];unfold C4;simp only[BJ];rw[mG (by rfl),VE,Fs];unfold Cj;simp only[BJ];have w1:=AJ (x:=.cells true A5 [Aw]) wf;have c:=Az (H:=H0) (x:=.cells true A5 [Aw]) (by simp);have t:As ((As H0,c_ A5 [Aw])::H0)=As H0+1:=rfl;have i:Wf ((As H0+1,NC (.ptr (As H0) 0 0) (gO gs) (some none))::(As H0,c_ A5 [Aw])::H0):=AJ (x:=NC (.ptr (As H0) 0 0) (gO gs) (some none)) w1;have e:Aj ((As H0+1,NC (.ptr (As H0) 0 0) (gO gs) (some none))::(As H0,c_ A5 [Aw])::H0) (As H0+1)=some (NC (.ptr (As H0) 0 0) (gO gs) (some none)):=Az (H:=((As H0,c_ A5 [Aw])::H0)) (x:=NC (.ptr (As H0) 0 0) (gO gs) (some none)) (by simp[NC]);have ol:∀u y,Aj H0 u=some y->Aj ((As H0+1,NC (.ptr (As H0) 0 0) (gO gs) (some none))::(As H0,c_ A5 [Aw])::H0) u=some y:=λu y a=>by
  have a1:=A7 (x:=.cells true A5 [Aw]) (wf.lt a) a;exact A7 (w1.lt a1) a1
 have k:∀{H:Hp}{K:K2},AD Ai (.iptr [gV gs]) H K=K (gV gs):=λ{H K}=>Ni rfl;rw[k,WM];have d:Aj ((As H0+1,NC (.ptr (As H0) 0 0) (gO gs) (some none))::(As H0,c_ A5 [Aw])::H0) (As H0)=some (c_ A5 [Aw]):=A7 (w1.lt c) c;show B1 (L+20) (r! L (n+1)) _ _ (L+20) (.yl (As H0+1)) (.it (As ((As H0+1,NC (.ptr (As H0) 0 0) (gO gs) (some none))::(As H0,c_ A5 [Aw])::H0))) ((As ((As H0+1,NC (.ptr (As H0) 0 0) (gO gs) (some none))::(As H0,c_ A5 [Aw])::H0),.iter (Df DK (gE gs)) none)::((As H0+1,NC (.ptr (As H0) 0 0) (gO gs) (some none))::(As H0,c_ A5 [Aw])::H0))=_;generalize f:((As H0+1,NC (.ptr (As H0) 0 0) (gO gs) (some none))::(As H0,c_ A5 [Aw])::H0:Hp)=b at i e ol d;have r:As b=As H0+2:=by rw[<-f];rfl
 have F:=AJ (x:=.iter (Df DK (gE gs)) none) i;have up:∀u y,Aj b u=some y->Aj ((As b,Row.iter (Df DK (gE gs)) none)::b) u=some y:=λu y j=>A7 (i.lt j) j;have g:Aj ((As b,Row.iter (Df DK (gE gs)) none)::b) (As b)=some (.iter (Df DK (gE gs)) none):=Az (by simp);have q:(gE gs).length=gs.length:=by simp[gE]
 refine B0w (n:=n) (H0:=H0) (r0:=As H0) (s:=As H0+1) (it:=As b) (q0:=true) (e0:=A5) (c6:=gO gs) (ks:=gs.map Cd.id) C (by rw[Qa];omega) ?_ (by omega) (L+20) (gE gs) [] Aw _ none (by omega) (by rw[l3d,Ww]) (λ_=>rfl)
  ⟨up _ _ d,.inl ⟨rfl,rfl,rfl⟩,up _ _ e,λu ⟨_,_,_,h⟩=>(by cases h),F,λu y a=>up u y (ol u y a),by omega,by omega,by omega,wf⟩ (λ⟨_,_,_,h⟩=>(by cases h)) g
 intro l v H B m hc;show I6 H (As H0+1) _=_;rw[AX hc.lp];show Ll H (As H0+1) .gone _=_;rw[Dh];have hr:Aj (upd H (As H0+1) .gone) (As H0)=some (c_ A5 [v]):=by rw[Ag (by omega)];exact hc.at_
 show AD Ac (.ptr (As H0) 0 0) (upd H (As H0+1) .gone) _=_;rw[AQ (p:=0) rfl hr (by simp)];refine D _ _ _ B m ⟨?_,λu a=>(hc.new u a).2.2,Bq hc.wf,λu y a=>?_,?_⟩
 ·exact hc.sl.lat hc.wf (Lat.upd H _ _ (P:=λu=>u=As H0+1) rfl) (λu a=>(hc.new u a).2.1)
 ·have:=wf.lt a;rw[Ag (by omega)];exact hc.keep u y a
 ·rw[BB];have:=hc.wf.lt hc.at_;omega
def B2M{K:K2}:Ao (r! L (n+5)) Cw [gV gs] H0 K=K (gO gs):=by
 refine K1 (λK a=>?_) (An (q:=false) hY AK);rw[show n+5=(n+4)+1 from rfl,FU];unfold Cv Iu;rw[uO];exact a _ _ ⟨true,λK=>by kernel_rfl⟩
def vC(d:GOk A):(NB A).Perm (DU A):=by
 have hn:=Rv (S:=A) d.ids;have hm:((NB A).map Cd.id).Nodup:=by rw[vD d.ids];exact(NU (gs:=DU A)).1.nd
 exact(l37 (List.Pairwise.of_map Cd.id (λa b h e=>h (congrArg Cd.id e)) hm) (List.Pairwise.of_map Cd.id (λa b h e=>h (congrArg Cd.id e)) hn)).2 λc=>A28 d.ids
def B9D{D:Nat}{ps:List AN}:Fx true (D+3) (DJ ps) (DJ ps) H false:=by cases ps<;>exact λK=>by kernel_rfl
def A0o(a:GOk A)(i:200000<L){w:AV×Hp}(h:∀H,K (.agg [I 1,DJ (Ej (DU A)),Aw]) H=some w):(r! L (n+83)).call BL [.iptr [.imap (Df DK (gE A))]] [] K=some w:=by
 rw[Su];unfold J9 Iu;have e:∀{H:Hp},mP H (.iptr [.imap (Df DK (gE A))]) A:=λ{H}=>.inl rfl;have f:∀{F:KV},Bz Aq Au [] F=F (.ptr 0 0 0) [(0,c_ Aq [I 0,Aw,Aw])]:=λ{F}=>B3 (cs:=[I 0,Aw,Aw]) rfl;rw[f,(e (H:=[(0,c_ Aq [I 0,Aw,Aw])])).nn,Bh,A8S (n:=n) a i e];have d:=vC a;have b:=T_ a d;have j:∀{H:Hp}{F:K2},Ao (r! L (n+82)) Uu [pA (NB A)] H F=F (DJ (Ej (DU A))):=λ{H F}=>by
  rw[AR (B2N (L:=L) (n:=n+2) b (by omega) (λc hc=>by have:=WR (b.ok c hc);omega) (YY _)) (An ((YY _).fx H) AK),A3P (Rv a.ids) d]
 rw[j];have g:∀{F:K2},Ca Au [(0,1,(AV.v (.int .i64 1))),(1,1,DJ (Ej (DU A)))] F=F (.agg [I 1,DJ (Ej (DU A)),Aw]):=λ{F}=>by
  cases Ej (DU A)<;>kernel_rfl
 have k:([I 1,DJ (Ej (DU A)),Aw]:Is).all AV.one=true:=by
  cases Ej (DU A)<;>rfl
 rw[g,Ch (cs:=[I 0,Aw,Aw]) (vs:=[I 1,DJ (Ej (DU A)),Aw]) rfl rfl rfl k];have l1:Aj (upd [(0,c_ Aq [I 0,Aw,Aw])] 0 (c_ Aq [I 1,DJ (Ej (DU A)),Aw])) 0=some (c_ Aq [I 1,DJ (Ej (DU A)),Aw]):=B8 (x:=.cells true Aq [I 0,Aw,Aw]) rfl;rw[Bv rfl rfl l1];exact h _
def F!(g:GOk A)(f:200000<L)(k:mP H x A){F:K2}:J4 (r! L (n+83)) BL [x] H F=F (.agg [I 1,DJ (Ej (DU A)),Aw]):=by
 rcases k with rfl|⟨r,m,rfl,h1,h2⟩
 ·show Ao (r! L (n+83)) BL [.iptr [.imap (Df DK (gE A))]] H F=_;exact CT.z (λK i=>A0o g f λH=>i _ H ⟨false,L2 (D:=11) (An (q:=false) C7 (An (q:=false) (B9D (D:=8)) (An (q:=false) C7 AK)))⟩) (An (q:=false) Rg AK)
 ·have e:J4 (r! L (n+83)) BL [.ptr r 0 0] H F=I6 H r λx=>fD x λq _ cs=>match q,cs with
   |true,[.mp m]=>I6 H m λy=>oZ y λb=>ck (b.all λp=>iT 3 p.2) (Ar ((r! L (n+83)).call BL [.iptr [.imap b]] [] λv c=>Nr c depth v λd=>some (d,[])) F)
   |_,_=>none:=rfl
  rw[e,AX h1];show(I6 H m λy=>oZ y λb=>ck (b.all λp=>iT 3 p.2) (Ar ((r! L (n+83)).call BL [.iptr [.imap b]] [] λv c=>Nr c depth v λd=>some (d,[])) F))=_;rw[AX h2];show ck ((Df DK (gE A)).all λp=>iT 3 p.2) _=_;rw[B1N,A0o (w:=(.agg [I 1,DJ (Ej (DU A)),Aw],[])) g f λH=>?_]
  ·rfl
  ·rw[show depth=11+1 from rfl];have h:∀F:K2,Nr H (11+1) (.agg [I 1,DJ (Ej (DU A)),Aw]) F=SF (Nr H 11) [I 1,DJ (Ej (DU A)),Aw] λl=>F (.agg l):=λF=>rfl;rw[h,B0m];have:=jZ (q:=SM) (λ_=>rfl) (Ej (DU A));cases j:Ej (DU A) with
   |nil=>rfl
   |cons a l=>
    rw[j]at this;show(fl1 (I 1)&&((AG (a::l)).all SM&&(fl1 Aw&&true)))=true;rw[this];rfl
end
end
section
variable{L n:Nat}
section
variable{gs A out:ed}{H:Hp}{K:KV}{x w:AV}
def A4S{s:AN}:CS (r! L (n+2)) EX [S s,.iptr [.imap (Df DK (gE out))]] (Bo (decide (s∈out.map Cd.id))):=by
 intro K d;rw[Oe];unfold GT Lr;have c:∀{F:K2},AD Ai (.iptr [.imap (Df DK (gE out))]) [] F=F (.imap (Df DK (gE out))):=λ{F}=>Ni rfl;rw[c];refine A3D (b:=gE out) (F:=λe _ a=>K e a) (λK=>r_ rfl) λf _=>?_;rw[iC];exact d _ _ λb=>⟨false,C7⟩
def Xz(A:ed):AV:=if A=[] then Aw else Ls (Xy A)
def A8j:SA (Xy A) (Xz A):=by
 unfold Xz;by_cases h:A=[]
 ·rw[Dl h];subst h;exact .inr ⟨by simp[Xy,DW],rfl⟩
 ·rw[C5 h];exact .inl rfl
def B2y(hn:(A.map Cd.id).Nodup)(b:out.Perm (DU A)):(DW (A.map Cd.id)).filter (λs=>!decide (s∈out.map Cd.id))=Xy A:=by
 refine IB ?_ ((D2 _).filter _) (D2 _);refine List.Perm.trans ?_ (Bg _).symm;refine((Bg _).filter _).trans ?_;have e:(A.map Cd.id).filter (λs=>!decide (s∈out.map Cd.id))=(A.map Cd.id).filter λx=>@decide (¬Cmp A x) (Classical.propDecidable _):=by
  refine List.filter_congr λs c=>?_;have hc:s∈out.map Cd.id↔Cmp A s:=by rw[(b.map _).mem_iff];exact LF
  by_cases h:Cmp A s
  ·rw[Hj (hc.2 h),@decide_eq_false _ (_) (λa=>a h)];rfl
  ·rw[HX (λa=>h (hc.1 a)),@decide_eq_true _ (_) h];rfl
 rw[e]
def C1I{l:List AN}{r:Nat}{q:Bool}{tl:Is}{D:Nat}{b:Bool}(h2:Aj H r=some (.cells q Av (AG l++tl))):Fx b (D+1) (.sl 1 r 0 l.length) (Ls l) H true:=by
 refine Wx (q':=false) h2 (by rw[EC,AZ];omega) ?_;have:((AG l++tl).drop 0).take (l.length*1)=AG l:=by
  rw[pE,pZ];have:=List.take_left (l₁:=AG l) (l₂:=tl);rw[AZ]at this;exact this
 rw[this];exact Vj l
def B2z(Q:Vw 6 w w=true)(C:GOk A)(Y:200000<L)(N:∀v H,(∀b,∃q,Fx b depth v (Xz A) H q)->K v H=some (w,[])):
 (r! L (n+83)).call CO [.iptr [.imap (Df DK (gE A))]] [] K=some (w,[]):=by
 rw[QB];unfold IN Em;have hx:mP [] (.iptr [.imap (Df DK (gE A))]) A:=.inl rfl;rw[hx.nn,Bh];refine rJ (n:=n+78) Q C (by omega) Fl λout m c hp hm _ w1 _ n1=>?_;rw[A1X (v:=.map none) rfl];have w2:=AJ (x:=.cells true Ax [.v (.map none)]) w1;have b2:Aj ((As c,c_ Ax [.v (.map none)])::c) (As c)=some (c_ Ax [.v (.map none)]):=Az (by simp);rw[Ei (cs:=[.v (.map none)]) b2 (by simp) rfl rfl rfl];have m2:=A7 (x:=.cells true Ax [.v (.map none)]) (w1.lt hm) hm;have p:=Bq (r:=As c) (y:=.cells true Ax ([AV.v (.map none)].set 0 (.mp m))) w2;have B:Aj (upd ((As c,c_ Ax [.v (.map none)])::c) (As c) (c_ Ax ([AV.v (.map none)].set 0 (.mp m)))) (As c)=some (c_ Ax [.mp m]):=B8 b2;have m3:Aj (upd ((As c,c_ Ax [.v (.map none)])::c) (As c) (c_ Ax ([AV.v (.map none)].set 0 (.mp m)))) m=some (.map false (Df DK (gE out)) none):=by
  rw[Ag (by have:=w1.lt hm;omega)];exact m2
 generalize hb:As c=b at B m3;rw[hb]at p;generalize upd ((b,c_ Ax [.v (.map none)])::c) b (c_ Ax ([AV.v (.map none)].set 0 (.mp m)))=J at p B m3⊢;rw[A0h,B2M (n:=n+77),Hh];unfold EV;have Z:=C.len;refine A2Q (n:=n+77) Q (by omega) (by omega) p λl v H4 d M hc=>?_;refine A2I (n:=n+77) p (by rw[d.length_eq,Qa];omega) M hc λV a=>?_;have e:DW l=DW (A.map Cd.id):=IB ((Bg l).trans (d.trans (Bg _).symm)) (D2 l) (D2 _);rw[e]at a;have j:∀u,A8 v u->As J<=u:=a.new;have g:∀(D:Nat){f},Lat V f (A8 v)->Fx true (D+5) (.ptr b 0 0) (.iptr [.imap (Df DK (gE out))]) f true:=λD{f}k=>by
  have kk:∀u y,Aj J u=some y->Aj f u=some y:=λu y O=>k.keep a.wf u y (a.keep u y O) λhh=>by have:=j u hh;have:=p.lt O;omega
  exact Wy (D:=D+4) (kk _ _ B) (An (q:=true) (q':=false) (A3Q (D:=D) (kk _ _ m3)) AK)
 refine A8K (n:=n+80) (P:=λs=>decide (s∈out.map Cd.id)) a.wf a.sl.rq (by rw[(Bg _).length_eq,Qa];omega) Y ⟨.fn (.func EX) [] [.iptr [.imap (Df DK (gE out))]],_,yT (D:=11) (An (g 6 (Lat.refl _ _)) AK),λs K=>?_⟩ (λf R s K=>?_) λv' f F i R=>?_
 ·rw[A_ rfl rfl];exact AR (A4S (n:=n+78)) (An (q:=false) C7 (An (q:=false) Rg AK))
 ·rw[A_ rfl rfl];exact AR (A4S (n:=n+79)) (An (q:=false) C7 (An (g 7 R) AK))
 ·rw[B2y C.ids hp]at F;by_cases t:A=[]
  ·have hv:v=Aw:=M (by subst t;exact gL (by rw[d.length_eq];rfl));rcases F with⟨rfl,h⟩|⟨r,q,tl,rfl,h⟩
   ·refine N _ _ λb=>⟨false,?_⟩
    unfold Xz;rw[Dl t];exact C7
   ·have:=(i r).1 ⟨_,_,_,rfl⟩;rw[hv]at this;obtain⟨_,_,_,h⟩:=this;cases h
  ·rcases F with⟨rfl,h⟩|X
   ·rcases a.sl with⟨rfl,h1,h2⟩|⟨r,q,rfl,h2,_⟩
    ·have:(DW (A.map Cd.id)).length=A.length:=by rw[(Bg _).length_eq,Qa]
     exact absurd (gL (by omega)) t
    ·have:=(i r).2 ⟨_,_,_,rfl⟩;obtain⟨_,_,_,h⟩:=this;cases h
   ·obtain⟨r,q',tl,rfl,h⟩:=X;refine N _ _ λb=>⟨true,?_⟩
    unfold Xz;rw[C5 t];exact C1I h
def A8i:pl 6 (Xz A)=true:=by
 unfold Xz;by_cases h:A=[]
 ·rw[Dl h];rfl
 ·rw[C5 h];exact jZ (q:=pl 5) (λ_=>rfl) _
def jS(d:GOk A)(c:200000<L)(e:mP H x A){F:K2}:Ao (r! L (n+83)) CO [x] H F=F (Xz A):=by
 obtain⟨q1,a⟩:=e.fx (D:=7);exact AR (λK b=>B2z (Tb 6 _ A8i) d c b) (An a AK)
end
end
section
variable{L n:Nat}
def A7z(z:Int)(i:Nat):Bool:=decide (((pk z 1048576).fdiv (2^i)).tmod 2=1)
def QR(z:Int):Nat->ed->ed
 |_,[]=>[]
 |i,c::l=>if A7z z i then c::QR z (i+1) l else QR z (i+1) l
def dD{z:Int}{i:Nat}{c:Cd}{l:ed}:QR z i (c::l)=if A7z z i then c::QR z (i+1) l else QR z (i+1) l:=rfl
def yH{z:Int}{l:ed}:∀{i:Nat},(QR z i l).Sublist l:=by
 induction l with
 |nil=>intro i;exact List.Sublist.refl _
 |cons c l ih=>
  intro i;unfold QR;split
  ·exact(ih (i:=i+1)).cons_cons c
  ·exact(ih (i:=i+1)).cons c
section
variable{H H0 H':Hp}{v a:AV}{gs A:ed}{K:KV}{x0:Af}{r m:Nat}{z:Int}
def StAt.kp(h:StAt H r m A)(k:Lat H H' (λ_=>False))(wf:Wf H):StAt H' r m A:=h.keep λu y b=>k.keep wf u y b id
theorem jY{k:KV}(B:40000<L)(f:GOk gs)(hz:Lm z)(s:LA gs a)(M:∀H',StAt H' r m (QR z 0 gs)->Lat H0 H' (λu=>u=m)->k (.ptr r 0 0) H'=x0):
 ∀(fuel i:Nat)(b:ed)(H:Hp),gs.length<fuel+i->i<=gs.length->b++QR z i (gs.drop i)=QR z 0 gs->(∀c∈b,c∈gs.take i)->b.length<=i->Wf H->StAt H r m b->Lat H0 H (λu=>u=m)->
  QE (L+20) (r! L (n+66)) K k fuel a (I z) (.ptr r 0 0) (I i) H=x0
 |0,i,b,H,h1,h2,_,_,_,_,_,_=>by omega
 |fuel+1,i,b,H,h1,h2,d,y,Y,wf,t,C=>by
  rw[gJ];unfold QF Dk A3 HS;have V:=f.len;rw[s.len];by_cases g:i<gs.length
  ·rw[FV (by omega),Cr];have X:∀{H:Hp}{F:K2},Ao (r! L (n+66)) LZ [I z,(AV.v (.int .i64 1048576))] H F=F (I (pk z 1048576)):=λ{H F}=>(A10 (n:=n+65) hz (by decide) (by decide)) H F;have q:∀{F:K2},Ap Ab .rem (I ((pk z 1048576).fdiv (2^i))) (AV.v (.int .i64 2)) F=F (I (((pk z 1048576).fdiv (2^i)).tmod 2)):=λ{F}=>Qu (by decide);rw[X,B5w (by omega),q,CQ];have N:gs.drop i=gs[i]::gs.drop (i+1):=vM g;rw[N]at d;rw[dD]at d;by_cases hb:((pk z 1048576).fdiv (2^i)).tmod 2=1
   ·have e:A7z z i=true:=Hj hb;rw[Dl e]at d;simp only[Hj hb,gT,Cb,s.ia g,A47];have D:gs[i].id∉b.map Cd.id:=λh=>by
     obtain⟨c,hc,he⟩:=Mj.1 h;have j:=f.ids;rw[<-l3a i gs,Za,l38]at j;exact j.2.2 _ (List.mem_map_of_mem (y c hc)) _ (List.mem_map_of_mem (by rw[N];exact List.mem_cons_self)) he
    have J:(PC.c gs[i]).Ok:=⟨f.ok _ (PD g),f.nd _ (PD g)⟩
    have O:add1 b (.c gs[i])=(b++[gs[i]],true,0):=vG D;have put:∀{F:KV},(∀H',StAt H' r m (b++[gs[i]])->Lat H H' (λu=>u=m)->F (I 0) H'=x0)->D5 ((r! L (n+66)).call EY [.ptr r 0 0,.agg gs[i].cs] H λv H=>some (v,H)) F=x0:=λ{F}R=>
     A8x (n:=n) (p:=.c gs[i]) (K:=λv H=>some (v,H)) (P:=λa=>D5 a F=x0) B J wf t (by omega) λx w l1=>by
      rw[O]at w⊢;exact R x w l1
    refine put λx w l1=>?_;have Q:∀{F:K2},Ap Ab .neq (I 0) (AV.v (.int .i64 0)) F=F (Bo false):=λ{F}=>by kernel_rfl
    simp only[Cb,Q,Tt,Bh];rw[Dd (by omega)];refine jY B f hz s M fuel (i+1) (b++[gs[i]]) x (by omega) (by omega) (by rw[<-d];simp) (λc hc=>?_) (by simp;omega) (l1.wf wf) w (C.trans l1 (λ_ _ h=>h) (λ_ _ h=>h));rw[lO g];rcases Yn.1 hc with hc|hc
    ·exact List.mem_append_left _ (y c hc)
    ·exact List.mem_append_right _ hc
   ·have e:A7z z i=false:=HX hb;rw[e]at d;simp only[HX hb,ZC,gU,gT,Cb,Sf,Tt,Bh];rw[Dd (by omega)];refine jY B f hz s M fuel (i+1) b H (by omega) (by omega) (by simpa using d) (λc hc=>?_) (by omega) wf t C;have:=y c hc;rw[lO g];exact List.mem_append_left _ this
  ·rw[FT (by omega),Bh];rw[List.drop_of_length_le (by omega)]at d;have d:b++[]=QR z 0 gs:=d;rw[UC]at d;rw[d]at t;exact M H t C
def rF(f:40000<L)(d:GOk gs)(hz:Lm z)(g:LA gs a)(wf:Wf H)(i:∀r m H',StAt H' r m (QR z 0 gs)->As H<=m->Lat H H' (λ_=>False)->K (.tup [.ptr r 0 0,Bo true]) H'=x0):
 (r! L (n+67)).call L5 [a,I z] H K=x0:=by
 rw[lD];unfold Sw A3 Mf HS;rw[B5s (n:=n+65)];obtain⟨e,w1,k1⟩:=B0c wf;rw[e.sv.nn,Bh];simp only[BJ];have l1:Lat H ((As H+1,c_ Dz [.mp (As H)])::(As H,.map false [] none)::H) (λu=>u=As H):=⟨λ_=>w1,by show As H<=As H+1+1;omega,λ_ u y b _=>k1 u y b⟩
 have h:=d.len;refine jY (n:=n) (H0:=H) f d hz g (λH' j c=>?_) (L+20) 0 [] _ (by omega) (by omega) rfl (by simp) (by simp) w1 e l1;exact i _ _ H' j (Me _) ⟨c.wf,c.nx,λw u y b _=>c.keep w u y b (by have:=w.lt b;omega)⟩
end
end
section
variable{L n:Nat}
section
variable{H H0 H':Hp}{v a:AV}{gs A B:ed}{K:KV}{x0:Af}{r m:Nat}{z:Int}{x y:AV}{ss tt:List AN}
theorem B1A{t e:AV}{k7:Ru}(k:40000<L)(j:eC H t ss)(d:eC H e tt)(c:ss.length<900)(u:tt.length<900)(q:∀b:Bool,b=decide (∀s∈tt,s∈ss)->K (Bo b) H=x0)(p:(∀s∈tt,s∈ss)->k7 H=x0):
 ∀(fuel i:Nat),tt.length<fuel+i->i<=tt.length->(∀s∈tt.take i,s∈ss)->QG (L+20) (r! L (n+2)) K k7 fuel t e (I i) H=x0
 |0,i,h1,h2,_=>by omega
 |fuel+1,i,h1,h2,f=>by
  rw[gK];unfold QH HR A3 HS;rw[d.len];by_cases g:i<tt.length
  ·rw[FV (by omega),Cr,d.get g,B5u (n:=n) j c k,Et];by_cases hm:tt[i]∈ss
   ·rw[Hj hm];show A2 (Bo false) _ _=_;rw[Bh,Dd (by omega)];refine B1A k j d c u q p fuel (i+1) (by omega) (by omega) λs c=>?_;rw[lO g]at c;rcases Yn.1 c with c|c
    ·exact f s c
    ·rw[Tx]at c;rw[c];exact hm
   ·rw[HX hm];show A2 (Bo true) _ _=_;rw[Cr];exact q false (HX λh=>hm (h _ (PD g))).symm
  ·rw[FT (by omega),Bh];rw[Y? (by omega)]at f;exact p f
def B6K(g:GOk A)(e:GOk B)(i:200000<L):CS (r! L (n+84)) L6 [.iptr [.imap (Df DK (gE A))],.iptr [.imap (Df DK (gE B))]] (Bo (decide (∀s∈(NB B).map Cd.id,s∈(NB A).map Cd.id))):=by
 intro K f;rw[lE];unfold Sx A3 Mf;simp only[BJ];refine A2N (n:=n) g i (.inl rfl) Fl λv1 p c j=>?_;refine A2N (n:=n) e i (.inl rfl) c.wf λt q d k=>?_;have len:∀{A:ed},GOk A->((NB A).map Cd.id).length<900:=λ{A}h=>by
  have:=(T_ h (vC h)).len;rw[Qa];omega
 refine B1A (n:=n+81) (by omega) ((eC.keep (.inr (c.sat λh=>j (List.map_eq_nil_iff.1 h))) d.keep)) (.inr (d.sat λh=>k (List.map_eq_nil_iff.1 h))) (len g) (len e) (λb hb=>?_) (λh=>?_) (L+20) 0 (by have:=len e;omega) (by omega) (by simp)
 ·rw[hb];exact f _ _ λb=>⟨false,C7⟩
 ·have:=Hj h;rw[this]at f⊢;exact f _ _ λb=>⟨false,C7⟩
def A8M(d:GOk A)(e:GOk B)(f:200000<L)(g:mP H x A)(h:mP H y B){F:K2}:Ao (r! L (n+84)) L6 [x,y] H F=F (Bo (decide (∀s∈(NB B).map Cd.id,s∈(NB A).map Cd.id))):=by
 obtain⟨q1,b⟩:=g.fx (D:=7);obtain⟨q2,c⟩:=h.fx (D:=7);exact AR (B6K d e f) (An b (An c AK))
end
end
section
variable{F:K2}{i:Nat}
variable{L n:Nat}
section
variable{H H0 H':Hp}{v a:AV}{l gs A B:ed}{K:KV}{x0:Af}{r m:Nat}{z:Int}{x y:AV}{ps:PV}{ws:List Pk}
def B1o(h:i<m):Ds Ah (.sl 3 r 0 m) (I (i:Int)) F=F (.ptr r (i*3) 0):=by
 have b:Ds Ah (.sl 3 r 0 m) (I (i:Int)) F=iN (i:Int) λn=>ck (Nat.blt n m) (fN (Nat.add 0 (Nat.mul n 3)) λp=>F (.ptr r p 0)):=rfl;rw[b,Ju,Dy];have h1:Nat.blt i m=true:=by rw[Wr];exact h
 have h2:Nat.add 0 (Nat.mul i 3)=i*3:=Jt _;rw[h1,h2];rfl
def I?{tl:Is}(c:i<ps.length):(ps.flatMap UB++tl).drop (i*3)=UB ps[i]++((ps.drop (i+1)).flatMap UB++tl):=by
 have b:ps=ps.take i++ps[i]::ps.drop (i+1):=by rw[<-vM c,l3a]
 conv=>lhs;rw[b]
 have d:((ps.take i).flatMap UB).length=i*3:=by rw[XN,vN];congr 1;omega
 rw[l2m,ZL,<-d,List.drop_left,qB,ZL]
def jF.keep(h:jF H v ps)(k:∀u y,Aj H u=some y->Aj H' u=some y):jF H' v ps:=by
 rcases h with h|h|⟨r,q,b,rfl,h⟩
 ·exact .inl h
 ·exact .inr (.inl h)
 ·exact .inr (.inr ⟨r,q,b,rfl,k _ _ h⟩)
def jF.len(h:jF H v ps):Bm Ah v F=F (I ps.length):=by
 rcases h with⟨rfl,rfl⟩|rfl|⟨_,_,_,rfl,_⟩<;>exact r_ rfl
def jF.ld(h:jF H v ps)(b:i<ps.length):(Ds Ah v (I i) λu=>AD Au u H F)=F (.agg (UB ps[i])):=by
 rcases h with⟨rfl,rfl⟩|rfl|⟨r,q,d,rfl,h⟩
 ·simp at b
 ·rw[XA8 (f:=UB) rfl (λ_=>rfl) b];exact r_ rfl
 ·rw[B1o b];have e:AD Au (.ptr r (i*3) 0) H F=I6 H r λx=>J6 x λ_ cs=>Ek 3 (Dg (Nat.add (i*3) 0) cs) λc=>F (.agg c):=r_ rfl;rw[e,AX h];show Ek 3 (Dg (i*3+0) (ps.flatMap UB++d)) (λc=>F (.agg c))=_;rw[Nat.add_zero,Cy,I? b];exact r_ rfl
theorem jF.cs(h:jF H v ps)(b:i<ps.length):(Ds Ah v (I i) λu=>CY 2 u λw=>AD Ay w H F)=F ps[i].2.2:=by
 rcases h with⟨rfl,rfl⟩|rfl|⟨r,q,c,rfl,h⟩
 ·simp at b
 ·rw[XA8 (f:=UB) rfl (λ_=>rfl) b];exact r_ rfl
 ·rw[B1o b,fA];have e:AD Ay (.ptr r (i*3+2) 0) H F=I6 H r λx=>J6 x λ_ cs=>hdK (Dg (Nat.add (i*3+2) 0) cs) F:=r_ rfl;rw[e,AX h];show hdK (Dg (i*3+2+0) (ps.flatMap UB++c)) F=_;rw[Nat.add_zero,Cy,<-l1a,I? b];exact r_ rfl
theorem PksAt.keep(h:PksAt H v ws)(k:∀u y,Aj H u=some y->Aj H' u=some y):PksAt H' v ws:=by
 obtain⟨ps,h1,h2,b⟩:=h.at_;exact⟨ps,h1,λp c=>(h2 p c).keep k,b.keep k⟩
theorem PksAt.len(h:PksAt H v ws):Bm Ah v F=F (I ws.length):=by
 obtain⟨ps,rfl,h2,b⟩:=h.at_;rw[b.len,Qa]
theorem PksAt.ld(h:PksAt H v ws)(c:i<ws.length)(e:∀w,PkS H w ws[i]->F w=x0):(Ds Ah v (I i) λu=>AD Au u H F)=x0:=by
 obtain⟨ps,rfl,h2,d⟩:=h.at_;rw[Qa]at c;rw[d.ld c];have b:=h2 _ (PD c);refine e _ ⟨ps[i].2.1,ps[i].2.2,?_,?_,?_,?_⟩
 ·rw[l2o];rfl
 ·rw[l2o];exact b.ds
 ·rw[l2o];exact b.cs
 ·rw[l2o];exact b.nl
theorem PksAt.cs(h:PksAt H v ws)(b:i<ws.length):∃cv,YN H cv ws[i].cs/\∀F:K2,(Ds Ah v (I i) λu=>CY 2 u λw=>AD Ay w H F)=F cv:=by
 obtain⟨ps,rfl,h2,c⟩:=h.at_;rw[Qa]at b;have d:=h2 _ (PD b);refine⟨ps[i].2.2,?_,λF=>c.cs b⟩;rw[l2o];exact d.cs
theorem G'{pv e f h M q iv:AV}{ss:List AN}{pcs:List PC}{k:AV->AV->AV->AV->AV->AV->AV->AV->KV}(s:40000<L)(w:PksAt H pv ws)(D:0<ws.length)(hc:ws[0].cs=pcs)(b:∀p∈pcs,p.Ok)(c:pcs.length<1000)(t:eC H iv ss)(C:ss.length<900){B:Nat}(N:B<100000)(J:∀g d:Nat,g<=B+pcs.length->d<=B+pcs.length->k e f h (I g) (I d) q pv iv (I pcs.length) H=x0):
 ∀(fuel j g d:Nat),pcs.length<fuel+j->j<=pcs.length->g<=B+j->d<=B+j->Um (L+20) (r! L (n+84)) K k fuel e f h (I g) (I d) M q pv iv (I j) H=x0
 |0,j,g,d,h1,h2,_,_=>by omega
 |fuel+1,j,g,d,h1,h2,Q,R=>by
  subst hc;obtain⟨cv,c1,c2⟩:=w.cs D;have P:(AV.v (.int .i64 0))=I ((0:Nat):Int):=rfl;rw[pB];unfold Uo Em HR A3;simp only[BJ];simp only[P,c2];rw[c1.len];by_cases O:j<ws[0].cs.length
  ·rw[FV (by omega),Cr,Dd (by omega),c1.get O];have u:∀{F:K2},Ao (r! L (n+84)) FI [.agg ws[0].cs[j].cells] H F=F (S ws[0].cs[j].id):=λ{F}=>B5q (n:=n+20) s (b _ (PD O));rw[u,B5u (n:=n+82) t C s];by_cases hm:ws[0].cs[j].id∈ss
   ·rw[Hj hm,Cr,Dd (by omega),Dd (by omega)];exact G' s w D rfl b c t C N J fuel (j+1) (g+1) (d+1) (by omega) (by omega) (by omega) (by omega)
   ·rw[HX hm,Bh,Dd (by omega)];exact G' s w D rfl b c t C N J fuel (j+1) (g+1) d (by omega) (by omega) (by omega) (by omega)
  ·rw[FT (by omega),Bh];have:j=ws[0].cs.length:=by omega
   subst this;exact J g d Q R
end
end
section
variable{L n:Nat}
section
variable{H H0 H':Hp}{v a:AV}{l gs A B:ed}{K:KV}{x0:Af}{r m ra ma rb mb:Nat}{z:Int}{x y:AV}{ps:PV}{ws:List Pk}{p:Pk}
def StAt.lat(h:StAt H r m A)(c:StAt H' r m A)(k:Lat H H' (λu=>u=m)):Lat H H' (λ_=>False):=
 ⟨k.wf,k.nx,λw u y b _=>by
  by_cases e:u=m
  ·subst e;rw[h.mm]at b;rw[<-b];exact c.mm
  ·exact k.keep w u y b e⟩
def StAt.two(h:StAt H ra ma A)(b:StAt H rb mb B):ra≠mb:=λe=>by
 have:=h.st;rw[e,b.mm]at this;cases this
def StAt.kpm(h:StAt H ra ma A)(k:Lat H H' (λu=>u=mb))(w:Wf H)(h1:ra≠mb)(h2:ma≠mb):StAt H' ra ma A:=⟨k.keep w _ _ h.st h1,k.keep w _ _ h.mm h2⟩
def PkIn.oks(e:GOk l)(h:PkIn l p):∀c∈p.cs,c.Ok:=λc hc=>by
 obtain⟨d,b,rfl⟩:=h.mem c hc;exact⟨e.ok d b,e.nd d b⟩
def A58(b:p.kd=1\/p.kd=3):∀q∈(Dx B p).2,q.kd=2:=by
 have c:∀{S ex},∀q∈Tf S ex,q.kd=2:=λ{S ex}q hq=>by
  unfold Tf at hq;split at hq
  ·cases hq
  ·rw[Tx]at hq;rw[hq]
 intro q hq;unfold Dx at hq;split at hq
 ·rcases b with b|b
  ·rw[Dl b]at hq;exact c q hq
  ·rw[C5 (by omega),C5 (by omega)]at hq;split at hq
   ·cases hq
   ·exact c q hq
 ·cases hq
def sF(c:p.Right)(b:p.kd=2):Dx A p=(A,ZB A p.ds):=by
 unfold Dx;rw[Dl c,C5 (by omega),Dl b]
def B9x{ds:List AN}:∀q∈ZB A ds,q.kd=3:=λq hq=>by
 unfold ZB at hq;split at hq
 ·cases hq
 ·rw[Tx]at hq;rw[hq]
def A9g{F:KV}(h:200000<L)(b:GOk l)(e:StIn l A)(wf:Wf H)(sa:StAt H r m A)(hv:PksAt H v ws)(g:0<ws.length)(d:PkIn l ws[0])(q:∀f H',StAt H' r m (Dx A ws[0]).1->PksAt H' f (Dx A ws[0]).2->Lat H H' (λu=>u=m)->F f H'=x0):(Ds Ah v (I (0:Nat)) λu=>AD Au u H λw=>(r! L (n+84)).call AI [.ptr r 0 0,w] H F)=x0:=by
 refine hv.ld g λw k=>?_;have hr:=d.right;have c:=(fG b e d).1;have j:=c.len;have i:=b.len;exact Pb (n:=n) h (e.ok b) (d.oks b) wf sa k (Nat.lt_of_le_of_lt hr.1 (by decide)) d.few (Nat.lt_of_le_of_lt hr.2.1 (by decide)) (c.ok b) (by omega) q
theorem A52{k:AV->KV}{T:ed×Bool}(hL:200000<L)(D:GOk l)(hA:StIn l A)(a7:Wf H0)(hm:ma≠mb)(hx:∀(g d:Nat)H',StAt H' ra ma A->StAt H' rb mb T.1->Lat H0 H' (λu=>u=mb)->K (.tup [I g,I d,Bo T.2]) H'=x0)(hk:∀v w H',k v w H'=K (.tup [v,w,Bo false]) H'):
 ∀(fuel i:Nat)(B:ed)(ws:List Pk)(g d:Nat)(H:Hp)(ab ai aj ak:AV),30<fuel+i->i<=30->StIn l B->(∀q∈ws,PkIn l q/\q.kd=2)->StAt H ra ma A->StAt H rb mb B->PksAt H ab ws->g<=i*64->d<=i*64->Wf H->Lat H0 H (λu=>u=mb)->Qh A (30-i) B ws=T->
  Un (L+20) (r! L (n+84)) K k fuel (.ptr ra 0 0) (.ptr rb 0 0) (I (30:Nat)) (I g) (I d) ab (I i) ai aj ak H=x0
 |0,i,B,ws,g,d,H,_,_,_,_,h1,h2,_,_,_,_,_,_,_,_,_,_=>by omega
 |fuel+1,i,B,ws,g,d,H,ab,ai,aj,ak,h1,h2,hB,ax,sa,sb,hv,be,bc,wf,lat,c=>by
  rw[pD];unfold Up A3 Mf;simp only[BJ];have e0:(AV.v (.int .i64 0))=I ((0:Nat):Int):=rfl;simp only[e0];by_cases hi:i<30
  ·rw[FV (by omega),Cr,hv.len,CQ];obtain⟨nn,aq⟩:∃nn,30-i=nn+1:=⟨29-i,by omega⟩
   rw[aq]at c;cases ws with
   |nil=>
    rw[Hj (by rfl),Cr];have c:(B,true)=T:=c;subst c;exact hx g d H sa sb lat
   |cons w t=>
    rw[HX (by simp;omega),Bh];obtain⟨X,ar⟩:=ax w (by simp);refine A9g (n:=n) (ws:=w::t) hL D hA wf sa hv (by simp) X λa4 F C s j=>?_;have er:=sF (A:=A) X.right ar;have C:StAt F ra ma A:=by
     have:(Dx A (w::t)[0]).1=A:=by show(Dx A w).1=A;rw[er]
     rwa[this]at C
    have s:PksAt F a4 (Dx A w).2:=s;have j:=sa.lat C j;have am:=j.wf wf;have f:=sb.kp j wf;have O:=(fG D hA X).2.2;rw[s.len,CQ];have c:(match(Dx A w).2 with|[]=>(B,true)|b::_=>Qh A nn (Dx B b).1 (Dx B b).2)=T:=c;have e:=lat.trans j (R:=λu=>u=mb) (λ_ _ h=>h) (λ_ _ h=>h.elim);have ad:∀q∈(Dx A w).2,q.kd=3:=by rw[er];exact B9x
    generalize (Dx A w).2=bs at s O c ad;cases bs with
    |nil=>
     rw[Hj (by rfl),Cr];have c:(B,true)=T:=c;subst c;exact hx g d F C f e
    |cons b t2=>
     rw[HX (by simp;omega),Bh];have c:Qh A nn (Dx B b).1 (Dx B b).2=T:=c;have J:=O b (by simp);refine A2N (n:=n+1) (hB.ok D) hL f.sv am λa5 an V bj=>?_;have ag:=f.keep V.keep;rw[jS (n:=n+1) (hB.ok D) hL ag.sv];have bf:=(hB.ok D).len;have a8:=(A27 (hB.ok D)).len;have bg:(Xy B).length<=B.length:=by
      unfold Xy;rw[(Bg _).length_eq];refine ZK (l32 _ _) (by rw[Qa];exact Me _)
     obtain⟨bh,ac,ap,ah,az,Y⟩:=A8P (H:=an) (v:=a5) (ss:=(NB B).map Cd.id) (l:=Xy B) (a1:=Xz B) V.sl A8j (by rw[Qa];omega);rw[ap];have N:=Y.wf V.wf;have M:∀u y,Aj F u=some y->Aj ac u=some y:=λu y hu=>Y.keep V.wf u y (V.keep u y hu) λhh=>by have:=V.new u hh;have:=am.lt hu;omega
     have ae:=s.keep M;have af:=C.keep M;have Q:=f.keep M;have aa:Lat H0 ac (λu=>u=mb):=⟨λ_=>N,by have:=e.nx;have:=V.nx;have:=Y.nx;omega,λw u y hu hn=>M u y (e.keep w u y hu hn)⟩
     have a9:=J.right.2.1;refine G' (n:=n) (ws:=b::t2) (pcs:=b.cs) (B:=i*64) (by omega) ae (by simp) rfl (J.oks D) (by omega) (.inr ah.rq) (by rw[EC,Qa];omega) (by omega) (λg' d' bd ba=>?_) (L+20) 0 g d (by omega) (by omega) (by omega) (by omega);refine A9g (n:=n) (ws:=b::t2) hL D hB N Q ae (by simp) J λa6 ao a3 ay Z=>?_;have P:=fG D hB J;rw[Dd (by omega)];refine A52 hL D hA a7 hm hx hk fuel (i+1) (Dx B b).1 (Dx B b).2 g' d' ao a6 _ _ _ (by omega) (by omega) P.1 (λq hq=>⟨P.2.2 q hq,A58 (.inr (ad b (by simp))) q hq⟩) (af.kpm Z N (af.two Q) hm) a3 ay (by omega) (by omega) (Z.wf N) (aa.trans Z (λ_ _ h=>h) (λ_ _ h=>h)) ?_;rw[show 30-(i+1)=nn by omega];exact c
  ·rw[FT (by omega),Bh,hk];have:30-i=0:=by omega
   rw[this]at c;have c:(B,false)=T:=c;subst c;exact hx g d H sa sb lat
def B0D:PkS H (.agg [I 1,DJ (Ej (DU A)),Aw]) (Mk A):=⟨_,_,rfl,.inl (Lt _),.inl ⟨rfl,rfl⟩,λh=>by
 have h:Ej (DU A)=[]:=h;rw[h];rfl⟩
def B6v(i:200000<L)(b:GOk l)(f:StIn l A)(h:StIn l B)(wf:Wf H)(sa:StAt H ra ma A)(sb:StAt H rb mb B)(hm:ma≠mb)(D:∀(g d:Nat)H',StAt H' ra ma A->StAt H' rb mb (Qh A 30 B (Dx B (Mk A)).2).1->Lat H H' (λu=>u=mb)->K (.tup [I g,I d,Bo (Qh A 30 B (Dx B (Mk A)).2).2]) H'=x0):
 (r! L (n+85)).call WJ [.ptr ra 0 0,.ptr rb 0 0,I 30] H K=x0:=by
 rw[tF];unfold We A3 HS;simp only[BJ];rw[F! (n:=n+1) (f.ok b) i sa.sv];obtain⟨e,J⟩:=tY b f;have c:=fG b h e;have C:=c.1.len;have w:=b.len;have t:=(A53 b f h (n:=30) (by decide)).1;refine Pb (n:=n) (q:=Mk A) i (h.ok b) (e.oks b) wf sb B0D (Nat.lt_of_le_of_lt e.right.1 (by decide)) e.few (Nat.lt_of_le_of_lt e.right.2.1 (by decide)) (c.1.ok b) (by omega) λF s k p2 l2=>?_;rw[t]at k;have j:=sb.lat k l2;exact A52 (n:=n) i b f wf hm D (λ_ _ _=>rfl) (L+20) 0 B _ 0 0 s F _ _ _ (by omega) (by omega) h (λq hq=>⟨c.2.2 q hq,A58 (.inl rfl) q hq⟩) (sa.kp j wf) k p2 (by omega) (by omega) (l2.wf wf) l2 rfl
end
end
section
variable{L n:Nat}
section
variable{H H0 H':Hp}{v a:AV}{l gs A B:ed}{K:KV}{x0:Af}{r m ra ma rb mb:Nat}{z:Int}{x y:AV}{ps:PV}{ws:List Pk}{p:Pk}
def A5d(b:GOk gs){i:Nat}:StIn gs (QR z i gs):=⟨λc hc=>yH.mem hc,b.ids.sublist (yH.map _)⟩
def A61(b:GOk A){s:AN}:s∈(NB A).map Cd.id↔Cmp A s:=by rw[((vC b).map _).mem_iff];exact LF
def B54(b:GOk A)(c:GOk B)(h:∀x,Cmp A x->Cmp B x):decide (∀s∈(NB A).map Cd.id,s∈(NB B).map Cd.id)=true:=Hj λs d=>(A61 c).2 (h s ((A61 b).1 d))
end
end
def lX:Ha:=[131,104,90,156,194,33,46,235,120,196,11,153,229,79,30,59,146,4,139,217,16,139,18,15,47,76,188,190,151,16,182,131]
def Ny:Cd:=.co ⟨⟨1,2,1,0,0⟩, -80,0,[(1, -5),(2, -5),(3, -5),(4, -8),(5, -8)]⟩ ⟨1,[3],.no⟩ [lA] none
def A97:cdM 1 0 1 0 0 0 3 3 3 0 0 0 none [lA]=Ny:=by kernel_rfl
def kB:Ny.id=lX:=by kernel_rfl
def VD:Ny.ps=[lA]:=by kernel_rfl
def kC:fC.ps=[]:=rfl
def A39:Ny.Ok:=A97▸A4q (by simp[lA])
def pR:fC.Ok:=A98▸A4q (by simp)
def gX:ed:=[Ny,fC]
def dQ:gX.map Cd.id=[lX,lA]:=by simp[gX,kB,ZX]
def kD:[Ny].map Cd.id=[lX]:=by simp[kB]
def C2R:gE gX=[(lX,Ny),(lA,fC)]:=by simp[gE,gX,kB,ZX]
def Xc:GOk gX:=by
 refine⟨λc hc=>?_,λc hc=>?_,by rw[dQ];decide,by decide⟩
 ·simp only[gX,Tz,List.not_mem_nil,or_false]at hc;rcases hc with rfl|rfl
  ·exact A39
  ·exact pR
 ·simp only[gX,Tz,List.not_mem_nil,or_false]at hc;rcases hc with rfl|rfl
  ·rw[VD];decide
  ·rw[kC];decide
def B5y:StIn gX [Ny]:=⟨λc hc=>by rw[Tx]at hc;rw[hc];simp[gX],by rw[kD];decide⟩
def C0f:Cmp gX fC.id:=.mk (by simp[gX]) (by rw[kC];simp)
def C3f:Cmp gX Ny.id:=.mk (by simp[gX]) (by rw[VD];intro p a;rw[Tx]at a;rw[a,<-ZX];exact C0f)
def B1E:DU gX=gX:=List.filter_eq_self.2 λc hc=>@decide_eq_true _ (_) (by
 simp only[gX,Tz,List.not_mem_nil,or_false]at hc;rcases hc with rfl|rfl
 ·exact C3f
 ·exact C0f)
def B5L:¬Cmp [Ny] Ny.id:=λh=>by
 have h2:=Cmp.par B5y.nd (by simp) h lA (by rw[VD];simp);have:=h2.ids;rw[kD]at this;exact absurd this (by decide)
def C0d:DU [Ny]=[]:=List.filter_eq_nil_iff.2 λc hc=>by
 rw[Tx]at hc;rw[hc,@decide_eq_true_iff _ (_)];exact B5L
def B4y:Ej (DU gX)=[lX]:=by
 rw[B1E,Ej,dQ];have:([lX,lA].filter λx=>decide (∀c∈gX,x∉c.ps))=[lX]:=by
  have h1:decide (∀c∈gX,lX∉c.ps)=true:=Hj λc hc=>by
   simp only[gX,Tz,List.not_mem_nil,or_false]at hc;rcases hc with rfl|rfl
   ·rw[VD];decide
   ·rw[kC];simp
  have h2:decide (∀c∈gX,lA∉c.ps)=false:=HX λh=>by
   have:=h Ny (by simp[gX]);rw[VD]at this;simp at this
  rw[l2n,h1,l2n,h2];rfl
 rw[this];rfl
def B4g:ID [Ny]=[lA]:=by
 unfold ID;rw[kD,show[Ny].flatMap Cd.ps=[lA] by simp[VD]];decide
def B4h:ID gX=[]:=by
 unfold ID;rw[dQ,show gX.flatMap Cd.ps=[lA] by simp[gX,VD,kC]];decide
def C10:Tf [] [lX]=[⟨2,[lX],[]⟩]:=by
 have:ZR [] [lX]=[lX]:=by decide
 unfold Tf;rw[this];rfl
def C0Z:Tf [Ny] []=[⟨2,[lA],[]⟩]:=by
 have:ZR [Ny] []=[lA]:=by unfold ZR;rw[B4g];decide
 unfold Tf;rw[this];rfl
def B5o:Tf gX []=[]:=by
 have:ZR gX []=[]:=by unfold ZR;rw[B4h];decide
 unfold Tf;rw[this];rfl
def C2K:ZB gX [lX]=[⟨3,[],[.c Ny]⟩]:=by
 have:Xb gX [lX]=[Ny]:=by
  unfold Xb;rw[dQ,C2R];rfl
 unfold ZB;rw[this];rfl
def C2J:ZB gX [lA]=[⟨3,[],[.c fC]⟩]:=by
 have:Xb gX [lA]=[fC]:=by
  unfold Xb;rw[dQ,C2R];rfl
 unfold ZB;rw[this];rfl
def C0u:NB [Ny]=[]:=by unfold NB;rw[C0d];rfl
def B2w:Xy [Ny]=[lX]:=by
 have:([Ny].map Cd.id).filter (λx=>@decide (¬Cmp [Ny] x) (Classical.propDecidable _))=[Ny].map Cd.id:=List.filter_eq_self.2 λx a=>@decide_eq_true _ (_) (by
  rw[kD,Tx]at a;rw[a,<-kB];exact B5L)
 unfold Xy;rw[this,kD];rfl
def B2x:Xy gX=[]:=by
 have:(gX.map Cd.id).filter (λx=>@decide (¬Cmp gX x) (Classical.propDecidable _))=[]:=List.filter_eq_nil_iff.2 λx a=>by
  rw[@decide_eq_true_iff _ (_)];rw[dQ]at a;simp only[Tz,List.not_mem_nil,or_false]at a;rcases a with rfl|rfl
  ·rw[<-kB];exact λh=>h C3f
  ·rw[<-ZX];exact λh=>h C0f
 unfold Xy;rw[this];rfl
def B9r:(NB gX).map Cd.id=[lA,lX]:=by
 rw[vD Xc.ids,B1E]
 kernel_rfl
def B47:QR 3 0 gX=gX:=by
 have h:A7z 3 0=true:=by decide
 have h1:A7z 3 1=true:=by decide
 unfold gX;rw[dD,h,Dl rfl,dD,h1,Dl rfl];rfl
def rX(q:Pk)(h1:q.ds.length<=64)(h2:q.cs.length<=64)(a:∀s∈q.ds,s.length=32)(b:(q.cs=[]/\(q.kd=1\/q.kd=2))\/(q.ds=[]/\q.kd=3)):q.Right:=⟨h1,h2,a,b⟩
def C1H:Dx [] ⟨1,[lX],[]⟩=([],[⟨2,[lX],[]⟩]):=by
 unfold Dx;rw[Dl (rX _ (by decide) (by decide) (by decide) (.inl ⟨rfl,.inl rfl⟩)),Dl rfl];exact congrArg _ C10
def A9k:Dx gX ⟨2,[lX],[]⟩=(gX,[⟨3,[],[.c Ny]⟩]):=by
 rw[sF (rX _ (by decide) (by decide) (by decide) (.inl ⟨rfl,.inr rfl⟩)) rfl];exact congrArg _ C2K
def A9j:Dx [] ⟨3,[],[.c Ny]⟩=([Ny],[⟨2,[lA],[]⟩]):=by
 unfold Dx;rw[Dl (rX _ (by decide) (by decide) (by simp) (.inr ⟨rfl,rfl⟩)),C5 (by decide),C5 (by decide)];have:Mt [] [.c Ny]=[Ny]:=by
  show(if Ny.id∈[].map Cd.id then[] else[]++[Ny])=[Ny]
  rw[C5 (by simp)];rfl
 rw[show(⟨3,[],[.c Ny]⟩:Pk).cs=[.c Ny] from rfl,this,C5 (by decide),C0Z]
def A9i:Dx gX ⟨2,[lA],[]⟩=(gX,[⟨3,[],[.c fC]⟩]):=by
 rw[sF (rX _ (by decide) (by decide) (by decide) (.inl ⟨rfl,.inr rfl⟩)) rfl];exact congrArg _ C2J
def A9h:Dx [Ny] ⟨3,[],[.c fC]⟩=(gX,[]):=by
 unfold Dx;rw[Dl (rX _ (by decide) (by decide) (by simp) (.inr ⟨rfl,rfl⟩)),C5 (by decide),C5 (by decide)];have:Mt [Ny] [.c fC]=gX:=by
  show(if fC.id∈[Ny].map Cd.id then[Ny] else[Ny]++[fC])=gX;rw[C5 (by rw[kD,ZX];decide)];rfl
 rw[show(⟨3,[],[.c fC]⟩:Pk).cs=[.c fC] from rfl,this,C5 (by decide),B5o]
def C1G:Dx gX ⟨1,[lX],[]⟩=(gX,[]):=by
 unfold Dx;rw[Dl (rX _ (by decide) (by decide) (by decide) (.inl ⟨rfl,.inl rfl⟩)),Dl rfl];have:([lX].filter λx=>decide (x∉gX.map Cd.id))=[]:=by rw[dQ];decide
 rw[show(⟨1,[lX],[]⟩:Pk).ds=[lX] from rfl,this,B5o]
section
set_option maxHeartbeats 100000000
variable{cv:AV}
variable{L n:Nat}
def RB(R:Rt)(f:Nat)(args:Is)(v:AV):Prop:=∀b,(R.call f args [] λv a=>HQ b a depth v λ_ c=>some (c,[]))=some (v,[])
def R7{R:Rt}{f:Nat}{args args':Is}{v:AV}{H:Hp}{q:Bool}{K:K2}(hc:RB R f args' v)(a:R5 true depth args args' H q):Ao R f args H K=K v:=by
 unfold Ao;rw[a,hc (!q)];rfl
abbrev z6:AV:=.agg [I 0,I 0,I 0,I 0,I 0,I 0]
def m_A(d:40000<L):CT (r! L (n+44)) I7 [z6,z6,Aw,Aw] (.agg fC.cs):=by
 intro K c;have a:Lm 0:=⟨by decide,by decide⟩
 refine sI (n:=n) (y:=none) (l:=[]) d Fl a a a a a a a a a a a a (λb _=>⟨false,C7⟩) trivial (.inl (.inr ⟨rfl,rfl⟩)) (by decide) (by simp) ?_;rw[A98];intro v b sv nv e kp fr;obtain⟨q,hq⟩:=T? (D:=depth-2) sv nv;exact c _ _ ⟨q,L2 (D:=depth-1) hq⟩
def m_X(f:40000<L):CT (r! L (n+44)) I7 [.agg [I 1,I 0,I 1,I 0,I 0,I 0],.agg [I 3,I 3,I 3,I 0,I 0,I 0],Aw,DJ [lA]] (.agg Ny.cs):=by
 intro K e;have a:Lm 0:=⟨by decide,by decide⟩
 have c:Lm 1:=⟨by decide,by decide⟩
 have b:Lm 3:=⟨by decide,by decide⟩
 refine sI (n:=n) (y:=none) (l:=[lA]) f Fl c a c a a a b b b a a a (λd _=>⟨false,C7⟩) trivial (.inl (Lt [lA])) (by decide) (by simp[lA]) ?_;rw[A97];intro v d sv nv g kp fr;obtain⟨q,hq⟩:=T? (D:=depth-2) sv nv;exact e _ _ ⟨q,L2 (D:=depth-1) hq⟩
abbrev l0A:AV:=.list 0 []
def nl(cv:AV):Prop:=cv=Aw\/cv=l0A
def s_h:RB (r! L (n+10)) CX [.agg [I 1,DJ [lX],Aw],.agg [I 1,DJ [lX],Aw]] (Bo true):=by intro b;cases b<;>kernel_rfl
def s_1(h:nl cv):RB (r! L (n+10)) CX [.agg [I 2,DJ [lX],cv],.agg [I 2,DJ [lX],Aw]] (Bo true):=by
 intro b;rcases h with rfl|rfl<;>cases b<;>kernel_rfl
def s_3(h:nl cv):RB (r! L (n+10)) CX [.agg [I 2,DJ [lA],cv],.agg [I 2,DJ [lA],Aw]] (Bo true):=by
 intro b;rcases h with rfl|rfl<;>cases b<;>kernel_rfl
def s_n(h:nl cv):RB (r! L (n+10)) CX [.agg [I 1,DJ [lX],Aw],.agg [I 2,DJ [lX],cv]] (Bo false):=by
 intro b;rcases h with rfl|rfl<;>cases b<;>kernel_rfl
def s_2{a:AV}(h:nl a):RB (r! L (n+64)) CX [.agg [I 3,a,.list 1 Ny.cs],.agg [I 3,Aw,.list 1 Ny.cs]] (Bo true):=by
 intro b;rcases h with rfl|rfl<;>cases b<;>kernel_rfl
def C49:RB (r! L (n+10)) Gz [DJ [lX],DJ [lX]] (Bo true):=by intro b;cases b<;>kernel_rfl
def C48:RB (r! L (n+10)) Gz [DJ [lA,lX],DJ [lA,lX]] (Bo true):=by intro b;cases b<;>kernel_rfl
end
section
set_option maxHeartbeats 100000000
variable{cv dv:AV}
variable{L n:Nat}
section
variable{H H0 H':Hp}{v:AV}{A Y:ed}{K:KV}{x0:Af}{r m b nr pq r1 m1 m2:Nat}{ws:List Pk}
structure Sn(b nr pq r1 m1 m2:Nat)(H:Hp):Prop where
 wf:Wf H
 cb:Aj H b=some (c_ Ad Ny.cs)
 nm:∃q,Aj H nr=some (.cells q Av [S lA,S lX])
 pk:Aj H pq=some (c_ Aq [I 1,DJ [lX],Aw])
 sx:StAt H r1 m1 gX
 ne:b≠m2/\nr≠m2/\pq≠m2/\r1≠m2/\m1≠m2
def Sn.kp(h:Sn b nr pq r1 m1 m2 H)(k:Lat H H' (λu=>u=m2)):Sn b nr pq r1 m1 m2 H':=by
 obtain⟨w,h1,⟨q,h2⟩,i,g,a,c,d,e,f⟩:=h;exact⟨k.wf w,k.keep w _ _ h1 a,⟨q,k.keep w _ _ h2 c⟩,k.keep w _ _ i d,⟨k.keep w _ _ g.st e,k.keep w _ _ g.mm f⟩,a,c,d,e,f⟩
def Lat.no(k:Lat H H' (λ_=>False)):Lat H H' (λu=>u=m2):=⟨k.wf,k.nx,λw u y a _=>k.keep w u y a id⟩
theorem PksAt.ptr(h:PksAt H v ws){i:Nat}(a:i<ws.length):∃p w,(∀F:K2,Ds Ah v (I i) F=F p)/\PkS H w ws[i]/\∀H',(∀u y,A8 v u->Aj H u=some y->Aj H' u=some y)->∀F:K2,AD Au p H' F=F w:=by
 obtain⟨ps,rfl,h2,s⟩:=h.at_;rw[Qa]at a;have d:=h2 _ (PD a);have j:PkS H (.agg (UB ps[i])) (ps.map Prod.fst)[i]:=⟨ps[i].2.1,ps[i].2.2,by rw[l2o];rfl,by rw[l2o];exact d.ds,by rw[l2o];exact d.cs,by rw[l2o];exact d.nl⟩
 rcases s with⟨rfl,rfl⟩|rfl|⟨r,q,t,rfl,g⟩
 ·simp at a
 ·exact⟨.iptr (UB ps[i]),_,λF=>XA8 (f:=UB) rfl (λ_=>rfl) a,j,λH' _ F=>r_ rfl⟩
 ·refine⟨.ptr r (i*3) 0,_,λF=>B1o a,j,λH' k F=>?_⟩;have h:=k r _ ⟨_,_,_,rfl⟩ g;have e:AD Au (.ptr r (i*3) 0) H' F=I6 H' r λx=>J6 x λ_ cs=>Ek 3 (Dg (Nat.add (i*3) 0) cs) λc=>F (.agg c):=r_ rfl;rw[e,AX h];show Ek 3 (Dg (i*3+0) (ps.flatMap UB++t)) (λc=>F (.agg c))=_;rw[Nat.add_zero,Cy,I? a];exact r_ rfl
theorem PkS.fx{q:Pk}(h:PkS H v q):∃dv cv f,SA q.ds dv/\YN [] cv q.cs/\Fx true depth v (.agg [I q.kd,dv,cv]) H f:=by
 obtain⟨dv,cv,rfl,h1,h2,_⟩:=h.at_;obtain⟨d,q1,g,f1⟩:∃a e,SA q.ds a/\Fx true 11 dv a H e:=by
  rcases h1 with h|h
  ·refine⟨dv,false,h,?_⟩;rcases h with rfl|⟨_,rfl⟩<;>exact λK=>rfl
  ·exact h.fx (D:=10)
 obtain⟨c,q2,i,f2⟩:=h2.fx (D:=10);exact⟨d,c,_,g,i,L2 (D:=11) (An (q:=false) C7 (An f1 (An f2 AK)))⟩
def C0k(h:YN [] cv []):nl cv:=by
 rcases h with⟨rfl,_⟩|rfl|⟨_,_,_,_,h⟩
 ·exact .inl rfl
 ·exact .inr rfl
 ·simp[Aj]at h
def C3i{d:Cd}(h:YN [] cv [.c d]):cv=.list 1 d.cs:=by
 rcases h with⟨_,h⟩|rfl|⟨_,_,_,_,h⟩
 ·cases h
 ·show AV.list 1 (d.cs++[])=_;rw[UC]
 ·simp[Aj]at h
def C1y(h:SA [] dv):nl dv:=by
 rcases h with rfl|⟨_,rfl⟩
 ·exact .inr rfl
 ·exact .inl rfl
def C1z{a:AN}{l:List AN}(h:SA (a::l) dv):dv=DJ (a::l):=by
 rcases h with rfl|⟨h,_⟩
 ·rfl
 ·cases h
end
end
section
set_option maxHeartbeats 100000000
variable{L n:Nat}
def A9a(J:200000<L):CS (r! L (n+85)) Rm [] (Bo true):=by
 intro K hK;have x:40000<L:=by omega
 have c1:∀{H K},Ao (r! L (n+84)) I7 [z6,z6,(.v (.slice none 0 0)),(.v (.slice none 0 0))] H K=K (.agg fC.cs):=λ{H K}=>K1 (m_A (n:=n+40) x) (An (q:=false) (λK=>by kernel_rfl) (An (q:=false) (λK=>by kernel_rfl) (An (q:=false) C7 (An (q:=false) C7 AK))));have c2:∀{H K},Ao (r! L (n+84)) I7 [.agg [I 1,I 0,I 1,I 0,I 0,I 0],.agg [I 3,I 3,I 3,I 0,I 0,I 0],(.v (.slice none 0 0)),DJ [lA]] H K=K (.agg Ny.cs):=λ{H K}=>K1 (m_X (n:=n+40) x) (An (q:=false) (λK=>by kernel_rfl) (An (q:=false) (λK=>by kernel_rfl) (An (q:=false) C7 (An ((Lt _).fx H) AK))));have cu:∀{H K},Ao (r! L (n+84)) GW [.agg fC.cs] H K=K (S lA):=λ{H K}=>by
  rw[<-ZX];exact AR (A4o (n:=n+20) x pR (show([]:List Ha).Nodup by decide)) (uX H)
 have b0:∀{K:K2},Ca B7 [] K=K z6:=λ{K}=>r_ rfl;have b1:∀{K:K2},Ca B7 [(0,1,(AV.v (.int .i64 1))),(1,1,(AV.v (.int .i64 0))),(2,1,(AV.v (.int .i64 1))),(3,1,(AV.v (.int .i64 0))),(4,1,(AV.v (.int .i64 0))),(5,1,(AV.v (.int .i64 0)))] K=K (.agg [I 1,I 0,I 1,I 0,I 0,I 0]):=λ{K}=>r_ rfl;have b3:∀{K:K2},Ca B7 [(0,1,(AV.v (.int .i64 3))),(1,1,(AV.v (.int .i64 3))),(2,1,(AV.v (.int .i64 3))),(3,1,(AV.v (.int .i64 0))),(4,1,(AV.v (.int .i64 0))),(5,1,(AV.v (.int .i64 0)))] K=K (.agg [I 3,I 3,I 3,I 0,I 0,I 0]):=λ{K}=>r_ rfl;have ce:∀{a:Ha}{K:K2},YE 1 Ak 1 [(0,1,S a)] K=K (DJ [a]):=λ{a K}=>by kernel_rfl
 have cf:∀{K:K2},YE 68 Ae 2 [(0,68,.agg Ny.cs),(68,68,.agg fC.cs)] K=K (.list 2 (gX.flatMap Cd.cs)):=λ{K}=>by kernel_rfl
 have cg:∀{K:K2},YE 68 Ae 2 [(0,68,.agg fC.cs),(68,68,.agg Ny.cs)] K=K (.list 2 ([PC.c fC,PC.c Ny].flatMap PC.cells)):=λ{K}=>by kernel_rfl
 have ci:∀{K:K2},YE 68 Ae 1 [(0,68,.agg Ny.cs)] K=K (.list 1 Ny.cs):=λ{K}=>by kernel_rfl
 rw[tG];unfold Wg dP Dk Hl A3 Mf HS;obtain⟨H1,e1,ad,w1, -⟩:=Il (e:=Ad) (zs:=CJ) (vs:=fC.cs) Fl ED;rw[b0,b0,c1,B3 (cs:=CJ) rfl,Ch (cs:=CJ) (vs:=fC.cs) (Az (by simp)) ED rfl Mq,<-e1];generalize As []=a at ad;rw[b1,b3,Bv rfl ED.symm ad,cu,ce,c2];obtain⟨H2,e2,V,w2,k2⟩:=Il (e:=Ad) (zs:=CJ) (vs:=Ny.cs) w1 ED;rw[B3 (cs:=CJ) rfl,Ch (cs:=CJ) (vs:=Ny.cs) (Az (by simp)) ED rfl Mq,<-e2];have az:=(k2 _ _ ad).1;generalize As H1=b at V;clear e1 e2 k2 ad w1;rw[Bv rfl ED.symm V,Bv rfl ED.symm az,cf];refine rF (n:=n+17) x Xc (z:=3) ⟨by decide,by decide⟩ (.inl rfl) w2 λr1 m1 g s3 d8 l3=>?_;rw[B47]at s3;rw[F3,PT,B5s (n:=n+83)];have w3:=l3.wf w2;obtain⟨t4,w4,k4⟩:=B0c w3;have n4:As ((As g+1,c_ Dz [.mp (As g)])::(As g,.map false [] none)::g)=As g+2:=rfl;have ax:∀u y,Aj H2 u=some y->Aj ((As g+1,c_ Dz [.mp (As g)])::(As g,.map false [] none)::g) u=some y:=λu y M=>k4 u y (l3.keep w2 u y M id);have a3:=ax _ _ az;have X:=ax _ _ V;have s4:=s3.keep k4;have lb:=w2.lt V;have lr:=w3.lt s3.st;have lm:=w3.lt s3.mm;have dd:=l3.nx;generalize ((As g+1,c_ Dz [.mp (As g)])::(As g,.map false [] none)::g:Hp)=H4 at t4 w4 n4 a3 X s4;have c0:As g+1≠As g:=by omega
 generalize d9:As g=m2 at t4 n4 lr lm dd c0;generalize m2+1=r2 at t4;have pC:∀{K},AD Ac (.ptr b 31 0) H4 K=K (DJ [lA]):=λ{K}=>AQ (p:=31) rfl X (show 31<68 by decide);have de:∀{a:Ha}{K:K2},Bm Ac (DJ [a]) K=K (.v (.int .i64 1)):=λ{a K}=>r_ rfl;have R:∀{K:K2},Ap Ab .neq (.v (.int .i64 1)) (.v (.int .i64 1)) K=K (Bo false):=λ{K}=>by kernel_rfl
 have un:∀{q:Bool}{K:K2},Mv .not (Bo q) K=K (Bo (!q)):=λ{q K}=>Et;have dr:∀{F:K2},Rs BF CU .eql (.ptr r1 0 0) (.v (.pointer none)) F=F (Bo false):=λ{F}=>s4.sv.nn;have dt:∀{F:K2},Rs BF CU .eql (.ptr r2 0 0) (.v (.pointer none)) F=F (Bo false):=λ{F}=>t4.sv.nn;simp only[un,Bool.not_true,dr,dt,dV,pC,de,R,gT,xG,ZC,Cb,Tt,Sf];rw[Bh,Bv rfl ED.symm a3,Bv rfl ED.symm X,cg];refine C1a (n:=n+19) (l:=[PC.c fC,PC.c Ny]) (λp hp=>?_) (by decide) x (.inr (.inl rfl)) w4 λd3 H5 j d5=>?_
 ·simp only[Tz,List.not_mem_nil,or_false]at hp;rcases hp with rfl|rfl
  ·exact⟨pR,by rw[kC];decide⟩
  ·exact⟨A39,by rw[VD];decide⟩
 have cy:[PC.c fC,PC.c Ny].map PC.id=[lA,lX]:=by
  show[fC.id,Ny.id]=_;rw[ZX,kB]
 rw[cy]at j;have w5:=j.wf;have af:=j.new;have du:=j.nx;have k5:=j.keep;rcases j.sl with⟨_,h,_⟩|⟨nr,q5,N,bd,_⟩
 ·cases h
 have N:d3=.sl 1 nr 0 2:=N;subst N;have d6:As H4<=nr:=af nr ⟨_,_,_,rfl⟩;rw[F! (n:=n+1) Xc J (s4.keep k5).sv,B4y];obtain⟨H6,e6,a4,w6,k6⟩:=Il (e:=Aq) (zs:=[I 0,Aw,Aw]) (vs:=[I 1,DJ [lX],Aw]) w5 rfl;rw[B3 (cs:=[I 0,Aw,Aw]) rfl,Ch (cs:=[I 0,Aw,Aw]) (vs:=[I 1,DJ [lX],Aw]) (Az (by simp)) rfl rfl rfl,<-e6];have Q:∀u y,Aj H5 u=some y->Aj H6 u=some y:=λu y M=>(k6 u y M).1;have ea:As H5≠m2:=by omega
 have ae:Sn b nr (As H5) r1 m1 m2 H6:=⟨w6,Q _ _ (k5 _ _ X),⟨q5,Q _ _ bd⟩,a4,(s4.keep k5).keep Q,by omega,by omega,by omega,by omega,by omega⟩
 have t6:=(t4.keep k5).keep Q;generalize As H5=pq at ae a4;clear e6 k6 Q w6 a4 bd w5 af du k5 s4 t4 a3 X w4 n4 ax k4 w3 s3 l3 az V w2 j d5;have hh:∀{H:Hp},PkS H (.agg [I 1,DJ [lX],Aw]) ⟨1,[lX],[]⟩:=λ{H}=>⟨_,_,rfl,.inl (Lt _),.inl ⟨rfl,rfl⟩,λh=>by cases h⟩
 have gN:GOk []:=⟨by simp,by simp,List.nodup_nil,by decide⟩
 have gS:=B5y.ok Xc;have rh:Pk.Right ⟨1,[lX],[]⟩:=rX _ (by decide) (by decide) (by decide) (.inl ⟨rfl,.inl rfl⟩);rw[Bv rfl rfl ae.pk];refine A4W (PP:=λa=>a=_) (n:=n) (A:=[]) (q:=⟨1,[lX],[]⟩) J gN rh rfl ae.wf t6 hh (by decide) λH7 t7 l7=>?_;rw[C1H];show(_:Af)=_;have d:=ae.kp l7;have f1:∀{H:Hp},Fx true depth (.agg [I 1,DJ [lX],Aw]) (.agg [I 1,DJ [lX],Aw]) H false:=λ{H}K=>by kernel_rfl
 have f2:∀{H:Hp},Fx true depth (.agg [I 2,DJ [lX],Aw]) (.agg [I 2,DJ [lX],Aw]) H false:=λ{H}K=>by kernel_rfl
 have fS:∀{H:Hp}{D:Nat},(∃q,Aj H nr=some (.cells q Av [S lA,S lX]))->Fx true (D+1) (.sl 1 nr 1 1) (DJ [lX]) H true:=λ{H D} ⟨q,h⟩=>Wx (q':=false) h (by decide) (Vj [lX]);have fT:∀{H:Hp}{D:Nat},(∃q,Aj H nr=some (.cells q Av [S lA,S lX]))->Fx true (D+1) (.sl 1 nr 0 1) (DJ [lA]) H true:=λ{H D} ⟨q,h⟩=>Wx (q':=false) h (by decide) (Vj [lA]);have fU:∀{H:Hp}{D:Nat},(∃q,Aj H nr=some (.cells q Av [S lA,S lX]))->Fx true (D+1) (.sl 1 nr 0 2) (DJ [lA,lX]) H true:=λ{H D} ⟨q,h⟩=>Wx (q':=false) h (by decide) (Vj [lA,lX]);have fP:∀{H:Hp}{z:Int}{v w:AV},Fx true 11 v w H true->Fx true depth (.agg [I z,v,Aw]) (.agg [I z,w,Aw]) H true:=λ{H z v w}h=>L2 (D:=11) (An (q:=false) C7 (An (q:=true) (q':=false) h (An (q:=false) C7 AK)));have bp:∀{K:K2},C8 Ac (.sl 1 nr 0 2) (some (.v (.int .i64 1))) none none K=K (.sl 1 nr 1 1):=λ{K}=>Zg (i:=1) (m:=2) (by decide);have dx:∀{K:K2},C8 Ac (.sl 1 nr 0 2) none (some (.v (.int .i64 1))) none K=K (.sl 1 nr 0 1):=λ{K}=>Zh (i:=1) (m:=2) (by decide);have cj:∀{K:K2},Ca Au [(0,1,(AV.v (.int .i64 1))),(1,1,.sl 1 nr 1 1)] K=K (.agg [I 1,.sl 1 nr 1 1,Aw]):=λ{K}=>by kernel_rfl
 have cm:∀{K:K2},Ca Au [(0,1,(AV.v (.int .i64 2))),(1,1,.sl 1 nr 1 1)] K=K (.agg [I 2,.sl 1 nr 1 1,Aw]):=λ{K}=>by kernel_rfl
 have cp:∀{K:K2},Ca Au [(0,1,(AV.v (.int .i64 2))),(1,1,.sl 1 nr 0 1)] K=K (.agg [I 2,.sl 1 nr 0 1,Aw]):=λ{K}=>by kernel_rfl
 have cq:∀{K:K2},Ca Au [(0,1,(AV.v (.int .i64 3))),(2,1,.list 1 Ny.cs)] K=K (.agg [I 3,Aw,.list 1 Ny.cs]):=λ{K}=>by kernel_rfl
 have d7:∀{K:K2},AD Au (.ptr pq 0 0) H7 K=K (.agg [I 1,DJ [lX],Aw]):=λ{K}=>Bv rfl rfl d.pk;have a7:∀{K:K2},Ao (r! L (n+84)) CX [.agg [I 1,DJ [lX],Aw],.agg [I 1,.sl 1 nr 1 1,Aw]] H7 K=K (Bo true):=λ{K}=>R7 (s_h (n:=n+74)) (An f1 (An (fP (fS d.nm)) AK));have c7:∀{K:K2},Ao (r! L (n+84)) CX [.agg [I 2,DJ [lX],Aw],.agg [I 2,.sl 1 nr 1 1,Aw]] H7 K=K (Bo true):=λ{K}=>R7 (s_1 (n:=n+74) (.inl rfl)) (An f2 (An (fP (fS d.nm)) AK));have dm:∀{K:K2},Bm Ah (wI [⟨2,[lX],[]⟩]) K=K (.v (.int .i64 1)):=λ{K}=>r_ rfl;have be:∀{K:K2},Ds Ah (wI [⟨2,[lX],[]⟩]) (.v (.int .i64 0)) K=K (.iptr [I 2,DJ [lX],Aw]):=λ{K}=>by kernel_rfl
 have bg:∀{H:Hp}{K:K2},AD Au (.iptr [I 2,DJ [lX],Aw]) H K=K (.agg [I 2,DJ [lX],Aw]):=λ{H K}=>r_ rfl;simp only[B4,d7,bp,cj,a7,un,Bool.not_true,gT,xG,ZC,Cb,dm,R,Tt,Sf,be,bg,cm,c7];rw[Bh];have h2:PkS H7 (.agg [I 2,DJ [lX],Aw]) ⟨2,[lX],[]⟩:=⟨_,_,rfl,.inl (Lt _),.inl ⟨rfl,rfl⟩,λh=>by cases h⟩
 refine Pb (n:=n) (A:=gX) (q:=⟨2,[lX],[]⟩) J Xc (by simp) d.wf d.sx h2 (by decide) (λh=>by cases h) (by decide) (by rw[A9k];exact Xc) (by rw[A9k];decide) λbx H8 s8 p8 l8=>?_;rw[A9k]at s8 p8;have l8:=d.sx.lat s8 l8;have a5:=d.kp l8.no;have t8:=t7.kp l8 d.wf;obtain⟨bm,w8,ao,aa,aq⟩:=p8.ptr (i:=0) (by decide);have ao:∀F:K2,Ds Ah bx (.v (.int .i64 0)) F=F bm:=ao;have aa:PkS H8 w8 ⟨3,[],[.c Ny]⟩:=aa;have aq:∀F:K2,AD Au bm H8 F=F w8:=aq H8 λu y _ M=>M;have df:∀F:K2,Bm Ah bx F=F (.v (.int .i64 1)):=λF=>p8.len;have b8:∀{K:K2},AD Ae (.ptr b 0 0) H8 K=K (.agg Ny.cs):=λ{K}=>Bv rfl ED.symm a5.cb;have a8:∀{K:K2},Ao (r! L (n+84)) CX [w8,.agg [I 3,Aw,.list 1 Ny.cs]] H8 K=K (Bo true):=λ{K}=>by
  obtain⟨dv,cv,qq,sd,sc,fw⟩:=aa.fx;rw[C3i sc]at fw;exact R7 (s_2 (n:=n+20) (C1y sd)) (An fw (An (q:=false) (L2 (D:=11) (An (q:=false) C7 (An (q:=false) C7 (An (q:=false) On AK)))) AK))
 simp only[df,R,B4,gT,xG,ZC,Cb,Tt,Sf,ao,aq,b8,ci,cq,a8,un,Bool.not_true];rw[Bh];refine Pb (n:=n) (A:=[]) (q:=⟨3,[],[.c Ny]⟩) J gN (λp hp=>by
  rw[Tx]at hp;rw[hp];exact⟨A39,by rw[VD];decide⟩) a5.wf t8 aa (by decide) (λh=>by cases h) (by decide) (by rw[A9j];exact gS) (by rw[A9j];decide) λaj H9 t9 p9 l9=>?_
 rw[A9j]at t9 p9;have k:=a5.kp l9;obtain⟨bn,w9,ap,ab,ar⟩:=p9.ptr (i:=0) (by decide);have ap:∀F:K2,Ds Ah aj (.v (.int .i64 0)) F=F bn:=ap;have ab:PkS H9 w9 ⟨2,[lA],[]⟩:=ab;have ar:∀F:K2,AD Au bn H9 F=F w9:=ar H9 λu y _ M=>M;have dh:∀F:K2,Bm Ah aj F=F (.v (.int .i64 1)):=λF=>p9.len;have cc:∀{K:K2},J4 (r! L (n+84)) CH [.ptr r2 0 0] H9 K=K Aw:=λ{K}=>by rw[A8S (n:=n+2) gS J t9.sv,C0u];rfl
 have d4:∀{K:K2},Ao (r! L (n+84)) CO [.ptr r2 0 0] H9 K=K (DJ [lX]):=λ{K}=>by
  rw[jS (n:=n+1) gS J t9.sv];unfold Xz;rw[C5 (by simp),B2w];rfl
 have dn:∀{K:K2},Bm Ay Aw K=K (.v (.int .i64 0)):=λ{K}=>r_ rfl;have Z:∀{K:K2},Ap Ab .eql (.v (.int .i64 0)) (.v (.int .i64 0)) K=K (Bo true):=λ{K}=>by kernel_rfl
 have dy:∀{K:K2},Ao (r! L (n+84)) Gz [DJ [lX],.sl 1 nr 1 1] H9 K=K (Bo true):=λ{K}=>R7 (C49 (n:=n+74)) (An ((Lt _).fx H9) (An (fS (D:=11) k.nm) AK));have a9:∀{K:K2},Ao (r! L (n+84)) CX [w9,.agg [I 2,.sl 1 nr 0 1,Aw]] H9 K=K (Bo true):=λ{K}=>by
  obtain⟨dv,cv,qq,sd,sc,fw⟩:=ab.fx;rw[C1z sd]at fw;exact R7 (s_3 (n:=n+74) (C0k sc)) (An fw (An (fP (fT k.nm)) AK))
 simp only[cc,dn,Z,d4,bp,dy,dh,R,B4,gT,xG,ZC,Cb,Tt,Sf,ap,ar,dx,cp,a9,un,Bool.not_true];rw[Bh];refine Pb (n:=n) (A:=gX) (q:=⟨2,[lA],[]⟩) J Xc (by simp) k.wf k.sx ab (by decide) (λh=>by cases h) (by decide) (by rw[A9i];exact Xc) (by rw[A9i];decide) λak am bo ay ac=>?_;rw[A9i]at bo ay;have ac:=k.sx.lat bo ac;have ah:=k.kp ac.no;have dz:=t9.kp ac k.wf;obtain⟨ag,b5,B,O,C⟩:=ay.ptr (i:=0) (by decide);have B:∀F:K2,Ds Ah ak (.v (.int .i64 0)) F=F ag:=B;have O:PkS am b5 ⟨3,[],[.c fC]⟩:=O;have C:∀F:K2,AD Au ag am F=F b5:=C am λu y _ M=>M;have bh:∀F:K2,Bm Ah ak F=F (.v (.int .i64 1)):=λF=>ay.len;rw[bh,R,Bh,B,C];refine Pb (n:=n) (A:=[Ny]) (q:=⟨3,[],[.c fC]⟩) J gS (λp hp=>by
  rw[Tx]at hp;rw[hp];exact⟨pR,by rw[kC];decide⟩) ah.wf dz O (by decide) (λh=>by cases h) (by decide) (by rw[A9h];exact Xc) (by rw[A9h];decide) λbu an a6 bk da=>?_
 rw[A9h]at a6 bk;have Y:=ah.kp da;have bj:∀F:K2,Bm Ah bu F=F (.v (.int .i64 0)):=λF=>bk.len;have ids:∀{F:KV},(∀v f,NewSl an [lA,lX] v f->F v f=some (Bo true,[]))->D5 ((r! L (n+84)).call Kb [.ptr r2 0 0] an λv H=>some (v,H)) F=some (Bo true,[]):=λ{F}hF=>
  A8C (n:=n+1) (K:=λv H=>some (v,H)) (PP:=λa=>D5 a F=some (Bo true,[])) Xc J a6.sv Y.wf λv f j _=>by
   rw[B9r]at j;exact hF v f j
 simp only[bj,Z,B4,gT,xG,ZC,Cb,Tt,Sf];refine ids λbv t j=>?_;have bf:Lat an t (λ_=>False):=⟨λ_=>j.wf,j.nx,λ_ u y M _=>j.keep u y M⟩
 have r:=Y.kp bf.no;have bt:=a6.kp bf Y.wf;have bs:∀{K:K2},Ao (r! L (n+84)) Gz [bv,.sl 1 nr 0 2] t K=K (Bo true):=λ{K}=>by
  obtain⟨a,q,ha,hf⟩:=Nn.fx (j.sat λh=>by cases h) (D:=11);rw[C1z ha]at hf;exact R7 (C48 (n:=n+74)) (An hf (An (fU (D:=11) r.nm) AK))
 have b7:∀{K:K2},Ao (r! L (n+84)) CO [.ptr r2 0 0] t K=K (.list 0 []):=λ{K}=>by
  rw[jS (n:=n+1) Xc J bt.sv];unfold Xz;rw[C5 (by simp[gX]),B2x];rfl
 have dq:∀{K:K2},Bm Ac (.list 0 []) K=K (.v (.int .i64 0)):=λ{K}=>r_ rfl;have cw:∀{K:K2},AD Au (.ptr pq 0 0) t K=K (.agg [I 1,DJ [lX],Aw]):=λ{K}=>Bv rfl rfl r.pk;have dw:∀{F:KV},(∀f,StAt f r2 m2 gX->Lat t f (λu=>u=m2)->F Aw f=some (Bo true,[]))->D5 ((r! L (n+84)).call AI [.ptr r2 0 0,.agg [I 1,DJ [lX],Aw]] t λv H=>some (v,H)) F=some (Bo true,[]):=λ{F}hF=>
  A4W (n:=n) (A:=gX) (q:=⟨1,[lX],[]⟩) (K:=λv H=>some (v,H)) (PP:=λa=>D5 a F=some (Bo true,[])) J Xc rh rfl r.wf bt hh (by decide) λf s l=>by
   rw[C1G];exact hF f s l
 simp only[bs,b7,dq,Z,cw,B4,gT,xG,ZC,Cb,Tt,Sf];refine dw λba d0 db=>?_;have ai:=r.kp db;have dp:∀{K:K2},Bm Ah Aw K=K (.v (.int .i64 0)):=λ{K}=>r_ rfl;have bz:∀{K:K2},Ca Ae [] K=K (.agg CJ):=λ{K}=>by kernel_rfl
 have put:∀{F:KV},(∀f,StAt f r2 m2 gX->Lat ba f (λu=>u=m2)->F (I 280) f=some (Bo true,[]))->D5 ((r! L (n+84)).call EY [.ptr r2 0 0,.agg CJ] ba λv H=>some (v,H)) F=some (Bo true,[]):=λ{F}hF=>
  A8x (n:=n+18) (p:=.z) (A:=gX) (K:=λv H=>some (v,H)) (P:=λa=>D5 a F=some (Bo true,[])) x trivial ai.wf d0 (by decide) λf s l=>hF f s l
 simp only[dp,Z,bz,B4,gT,xG,ZC,Cb,Tt,Sf];refine put λbc eb dc=>?_;have bq:=ai.kp dc;have cz:∀{K:K2},Ap Ab .eql (I 280) (.v (.int .i64 280)) K=K (Bo true):=λ{K}=>by kernel_rfl
 have cx:∀{K:K2},AD Au (.ptr pq 0 0) bc K=K (.agg [I 1,DJ [lX],Aw]):=λ{K}=>Bv rfl rfl bq.pk;have b9:∀{K:K2},Ao (r! L (n+84)) CX [.agg [I 1,DJ [lX],Aw],.agg [I 2,DJ [lX],Aw]] bc K=K (Bo false):=λ{K}=>R7 (s_n (n:=n+74) (.inl rfl)) (An f1 (An f2 AK));simp only[cz,cx,be,bg,b9,un,Bool.not_false,B4,gT,xG,ZC,Cb,Tt,Sf];exact hK _ _ λb=>⟨false,C7⟩
end
section
variable{L n:Nat}
def Kc(H H':Hp):Prop:=∀u q e cs,e≠Aq->Aj H u=some (.cells q e cs)->Aj H' u=some (.cells q e cs)
section
variable{H H0 H' H'':Hp}{v x:AV}{A Y:ed}{K:KV}{x0:Af}{r m:Nat}{ws us:List Pk}{ps ss:PV}
theorem Kc.map{b:IH}{q:Bool}{o}(k:Lat H H' (λu=>u=m))(w:Wf H)(h:Aj H m=some (.map q b o)):Kc H H':=λu q e cs _ a=>k.keep w u _ a λc=>by
 rw[c,h]at a;cases a
def eC.kc{l:List AN}(h:eC H v l)(k:Kc H H'):eC H' v l:=by
 rcases h with h|h
 ·exact .inl h
 ·rcases h with h|⟨r,q,a,rfl,h⟩
  ·exact .inr (.inl h)
  ·exact .inr (.inr ⟨r,q,a,rfl,k r q _ _ (by decide) h⟩)
def YN.kc{l:List PC}(h:YN H v l)(k:Kc H H'):YN H' v l:=by
 rcases h with h|h|⟨r,q,a,rfl,h⟩
 ·exact .inl h
 ·exact .inr (.inl h)
 ·exact .inr (.inr ⟨r,q,a,rfl,k r q _ _ (by decide) h⟩)
theorem PvOk.kc{p:Pk×AV×AV}(h:PvOk H p)(k:Kc H H'):PvOk H' p:=⟨h.ds.kc k,h.cs.kc k,h.nl⟩
structure Pls(H:Hp)(v:AV)(ps:PV):Prop where
 ok:∀p∈ps,PvOk H p
 at_:(v=Aw/\ps=[])\/∃r q tl,v=.sl 3 r 0 ps.length/\Aj H r=some (.cells q Aq (ps.flatMap UB++tl))
def Pls.pks(h:Pls H v ps):PksAt H v (ps.map Prod.fst):=⟨ps,rfl,h.ok,h.at_.imp id .inr⟩
def Pls.kp(h:Pls H v ps)(k:Kc H H')(c:∀u y,A8 v u->Aj H u=some y->Aj H' u=some y):Pls H' v ps:=
 ⟨λp b=>(h.ok p b).kc k,h.at_.imp id λ⟨r,q,d,hv,a⟩=>⟨r,q,d,hv,c r _ (hv▸⟨_,_,_,rfl⟩) a⟩⟩
def B8T(ps:PV)(h:∀p∈ps,PvOk H p):(ps.flatMap UB).all AV.one=true:=by
 rw[GE];intro y a;obtain⟨p,b,a⟩:=l3b.1 a;have h:=h p b;simp only[UB,Tz,List.not_mem_nil,or_false]at a;rcases a with rfl|rfl|rfl
 ·rfl
 ·exact h.ds.one.2
 ·exact h.cs.one.2
def B6L(wf:Wf H)(h:Pls H v ps)(Q:∀p∈ss,PvOk H p)(hx:(x=Aw/\ss=[])\/x=.list ss.length (ss.flatMap UB)\/∃r o q cs,x=.sl 3 r o ss.length/\Aj H r=some (.cells q Aq cs)/\(cs.drop o).take (ss.length*3)=ss.flatMap UB/\o+ss.length*3<=cs.length)(hn:ps.length+ss.length<100000):
 ∃s H',(∀K:KV,KD Aq 3 Au Ah v x H K=K s H')/\Pls H' s (ps++ss)/\(∀u,A8 s u->u=As H)/\Lat H H' (A8 v)/\Kc H H':=by
 obtain⟨src,k,D,he⟩:∃src,(∀H(F:Nat->Is->Af),SS H src F=F ss.length (ss.flatMap UB))/\(XG Ah.d&&RH 3 src)=true/\∀K:KV,KD Aq 3 Au Ah v x H K=eX v H λa=>Qw Aq 3 Au Ah v src a K:=by
  rcases hx with⟨rfl,rfl⟩|rfl|⟨r,o,q,cs,rfl,g,hc,hb⟩
  ·exact⟨Aw,λH F=>rfl,rfl,λK=>rfl⟩
  ·exact⟨_,λH F=>rfl,rfl,λK=>rfl⟩
  ·refine⟨.list ss.length (ss.flatMap UB),λH F=>rfl,rfl,λK=>?_⟩;have e:KD Aq 3 Au Ah v (.sl 3 r o ss.length) H K=I6 H r λx=>J6 x λ_ cs=>Ek (Nat.mul ss.length 3) (Dg o cs) λys=>eX v H λa=>Qw Aq 3 Au Ah v (.list ss.length ys) a K:=rfl;rw[e,AX g];show Ek (ss.length*3) (Dg o cs) _=_;rw[Cy,JU _ _ _ (by rw[Z_];omega),hc]
 have i:(ss.flatMap UB).length=ss.length*3:=XN ss;have j:=B8T ss Q;rcases h.at_ with⟨rfl,rfl⟩|⟨r,q,J,rfl,g⟩
 ·have y:B0 H Aq 3 Aw 0 []:=.inl ⟨rfl,rfl,rfl⟩;obtain⟨s,H',B,N,O,M⟩:=apt (ie:=Au) (i2:=Ah) y (k H) i j (by decide) rfl D (by show(0+ss.length)*56<=_;omega) (by omega);have B:∀K:KV,eX Aw H (λa=>Qw Aq 3 Au Ah Aw src a K)=K s H':=B;have kc:Kc H H':=λu q e cs _ c=>M.keep wf u _ c λt=>absurd t (by simp[A8]);refine⟨s,H',λK=>(he K).trans (B K),⟨λp w=>(Q p (by simpa using w)).kc kc,?_⟩,O,M,kc⟩;rcases N with⟨rfl,h1,h2⟩|⟨r,q,rfl,h2,_⟩
  ·refine .inl ⟨rfl,?_⟩;exact gL (by simpa using h1)
  ·exact .inr ⟨r,q,[],by simp,by rw[UC];exact h2⟩
 ·have f:=XN ps;obtain⟨a,q1,Z,l1,k1,n1⟩:∃a q1,(∀F:Ru,eX (.sl 3 r 0 ps.length) H F=F a)/\Aj a r=some (.cells q1 Aq (ps.flatMap UB))/\Lat H a (λu=>u=r)/\As a=As H:=by
   have e:∀F:Ru,eX (.sl 3 r 0 ps.length) H F=I6 H r λx=>J6 x λE cs=>G6 cs 0 λcl=>@Bool.rec (λ_=>Af) (OW (Nat.add 0 (Nat.mul ps.length 3)) cs λb=>Ll H r (.cells false E b) F) (F H) (Nat.beq (Nat.add 0 (Nat.mul ps.length 3)) cl):=λF=>rfl;have R:Nat.add 0 (Nat.mul ps.length 3)=ps.length*3:=Jt _;by_cases V:J=[]
   ·subst V;rw[UC]at g;refine⟨H,q,λF=>?_,g,Lat.refl _ _,rfl⟩;rw[e,AX g];show G6 (ps.flatMap UB) 0 _=_;rw[Cl,R,Jt,f,jH]
   ·refine⟨upd H r (.cells false Aq (ps.flatMap UB)),false,λF=>?_,B8 g,Lat.upd H r _ (P:=λu=>u=r) rfl,BB _ _ _⟩;rw[e,AX g];show G6 (ps.flatMap UB++J) 0 _=_;have hb:Nat.beq (ps.length*3) (ps.flatMap UB++J).length=false:=by
     cases t:Nat.beq (ps.length*3) (ps.flatMap UB++J).length
     ·rfl
     ·have:=Yo t;rw[EC]at this;exact absurd (gL (by omega)) V
    rw[Cl,R,Jt,hb];show OW (ps.length*3) (ps.flatMap UB++J) (λb=>Ll H r (.cells false Aq b) F)=_;rw[MD,Dh,<-f,List.take_left]
  have w1:=k1.wf wf;have y:B0 a Aq 3 (.sl 3 r 0 ps.length) ps.length (ps.flatMap UB):=.inr ⟨r,q1,rfl,l1,f⟩;obtain⟨s,H',B,N,O,M⟩:=apt (ie:=Au) (i2:=Ah) y (k a) i j (by decide) rfl D (by show(ps.length+ss.length)*56<=_;omega) (by omega);have e2:∀K:KV,Qw Aq 3 Au Ah (.sl 3 r 0 ps.length) src a K=E5 Aq 3 Au Ah (.sl 3 r 0 ps.length) src a K:=λK=>by
   have e:E5 Aq 3 Au Ah (.sl 3 r 0 ps.length) src a K=I6 a r λx=>J6 x λE cs=>G6 cs 0 λcl=>@Bool.rec (λ_=>Af) (OW (Nat.add 0 (Nat.mul ps.length 3)) cs λb=>Ll a r (.cells false E b) λX=>Qw Aq 3 Au Ah (.sl 3 r 0 ps.length) src X K) (Qw Aq 3 Au Ah (.sl 3 r 0 ps.length) src a K) (Nat.beq (Nat.add 0 (Nat.mul ps.length 3)) cl):=rfl;rw[e,AX l1];show _=G6 (ps.flatMap UB) 0 _;rw[Cl,Jt,f,show Nat.add 0 (Nat.mul ps.length 3)=ps.length*3 from Jt _,jH]
  have C:∀u,u=r->A8 (.sl 3 r 0 ps.length) u:=λu h=>h▸⟨_,_,_,rfl⟩;have lat:Lat H H' (A8 (.sl 3 r 0 ps.length)):=k1.trans M (λu _ h=>C u h) (λ_ _ h=>h);have kc:Kc H H':=λu q e cs he c=>lat.keep wf u _ c λ⟨_,_,_,t⟩=>by
   injection t with _ t
   rw[<-t,g]at c;injection c with c
   injection c with _ c
   exact he c.symm
  refine⟨s,H',λK=>by rw[he,Z,e2,B],⟨λp w=>?_,?_⟩,λu c=>by rw[O u c,n1],lat,kc⟩
  ·rcases Yn.1 w with w|w
   ·exact(h.ok p w).kc kc
   ·exact(Q p w).kc kc
  ·rcases N with⟨rfl,h1,h2⟩|⟨r',q',rfl,h2,_⟩
   ·refine .inl ⟨rfl,gL (by rw[EC];omega)⟩
   ·exact .inr ⟨r',q',[],by rw[EC],by rw[UC,l2m];exact h2⟩
end
end
section
variable{u:Nat}
variable{L n:Nat}
section
variable{H H0 H' H'':Hp}{v x v1 v2:AV}{gs A B:ed}{K:KV}{x0:Af}{r m ra ma rb mb N:Nat}{ws us:List Pk}{p1 p2 ss:PV}
structure Lx(gs:ed)(ra ma rb mb:Nat)(A B:ed)(v1 v2:AV)(p1 p2:PV)(N:Nat)(H:Hp):Prop where
 wf:Wf H
 sa:StAt H ra ma A
 sb:StAt H rb mb B
 l1:Pls H v1 p1
 l2:Pls H v2 p2
 dj:∀u,A8 v1 u->¬A8 v2 u
 i1:∀p∈p1,PkIn gs p.1
 i2:∀p∈p2,PkIn gs p.1
 n1:p1.length<=N
 n2:p2.length<=N
 ia:StIn gs A
 ib:StIn gs B
 ne:ma≠mb
def Lx.swap(h:Lx gs ra ma rb mb A B v1 v2 p1 p2 N H):Lx gs rb mb ra ma B A v2 v1 p2 p1 N H:=
 ⟨h.wf,h.sb,h.sa,h.l2,h.l1,λu a b=>h.dj u b a,h.i2,h.i1,h.n2,h.n1,h.ib,h.ia,h.ne.symm⟩
def Pls.row(h:Pls H v p1)(b:A8 v u):∃q cs,Aj H u=some (.cells q Aq cs):=by
 rcases h.at_ with⟨rfl,_⟩|⟨r,q,d,rfl,c⟩
 ·exact absurd b (by simp[A8])
 ·obtain⟨_,_,_,a⟩:=b;injection a with _ a
  subst a;exact⟨q,_,c⟩
theorem Pls.lt(h:Pls H v p1)(w:Wf H)(b:A8 v u):u<As H:=by
 obtain⟨q,cs,a⟩:=h.row b;exact w.lt a
def Lx.new(h:Lx gs ra ma rb mb A B v1 v2 p1 p2 N H)(k:Lat H H' (λ_=>False)):Lx gs ra ma rb mb A B v1 v2 p1 p2 N H':=by
 have kk:∀u y,Aj H u=some y->Aj H' u=some y:=λu y a=>k.keep h.wf u y a id;have kc:Kc H H':=λu q e cs _ a=>kk _ _ a;exact⟨k.wf h.wf,h.sa.keep kk,h.sb.keep kk,h.l1.kp kc λu y _ a=>kk u y a,h.l2.kp kc λu y _ a=>kk u y a,h.dj,h.i1,h.i2,h.n1,h.n2,h.ia,h.ib,h.ne⟩
def Lx.app(h:Lx gs ra ma rb mb A B v1 v2 p1 p2 N H)(O:N<50000)(g:∀p∈ss,PvOk H p)(k:∀p∈ss,PkIn gs p.1)(d:p1.length+ss.length<=N)(J:(x=Aw/\ss=[])\/x=.list ss.length (ss.flatMap UB)\/∃r o q cs,x=.sl 3 r o ss.length/\Aj H r=some (.cells q Aq cs)/\(cs.drop o).take (ss.length*3)=ss.flatMap UB/\o+ss.length*3<=cs.length):
 ∃i H',(∀K:KV,KD Aq 3 Au Ah v1 x H K=K i H')/\Lx gs ra ma rb mb A B i v2 (p1++ss) p2 N H'/\∀s M y,StAt H s M y->StAt H' s M y:=by
 obtain⟨i,H',C,D,F,j,w⟩:=B6L h.wf h.l1 g J (by omega);have c:∀s M y,StAt H s M y->StAt H' s M y:=λs M y g=>⟨w _ _ _ _ (by decide) g.st,j.keep h.wf _ _ g.mm λt=>by
  obtain⟨q,cs,d⟩:=h.l1.row t;have:=g.mm;rw[d]at this;cases this⟩
 refine⟨i,H',C,⟨j.wf h.wf,c _ _ _ h.sa,c _ _ _ h.sb,D,h.l2.kp w λu y t d=>j.keep h.wf u y d λhv=>h.dj u hv t,λu a b=>?_,λp f=>?_,h.i2,by rw[EC];exact d,h.n2,h.ia,h.ib,h.ne⟩,c⟩
 ·have e:=F u a;have:=h.l2.lt h.wf b;omega
 ·rcases Yn.1 f with f|f
  ·exact h.i1 p f
  ·exact k p f
def Lx.recv{q:Pk}{pv:AV}{F:KV}(t:200000<L)(b:GOk gs)(h:Lx gs ra ma rb mb A B v1 v2 p1 p2 N H)(g:PkS H pv q)(hq:PkIn gs q)(M:∀(f:AV)H'(ss:PV),Lx gs ra ma rb mb A (Dx B q).1 v1 v2 p1 p2 N H'->(∀p∈ss,PvOk H' p)->jF H' f ss->(∀p∈ss,PkIn gs p.1)->ss.length<=1->F f H'=x0):
 (r! L (n+84)).call AI [.ptr rb 0 0,pv] H F=x0:=by
 have hr:=hq.right;have a:=fG b h.ib hq;have C:=a.1.len;have w:=b.len;refine Pb (n:=n) t (h.ib.ok b) (hq.oks b) h.wf h.sb g (Nat.lt_of_le_of_lt hr.1 (by decide)) hq.few (Nat.lt_of_le_of_lt hr.2.1 (by decide)) (a.1.ok b) (by omega) λf H' P O d=>?_;obtain⟨ss,i,k,s⟩:=O.at_;have kc:Kc H H':=Kc.map d h.wf h.sb.mm;have j:∀{v p},Pls H v p->∀u y,A8 v u->Aj H u=some y->Aj H' u=some y:=λ{v p}hv u y J D=>d.keep h.wf u y D λe=>by
  obtain⟨q,cs,c⟩:=hv.row J;rw[e,h.sb.mm]at c;cases c
 refine M f H' ss ⟨d.wf h.wf,h.sa.kpm d h.wf (h.sa.two h.sb) h.ne,P,h.l1.kp kc (j h.l1),h.l2.kp kc (j h.l2),h.dj,h.i1,h.i2,h.n1,h.n2,h.ia,a.1,h.ne⟩ k s (λp g=>a.2.2 p.1 (by rw[<-i];exact List.mem_map_of_mem g)) ?_;have:(Dx B q).2.length<=1:=by
  unfold Dx Tf ZB
  repeat' split
  all_goals simp
 rw[<-i,Qa]at this;exact this
end
end
section
variable{F:KV}{i:Nat}
variable{L n:Nat}
section
variable{H H0 H' H'':Hp}{v x v1 v2:AV}{gs A B:ed}{K:KV}{x0:Af}{r m ra ma rb mb N:Nat}{ws us:List Pk}{p1 p2 ss ps:PV}
def B9W(h:i<=m){K:K2}:C8 Ah (.sl 3 r 0 m) none (some (I (i:Int))) (some (I (i:Int))) K=K (.sl 3 r 0 i):=by
 have b:C8 Ah (.sl 3 r 0 m) none (some (I (i:Int))) (some (I (i:Int))) K=ck (Nat.beq 3 3) (fN 0 λl=>iN (i:Int) λh=>iN (i:Int) λx=>ck ((false||true)&&(Nat.ble l h&&(Nat.ble h x&&Nat.ble x m))) (fN (Nat.add 0 (Nat.mul l 3)) λa=>fN (Nat.sub h l) λn=>K (.sl 3 r a n))):=rfl;rw[b,Dy,Ju,Ju];have c:((false||true)&&(Nat.ble 0 i&&(Nat.ble i i&&Nat.ble i m)))=true:=by simp;omega
 rw[c];show fN (Nat.add 0 (Nat.mul 0 3)) (λa=>fN (Nat.sub i 0) λn=>K (.sl 3 r a n))=_;rw[Dy,Dy];rfl
def B9V(h:i<=m){K:K2}:C8 Ah (.sl 3 r 0 m) (some (I (i:Int))) none none K=K (.sl 3 r (i*3) (m-i)):=by
 have b:C8 Ah (.sl 3 r 0 m) (some (I (i:Int))) none none K=ck (Nat.beq 3 3) (iN (i:Int) λl=>fN m λh=>fN m λx=>ck ((true||false)&&(Nat.ble l h&&(Nat.ble h x&&Nat.ble x m))) (fN (Nat.add 0 (Nat.mul l 3)) λa=>fN (Nat.sub h l) λn=>K (.sl 3 r a n))):=rfl;rw[b,Ju,Dy,Dy];have c:((true||false)&&(Nat.ble i m&&(Nat.ble m m&&Nat.ble m m)))=true:=by simp;omega
 rw[c];show fN (Nat.add 0 (Nat.mul i 3)) (λa=>fN (Nat.sub m i) λn=>K (.sl 3 r a n))=_;rw[Dy,Dy];have d:Nat.add 0 (Nat.mul i 3)=i*3:=Jt _;rw[d];rfl
def jF.src(h:jF H v ss):(v=Aw/\ss=[])\/v=.list ss.length (ss.flatMap UB)\/∃r o q cs,v=.sl 3 r o ss.length/\Aj H r=some (.cells q Aq cs)/\(cs.drop o).take (ss.length*3)=ss.flatMap UB/\o+ss.length*3<=cs.length:=by
 rcases h with h|h|⟨r,q,b,rfl,a⟩
 ·exact .inl h
 ·exact .inr (.inl h)
 ·refine .inr (.inr ⟨r,0,q,_,rfl,a,?_,by rw[EC,XN];omega⟩);rw[pE,<-XN,List.take_left]
def Lx.hello(q:200000<L)(f:GOk gs)(s:N<50000)(h:Lx gs ra ma rb mb A B v1 v2 p1 p2 N H)(t:p1.length+1<=N)(u:∀b H' p,Lx gs ra ma rb mb A B b v2 (p1++[p]) p2 N H'->F b H'=x0):
 (J4 (r! L (n+86)) BL [.ptr ra 0 0] H λd=>GM Aq 3 Au 1 [(0,3,d)] H λe c=>KD Aq 3 Au Ah v1 e c F)=x0:=by
 rw[F! (n:=n+3) (h.ia.ok f) q h.sa.sv,A4f (Lt _).cell ⟨rfl,rfl⟩];have k:Lat H ((As H,Row.cells false Aq [I 1,DJ (Ej (DU A)),Aw])::H) (λ_=>False):=Lat.cons _ _ _;have h1:=h.new k;have ok:∀p∈([(Mk A,DJ (Ej (DU A)),Aw)]:PV),PvOk ((As H,Row.cells false Aq [I 1,DJ (Ej (DU A)),Aw])::H) p:=λp a=>by
  rw[Tx]at a;subst a;exact⟨.inl (Lt _),.inl ⟨rfl,rfl⟩,λh=>by have h:Ej (DU A)=[]:=h;show DJ (Ej (DU A))=Aw;rw[h];rfl⟩
 obtain⟨b,H',g,j,_⟩:=h1.app (x:=.sl 3 (As H) 0 1) s ok (λp a=>by
  rw[Tx]at a;subst a;exact(tY f h.ia).1) t (.inr (.inr ⟨As H,0,false,_,rfl,Az (by simp),rfl,Me 3⟩))
 rw[g];exact u b H' _ j
def Lx.cut{k:Nat}(P:N<50000)(h:Lx gs ra ma rb mb A B v1 v2 p1 p2 N H)(y:k<p1.length)(Y:∀d H',Lx gs ra ma rb mb A B d v2 (p1.take k++p1.drop (k+1)) p2 N H'->F d H'=x0):
 (Ar (C8 Ah v1 none (some (I (k:Int))) (some (I (k:Int))) λv=>some (v,[])) λt=>Ar (Ap Ab .add (I (k:Int)) (AV.v (.int .i64 1)) λv=>some (v,[])) λe=>Ar (C8 Ah v1 (some e) none none λv=>some (v,[])) λf=>
  D5 (KD Aq 3 Au Ah t f H λv H=>some (v,H)) F)=x0:=by
 have V:=h.n1;rcases h.l1.at_ with⟨_,O⟩|⟨r,q,s,rfl,C⟩
 ·rw[O]at y;cases y
 rw[B9W (by omega),B4,Dd (by omega),B4,B9V (by omega),B4];have X:p1=p1.take k++p1.drop k:=(l3a k p1).symm;have D:(p1.take k).length=k:=by rw[vN];omega
 have w:(p1.drop (k+1)).length=p1.length-(k+1):=Z_;have Q:Lx gs ra ma rb mb A B (.sl 3 r 0 k) v2 (p1.take k) p2 N H:=by
  refine⟨h.wf,h.sa,h.sb,⟨λp c=>h.l1.ok p (l2a c),.inr ⟨r,q,(p1.drop k).flatMap UB++s,by rw[D],?_⟩⟩,h.l2,λu a b=>h.dj u ?_ b,λp c=>h.i1 p (l2a c),h.i2,by omega,h.n2,h.ia,h.ib,h.ne⟩
  ·rw[<-ZL,<-l2m,l3a];exact C
  ·obtain⟨_,_,_,g⟩:=a;injection g with _ g
   exact⟨_,_,_,by rw[g]⟩
 obtain⟨d,H',J,M,_⟩:=Q.app (ss:=p1.drop (k+1)) (x:=.sl 3 r ((k+1)*3) (p1.length-(k+1))) P (λp c=>h.l1.ok p (List.mem_of_mem_drop c)) (λp c=>h.i1 p (List.mem_of_mem_drop c)) (by omega) (.inr (.inr ⟨r,(k+1)*3,q,_,by rw[w],C,by
  have R:(p1.flatMap UB++s).drop ((k+1)*3)=(p1.drop (k+1)).flatMap UB++s:=by
   conv=>lhs;rw[show p1=p1.take (k+1)++p1.drop (k+1) from(l3a (k+1) p1).symm]
   have j:((p1.take (k+1)).flatMap UB).length=(k+1)*3:=by rw[XN,vN];congr 1;omega
   rw[l2m,ZL,<-j,List.drop_left]
  rw[R,<-XN,List.take_left],by rw[EC,XN,w];omega⟩))
 rw[J];show D5 (some (d,H')) F=_;rw[Cb];exact Y d H' M
end
end
section
set_option maxHeartbeats 4000000
variable{L n:Nat}
section
variable{H H0 H' H'':Hp}{v x v1 v2:AV}{gs A B:ed}{K:KV}{x0:Af}{r m ra ma rb mb N:Nat}{ws us:List Pk}{p1 p2 ss ps:PV}
def B5C(h:Pls H v p1):jF H v p1:=h.at_.imp id .inr
def Lx.deliver{k:Nat}{F:KV}(u:200000<L)(C:GOk gs)(y:N<50000)(h:Lx gs ra ma rb mb A B v1 v2 p1 p2 N H)(j:k<p1.length)(P:p2.length+1<=N)(J:∀c H' p q2,Lx gs ra ma rb mb A p v1 c p1 q2 N H'->q2.length<=p2.length+1->F c H'=x0):
 (Ds Ah v1 (I (k:Int)) λe=>AD Au e H λf=>(r! L (n+86)).call AI [.ptr rb 0 0,f] H λg a=>KD Aq 3 Au Ah v2 g a F)=x0:=by
 have b:k<(p1.map Prod.fst).length:=by rw[Qa];exact j
 refine h.l1.pks.ld (i:=k) b λw D=>?_;have hq:PkIn gs (p1.map Prod.fst)[k]:=by rw[l2o];exact h.i1 _ (PD j)
 refine h.recv (n:=n+2) u C D hq λc O ss h1 M a1 i1 l1=>?_;obtain⟨d,q,s,t,_⟩:=h1.swap.app y M i1 (by omega) a1.src;rw[s];exact J d q _ _ t.swap (by rw[EC];omega)
theorem A1d{fs:List Int}{fv:AV}{j:AV->AV->KV}(hL:200000<L)(hg:GOk gs)(hf:NA fs fv)(hz:∀z∈fs,Lm z)(hN:N<50000)(hx:∀A B H',StIn gs A->StIn gs B->Wf H'->StAt H' ra ma A->StAt H' rb mb B->j (Bo true) (.ptr ra 0 0) (.ptr rb 0 0) H'=x0)(hm:ma≠mb):
 ∀(fuel i:Nat)(A B:ed)(v1 v2:AV)(p1 p2:PV)(H:Hp),30<fuel+i->i<=30->p1.length+3*(30-i)<=N->p2.length+3*(30-i)<=N->Lx gs ra ma rb mb A B v1 v2 p1 p2 N H->
  CE (L+20) (r! L (n+86)) K j fuel fv (Bo true) (.ptr ra 0 0) (.ptr rb 0 0) v1 v2 (I i) H=x0
 |0,i,A,B,v1,v2,p1,p2,H,h1,h2,_,_,_=>by omega
 |fuel+1,i,A,B,v1,v2,p1,p2,H,h1,h2,h3,h4,h=>by
  rw[Uq];unfold Ko HR Dk A3 HS;simp only[BJ];rw[hf.len,DO];have fin:j (Bo true) (.ptr ra 0 0) (.ptr rb 0 0) H=x0:=hx A B H h.ia h.ib h.wf h.sa h.sb;by_cases hi:i<fs.length
  rotate_left
  ·simp only[HX (show¬(i:Int)<(fs.length:Int) by omega),ZC,gU,gT,Cb,Sf];rw[Bh];exact fin
  have a8:∀{F:K2},Ap Ab .lss (I (i:Int)) (AV.v (.int .i64 30)) F=F (Bo (decide (i<30))):=λ{F}=>by rw[DO];congr 3;simp;omega
  simp only[Hj (show(i:Int)<(fs.length:Int) by omega),gT,Cb,a8,Tt];by_cases ay:i<30
  rotate_left
  ·rw[HX ay,Bh];exact fin
  rw[Hj ay,Cr,hf.ia hi (by omega)];have hp:∀{H:Hp}{F:K2},Ao (r! L (n+86)) LZ [I fs[i],(AV.v (.int .i64 64))] H F=F (I (pk fs[i] 64)):=λ{H F}=>(A10 (n:=n+85) (hz _ (PD hi)) (by decide) (by decide)) H F;rw[hp];obtain⟨f,a9,bs⟩:∃f:Nat,pk fs[i] 64=(f:Int)/\f<64:=by
   obtain⟨a,b⟩:=FQ (c:=fs[i]) (n:=64) (by decide);exact⟨(pk fs[i] 64).toNat,by omega,by omega⟩
  rw[a9];have rem:∀{k:Nat}{F:K2},0<k->Ap Ab .rem (I (f:Int)) (I (k:Int)) F=F (I ((f%k:Nat):Int)):=λ{k F}hk=>by rw[Qu (by omega)];rfl
  have r4:∀{F:K2},Ap Ab .rem (I (f:Int)) (AV.v (.int .i64 4)) F=F (I ((f%4:Nat):Int)):=λ{F}=>rem (k:=4) (by decide);have r2:∀{F:K2},Ap Ab .rem (I (f:Int)) (AV.v (.int .i64 2)) F=F (I ((f%2:Nat):Int)):=λ{F}=>rem (k:=2) (by decide);have q4:∀{F:K2},Ap Ab .quo (I (f:Int)) (AV.v (.int .i64 4)) F=F (I ((f/4:Nat):Int)):=λ{F}=>by
   rw[A1V (by decide),show((f:Int).tdiv 4)=((f/4:Nat):Int) from rfl,CV (by omega) (by omega)]
  have rk:∀{c:Nat}{F:K2},0<c->Ap Ab .rem (I ((f/4:Nat):Int)) (I (c:Int)) F=F (I ((f/4%c:Nat):Int)):=λ{c F}hc=>by rw[Qu (by omega)];rfl
  have aq:∀{F:K2},Ap Ab .geq (I (f:Int)) (AV.v (.int .i64 32)) F=F (Bo (decide ((32:Int)<=f))):=λ{F}=>KC;have ap:∀{c:Nat}{F:K2},Ap Ab .eql (I (c:Int)) (AV.v (.int .i64 0)) F=F (Bo (decide (c=0))):=λ{c F}=>by rw[CQ];congr 3;simp
  refine h.hello (n:=n) hL hg hN (by omega) λw1 H1 D ax=>?_;have main:∀(t:AV)(H2:Hp)(q2:PV),Lx gs ra ma rb mb A B w1 t (p1++[D]) q2 N H2->q2.length<=p2.length+1->
   (Ap Ab .rem (I (f:Int)) (AV.v (.int .i64 2)) λbc=>Ap Ab .eql bc (AV.v (.int .i64 0)) λae=>
    D5 (gdV true ae λg=>@Bool.rec (λ_=>Af) (some (AV.v undef,H2)) (some (t,H2)) g) λbd am=>
    D5 (gdV true ae λg=>@Bool.rec (λ_=>Af) (some (AV.v undef,am)) (Bm Ah bd λv=>some (v,am)) g) λbe an=>
    D5 (gdV true ae λg=>@Bool.rec (λ_=>Af) (some (AV.v undef,an)) (Ap Ab .gtr be (AV.v (.int .i64 0)) λv=>some (v,an)) g) λbf ad=>
    Ck ae bf (AV.v (.bool false)) λbg=>
    A2 bg (Ap Ab .quo (I (f:Int)) (AV.v (.int .i64 4)) λbh=>
     Bm Ah t λbj=>
     Ap Ab .rem bh bj λaf=>
     Ds Ah t af λbk=>
     AD Au bk ad λbm=>
     (r! L (n+86)).call AI [.ptr ra 0 0,bm] ad λbn a7=>
     KD Aq 3 Au Ah w1 bn a7 λa6 ao=>
     Ap Ab .geq (I (f:Int)) (AV.v (.int .i64 32)) λbo=>
     A2 bo (Ar (C8 Ah t none (some af) (some af) λv=>some (v,[])) λbp=>
      Ar (Ap Ab .add af (AV.v (.int .i64 1)) λv=>some (v,[])) λa3=>
      Ar (C8 Ah t (some a3) none none λv=>some (v,[])) λa4=>
      D5 (KD Aq 3 Au Ah bp a4 ao λv H=>some (v,H)) λa5 ak=>
      Ap Ab .add (I (i:Int)) (AV.v (.int .i64 1)) λe=>
      CE (L+20) (r! L (n+86)) K j fuel fv (Bo true) (.ptr ra 0 0) (.ptr rb 0 0) a6 a5 e ak)
      (Ap Ab .add (I (i:Int)) (AV.v (.int .i64 1)) λe=>
      CE (L+20) (r! L (n+86)) K j fuel fv (Bo true) (.ptr ra 0 0) (.ptr rb 0 0) a6 t e ao))
     (Ap Ab .quo (I (f:Int)) (AV.v (.int .i64 4)) λP=>
     Bm Ah w1 λQ=>
     Ap Ab .rem P Q λd=>
     Ds Ah w1 d λR=>
     AD Au R ad λV=>
     (r! L (n+86)).call AI [.ptr rb 0 0,V] ad λX u=>
     KD Aq 3 Au Ah t X u λq p=>
     Ap Ab .geq (I (f:Int)) (AV.v (.int .i64 32)) λY=>
     A2 Y (Ar (C8 Ah w1 none (some d) (some d) λv=>some (v,[])) λZ=>
      Ar (Ap Ab .add d (AV.v (.int .i64 1)) λv=>some (v,[])) λaa=>
      Ar (C8 Ah w1 (some aa) none none λv=>some (v,[])) λab=>
      D5 (KD Aq 3 Au Ah Z ab p λv H=>some (v,H)) λac w=>
      Ap Ab .add (I (i:Int)) (AV.v (.int .i64 1)) λe=>
      CE (L+20) (r! L (n+86)) K j fuel fv (Bo true) (.ptr ra 0 0) (.ptr rb 0 0) ac q e w)
      (Ap Ab .add (I (i:Int)) (AV.v (.int .i64 1)) λe=>
      CE (L+20) (r! L (n+86)) K j fuel fv (Bo true) (.ptr ra 0 0) (.ptr rb 0 0) w1 q e p)))=x0:=by
   intro t H2 q2 s bv;have l1:(p1++[D]).length=p1.length+1:=by simp
   have go:∀A' B' ag ah M O H',Lx gs ra ma rb mb A' B' ag ah M O N H'->M.length<=p1.length+3->O.length<=p2.length+3->
    (Ap Ab .add (I (i:Int)) (AV.v (.int .i64 1)) λe=>CE (L+20) (r! L (n+86)) K j fuel fv (Bo true) (.ptr ra 0 0) (.ptr rb 0 0) ag ah e H')=x0:=λA' B' ag ah M O H' h' a b=>by
    rw[Dd (by omega)];exact A1d hL hg hf hz hN hx hm fuel (i+1) A' B' ag ah M O H' (by omega) (by omega) (by omega) (by omega) h'
   have ai:∀{F:K2},Bm Ah t F=F (I q2.length):=λ{F}=>(B5C s.l2).len;have az:∀{F:K2},Bm Ah w1 F=F (I (p1++[D]).length):=λ{F}=>(B5C s.l1).len;have ar:∀{c:Nat}{F:K2},Ap Ab .gtr (I (c:Int)) (AV.v (.int .i64 0)) F=F (Bo (decide (0<c))):=λ{c F}=>by rw[Eo];congr 3;simp
   rw[r2,ap];by_cases c2:f%2=0/\0<q2.length
   ·obtain⟨c2,cz⟩:=c2;simp only[Hj c2,gT,Cb,ai,ar,Hj cz,Tt];rw[Cr,q4,rk cz];refine s.swap.deliver (n:=n) hL hg hN (k:=f/4%q2.length) (Nat.mod_lt _ cz) (by omega) λv' H3 A' M C bu=>?_;rw[aq];by_cases c3:(32:Int)<=f
    ·rw[Hj c3,Cr];refine C.cut hN (Nat.mod_lt _ cz) λba H4 aj=>?_;exact go _ _ _ _ _ _ _ aj.swap (by omega) (by rw[EC,vN,Z_];omega)
    ·rw[HX c3,Bh];exact go _ _ _ _ _ _ _ C.swap (by omega) (by omega)
   ·have hc:(f%2=0->¬0<q2.length):=λa b=>c2 ⟨a,b⟩;have J:∀{x y:Af},y=x0->A2 (Bo false) x y=x0:=λ{x y}h=>by rw[Bh];exact h
    have cz:0<(p1++[D]).length:=by omega
    have hB:(Ap Ab .quo (I (f:Int)) (AV.v (.int .i64 4)) λP=>
     Bm Ah w1 λQ=>
     Ap Ab .rem P Q λd=>
     Ds Ah w1 d λR=>
     AD Au R H2 λV=>
     (r! L (n+86)).call AI [.ptr rb 0 0,V] H2 λX u=>
     KD Aq 3 Au Ah t X u λq p=>
     Ap Ab .geq (I (f:Int)) (AV.v (.int .i64 32)) λY=>
     A2 Y (Ar (C8 Ah w1 none (some d) (some d) λv=>some (v,[])) λZ=>
      Ar (Ap Ab .add d (AV.v (.int .i64 1)) λv=>some (v,[])) λaa=>
      Ar (C8 Ah w1 (some aa) none none λv=>some (v,[])) λab=>
      D5 (KD Aq 3 Au Ah Z ab p λv H=>some (v,H)) λac w=>
      Ap Ab .add (I (i:Int)) (AV.v (.int .i64 1)) λe=>
      CE (L+20) (r! L (n+86)) K j fuel fv (Bo true) (.ptr ra 0 0) (.ptr rb 0 0) ac q e w)
      (Ap Ab .add (I (i:Int)) (AV.v (.int .i64 1)) λe=>
      CE (L+20) (r! L (n+86)) K j fuel fv (Bo true) (.ptr ra 0 0) (.ptr rb 0 0) w1 q e p))=x0:=by
     rw[q4,az,rk cz];refine s.deliver (n:=n) hL hg hN (k:=f/4%(p1++[D]).length) (Nat.mod_lt _ cz) (by omega) λv' H3 B' O C bq=>?_;rw[aq];by_cases c3:(32:Int)<=f
     ·rw[Hj c3,Cr];refine C.cut hN (Nat.mod_lt _ cz) λba H4 aj=>?_;exact go _ _ _ _ _ _ _ aj (by rw[EC,vN,Z_];omega) (by omega)
     ·rw[HX c3,Bh];exact go _ _ _ _ _ _ _ C (by omega) (by omega)
    by_cases c2:f%2=0
    ·simp only[Hj c2,gT,Cb,ai,ar,HX (hc c2),Tt];exact J hB
    ·simp only[HX c2,ZC,gU,gT,Cb,Sf];exact J hB
  rw[r4,ap];by_cases c4:f%4=0
  ·rw[Hj c4,Cr];refine ax.swap.hello (n:=n) hL hg hN (by omega) λt H2 bt s=>?_;exact main t H2 _ s.swap (by simp)
  ·rw[HX c4,Bh];exact main v2 H1 p2 ax (by omega)
end
end
end Go.Abs
end
