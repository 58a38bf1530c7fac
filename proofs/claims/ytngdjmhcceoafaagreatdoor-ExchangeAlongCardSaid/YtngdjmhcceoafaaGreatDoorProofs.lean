import Derived.Shelf.Strings.OnBuilder
import Derived.Shelf.Strings.Repeat
import Derived.Shelf.Sort.Plain
import Derived.Shelf.Spec.SlicesGrow
import Derived.Test.YtngdjmhcceoafaaGreatDoorProg
import Derived.ProofKit
import Derived.Deep.Slices
import Derived.OpenShut
import Derived.Test.YtngdjmhcceoafaaGreatDoorRows
import Derived.LaidMore
import Derived.Stop.Joined
import Derived.MakeChecks
import Derived.FnData
import Derived.DataElems
import Derived.Lay
import Derived.Test.YtngdjmhcceoafaaGreatDoorTie
import Derived.Test.YtngdjmhcceoafaaGreatDoorCards
import Derived.SevenTiedAt
import Derived.Test.YtngdjmhcceoafaaGreatDoorP32
import Derived.Test.YtngdjmhcceoafaaGreatDoorP33
import Derived.Test.YtngdjmhcceoafaaGreatDoorP34
set_option linter.all false
set_option maxHeartbeats 100000000
noncomputable section
namespace Go.Abs
open Go.RowKit Go.Proofs
set_option maxRecDepth 100000
section
variable {d:Cd}
variable {L n:Nat}
section
variable {H H0 H':Hp} {v dv cv pv:AV} {A:List Cd} {K:KV} {x0:Af} {x:AV} {r m:Nat} {q:Pk} {l:List PC} {p:PC}
def A22 (h:d.id∈A.map Cd.id):add1 A (.c d)=(A,false,0):=Dj h
def uU (h:d.id∉A.map Cd.id):add1 A (.c d)=(A++[d],true,0):=C4 h
def zJ:Mm A (p::l)=Mm (add1 A p).1 l:=by
 cases p with
 |z=>rfl
 |c d=>
  show Mm (if d.id∈A.map Cd.id then A else A++[d]) l=_;by_cases h:d.id∈A.map Cd.id
  ·rw[Dj h,A22 h]
  ·rw[C4 h,uU h]
def A23:(add1 A p).1.length=A.length+if(add1 A p).2.1 then 1 else 0:=by
 cases p with
 |z=>rfl
 |c d=>
  by_cases h:d.id∈A.map Cd.id
  ·rw[A22 h];rfl
  ·rw[uU h];simp
def B59:A.length<=(Mm A l).length:=by
 induction l generalizing A with
 |nil=>exact Mb _
 |cons p l ih=>
  rw[zJ];have:=ih (A:=(add1 A p).1);have e:=A23 (A:=A) (p:=p);omega
def bxC {F:AV->Hp->Af} (g:∀H',Lat H H' (λ_=>False)->F (.agg p.cells) H'=x0):
 (Bx Ad Ae H λb c=>E0 Ae b (.agg p.cells) c λa=>AF Ae b a λe=>F e a)=x0:=by
 rw[B1 (cs:=CH) rfl,Cc (cs:=CH) (vs:=p.cells) (Aw (by simp)) p.len rfl p.one,Bu rfl p.len.symm (BB (Aw (by simp)))];refine g _ ⟨λw=>Bn (AI w),by rw[BC];show Ao H<=Ao H+1;omega,λw u y f _=> ?_⟩;have:=w.lt f;rw[Ag (by omega)];exact A4 this f
def C34 (hc:ZC H cv l) (c:StAt H r m A) {u:Nat} (a:A8 cv u):u≠m:=by
 rcases hc with⟨rfl,_⟩|rfl|⟨g,f,i,rfl,h⟩
 ·exact absurd a (by simp[A8])
 ·exact absurd a (by simp[A8])
 ·intro e;obtain⟨_,_,_,b⟩:=a;cases b
  subst e;have:=c.mm;rw[h] at this;cases this
theorem A1g {B:List Cd} {k:AV->AV->Hp->Af} (R:40000<L) (hq:∀p∈l,p.Ok) (D:l.length<1000) (Y:B.length<60) (e:Wf H0) (j:StAt H0 r m A) (c:ZC H0 cv l)
 (X:∀H',StAt H' r m B->Lat H0 H' (λu=>u=m)->k (.ptr r 0 0) (Bo (decide (B.length≠A.length))) H'=x0):
 ∀(fuel i:Nat) (a:List Cd) (H:Hp),l.length<fuel+i->i<=l.length->Mm a (l.drop i)=B->A.length<=a.length->StAt H r m a->Lat H0 H (λu=>u=m)->
  Jd (L+20) (r! L (n+65)) K k fuel (.ptr r 0 0) (Bo (decide (a.length≠A.length))) cv (I l.length) (I i) H=x0
 |0,i,a,H,h1,h2,_,_,_,_=>by omega
 |fuel+1,i,a,H,h1,h2,b,h4,V,s=>by
  rw[QP];unfold Je Iv GT A0 LW;by_cases C:i<l.length
  ·have hc:ZC H cv l:=c.keep λu y ru J=>s.keep e u y J (C34 c j ru);rw[FR (by omega),Cy,hc.get C];refine bxC λH1 M=> ?_;have w:=s.wf e;have s1:=V.keep λu y J=>M.keep w u y J id;have Z:l.drop i=l[i]::l.drop (i+1):=vA C;rw[Z,zJ] at b;have aa:(add1 a l[i]).1.length<=B.length:=by rw[<-b];exact B59
   have P:=A23 (A:=a) (p:=l[i]);refine B6A (n:=n) R (hq _ (Qe C)) (M.wf w) s1 (by omega) λf s2 l2=> ?_;rw[EX,Na];have ef:∀{F:AV->Hp->Af},(Ef (gdV false (Bo (decide (a.length≠A.length))) λg=>@Bool.rec (λ_=>Af) (some (AV.v undef,f)) (some (Bo (add1 a l[i]).2.1,f)) g) λN t=>Ch (Bo (decide (a.length≠A.length))) (AV.v (.bool true)) N λO=>F O t)=F (Bo (decide ((add1 a l[i]).1.length≠A.length))) f:= λ{F}=>by
    by_cases Q:a.length=A.length
    ·rw[IG (by simpa using Q),gT];show Ef (some (Bo (add1 a l[i]).2.1,f)) _=_;rw[Cn,SS]
     congr 2
     cases hb:(add1 a l[i]).2.1<;>rw[hb] at P<;>simp at P
     ·exact(IG (by simp;omega)).symm
     ·exact(Iu (by omega)).symm
    ·rw[Iu Q,wT];show Ef (some (AV.v undef,f)) _=_;rw[Cn,UH];rw[Iu (p:=(add1 a l[i]).1.length≠A.length) (by omega)]
   rw[ef,Dg (by omega)];exact A1g R hq D Y e j c X fuel (i+1) _ f (by omega) (by omega) b (by omega) s2 (s.trans (M.trans l2 (λ_ _ h=>h.elim) (λ_ _ h=>h)) (λ_ _ h=>h) (λ_ _ h=>h))
  ·rw[FP (by omega),Bj];rw[List.drop_of_length_le (by omega)] at b;have b:a=B:=b;subst b;exact X H V s
def A8r (D:200000<L) (F:GOk (Mm A q.cs)) (hq:∀p∈q.cs,p.Ok) (wf:Wf H) (k:StAt H r m A) (J:PkS H pv q) (f:q.cs.length<1000) (C:(Mm A q.cs).length<60)
 (c:∀t H',StAt H' r m (Mm A q.cs)->PksAt H' t (if(Mm A q.cs).length=A.length then[] else Tw (Mm A q.cs) [])->Lat H H' (λu=>u=m)->K t H'=x0):(r! L (n+83)).call D4 [.ptr r 0 0,pv] H K=x0:=by
 obtain⟨dv,cv,rfl,h1,h2,O⟩:=J.at_;rw[Sf];unfold J4 Eh A0 HQ;have N:([I q.kd,dv,cv]:List AV).all AV.one=true:=by
  have a1:=h1.one.2;have a2:=h2.one.2;simp only[pK,l3c,a1,a2];rfl
 rw[Ei N];have w1:=AI (x:= .cells true A7 [I q.kd,dv,cv]) wf;have e:∀u y,Aj H u=some y->Aj ((Ao H,c_ A7 [I q.kd,dv,cv])::H) u=some y:= λu y b=>A4 (wf.lt b) b;have b1:Aj ((Ao H,c_ A7 [I q.kd,dv,cv])::H) (Ao H)=some (c_ A7 [I q.kd,dv,cv]):=Aw (by simp);have s:Lat H ((Ao H,c_ A7 [I q.kd,dv,cv])::H) (λu=>u=m):=Lat.cons _ _ _;generalize ((Ao H,c_ A7 [I q.kd,dv,cv])::H:Hp)=i at w1 e b1 s;simp only[BK];have c1:=h2.keep (H':=i) λu y _ b=>e u y b;rw[fA,JQ,AP (p:=2) rfl b1 (by simp)];show Bq Av cv _=_;have w:(AV.v (.bool false))=Bo (decide (A.length≠A.length)):=by simp
 rw[c1.len,w,show(AV.v (.int .i64 0))=I ((0:Nat):Int) from rfl];refine A1g (n:=n+17) (B:=Mm A q.cs) (l:=q.cs) (by omega) hq f C w1 (k.keep e) c1 (λj g M=> ?_) (L+20) 0 A i (by omega) (by omega) rfl (Mb _) (k.keep e) (Lat.refl _ _);have a:=s.trans M (R:= λu=>u=m) (λ_ _ h=>h) (λ_ _ h=>h);rw[En];by_cases he:(Mm A q.cs).length=A.length
 ·rw[IG (by simpa using he)];show Az (Bo true) _ _=_;rw[Cy];rw[Dj he] at c;exact c As j g (PksAt.pks (ls:=[])) a
 ·rw[Iu he];show Az (Bo false) _ _=_;rw[Bj];rw[C4 he] at c;rw[A84 (n:=n) (ex:=[]) (lv:= .v (.slice none 0 0)) F D g.sv (.inl (.inr ⟨rfl,rfl⟩)) (by simp)];exact c _ j g PksAt.pks a
end
end
section
variable {PP:Af->Prop} {F:Option (Nat×AV)->Af}
variable {L n:Nat}
section
variable {H H0 H':Hp} {v pv:AV} {A:List Cd} {K:KV} {x0:Af} {x:AV} {r m:Nat} {q:Pk} {l:List PC} {p:PC}
def mu1 {k:Value} {es:List (Value×AV)} {K:Hp->Af} (h:Aj H r=some (.map false es none)) (b:∀F:Option (Nat×AV)->Af,I3 k es F=F none):Mh (.mp r) k v H K=K (upd H r (.map false (es++[(k,v)]) none)):=by
 have e:Mh (.mp r) k v H K=IJ H r λy=>kU y λes a=>I3 k es λq=>match q with
  |none=>LC H r (.map false (es++[(k,v)]) (uM a)) K
  |some (i,_)=>LC H r (.map false (es.set i (k,v)) a) K:=rfl
 rw[e,Bf h];show I3 k es _=_;rw[b];show LC H r _ K=_;rw[Dh];rfl
abbrev fnR (f:Nat):AV:= .fn (.func f) [] []
abbrev A2O:List (Value×AV):=[(.int .i64 1,fnR CD),(.int .i64 2,fnR Ds),(.int .i64 3,fnR D4)]
def C1d {F:AV->Hp->Af} (wf:Wf H) (k:∀H' t,Aj H' t=some (.map false A2O none)->Lat H H' (λ_=>False)->PP (F (.mp t) H')):
 PP (L4 Aa H λa b=>
  Wk .i64 (AV.v (.int .i64 1)) λg=>Mh a g (AV.fn (.func CD) [] []) b λc=>
  Wk .i64 (AV.v (.int .i64 2)) λh=>Mh a h (AV.fn (.func Ds) [] []) c λe=>
  Wk .i64 (AV.v (.int .i64 3)) λi=>Mh a i (AV.fn (.func D4) [] []) e λf=>F a f):=by
 have em:∀(H:Hp) (K:KV),L4 Aa H K=K (.mp (Ao H)) ((Ao H,.map false [] none)::H):= λH K=>by
  show Ig H (λs=>K (.mp s) ((s,.map false [] (kS Aa.d))::H))=_;rw[BV];rfl
 have kk:∀{z:Int} {F:Value->Af},Wk .i64 (AV.v (.int .i64 z)) F=F (.int .i64 z):= λ{z F}=>r_ rfl;rw[em,kk,mu1 (Aw (by simp)) (λF=>rfl),kk,mu1 (BB (Aw (by simp))) (λF=>rfl),kk,mu1 (BB (BB (Aw (by simp)))) (λF=>rfl)];refine k _ _ (BB (BB (BB (Aw (by simp))))) ⟨λw=>Bn (Bn (Bn (AI w))),by simp only[BC];show Ao H<=Ao H+1;omega,λw u y j _=> ?_⟩;have:=w.lt j;rw[Ag (by omega),Ag (by omega),Ag (by omega)];exact A4 this j
def C1V {t:Nat} {k:Int} {F:AV->Af} (h:Aj H t=some (.map false A2O none)):(Wk .i64 (I k) λa=>YV Aa false (.mp t) a H F)=I3 (.int .i64 k) A2O λf=>match f with|none=>F Aa.zero|some (_,v)=>F v:=by
 show YV Aa false (.mp t) (.int .i64 k) H F=_;show IJ H t _=_;rw[Bf h];show I3 _ A2O _=_
 congr 1
 funext f
 cases f with
 |none=>rfl
 |some p=>obtain⟨_,_⟩:=p;rfl
def C2d:I3 (.int .i64 1) A2O F=F (some (0,fnR CD)):=by kernel_rfl
def C4c:I3 (.int .i64 2) A2O F=F (some (1,fnR Ds)):=by kernel_rfl
def C4b:I3 (.int .i64 3) A2O F=F (some (2,fnR D4)):=by kernel_rfl
def B2g {f:Nat} {ws:List AV} {N:Nat} (h1:(E (L+20)).imp f=true) (h2:(E (L+20)).ne f=false):Cr (E (L+20)) (rt (L+20) N) (fnR f) ws H K=(rt (L+20) N).call f ws H K:=by
 show SD ws [] (λa=>SD [] a λall=>A1r ((E (L+20)).ne f) all H K (@Bool.rec (λ_=>Af) (zpm (E (L+20)) f (rt (L+20) N) all H λv=>K v H) ((rt (L+20) N).call f all H K) ((E (L+20)).imp f)))=_;rw[Jt,Jt,h1,h2];show(rt (L+20) N).call f (ws++[]) H K=_;rw[Wi]
def Rm (M:200000<L) (hg:GOk A) (hq:∀p∈q.cs,p.Ok) (wf:Wf H) (hs:StAt H r m A) (hp:PkS H pv q) (N:q.ds.length<1000) (hd:q.kd=1->q.ds.length<=40) (B:q.cs.length<1000) (b:GOk (D1 A q).1) (k:(D1 A q).1.length<60)
 (e:∀v' H',StAt H' r m (D1 A q).1->PksAt H' v' (D1 A q).2->Lat H H' (λu=>u=m)->K v' H'=x0):(r! L (n+84)).call Bm [.ptr r 0 0,pv] H K=x0:=by
 obtain⟨d,cv,rfl,h1,h2,J⟩:=id hp.at_;rw[K4];unfold Gf Eh GT A0 LW;have o3:([I q.kd,d,cv]:List AV).all AV.one=true:=by
  have a1:=h1.one.2;have a2:=h2.one.2;simp only[pK,l3c,a1,a2];rfl
 rw[Ei o3];have w1:=AI (x:= .cells true A7 [I q.kd,d,cv]) wf;have Y:∀u y,Aj H u=some y->Aj ((Ao H,c_ A7 [I q.kd,d,cv])::H) u=some y:= λu y f=>A4 (wf.lt f) f;have b1:Aj ((Ao H,c_ A7 [I q.kd,d,cv])::H) (Ao H)=some (c_ A7 [I q.kd,d,cv]):=Aw (by simp);have V:Lat H ((Ao H,c_ A7 [I q.kd,d,cv])::H) (λu=>u=m):=Lat.cons _ _ _;generalize P:Ao H=r1 at b1;have:((r1,c_ A7 [I q.kd,d,cv])::H:Hp)=(Ao H,c_ A7 [I q.kd,d,cv])::H:=by rw[P]
 rw[this] at b1⊢;clear this;generalize ((Ao H,c_ A7 [I q.kd,d,cv])::H:Hp)=H1 at w1 Y b1 V;have Z:=hs.keep Y;have p1:=hp.keep Y;have ld:∀{j:Hp} {F:AV->Af},Aj j r1=some (c_ A7 [I q.kd,d,cv])->AF A9 (.ptr r1 0 0) j F=F (.agg [I q.kd,d,cv]):= λ{j F} h=>Bu rfl rfl h;rw[Z.sv.nn];simp only[gT,ld b1,Cn];rw[A4E (n:=n+79) (by omega) p1.pk N B];simp only[Cn,En,SS];by_cases s:q.Right
 ·rw[@decide_eq_true _ (_) s];show Az (Bo false) _ _=_;rw[Bj];refine C1d (PP:= λa=>a=x0) w1 λj t ht X=> ?_;have Q:∀u y,Aj H1 u=some y->Aj j u=some y:= λu y f=>X.keep w1 u y f id;have b2:=Q _ _ b1;have C:=Z.keep Q;have p2:=p1.keep Q;have D:=X.wf w1;have g:=V.trans X (R:= λu=>u=m) (λ_ _ h=>h) (λ_ _ h=>h.elim);rw[fA,JQ];have lk:∀{F:AV->Af},AF Ab (.ptr r1 0 0) j F=F (I q.kd):= λ{F}=>AP (p:=0) rfl b2 (by simp);rw[lk,C1V ht];simp only[ld b2];have c:q.kd=1\/q.kd=2\/q.kd=3:=by
   obtain⟨_,_,_,h⟩:=s;rcases h with⟨_,h|h⟩|⟨_,h⟩
   ·exact .inl h
   ·exact .inr (.inl h)
   ·exact .inr (.inr h)
  unfold D1 at e b k;rw[@if_pos _ (_) s] at e b k;rcases c with c|c|c
  ·rw[Dj c] at e b k;rw[c,C2d,<-c];show Cr (E (L+20)) (r! L (n+83)) (fnR CD) _ _ _=_;rw[B2g rfl rfl];refine A8o (n:=n) hg M D C p2 (hd c) λw i=> ?_;exact e _ w (C.keep λu y f=>i.keep D u y f id) PksAt.pks (g.trans i (λ_ _ h=>h) (λ_ _ h=>h.elim))
  ·have hn:¬q.kd=1:=by omega
   rw[C4 hn,Dj c] at e b k;rw[c,C4c,<-c];show Cr (E (L+20)) (r! L (n+83)) (fnR Ds) _ _ _=_;rw[B2g rfl rfl];refine A5Y (n:=n) hg M D C p2 s.1 λv3 w J i=> ?_;exact e _ w (C.keep λu y f=>i.keep D u y f id) J (g.trans i (λ_ _ h=>h) (λ_ _ h=>h.elim))
  ·have hn:¬q.kd=1:=by omega
   have O:¬q.kd=2:=by omega
   rw[C4 hn,C4 O] at e b k;rw[c,C4b,<-c];show Cr (E (L+20)) (r! L (n+83)) (fnR D4) _ _ _=_;rw[B2g rfl rfl];refine A8r (n:=n) M b hq D C p2 B k λv3 w s3 J i=> ?_;exact e _ w s3 J (g.trans i (λ_ _ h=>h) (λ_ _ h=>h))
 ·rw[@decide_eq_false _ (_) s];show Az (Bo true) _ _=_;rw[Cy];unfold D1 at e;rw[@if_neg _ (_) s] at e;exact e _ H1 Z (PksAt.pks (ls:=[])) V
def A4F (P:200000<L) (V:GOk A) (d:q.Right) (e:q.kd=1) (wf:Wf H) (X:StAt H r m A) (w:PkS H pv q) (Q:q.ds.length<=40)
 (g:∀H',StAt H' r m A->Lat H H' (λu=>u=m)->PP (K (vU (D1 A q).2) H')):PP ((r! L (n+84)).call Bm [.ptr r 0 0,pv] H K):=by
 obtain⟨a,cv,rfl,h1,h2,h3⟩:=id w.at_;rw[K4];unfold Gf Eh GT A0 LW;have o3:([I q.kd,a,cv]:List AV).all AV.one=true:=by
  have a1:=h1.one.2;have a2:=h2.one.2;simp only[pK,l3c,a1,a2];rfl
 rw[Ei o3];have w1:=AI (x:= .cells true A7 [I q.kd,a,cv]) wf;have s:∀u y,Aj H u=some y->Aj ((Ao H,c_ A7 [I q.kd,a,cv])::H) u=some y:= λu y c=>A4 (wf.lt c) c;have b1:Aj ((Ao H,c_ A7 [I q.kd,a,cv])::H) (Ao H)=some (c_ A7 [I q.kd,a,cv]):=Aw (by simp);have B:Lat H ((Ao H,c_ A7 [I q.kd,a,cv])::H) (λu=>u=m):=Lat.cons _ _ _;generalize f:Ao H=r1 at b1;have:((r1,c_ A7 [I q.kd,a,cv])::H:Hp)=(Ao H,c_ A7 [I q.kd,a,cv])::H:=by rw[f]
 rw[this] at b1⊢;clear this;generalize ((Ao H,c_ A7 [I q.kd,a,cv])::H:Hp)=N at w1 s b1 B;have D:=X.keep s;have p1:=w.keep s;have ld:∀{b:Hp} {F:AV->Af},Aj b r1=some (c_ A7 [I q.kd,a,cv])->AF A9 (.ptr r1 0 0) b F=F (.agg [I q.kd,a,cv]):= λ{b F} h=>Bu rfl rfl h;rw[D.sv.nn];simp only[gT,ld b1,Cn];rw[A4E (n:=n+79) (by omega) p1.pk (by omega) (by have:=d.2.1;omega)];simp only[Cn,En,SS];rw[@decide_eq_true _ (_) d];show PP (Az (Bo false) _ _);rw[Bj];refine C1d w1 λb t Y k=> ?_;have i:∀u y,Aj N u=some y->Aj b u=some y:= λu y c=>k.keep w1 u y c id;have b2:=i _ _ b1;have J:=D.keep i;have p2:=p1.keep i;have M:=k.wf w1;have j:=B.trans k (R:= λu=>u=m) (λ_ _ h=>h) (λ_ _ h=>h.elim);rw[fA,JQ];have Z:∀{F:AV->Af},AF Ab (.ptr r1 0 0) b F=F (I q.kd):= λ{F}=>AP (p:=0) rfl b2 (by simp);rw[Z,C1V Y];simp only[ld b2];unfold D1 at g;rw[@if_pos _ (_) d,Dj e] at g;rw[e,C2d,<-e];show PP (Cr (E (L+20)) (r! L (n+83)) (fnR CD) _ _ _);rw[B2g rfl rfl];refine A0e (n:=n) V P M J p2 Q λO C=> ?_;exact g O (J.keep λu y c=>C.keep M u y c id) (j.trans C (λ_ _ h=>h) (λ_ _ h=>h.elim))
end
end
section
variable {w:AV} {H0:Hp}
variable {L n:Nat}
section
variable {gs A:List Cd} {H:Hp} {K:KV} {x x0:AV}
abbrev fY (gs:List Cd):AV:= .fn (.func Dl) [] [.iptr [gV gs]]
def B0h {r0 s e0 it:Nat} {q0:Bool} {c6 w:AV} {r:Hp->Af} {ks:List AM} (M:Vn 6 w w=true) (q:ks.length<1000000)
 (i:∀l v H,l.Perm ks->(l=[]->v=As)->Coll H0 r0 s q0 e0 c6 l v H->r H=some (w,[])) (c:it≠r0/\it≠s/\Ao H0<=it):
 ∀(f:Nat) (es:List (AM×Cd)) (l:List AM) (v:AV) (H:Hp) (o:Option (Value×AV)),es.length<f->(l++es.map Prod.fst).Perm ks->(l=[]->v=As)->Coll H0 r0 s q0 e0 c6 l v H->¬A8 v it->Aj H it=some (.iter (Dc DF es) o)->
 Bz (L+20) (r! L (n+1)) K r f (.yl s) (.it it) H=some (w,[]):=by
 intro f
 induction f with
 |zero=>intro es l v H o h;omega
 |succ f ih=>
  intro es l v H o D m C hc hv p;rw[Fh];unfold Ca;refine XM (f:=DF) M p (λe=> ?_) (λa e b he=> ?_)
  ·subst e;rw[EX,Bj];exact i l v H (by simpa using m) C hc
  ·subst he;have g:=hc.it (.iter (Dc DF (a++b)) (some (.string ⟨⟨e.1⟩⟩,DF e.2))) c hv;have d:=Lv (es:=Dc DF (a++b)) (o:=some (.string ⟨⟨e.1⟩⟩,DF e.2)) p;have k:(l++(a++e::b).map Prod.fst).length=ks.length:=m.length_eq;simp at k;have u:sF (.string ⟨⟨e.1⟩⟩)=S e.1:=rfl;rw[EX,Cy,No d,EX,u];refine E' g (by omega) λN t j F hr=> ?_;rw[En];show Az (.v (.bool false)) _ _=_;rw[Bj];refine ih (a++b) (l++[e.1]) N t _ (by simp at D⊢;omega) ?_ (by simp) j (λJ=> ?_) (F it _ c.1 c.2.1 hv d)
   ·refine List.Perm.trans ?_ m;simp only[YN,WR,dW];refine List.Perm.append_left l ?_;show(e.1::(a.map Prod.fst++b.map Prod.fst)).Perm _;exact List.perm_middle.symm
   ·have y:=hr it J;have B:=g.wf.lt d;rw[BC] at y B;omega
def A2C (C:Vn 6 w w=true) (M:gs.length<=100) (J:100<L) (wf:Wf H0)
 (D:∀l v H,l.Perm (gs.map Cd.id)->(l=[]->v=As)->NewSl H0 l v H->K v H=some (w,[])):
 (r! L (n+4)).call EC [fY gs] H0 K=some (w,[]):=by
 rw[GB];unfold EB;rw[D5];unfold Cz;simp only[BK];rw[lQ (by rfl),Vw,XA2];unfold Ci;simp only[BK];have w1:=AI (x:= .cells true A2 [As]) wf;have c:=Aw (H:=H0) (x:= .cells true A2 [As]) (by simp);have t:Ao ((Ao H0,c_ A2 [As])::H0)=Ao H0+1:=rfl;have i:Wf ((Ao H0+1,Ny (.ptr (Ao H0) 0 0) (fY gs) (some none))::(Ao H0,c_ A2 [As])::H0):=AI (x:=Ny (.ptr (Ao H0) 0 0) (fY gs) (some none)) w1;have e:Aj ((Ao H0+1,Ny (.ptr (Ao H0) 0 0) (fY gs) (some none))::(Ao H0,c_ A2 [As])::H0) (Ao H0+1)=some (Ny (.ptr (Ao H0) 0 0) (fY gs) (some none)):=Aw (H:=((Ao H0,c_ A2 [As])::H0)) (x:=Ny (.ptr (Ao H0) 0 0) (fY gs) (some none)) (by simp[Ny]);have ol:∀u y,Aj H0 u=some y->Aj ((Ao H0+1,Ny (.ptr (Ao H0) 0 0) (fY gs) (some none))::(Ao H0,c_ A2 [As])::H0) u=some y:= λu y a=>by
  have a1:=A4 (x:= .cells true A2 [As]) (wf.lt a) a;exact A4 (w1.lt a1) a1
 have k:∀{H:Hp} {K:AV->Af},AF Ah (.iptr [gV gs]) H K=K (gV gs):= λ{H K}=>O0 rfl;rw[k,Wy];have d:Aj ((Ao H0+1,Ny (.ptr (Ao H0) 0 0) (fY gs) (some none))::(Ao H0,c_ A2 [As])::H0) (Ao H0)=some (c_ A2 [As]):=A4 (w1.lt c) c;show Bz (L+20) (r! L (n+1)) _ _ (L+20) (.yl (Ao H0+1)) (.it (Ao ((Ao H0+1,Ny (.ptr (Ao H0) 0 0) (fY gs) (some none))::(Ao H0,c_ A2 [As])::H0))) ((Ao ((Ao H0+1,Ny (.ptr (Ao H0) 0 0) (fY gs) (some none))::(Ao H0,c_ A2 [As])::H0),.iter (Dc DF (gE gs)) none)::((Ao H0+1,Ny (.ptr (Ao H0) 0 0) (fY gs) (some none))::(Ao H0,c_ A2 [As])::H0))=_;generalize f:((Ao H0+1,Ny (.ptr (Ao H0) 0 0) (fY gs) (some none))::(Ao H0,c_ A2 [As])::H0:Hp)=b at i e ol d;have r:Ao b=Ao H0+2:=by rw[<-f];rfl
 have F:=AI (x:= .iter (Dc DF (gE gs)) none) i;have up:∀u y,Aj b u=some y->Aj ((Ao b,Row.iter (Dc DF (gE gs)) none)::b) u=some y:= λu y j=>A4 (i.lt j) j;have g:Aj ((Ao b,Row.iter (Dc DF (gE gs)) none)::b) (Ao b)=some (.iter (Dc DF (gE gs)) none):=Aw (by simp);have q:(gE gs).length=gs.length:=by simp[gE]
 refine B0h (n:=n) (H0:=H0) (r0:=Ao H0) (s:=Ao H0+1) (it:=Ao b) (q0:=true) (e0:=A2) (c6:=fY gs) (ks:=gs.map Cd.id) C (by rw[QI];omega) ?_ (by omega) (L+20) (gE gs) [] As _ none (by omega) (by rw[l3d,Wp]) (λ_=>rfl)
  ⟨up _ _ d,.inl ⟨rfl,rfl,rfl⟩,up _ _ e,λu ⟨_,_,_,h⟩=>(by cases h),F,λu y a=>up u y (ol u y a),by omega,by omega,by omega,wf⟩ (λ⟨_,_,_,h⟩=>(by cases h)) g
 intro l v H B m hc;show IJ H (Ao H0+1) _=_;rw[Bf hc.lp];show LC H (Ao H0+1) .gone _=_;rw[Dh];have hr:Aj (upd H (Ao H0+1) .gone) (Ao H0)=some (c_ A2 [v]):=by rw[Ag (by omega)];exact hc.at_
 show AF Ac (.ptr (Ao H0) 0 0) (upd H (Ao H0+1) .gone) _=_;rw[AP (p:=0) rfl hr (by simp)];refine D _ _ _ B m ⟨?_,λu a=>(hc.new u a).2.2,Bn hc.wf,λu y a=> ?_,?_⟩
 ·exact hc.sl.lat hc.wf (Lat.upd H _ _ (P:= λu=>u=Ao H0+1) rfl) (λu a=>(hc.new u a).2.1)
 ·have:=wf.lt a;rw[Ag (by omega)];exact hc.keep u y a
 ·rw[BC];have:=hc.wf.lt hc.at_;omega
def B2A {K:AV->Af}:An (r! L (n+5)) Cu [gV gs] H0 K=K (fY gs):=by
 refine Ky (λK a=> ?_) (Am (q:=false) gL AJ);rw[show n+5=(n+4)+1 from rfl,FQ];unfold Ct Ip;rw[uB];exact a _ _ ⟨true,λK=>by kernel_rfl⟩
def uP (d:GOk A):(Nx A).Perm (Eo A):=by
 have hn:=Rk (S:=A) d.ids;have hm:((Nx A).map Cd.id).Nodup:=by rw[uQ d.ids];exact(NN (gs:=Eo A)).1.nd
 exact(l37 (List.Pairwise.of_map Cd.id (λa b h e=>h (congrArg Cd.id e)) hm) (List.Pairwise.of_map Cd.id (λa b h e=>h (congrArg Cd.id e)) hn)).2 λc=>A1X d.ids
def B9r {D:Nat} {ps:List AM}:Fx true (D+3) (DJ ps) (DJ ps) H false:=by cases ps<;>exact λK=>by kernel_rfl
def A0d (a:GOk A) (i:200000<L) {w:AV×Hp} (h:∀H,K (.agg [I 1,DJ (EG (Eo A)),As]) H=some w):(r! L (n+83)).call CE [.iptr [.imap (Dc DF (gE A))]] [] K=some w:=by
 rw[Sg];unfold J5 Ip;have e:∀{H:Hp},mB H (.iptr [.imap (Dc DF (gE A))]) A:= λ{H}=> .inl rfl;have f:∀{F:KV},Bx A7 A9 [] F=F (.ptr 0 0 0) [(0,c_ A7 [I 0,As,As])]:= λ{F}=>B1 (cs:=[I 0,As,As]) rfl;rw[f,(e (H:=[(0,c_ A7 [I 0,As,As])])).nn,Bj,A8C (n:=n) a i e];have d:=uP a;have b:=R' a d;have j:∀{H:Hp} {F:AV->Af},An (r! L (n+82)) Uj [oN (Nx A)] H F=F (DJ (EG (Eo A))):= λ{H F}=>by
  rw[AQ (B2B (L:=L) (n:=n+2) b (by omega) (λc hc=>by have:=WJ (b.ok c hc);omega) (YK _)) (Am ((YK _).fx H) AJ),A3A (Rk a.ids) d]
 rw[j];have g:∀{F:AV->Af},BZ A9 [(0,1,(AV.v (.int .i64 1))),(1,1,DJ (EG (Eo A)))] F=F (.agg [I 1,DJ (EG (Eo A)),As]):= λ{F}=>by
  cases EG (Eo A)<;>kernel_rfl
 have m:([I 1,DJ (EG (Eo A)),As]:List AV).all AV.one=true:=by
  cases EG (Eo A)<;>rfl
 rw[g,Cc (cs:=[I 0,As,As]) (vs:=[I 1,DJ (EG (Eo A)),As]) rfl rfl rfl m];have k:Aj (upd [(0,c_ A7 [I 0,As,As])] 0 (c_ A7 [I 1,DJ (EG (Eo A)),As])) 0=some (c_ A7 [I 1,DJ (EG (Eo A)),As]):=BB (x:= .cells true A7 [I 0,As,As]) rfl;rw[Bu rfl rfl k];exact h _
def A4G (g:GOk A) (f:200000<L) (k:mB H x A) {F:AV->Af}:KC (r! L (n+83)) CE [x] H F=F (.agg [I 1,DJ (EG (Eo A)),As]):=by
 rcases k with rfl|⟨r,m,rfl,h1,h2⟩
 ·show An (r! L (n+83)) CE [.iptr [.imap (Dc DF (gE A))]] H F=_;exact CT.z (λK i=>A0d g f λH=>i _ H ⟨false,Lx (D:=11) (Am (q:=false) C7 (Am (q:=false) (B9r (D:=8)) (Am (q:=false) C7 AJ)))⟩) (Am (q:=false) QV AJ)
 ·have e:KC (r! L (n+83)) CE [.ptr r 0 0] H F=IJ H r λx=>eS x λq _ cs=>match q,cs with
   |true,[.mp m]=>IJ H m λy=>oM y λb=>ck (b.all λp=>iF 3 p.2) (Aq ((r! L (n+83)).call CE [.iptr [.imap b]] [] λv c=>Nl c depth v λd=>some (d,[])) F)
   |_,_=>none:=rfl
  rw[e,Bf h1];show(IJ H m λy=>oM y λb=>ck (b.all λp=>iF 3 p.2) (Aq ((r! L (n+83)).call CE [.iptr [.imap b]] [] λv c=>Nl c depth v λd=>some (d,[])) F))=_;rw[Bf h2];show ck ((Dc DF (gE A)).all λp=>iF 3 p.2) _=_;rw[B1B,A0d (w:=(.agg [I 1,DJ (EG (Eo A)),As],[])) g f λH=> ?_]
  ·rfl
  ·rw[show depth=11+1 from rfl];have h:∀F:AV->Af,Nl H (11+1) (.agg [I 1,DJ (EG (Eo A)),As]) F=Sv (Nl H 11) [I 1,DJ (EG (Eo A)),As] λl=>F (.agg l):= λF=>rfl;rw[h,B07];have:=jK (q:=SC) (λ_=>rfl) (EG (Eo A));cases j:EG (Eo A) with
   |nil=>rfl
   |cons a l=>
    rw[j] at this;show(fl1 (I 1)&&((AG (a::l)).all SC&&(fl1 As&&true)))=true;rw[this];rfl
end
end
section
variable {L n:Nat}
section
variable {gs A out:List Cd} {H:Hp} {K:KV} {x w:AV}
def A4B {s:AM}:CS (r! L (n+2)) EV [S s,.iptr [.imap (Dc DF (gE out))]] (Bo (decide (s∈out.map Cd.id))):=by
 intro K d;rw[NX];unfold GR Lo;have c:∀{F:AV->Af},AF Ah (.iptr [.imap (Dc DF (gE out))]) [] F=F (.imap (Dc DF (gE out))):= λ{F}=>O0 rfl;rw[c];refine A3p (b:=gE out) (F:= λe _ a=>K e a) (λK=>r_ rfl) λf _=> ?_;rw[gM];exact d _ _ λb=>⟨false,C7⟩
def Xr (A:List Cd):AV:=if A=[] then As else Ls (Xq A)
def A83:SA (Xq A) (Xr A):=by
 unfold Xr;by_cases h:A=[]
 ·rw[Dj h];subst h;exact .inr ⟨by simp[Xq,DQ],rfl⟩
 ·rw[C4 h];exact .inl rfl
def B2m (hn:(A.map Cd.id).Nodup) (b:out.Perm (Eo A)):(DQ (A.map Cd.id)).filter (λs=> !decide (s∈out.map Cd.id))=Xq A:=by
 refine I8 ?_ ((Dy _).filter _) (Dy _);refine List.Perm.trans ?_ (Be _).symm;refine((Be _).filter _).trans ?_;have e:(A.map Cd.id).filter (λs=> !decide (s∈out.map Cd.id))=(A.map Cd.id).filter λx=>@decide (¬Cmp A x) (Classical.propDecidable _):=by
  refine List.filter_congr λs c=> ?_;have hc:s∈out.map Cd.id↔Cmp A s:=by rw[(b.map _).mem_iff];exact L8
  by_cases h:Cmp A s
  ·rw[Iu (hc.2 h),@decide_eq_false _ (_) (λa=>a h)];rfl
  ·rw[IG (λa=>h (hc.1 a)),@decide_eq_true _ (_) h];rfl
 rw[e]
def C1t {l:List AM} {r:Nat} {q:Bool} {tl:List AV} {D:Nat} {b:Bool} (h2:Aj H r=some (.cells q Ar (AG l++tl))):Fx b (D+1) (.sl 1 r 0 l.length) (Ls l) H true:=by
 refine Wq (q':=false) h2 (by rw[EY,AX];omega) ?_;have:((AG l++tl).drop 0).take (l.length*1)=AG l:=by
  rw[pM,pL];have:=List.take_left (l₁:=AG l) (l₂:=tl);rw[AX] at this;exact this
 rw[this];exact UX l
def B2n (Q:Vn 6 w w=true) (C:GOk A) (Y:200000<L) (N:∀v H,(∀b,∃q,Fx b depth v (Xr A) H q)->K v H=some (w,[])):
 (r! L (n+83)).call CM [.iptr [.imap (Dc DF (gE A))]] [] K=some (w,[]):=by
 rw[Qv];unfold IN Eh;have hx:mB [] (.iptr [.imap (Dc DF (gE A))]) A:= .inl rfl;rw[hx.nn,Bj];refine qW (n:=n+78) Q C (by omega) Fk λout m c hp hm _ w1 _ n1=> ?_;rw[A1M (v:= .map none) rfl];have w2:=AI (x:= .cells true Au [.v (.map none)]) w1;have b2:Aj ((Ao c,c_ Au [.v (.map none)])::c) (Ao c)=some (c_ Au [.v (.map none)]):=Aw (by simp);rw[Ed (cs:=[.v (.map none)]) b2 (by simp) rfl rfl rfl];have m2:=A4 (x:= .cells true Au [.v (.map none)]) (w1.lt hm) hm;have p:=Bn (r:=Ao c) (y:= .cells true Au ([AV.v (.map none)].set 0 (.mp m))) w2;have B:Aj (upd ((Ao c,c_ Au [.v (.map none)])::c) (Ao c) (c_ Au ([AV.v (.map none)].set 0 (.mp m)))) (Ao c)=some (c_ Au [.mp m]):=BB b2;have m3:Aj (upd ((Ao c,c_ Au [.v (.map none)])::c) (Ao c) (c_ Au ([AV.v (.map none)].set 0 (.mp m)))) m=some (.map false (Dc DF (gE out)) none):=by
  rw[Ag (by have:=w1.lt hm;omega)];exact m2
 generalize hb:Ao c=b at B m3;rw[hb] at p;generalize upd ((b,c_ Au [.v (.map none)])::c) b (c_ Au ([AV.v (.map none)].set 0 (.mp m)))=J at p B m3⊢;rw[A06,B2A (n:=n+77),Hh];unfold ET;have Z:=C.len;refine A2C (n:=n+77) Q (by omega) (by omega) p λl v H4 d M hc=> ?_;refine A2u (n:=n+77) p (by rw[d.length_eq,QI];omega) M hc λV a=> ?_;have e:DQ l=DQ (A.map Cd.id):=I8 ((Be l).trans (d.trans (Be _).symm)) (Dy l) (Dy _);rw[e] at a;have j:∀u,A8 v u->Ao J<=u:=a.new;have g:∀(D:Nat) {f},Lat V f (A8 v)->Fx true (D+5) (.ptr b 0 0) (.iptr [.imap (Dc DF (gE out))]) f true:= λD {f} k=>by
  have kk:∀u y,Aj J u=some y->Aj f u=some y:= λu y O=>k.keep a.wf u y (a.keep u y O) λhh=>by have:=j u hh;have:=p.lt O;omega
  exact Wr (D:=D+4) (kk _ _ B) (Am (q:=true) (q':=false) (A3B (D:=D) (kk _ _ m3)) AJ)
 refine A8v (n:=n+80) (P:= λs=>decide (s∈out.map Cd.id)) a.wf a.sl.rq (by rw[(Be _).length_eq,QI];omega) Y ⟨.fn (.func EV) [] [.iptr [.imap (Dc DF (gE out))]],_,yG (D:=11) (Am (g 6 (Lat.refl _ _)) AJ),λs K=> ?_⟩ (λf R s K=> ?_) λv' f F i R=> ?_
 ·rw[zP rfl rfl];exact AQ (A4B (n:=n+78)) (Am (q:=false) C7 (Am (q:=false) QV AJ))
 ·rw[zP rfl rfl];exact AQ (A4B (n:=n+79)) (Am (q:=false) C7 (Am (g 7 R) AJ))
 ·rw[B2m C.ids hp] at F;by_cases t:A=[]
  ·have hv:v=As:=M (by subst t;exact mL (by rw[d.length_eq];rfl));rcases F with⟨rfl,h⟩|⟨r,q,tl,rfl,h⟩
   ·refine N _ _ λb=>⟨false,?_⟩
    unfold Xr;rw[Dj t];exact C7
   ·have:=(i r).1 ⟨_,_,_,rfl⟩;rw[hv] at this;obtain⟨_,_,_,h⟩:=this;cases h
  ·rcases F with⟨rfl,h⟩|X
   ·rcases a.sl with⟨rfl,h1,h2⟩|⟨r,q,rfl,h2,_⟩
    ·have:(DQ (A.map Cd.id)).length=A.length:=by rw[(Be _).length_eq,QI]
     exact absurd (mL (by omega)) t
    ·have:=(i r).2 ⟨_,_,_,rfl⟩;obtain⟨_,_,_,h⟩:=this;cases h
   ·obtain⟨r,q',tl,rfl,h⟩:=X;refine N _ _ λb=>⟨true,?_⟩
    unfold Xr;rw[C4 t];exact C1t h
def A82:pl 6 (Xr A)=true:=by
 unfold Xr;by_cases h:A=[]
 ·rw[Dj h];rfl
 ·rw[C4 h];exact jK (q:=pl 5) (λ_=>rfl) _
def jD (d:GOk A) (c:200000<L) (e:mB H x A) {F:AV->Af}:An (r! L (n+83)) CM [x] H F=F (Xr A):=by
 obtain⟨q1,a⟩:=e.fx (D:=7);exact AQ (λK b=>B2n (SP 6 _ A82) d c b) (Am a AJ)
end
end
section
variable {L n:Nat}
def A7k (z:Int) (i:Nat):Bool:=decide (((pk z 1048576).fdiv (2^i)).tmod 2=1)
def PY (z:Int):Nat->List Cd->List Cd
 |_,[]=>[]
 |i,c::l=>if A7k z i then c::PY z (i+1) l else PY z (i+1) l
def ZQ {z:Int} {i:Nat} {c:Cd} {l:List Cd}:PY z i (c::l)=if A7k z i then c::PY z (i+1) l else PY z (i+1) l:=rfl
def xU {z:Int} {l:List Cd}:∀{i:Nat},(PY z i l).Sublist l:=by
 induction l with
 |nil=>intro i;exact List.Sublist.refl _
 |cons c l ih=>
  intro i;unfold PY;split
  ·exact(ih (i:=i+1)).cons_cons c
  ·exact(ih (i:=i+1)).cons c
section
variable {H H0 H':Hp} {v a:AV} {gs A:List Cd} {K:KV} {x0:Af} {r m:Nat} {z:Int}
def StAt.kp (h:StAt H r m A) (k:Lat H H' (λ_=>False)) (wf:Wf H):StAt H' r m A:=h.keep λu y b=>k.keep wf u y b id
theorem jJ {k:AV->Hp->Af} (C:40000<L) (f:GOk gs) (hz:Le z) (s:LA gs a) (N:∀H',StAt H' r m (PY z 0 gs)->Lat H0 H' (λu=>u=m)->k (.ptr r 0 0) H'=x0):
 ∀(fuel i:Nat) (b:List Cd) (H:Hp),gs.length<fuel+i->i<=gs.length->b++PY z i (gs.drop i)=PY z 0 gs->(∀c∈b,c∈gs.take i)->b.length<=i->Wf H->StAt H r m b->Lat H0 H (λu=>u=m)->
  Qy (L+20) (r! L (n+66)) K k fuel a (I z) (.ptr r 0 0) (I i) H=x0
 |0,i,b,H,h1,h2,_,_,_,_,_,_=>by omega
 |fuel+1,i,b,H,h1,h2,d,B,Z,wf,t,D=>by
  rw[fV];unfold Qz Df A0 HQ;have X:=f.len;rw[s.len];by_cases g:i<gs.length
  ·rw[FR (by omega),Cy];have Y:∀{H:Hp} {F:AV->Af},An (r! L (n+66)) Rb [I z,(AV.v (.int .i64 1048576))] H F=F (I (pk z 1048576)):= λ{H F}=>(A9L (n:=n+65) hz (by decide) (by decide)) H F;have q:∀{F:AV->Af},Go.Abs.Ap Ab .rem (I ((pk z 1048576).fdiv (2^i))) (AV.v (.int .i64 2)) F=F (I (((pk z 1048576).fdiv (2^i)).tmod 2)):= λ{F}=>Vd (by decide);rw[Y,B5n (by omega),q,CP];have O:gs.drop i=gs[i]::gs.drop (i+1):=vA g;rw[O] at d;rw[ZQ] at d;by_cases hb:((pk z 1048576).fdiv (2^i)).tmod 2=1
   ·have e:A7k z i=true:=Iu hb;rw[Dj e] at d;simp only[Iu hb,gT,Cn,s.ia g,A3S];have J:gs[i].id∉b.map Cd.id:= λh=>by
     obtain⟨c,hc,he⟩:=Ma.1 h;have j:=f.ids;rw[<-l3a i gs,YN,l38] at j;exact j.2.2 _ (List.mem_map_of_mem (B c hc)) _ (List.mem_map_of_mem (by rw[O];exact List.mem_cons_self)) he
    have M:(PC.c gs[i]).Ok:=⟨f.ok _ (Qe g),f.nd _ (Qe g)⟩
    have Q:add1 b (.c gs[i])=(b++[gs[i]],true,0):=uU J;have put:∀{F:KV},(∀H',StAt H' r m (b++[gs[i]])->Lat H H' (λu=>u=m)->F (I 0) H'=x0)->Ef ((r! L (n+66)).call EW [.ptr r 0 0,.agg gs[i].cs] H λv H=>some (v,H)) F=x0:= λ{F} V=>
     A8i (n:=n) (p:= .c gs[i]) (K:= λv H=>some (v,H)) (P:= λa=>Ef a F=x0) C M wf t (by omega) λy x w=>by
      rw[Q] at x⊢;exact V y x w
    refine put λy x w=> ?_;have R:∀{F:AV->Af},Go.Abs.Ap Ab .neq (I 0) (AV.v (.int .i64 0)) F=F (Bo false):= λ{F}=>by kernel_rfl
    simp only[Cn,R,UH,Bj];rw[Dg (by omega)];refine jJ C f hz s N fuel (i+1) (b++[gs[i]]) y (by omega) (by omega) (by rw[<-d];simp) (λc hc=> ?_) (by simp;omega) (w.wf wf) x (D.trans w (λ_ _ h=>h) (λ_ _ h=>h));rw[kY g];rcases Zs.1 hc with hc|hc
    ·exact List.mem_append_left _ (B c hc)
    ·exact List.mem_append_right _ hc
   ·have e:A7k z i=false:=IG hb;rw[e] at d;simp only[IG hb,dF,gU,gT,Cn,SS,UH,Bj];rw[Dg (by omega)];refine jJ C f hz s N fuel (i+1) b H (by omega) (by omega) (by simpa using d) (λc hc=> ?_) (by omega) wf t D;have:=B c hc;rw[kY g];exact List.mem_append_left _ this
  ·rw[FP (by omega),Bj];rw[List.drop_of_length_le (by omega)] at d;have d:b++[]=PY z 0 gs:=d;rw[Wi] at d;rw[d] at t;exact N H t D
def eG (f:40000<L) (d:GOk gs) (hz:Le z) (g:LA gs a) (wf:Wf H) (i:∀r m H',StAt H' r m (PY z 0 gs)->Ao H<=m->Lat H H' (λ_=>False)->K (.tup [.ptr r 0 0,Bo true]) H'=x0):
 (r! L (n+67)).call JS [a,I z] H K=x0:=by
 rw[kN];unfold Si A0 LW HQ;rw[B5j (n:=n+65)];obtain⟨e,w1,k1⟩:=A9X wf;rw[e.sv.nn,Bj];simp only[BK];have j:Lat H ((Ao H+1,c_ Du [.mp (Ao H)])::(Ao H,.map false [] none)::H) (λu=>u=Ao H):=⟨λ_=>w1,by show Ao H<=Ao H+1+1;omega,λ_ u y b _=>k1 u y b⟩
 have h:=d.len;refine jJ (n:=n) (H0:=H) f d hz g (λH' k c=> ?_) (L+20) 0 [] _ (by omega) (by omega) rfl (by simp) (by simp) w1 e j;exact i _ _ H' k (Mb _) ⟨c.wf,c.nx,λw u y b _=>c.keep w u y b (by have:=w.lt b;omega)⟩
end
end
section
variable {L n:Nat}
section
variable {H H0 H':Hp} {v a:AV} {gs A B:List Cd} {K:KV} {x0:Af} {r m:Nat} {z:Int} {x y:AV} {ss tt:List AM}
theorem B1o {t e:AV} {k7:Hp->Af} (k:40000<L) (j:iW H t ss) (d:iW H e tt) (c:ss.length<900) (u:tt.length<900) (q:∀b:Bool,b=decide (∀s∈tt,s∈ss)->K (Bo b) H=x0) (p:(∀s∈tt,s∈ss)->k7 H=x0):
 ∀(fuel i:Nat),tt.length<fuel+i->i<=tt.length->(∀s∈tt.take i,s∈ss)->Q6 (L+20) (r! L (n+2)) K k7 fuel t e (I i) H=x0
 |0,i,h1,h2,_=>by omega
 |fuel+1,i,h1,h2,f=>by
  rw[fW];unfold Q7 Iv A0 HQ;rw[d.len];by_cases g:i<tt.length
  ·rw[FR (by omega),Cy,d.get g,B5l (n:=n) j c k,En];by_cases hm:tt[i]∈ss
   ·rw[Iu hm];show Az (Bo false) _ _=_;rw[Bj,Dg (by omega)];refine B1o k j d c u q p fuel (i+1) (by omega) (by omega) λs c=> ?_;rw[kY g] at c;rcases Zs.1 c with c|c
    ·exact f s c
    ·rw[Ur] at c;rw[c];exact hm
   ·rw[IG hm];show Az (Bo true) _ _=_;rw[Cy];exact q false (IG λh=>hm (h _ (Qe g))).symm
  ·rw[FP (by omega),Bj];rw[W! (by omega)] at f;exact p f
def B6z (g:GOk A) (e:GOk B) (i:200000<L):CS (r! L (n+84)) Gv [.iptr [.imap (Dc DF (gE A))],.iptr [.imap (Dc DF (gE B))]] (Bo (decide (∀s∈(Nx B).map Cd.id,s∈(Nx A).map Cd.id))):=by
 intro K f;rw[kO];unfold Sj A0 LW;simp only[BK];refine A2z (n:=n) g i (.inl rfl) Fk λv1 p c j=> ?_;refine A2z (n:=n) e i (.inl rfl) c.wf λt q d k=> ?_;have len:∀{A:List Cd},GOk A->((Nx A).map Cd.id).length<900:= λ{A} h=>by
  have:=(R' h (uP h)).len;rw[QI];omega
 refine B1o (n:=n+81) (by omega) ((iW.keep (.inr (c.sat λh=>j (List.map_eq_nil_iff.1 h))) d.keep)) (.inr (d.sat λh=>k (List.map_eq_nil_iff.1 h))) (len g) (len e) (λb hb=> ?_) (λh=> ?_) (L+20) 0 (by have:=len e;omega) (by omega) (by simp)
 ·rw[hb];exact f _ _ λb=>⟨false,C7⟩
 ·have:=Iu h;rw[this] at f⊢;exact f _ _ λb=>⟨false,C7⟩
def qT (d:GOk A) (e:GOk B) (f:200000<L) (g:mB H x A) (h:mB H y B) {F:AV->Af}:An (r! L (n+84)) Gv [x,y] H F=F (Bo (decide (∀s∈(Nx B).map Cd.id,s∈(Nx A).map Cd.id))):=by
 obtain⟨q1,b⟩:=g.fx (D:=7);obtain⟨q2,c⟩:=h.fx (D:=7);exact AQ (B6z d e f) (Am b (Am c AJ))
end
end
section
variable {F:AV->Af} {i:Nat}
variable {L n:Nat}
section
variable {H H0 H':Hp} {v a:AV} {l gs A B:List Cd} {K:KV} {x0:Af} {r m:Nat} {z:Int} {x y:AV} {ps:PV} {ws:List Pk}
def B19 (h:i<m):Dw AB (.sl 3 r 0 m) (I (i:Int)) F=F (.ptr r (i*3) 0):=by
 have b:Dw AB (.sl 3 r 0 m) (I (i:Int)) F=iN (i:Int) λn=>ck (Nat.blt n m) (fN (Nat.add 0 (Nat.mul n 3)) λp=>F (.ptr r p 0)):=rfl;rw[b,JW,DT];have h1:Nat.blt i m=true:=by rw[Wj];exact h
 have h2:Nat.add 0 (Nat.mul i 3)=i*3:=JQ _;rw[h1,h2];rfl
def F! {tl:List AV} (c:i<ps.length):(ps.flatMap pvC++tl).drop (i*3)=pvC ps[i]++((ps.drop (i+1)).flatMap pvC++tl):=by
 have b:ps=ps.take i++ps[i]::ps.drop (i+1):=by rw[<-vA c,l3a]
 conv=>lhs;rw[b]
 have d:((ps.take i).flatMap pvC).length=i*3:=by rw[B8H,l0h];congr 1;omega
 rw[l2m,dW,<-d,List.drop_left,pP,dW]
def wZ.keep (h:wZ H v ps) (k:∀u y,Aj H u=some y->Aj H' u=some y):wZ H' v ps:=by
 rcases h with h|h|⟨r,q,b,rfl,h⟩
 ·exact .inl h
 ·exact .inr (.inl h)
 ·exact .inr (.inr ⟨r,q,b,rfl,k _ _ h⟩)
def wZ.len (h:wZ H v ps):Bq AB v F=F (I ps.length):=by
 rcases h with⟨rfl,rfl⟩|rfl|⟨_,_,_,rfl,_⟩<;>exact r_ rfl
def wZ.ld (h:wZ H v ps) (b:i<ps.length):(Dw AB v (I i) λu=>AF A9 u H F)=F (.agg (pvC ps[i])):=by
 rcases h with⟨rfl,rfl⟩|rfl|⟨r,q,d,rfl,h⟩
 ·simp at b
 ·rw[WH (f:=pvC) rfl (λ_=>rfl) b];exact r_ rfl
 ·rw[B19 b];have e:AF A9 (.ptr r (i*3) 0) H F=IJ H r λx=>JV x λ_ cs=>E8 3 (Di (Nat.add (i*3) 0) cs) λc=>F (.agg c):=r_ rfl;rw[e,Bf h];show E8 3 (Di (i*3+0) (ps.flatMap pvC++d)) (λc=>F (.agg c))=_;rw[Nat.add_zero,C6,F! b];exact r_ rfl
theorem wZ.cs (h:wZ H v ps) (b:i<ps.length):(Dw AB v (I i) λu=>CV 2 u λw=>AF Av w H F)=F ps[i].2.2:=by
 rcases h with⟨rfl,rfl⟩|rfl|⟨r,q,c,rfl,h⟩
 ·simp at b
 ·rw[WH (f:=pvC) rfl (λ_=>rfl) b];exact r_ rfl
 ·rw[B19 b,fA];have e:AF Av (.ptr r (i*3+2) 0) H F=IJ H r λx=>JV x λ_ cs=>hdK (Di (Nat.add (i*3+2) 0) cs) F:=r_ rfl;rw[e,Bf h];show hdK (Di (i*3+2+0) (ps.flatMap pvC++c)) F=_;rw[Nat.add_zero,C6,<-l1a,F! b];exact r_ rfl
theorem PksAt.keep (h:PksAt H v ws) (k:∀u y,Aj H u=some y->Aj H' u=some y):PksAt H' v ws:=by
 obtain⟨ps,h1,h2,b⟩:=h.at_;exact⟨ps,h1,λp c=>(h2 p c).keep k,b.keep k⟩
theorem PksAt.len (h:PksAt H v ws):Bq AB v F=F (I ws.length):=by
 obtain⟨ps,rfl,h2,b⟩:=h.at_;rw[b.len,QI]
theorem PksAt.ld (h:PksAt H v ws) (c:i<ws.length) (e:∀w,PkS H w ws[i]->F w=x0):(Dw AB v (I i) λu=>AF A9 u H F)=x0:=by
 obtain⟨ps,rfl,h2,d⟩:=h.at_;rw[QI] at c;rw[d.ld c];have b:=h2 _ (Qe c);refine e _ ⟨ps[i].2.1,ps[i].2.2,?_,?_,?_,?_⟩
 ·rw[l2o];rfl
 ·rw[l2o];exact b.ds
 ·rw[l2o];exact b.cs
 ·rw[l2o];exact b.nl
theorem PksAt.cs (h:PksAt H v ws) (b:i<ws.length):∃cv,ZC H cv ws[i].cs/\∀F:AV->Af,(Dw AB v (I i) λu=>CV 2 u λw=>AF Av w H F)=F cv:=by
 obtain⟨ps,rfl,h2,c⟩:=h.at_;rw[QI] at b;have d:=h2 _ (Qe b);refine⟨ps[i].2.2,?_,λF=>c.cs b⟩;rw[l2o];exact d.cs
theorem C_ {pv e f h M q iv:AV} {ss:List AM} {pcs:List PC} {k:AV->AV->AV->AV->AV->AV->AV->AV->AV->Hp->Af} (s:40000<L) (w:PksAt H pv ws) (D:0<ws.length) (hc:ws[0].cs=pcs) (b:∀p∈pcs,p.Ok) (c:pcs.length<1000) (t:iW H iv ss) (C:ss.length<900) {B:Nat} (N:B<100000)
 (J:∀g d:Nat,g<=B+pcs.length->d<=B+pcs.length->k e f h (I g) (I d) q pv iv (I pcs.length) H=x0):
 ∀(fuel j g d:Nat),pcs.length<fuel+j->j<=pcs.length->g<=B+j->d<=B+j->Ub (L+20) (r! L (n+84)) K k fuel e f h (I g) (I d) M q pv iv (I j) H=x0
 |0,j,g,d,h1,h2,_,_=>by omega
 |fuel+1,j,g,d,h1,h2,Q,R=>by
  subst hc;obtain⟨cv,c1,c2⟩:=w.cs D;have P:(AV.v (.int .i64 0))=I ((0:Nat):Int):=rfl;rw[oO];unfold Ud Eh Iv A0;simp only[BK];simp only[P,c2];rw[c1.len];by_cases O:j<ws[0].cs.length
  ·rw[FR (by omega),Cy,Dg (by omega),c1.get O];have u:∀{F:AV->Af},An (r! L (n+84)) FG [.agg ws[0].cs[j].cells] H F=F (S ws[0].cs[j].id):= λ{F}=>B5h (n:=n+20) s (b _ (Qe O));rw[u,B5l (n:=n+82) t C s];by_cases hm:ws[0].cs[j].id∈ss
   ·rw[Iu hm,Cy,Dg (by omega),Dg (by omega)];exact C_ s w D rfl b c t C N J fuel (j+1) (g+1) (d+1) (by omega) (by omega) (by omega) (by omega)
   ·rw[IG hm,Bj,Dg (by omega)];exact C_ s w D rfl b c t C N J fuel (j+1) (g+1) d (by omega) (by omega) (by omega) (by omega)
  ·rw[FP (by omega),Bj];have:j=ws[0].cs.length:=by omega
   subst this;exact J g d Q R
end
end
section
variable {L n:Nat}
section
variable {H H0 H':Hp} {v a:AV} {l gs A B:List Cd} {K:KV} {x0:Af} {r m ra ma rb mb:Nat} {z:Int} {x y:AV} {ps:PV} {ws:List Pk} {p:Pk}
def StAt.lat (h:StAt H r m A) (c:StAt H' r m A) (k:Lat H H' (λu=>u=m)):Lat H H' (λ_=>False):=
 ⟨k.wf,k.nx,λw u y b _=>by
  by_cases e:u=m
  ·subst e;rw[h.mm] at b;rw[<-b];exact c.mm
  ·exact k.keep w u y b e⟩
def StAt.two (h:StAt H ra ma A) (b:StAt H rb mb B):ra≠mb:= λe=>by
 have:=h.st;rw[e,b.mm] at this;cases this
def StAt.kpm (h:StAt H ra ma A) (k:Lat H H' (λu=>u=mb)) (w:Wf H) (h1:ra≠mb) (h2:ma≠mb):StAt H' ra ma A:=⟨k.keep w _ _ h.st h1,k.keep w _ _ h.mm h2⟩
def PkIn.oks (e:GOk l) (h:PkIn l p):∀c∈p.cs,c.Ok:= λc hc=>by
 obtain⟨d,b,rfl⟩:=h.mem c hc;exact⟨e.ok d b,e.nd d b⟩
def A4R (b:p.kd=1\/p.kd=3):∀q∈(D1 B p).2,q.kd=2:=by
 have c:∀{S ex},∀q∈Tw S ex,q.kd=2:= λ{S ex} q hq=>by
  unfold Tw at hq;split at hq
  ·cases hq
  ·rw[Ur] at hq;rw[hq]
 intro q hq;unfold D1 at hq;split at hq
 ·rcases b with b|b
  ·rw[Dj b] at hq;exact c q hq
  ·rw[C4 (by omega),C4 (by omega)] at hq;split at hq
   ·cases hq
   ·exact c q hq
 ·cases hq
def rT (c:p.Right) (b:p.kd=2):D1 A p=(A,dC A p.ds):=by
 unfold D1;rw[Dj c,C4 (by omega),Dj b]
def B9l {ds:List AM}:∀q∈dC A ds,q.kd=3:= λq hq=>by
 unfold dC at hq;split at hq
 ·cases hq
 ·rw[Ur] at hq;rw[hq]
def A90 {F:KV} (h:200000<L) (b:GOk l) (e:StIn l A) (wf:Wf H) (s:StAt H r m A) (hv:PksAt H v ws) (g:0<ws.length) (d:PkIn l ws[0])
 (q:∀f H',StAt H' r m (D1 A ws[0]).1->PksAt H' f (D1 A ws[0]).2->Lat H H' (λu=>u=m)->F f H'=x0):(Dw AB v (I (0:Nat)) λu=>AF A9 u H λw=>(r! L (n+84)).call Bm [.ptr r 0 0,w] H F)=x0:=by
 refine hv.ld g λw k=> ?_;have hr:=d.right;have c:=(pF b e d).1;have j:=c.len;have i:=b.len;exact Rm (n:=n) h (e.ok b) (d.oks b) wf s k (Nat.lt_of_le_of_lt hr.1 (by decide)) d.few (Nat.lt_of_le_of_lt hr.2.1 (by decide)) (c.ok b) (by omega) q
theorem A4M {k:AV->AV->Hp->Af} {T:List Cd×Bool} (hL:200000<L) (D:GOk l) (hA:StIn l A) (a7:Wf H0) (hm:ma≠mb)
 (hx:∀(g d:Nat) H',StAt H' ra ma A->StAt H' rb mb T.1->Lat H0 H' (λu=>u=mb)->K (.tup [I g,I d,Bo T.2]) H'=x0)
 (hk:∀v w H',k v w H'=K (.tup [v,w,Bo false]) H'):
 ∀(fuel i:Nat) (B:List Cd) (ws:List Pk) (g d:Nat) (H:Hp) (ab ai aj ak:AV),30<fuel+i->i<=30->StIn l B->(∀q∈ws,PkIn l q/\q.kd=2)->StAt H ra ma A->StAt H rb mb B->PksAt H ab ws->g<=i*64->d<=i*64->Wf H->Lat H0 H (λu=>u=mb)->OS A (30-i) B ws=T->
  Uc (L+20) (r! L (n+84)) K k fuel (.ptr ra 0 0) (.ptr rb 0 0) (I (30:Nat)) (I g) (I d) ab (I i) ai aj ak H=x0
 |0,i,B,ws,g,d,H,_,_,_,_,h1,h2,_,_,_,_,_,_,_,_,_,_=>by omega
 |fuel+1,i,B,ws,g,d,H,ab,ai,aj,ak,h1,h2,hB,ax,sa,sb,hv,be,bc,wf,lat,c=>by
  rw[oP];unfold Ue A0 LW;simp only[BK];have e0:(AV.v (.int .i64 0))=I ((0:Nat):Int):=rfl;simp only[e0];by_cases hi:i<30
  ·rw[FR (by omega),Cy,hv.len,CP];obtain⟨nn,aq⟩:∃nn,30-i=nn+1:=⟨29-i,by omega⟩
   rw[aq] at c;cases ws with
   |nil=>
    rw[Iu (by rfl),Cy];have c:(B,true)=T:=c;subst c;exact hx g d H sa sb lat
   |cons w t=>
    rw[IG (by simp;omega),Bj];obtain⟨X,ar⟩:=ax w (by simp);refine A90 (n:=n) (ws:=w::t) hL D hA wf sa hv (by simp) X λa4 F C s j=> ?_;have er:=rT (A:=A) X.right ar;have C:StAt F ra ma A:=by
     have:(D1 A (w::t)[0]).1=A:=by show(D1 A w).1=A;rw[er]
     rwa[this] at C
    have s:PksAt F a4 (D1 A w).2:=s;have j:=sa.lat C j;have am:=j.wf wf;have f:=sb.kp j wf;have O:=(pF D hA X).2.2;rw[s.len,CP];have c:(match(D1 A w).2 with|[]=>(B,true)|b::_=>OS A nn (D1 B b).1 (D1 B b).2)=T:=c;have e:=lat.trans j (R:= λu=>u=mb) (λ_ _ h=>h) (λ_ _ h=>h.elim);have ad:∀q∈(D1 A w).2,q.kd=3:=by rw[er];exact B9l
    generalize (D1 A w).2=bs at s O c ad;cases bs with
    |nil=>
     rw[Iu (by rfl),Cy];have c:(B,true)=T:=c;subst c;exact hx g d F C f e
    |cons b t2=>
     rw[IG (by simp;omega),Bj];have c:OS A nn (D1 B b).1 (D1 B b).2=T:=c;have J:=O b (by simp);refine A2z (n:=n+1) (hB.ok D) hL f.sv am λa5 an V bj=> ?_;have ag:=f.keep V.keep;rw[jD (n:=n+1) (hB.ok D) hL ag.sv];have bf:=(hB.ok D).len;have a8:=(A1W (hB.ok D)).len;have bg:(Xq B).length<=B.length:=by
      unfold Xq;rw[(Be _).length_eq];refine Z7 (l32 _ _) (by rw[QI];exact Mb _)
     obtain⟨bh,ac,ap,ah,az,Y⟩:=A8z (H:=an) (v:=a5) (ss:=(Nx B).map Cd.id) (l:=Xq B) (a1:=Xr B) V.sl A83 (by rw[QI];omega);rw[ap];have N:=Y.wf V.wf;have M:∀u y,Aj F u=some y->Aj ac u=some y:= λu y hu=>Y.keep V.wf u y (V.keep u y hu) λhh=>by have:=V.new u hh;have:=am.lt hu;omega
     have ae:=s.keep M;have af:=C.keep M;have Q:=f.keep M;have aa:Lat H0 ac (λu=>u=mb):=⟨λ_=>N,by have:=e.nx;have:=V.nx;have:=Y.nx;omega,λw u y hu hn=>M u y (e.keep w u y hu hn)⟩
     have a9:=J.right.2.1;refine C_ (n:=n) (ws:=b::t2) (pcs:=b.cs) (B:=i*64) (by omega) ae (by simp) rfl (J.oks D) (by omega) (.inr ah.rq) (by rw[EY,QI];omega) (by omega) (λg' d' bd ba=> ?_) (L+20) 0 g d (by omega) (by omega) (by omega) (by omega);refine A90 (n:=n) (ws:=b::t2) hL D hB N Q ae (by simp) J λa6 ao a3 ay Z=> ?_;have P:=pF D hB J;rw[Dg (by omega)];refine A4M hL D hA a7 hm hx hk fuel (i+1) (D1 B b).1 (D1 B b).2 g' d' ao a6 _ _ _ (by omega) (by omega) P.1 (λq hq=>⟨P.2.2 q hq,A4R (.inr (ad b (by simp))) q hq⟩) (af.kpm Z N (af.two Q) hm) a3 ay (by omega) (by omega) (Z.wf N) (aa.trans Z (λ_ _ h=>h) (λ_ _ h=>h)) ?_;rw[show 30-(i+1)=nn by omega];exact c
  ·rw[FP (by omega),Bj,hk];have:30-i=0:=by omega
   rw[this] at c;have c:(B,false)=T:=c;subst c;exact hx g d H sa sb lat
def B0o:PkS H (.agg [I 1,DJ (EG (Eo A)),As]) (Me A):=⟨_,_,rfl,.inl (MK _),.inl ⟨rfl,rfl⟩,λh=>by
 have h:EG (Eo A)=[]:=h;rw[h];rfl⟩
def A8b (i:200000<L) (b:GOk l) (f:StIn l A) (h:StIn l B) (wf:Wf H) (t:StAt H ra ma A) (sb:StAt H rb mb B) (hm:ma≠mb)
 (J:∀(g d:Nat) H',StAt H' ra ma A->StAt H' rb mb (OS A 30 B (D1 B (Me A)).2).1->Lat H H' (λu=>u=mb)->K (.tup [I g,I d,Bo (OS A 30 B (D1 B (Me A)).2).2]) H'=x0):
 (r! L (n+85)).call Ra [.ptr ra 0 0,.ptr rb 0 0,I 30] H K=x0:=by
 rw[sU];unfold VV A0 HQ;simp only[BK];rw[A4G (n:=n+1) (f.ok b) i t.sv];obtain⟨e,N⟩:=A1b b f;have c:=pF b h e;have F:=c.1.len;have D:=b.len;have C:=(D' b f h (n:=30) (by decide)).1;refine Rm (n:=n) (q:=Me A) i (h.ok b) (e.oks b) wf sb B0o (Nat.lt_of_le_of_lt e.right.1 (by decide)) e.few (Nat.lt_of_le_of_lt e.right.2.1 (by decide)) (c.1.ok b) (by omega) λM w s p2 j=> ?_;rw[C] at s;have k:=sb.lat s j;exact A4M (n:=n) i b f wf hm J (λ_ _ _=>rfl) (L+20) 0 B _ 0 0 w M _ _ _ (by omega) (by omega) h (λq hq=>⟨c.2.2 q hq,A4R (.inl rfl) q hq⟩) (t.kp k wf) s p2 (by omega) (by omega) (j.wf wf) j rfl
end
end
section
variable {L n:Nat}
section
variable {H H0 H':Hp} {v a:AV} {l gs A B:List Cd} {K:KV} {x0:Af} {r m ra ma rb mb:Nat} {z:Int} {x y:AV} {ps:PV} {ws:List Pk} {p:Pk}
def F_ (b:GOk gs) {i:Nat}:StIn gs (PY z i gs):=⟨λc hc=>xU.mem hc,b.ids.sublist (xU.map _)⟩
def A5K (b:GOk A) {s:AM}:s∈(Nx A).map Cd.id↔Cmp A s:=by rw[((uP b).map _).mem_iff];exact L8
def Q_ (b:GOk A) (c:GOk B) (h:∀x,Cmp A x->Cmp B x):decide (∀s∈(Nx A).map Cd.id,s∈(Nx B).map Cd.id)=true:=Iu λs d=>(A5K c).2 (h s ((A5K b).1 d))
def B2N {xs:List Y7} {a0:AV} {P Q R:Int} (q:200000<L) (hs:∀H (K:AV->Af),An (r! L (n+86)) Ou [] H K=K (Bo true)) (hx:XA xs a0) (X:∀y∈xs,y.Ok) (h1:Le P) (h2:Le Q) (h3:Le R)
 (hK:∀H0,K (Bo true) H0=some (Bo true,[])):(r! L (n+87)).call KP [a0,I P,I Q,I R] [] K=some (Bo true,[]):=by
 rw[UP];unfold KL Df GT A0 LW HQ;obtain⟨d,s⟩:=B0s xs (min 8 xs.length) (by omega);have Y:Fx true depth a0 a0 [] false:=by
  rcases hx with rfl|⟨_,rfl⟩
  ·exact Of
  ·exact C7
 rw[hs,Ky (A9r (n:=n+21) (by omega) hx X) (Am Y AJ)];generalize Qn xs (min 8 xs.length)=gs at d s;have V:=YK gs;refine eG (n:=n+19) (by omega) d h1 V Fk λr1 m1 H1 s1 e1 l1=> ?_;rw[EX,Na];have w1:=l1.wf Fk;refine eG (n:=n+19) (by omega) d h2 V w1 λr2 m2 H2 s2 e2 Z=> ?_;rw[EX,Na];have w:=Z.wf w1;refine eG (n:=n+19) (by omega) d h3 V w λr3 m3 H3 s3 e3 l3=> ?_;rw[EX,Na];have w3:=l3.wf w;have t:=s1.kp Z w1;have u:=t.kp l3 w;have j:=s2.kp l3 w;have q1:m1<Ao H1:=w1.lt s1.mm;have q2:m2<Ao H2:=w.lt s2.mm;have q3:=Z.nx;have e:=F_ (z:=P) d (i:=0);have f:=F_ (z:=Q) d (i:=0);have g:=F_ (z:=R) d (i:=0);generalize PY P 0 gs=A at s1 t u e;generalize PY Q 0 gs=B at s2 j f;generalize PY R 0 gs=C at s3 g;simp only[En,Bool.not_true,dF,wT,gT,gU,Cn,UH,SS,Bj];refine A8b (n:=n+1) q d e f w3 u j (by omega) λg4 d4 H4 a4 b4 l4=> ?_;rw[EX,Na];have k:∀{a b c:AV} {F:AV->Af},Cx (.tup [a,b,c]) 2 F=F c:= λ{a b c F}=>r_ rfl;rw[k];obtain⟨_,t2,O,t4,t5⟩:=D' d e f (n:=30) (by decide);rw[t2];have w4:=l4.wf w3;have c4:=s3.kpm l4 w3 (s3.two j) (by omega);generalize (OS A 30 B (D1 B (Me A)).2).1=B' at b4 O t4 t5;refine A8b (n:=n+1) q d O g w4 b4 c4 (by omega) λg5 d5 D b5 c5 l5=> ?_;rw[EX,Na,k];obtain⟨_,u2,u3,u4,u5⟩:=D' d O g (n:=30) (by decide);rw[u2];have w5:=l5.wf w4;have a5:=a4.kpm l5 w4 (a4.two c4) (by omega);generalize (OS B' 30 C (D1 C (Me B')).2).1=C' at c5 u3 u4 u5;have J:=e.ok d;have M:=O.ok d;have N:=u3.ok d;have v1:∀{F:AV->Af},An (r! L (n+86)) Gv [.ptr r2 0 0,.ptr r1 0 0] D F=F (Bo true):= λ{F}=>by rw[qT (n:=n+2) M J q b5.sv a5.sv,Q_ J M t5]
 have v2:∀{F:AV->Af},An (r! L (n+86)) Gv [.ptr r3 0 0,.ptr r2 0 0] D F=F (Bo true):= λ{F}=>by rw[qT (n:=n+2) N M q c5.sv b5.sv,Q_ M N u5]
 have v3:∀{F:AV->Af},An (r! L (n+86)) Gv [.ptr r3 0 0,.ptr r1 0 0] D F=F (Bo true):= λ{F}=>by rw[qT (n:=n+2) N J q c5.sv a5.sv,Q_ J N λx h=>u5 x (t5 x h)]
 simp only[v1,v2,v3,dF,wT,gT,gU,Cn,UH,SS];exact hK D
end
end
def lX:List UInt8:=[131,104,90,156,194,33,46,235,120,196,11,153,229,79,30,59,146,4,139,217,16,139,18,15,47,76,188,190,151,16,182,131]
def Ns:Cd:= .co ⟨⟨1,2,1,0,0⟩, -80,0,[(1, -5),(2, -5),(3, -5),(4, -8),(5, -8)]⟩ ⟨1,[3],.no⟩ [lA] none
def A8R:cdM 1 0 1 0 0 0 3 3 3 0 0 0 none [lA]=Ns:=by kernel_rfl
def jL:Ns.id=lX:=by kernel_rfl
def Vv:Ns.ps=[lA]:=by kernel_rfl
def jM:eQ.ps=[]:=rfl
def A2V:Ns.Ok:=A8R▸A49 (by simp[lA])
def pB:eQ.Ok:=A8S▸A49 (by simp)
def gX:List Cd:=[Ns,eQ]
def dE:gX.map Cd.id=[lX,lA]:=by simp[gX,jL,ZK]
def jN:[Ns].map Cd.id=[lX]:=by simp[jL]
def C2E:gE gX=[(lX,Ns),(lA,eQ)]:=by simp[gE,gX,jL,ZK]
def WT:GOk gX:=by
 refine⟨λc hc=> ?_,λc hc=> ?_,by rw[dE];decide,by decide⟩
 ·simp only[gX,Uf,List.not_mem_nil,or_false] at hc;rcases hc with rfl|rfl
  ·exact A2V
  ·exact pB
 ·simp only[gX,Uf,List.not_mem_nil,or_false] at hc;rcases hc with rfl|rfl
  ·rw[Vv];decide
  ·rw[jM];decide
def B5p:StIn gX [Ns]:=⟨λc hc=>by rw[Ur] at hc;rw[hc];simp[gX],by rw[jN];decide⟩
def C01:Cmp gX eQ.id:= .mk (by simp[gX]) (by rw[jM];simp)
def C32:Cmp gX Ns.id:= .mk (by simp[gX]) (by rw[Vv];intro p a;rw[Ur] at a;rw[a,<-ZK];exact C01)
def B1s:Eo gX=gX:=List.filter_eq_self.2 λc hc=>@decide_eq_true _ (_) (by
 simp only[gX,Uf,List.not_mem_nil,or_false] at hc;rcases hc with rfl|rfl
 ·exact C32
 ·exact C01)
def B5B:¬Cmp [Ns] Ns.id:= λh=>by
 have h2:=Cmp.par B5p.nd (by simp) h lA (by rw[Vv];simp);have:=h2.ids;rw[jN] at this;exact absurd this (by decide)
def B9Z:Eo [Ns]=[]:=List.filter_eq_nil_iff.2 λc hc=>by
 rw[Ur] at hc;rw[hc,@decide_eq_true_iff _ (_)];exact B5B
def B4p:EG (Eo gX)=[lX]:=by
 rw[B1s,EG,dE];have:([lX,lA].filter λx=>decide (∀c∈gX,x∉c.ps))=[lX]:=by
  have h1:decide (∀c∈gX,lX∉c.ps)=true:=Iu λc hc=>by
   simp only[gX,Uf,List.not_mem_nil,or_false] at hc;rcases hc with rfl|rfl
   ·rw[Vv];decide
   ·rw[jM];simp
  have h2:decide (∀c∈gX,lA∉c.ps)=false:=IG λh=>by
   have:=h Ns (by simp[gX]);rw[Vv] at this;simp at this
  rw[l2n,h1,l2n,h2];rfl
 rw[this];rfl
def B46:IA [Ns]=[lA]:=by
 unfold IA;rw[jN,show[Ns].flatMap Cd.ps=[lA] by simp[Vv]];decide
def B47:IA gX=[]:=by
 unfold IA;rw[dE,show gX.flatMap Cd.ps=[lA] by simp[gX,Vv,jM]];decide
def C0L:Tw [] [lX]=[⟨2,[lX],[]⟩]:=by
 have:ZE [] [lX]=[lX]:=by decide
 unfold Tw;rw[this];rfl
def C0K:Tw [Ns] []=[⟨2,[lA],[]⟩]:=by
 have:ZE [Ns] []=[lA]:=by unfold ZE;rw[B46];decide
 unfold Tw;rw[this];rfl
def B5f:Tw gX []=[]:=by
 have:ZE gX []=[]:=by unfold ZE;rw[B47];decide
 unfold Tw;rw[this];rfl
def C2x:dC gX [lX]=[⟨3,[],[.c Ns]⟩]:=by
 have:WS gX [lX]=[Ns]:=by
  unfold WS;rw[dE,C2E];rfl
 unfold dC;rw[this];rfl
def C2w:dC gX [lA]=[⟨3,[],[.c eQ]⟩]:=by
 have:WS gX [lA]=[eQ]:=by
  unfold WS;rw[dE,C2E];rfl
 unfold dC;rw[this];rfl
def C0g:Nx [Ns]=[]:=by unfold Nx;rw[B9Z];rfl
def B2k:Xq [Ns]=[lX]:=by
 have:([Ns].map Cd.id).filter (λx=>@decide (¬Cmp [Ns] x) (Classical.propDecidable _))=[Ns].map Cd.id:=List.filter_eq_self.2 λx a=>@decide_eq_true _ (_) (by
  rw[jN,Ur] at a;rw[a,<-jL];exact B5B)
 unfold Xq;rw[this,jN];rfl
def B2l:Xq gX=[]:=by
 have:(gX.map Cd.id).filter (λx=>@decide (¬Cmp gX x) (Classical.propDecidable _))=[]:=List.filter_eq_nil_iff.2 λx a=>by
  rw[@decide_eq_true_iff _ (_)];rw[dE] at a;simp only[Uf,List.not_mem_nil,or_false] at a;rcases a with rfl|rfl
  ·rw[<-jL];exact λh=>h C32
  ·rw[<-ZK];exact λh=>h C01
 unfold Xq;rw[this];rfl
def B9f:(Nx gX).map Cd.id=[lA,lX]:=by
 rw[uQ WT.ids,B1s]
 kernel_rfl
def B3X:PY 3 0 gX=gX:=by
 have h:A7k 3 0=true:=by decide
 have h1:A7k 3 1=true:=by decide
 unfold gX;rw[ZQ,h,Dj rfl,ZQ,h1,Dj rfl];rfl
def rX (q:Pk) (h1:q.ds.length<=64) (h2:q.cs.length<=64) (a:∀s∈q.ds,s.length=32) (b:(q.cs=[]/\(q.kd=1\/q.kd=2))\/(q.ds=[]/\q.kd=3)):q.Right:=⟨h1,h2,a,b⟩
def C1s:D1 [] ⟨1,[lX],[]⟩=([],[⟨2,[lX],[]⟩]):=by
 unfold D1;rw[Dj (rX _ (by decide) (by decide) (by decide) (.inl ⟨rfl,.inl rfl⟩)),Dj rfl];exact congrArg _ C0L
def A94:D1 gX ⟨2,[lX],[]⟩=(gX,[⟨3,[],[.c Ns]⟩]):=by
 rw[rT (rX _ (by decide) (by decide) (by decide) (.inl ⟨rfl,.inr rfl⟩)) rfl];exact congrArg _ C2x
def A93:D1 [] ⟨3,[],[.c Ns]⟩=([Ns],[⟨2,[lA],[]⟩]):=by
 unfold D1;rw[Dj (rX _ (by decide) (by decide) (by simp) (.inr ⟨rfl,rfl⟩)),C4 (by decide),C4 (by decide)];have:Mm [] [.c Ns]=[Ns]:=by
  show(if Ns.id∈[].map Cd.id then[] else[]++[Ns])=[Ns]
  rw[C4 (by simp)];rfl
 rw[show(⟨3,[],[.c Ns]⟩:Pk).cs=[.c Ns] from rfl,this,C4 (by decide),C0K]
def A92:D1 gX ⟨2,[lA],[]⟩=(gX,[⟨3,[],[.c eQ]⟩]):=by
 rw[rT (rX _ (by decide) (by decide) (by decide) (.inl ⟨rfl,.inr rfl⟩)) rfl];exact congrArg _ C2w
def A91:D1 [Ns] ⟨3,[],[.c eQ]⟩=(gX,[]):=by
 unfold D1;rw[Dj (rX _ (by decide) (by decide) (by simp) (.inr ⟨rfl,rfl⟩)),C4 (by decide),C4 (by decide)];have:Mm [Ns] [.c eQ]=gX:=by
  show(if eQ.id∈[Ns].map Cd.id then[Ns] else[Ns]++[eQ])=gX;rw[C4 (by rw[jN,ZK];decide)];rfl
 rw[show(⟨3,[],[.c eQ]⟩:Pk).cs=[.c eQ] from rfl,this,C4 (by decide),B5f]
def C1r:D1 gX ⟨1,[lX],[]⟩=(gX,[]):=by
 unfold D1;rw[Dj (rX _ (by decide) (by decide) (by decide) (.inl ⟨rfl,.inl rfl⟩)),Dj rfl];have:([lX].filter λx=>decide (x∉gX.map Cd.id))=[]:=by rw[dE];decide
 rw[show(⟨1,[lX],[]⟩:Pk).ds=[lX] from rfl,this,B5f]
section
set_option maxHeartbeats 100000000
variable {cv:AV}
variable {L n:Nat}
def RB (R:Rt) (f:Nat) (args:List AV) (v:AV):Prop:=∀b,(R.call f args [] λv a=>HP b a depth v λ_ c=>some (c,[]))=some (v,[])
def Rv {R:Rt} {f:Nat} {args args':List AV} {v:AV} {H:Hp} {q:Bool} {K:AV->Af} (hc:RB R f args' v) (a:Rr true depth args args' H q):An R f args H K=K v:=by
 unfold An;rw[a,hc (!q)];rfl
abbrev z6:AV:= .agg [I 0,I 0,I 0,I 0,I 0,I 0]
def m_A (d:40000<L):CT (r! L (n+44)) I4 [z6,z6,As,As] (.agg eQ.cs):=by
 intro K c;have a:Le 0:=⟨by decide,by decide⟩
 refine rW (n:=n) (y:=none) (l:=[]) d Fk a a a a a a a a a a a a (λb _=>⟨false,C7⟩) trivial (.inl (.inr ⟨rfl,rfl⟩)) (by decide) (by simp) ?_;rw[A8S];intro v b sv nv e kp fr;obtain⟨q,hq⟩:=Q? (D:=depth-2) sv nv;exact c _ _ ⟨q,Lx (D:=depth-1) hq⟩
def m_X (f:40000<L):CT (r! L (n+44)) I4 [.agg [I 1,I 0,I 1,I 0,I 0,I 0],.agg [I 3,I 3,I 3,I 0,I 0,I 0],As,DJ [lA]] (.agg Ns.cs):=by
 intro K e;have a:Le 0:=⟨by decide,by decide⟩
 have c:Le 1:=⟨by decide,by decide⟩
 have b:Le 3:=⟨by decide,by decide⟩
 refine rW (n:=n) (y:=none) (l:=[lA]) f Fk c a c a a a b b b a a a (λd _=>⟨false,C7⟩) trivial (.inl (MK [lA])) (by decide) (by simp[lA]) ?_;rw[A8R];intro v d sv nv g kp fr;obtain⟨q,hq⟩:=Q? (D:=depth-2) sv nv;exact e _ _ ⟨q,Lx (D:=depth-1) hq⟩
abbrev l0A:AV:= .list 0 []
def nl (cv:AV):Prop:=cv=As\/cv=l0A
def s_h:RB (r! L (n+10)) CU [.agg [I 1,DJ [lX],As],.agg [I 1,DJ [lX],As]] (Bo true):=by intro b;cases b<;>kernel_rfl
def s_1 (h:nl cv):RB (r! L (n+10)) CU [.agg [I 2,DJ [lX],cv],.agg [I 2,DJ [lX],As]] (Bo true):=by
 intro b;rcases h with rfl|rfl<;>cases b<;>kernel_rfl
def s_3 (h:nl cv):RB (r! L (n+10)) CU [.agg [I 2,DJ [lA],cv],.agg [I 2,DJ [lA],As]] (Bo true):=by
 intro b;rcases h with rfl|rfl<;>cases b<;>kernel_rfl
def s_n (h:nl cv):RB (r! L (n+10)) CU [.agg [I 1,DJ [lX],As],.agg [I 2,DJ [lX],cv]] (Bo false):=by
 intro b;rcases h with rfl|rfl<;>cases b<;>kernel_rfl
def s_2 {a:AV} (h:nl a):RB (r! L (n+64)) CU [.agg [I 3,a,.list 1 Ns.cs],.agg [I 3,As,.list 1 Ns.cs]] (Bo true):=by
 intro b;rcases h with rfl|rfl<;>cases b<;>kernel_rfl
def C3V:RB (r! L (n+10)) Gy [DJ [lX],DJ [lX]] (Bo true):=by intro b;cases b<;>kernel_rfl
def C3U:RB (r! L (n+10)) Gy [DJ [lA,lX],DJ [lA,lX]] (Bo true):=by intro b;cases b<;>kernel_rfl
end
section
set_option maxHeartbeats 100000000
variable {cv dv:AV}
variable {L n:Nat}
section
variable {H H0 H':Hp} {v:AV} {A Y:List Cd} {K:KV} {x0:Af} {r m b nr pq r1 m1 m2:Nat} {ws:List Pk}
structure Sn (b nr pq r1 m1 m2:Nat) (H:Hp):Prop where
 wf:Wf H
 cb:Aj H b=some (c_ Ad Ns.cs)
 nm:∃q,Aj H nr=some (.cells q Ar [S lA,S lX])
 pk:Aj H pq=some (c_ A7 [I 1,DJ [lX],As])
 sx:StAt H r1 m1 gX
 ne:b≠m2/\nr≠m2/\pq≠m2/\r1≠m2/\m1≠m2
def Sn.kp (h:Sn b nr pq r1 m1 m2 H) (k:Lat H H' (λu=>u=m2)):Sn b nr pq r1 m1 m2 H':=by
 obtain⟨w,h1,⟨q,h2⟩,i,g,a,c,d,e,f⟩:=h;exact⟨k.wf w,k.keep w _ _ h1 a,⟨q,k.keep w _ _ h2 c⟩,k.keep w _ _ i d,⟨k.keep w _ _ g.st e,k.keep w _ _ g.mm f⟩,a,c,d,e,f⟩
def Lat.no (k:Lat H H' (λ_=>False)):Lat H H' (λu=>u=m2):=⟨k.wf,k.nx,λw u y a _=>k.keep w u y a id⟩
theorem PksAt.ptr (h:PksAt H v ws) {i:Nat} (a:i<ws.length):∃p w,(∀F:AV->Af,Dw AB v (I i) F=F p)/\PkS H w ws[i]/\∀H',(∀u y,A8 v u->Aj H u=some y->Aj H' u=some y)->∀F:AV->Af,AF A9 p H' F=F w:=by
 obtain⟨ps,rfl,h2,s⟩:=h.at_;rw[QI] at a;have d:=h2 _ (Qe a);have j:PkS H (.agg (pvC ps[i])) (ps.map Prod.fst)[i]:=⟨ps[i].2.1,ps[i].2.2,by rw[l2o];rfl,by rw[l2o];exact d.ds,by rw[l2o];exact d.cs,by rw[l2o];exact d.nl⟩
 rcases s with⟨rfl,rfl⟩|rfl|⟨r,q,t,rfl,g⟩
 ·simp at a
 ·exact⟨.iptr (pvC ps[i]),_,λF=>WH (f:=pvC) rfl (λ_=>rfl) a,j,λH' _ F=>r_ rfl⟩
 ·refine⟨.ptr r (i*3) 0,_,λF=>B19 a,j,λH' k F=> ?_⟩;have h:=k r _ ⟨_,_,_,rfl⟩ g;have e:AF A9 (.ptr r (i*3) 0) H' F=IJ H' r λx=>JV x λ_ cs=>E8 3 (Di (Nat.add (i*3) 0) cs) λc=>F (.agg c):=r_ rfl;rw[e,Bf h];show E8 3 (Di (i*3+0) (ps.flatMap pvC++t)) (λc=>F (.agg c))=_;rw[Nat.add_zero,C6,F! a];exact r_ rfl
theorem PkS.fx {q:Pk} (h:PkS H v q):∃dv cv f,SA q.ds dv/\ZC [] cv q.cs/\Fx true depth v (.agg [I q.kd,dv,cv]) H f:=by
 obtain⟨dv,cv,rfl,h1,h2,_⟩:=h.at_;obtain⟨d,q1,g,f1⟩:∃a e,SA q.ds a/\Fx true 11 dv a H e:=by
  rcases h1 with h|h
  ·refine⟨dv,false,h,?_⟩;rcases h with rfl|⟨_,rfl⟩<;>exact λK=>rfl
  ·exact h.fx (D:=10)
 obtain⟨c,q2,i,f2⟩:=h2.fx (D:=10);exact⟨d,c,_,g,i,Lx (D:=11) (Am (q:=false) C7 (Am f1 (Am f2 AJ)))⟩
def C06 (h:ZC [] cv []):nl cv:=by
 rcases h with⟨rfl,_⟩|rfl|⟨_,_,_,_,h⟩
 ·exact .inl rfl
 ·exact .inr rfl
 ·simp[Aj] at h
def C35 {d:Cd} (h:ZC [] cv [.c d]):cv= .list 1 d.cs:=by
 rcases h with⟨_,h⟩|rfl|⟨_,_,_,_,h⟩
 ·cases h
 ·show AV.list 1 (d.cs++[])=_;rw[Wi]
 ·simp[Aj] at h
def C1j (h:SA [] dv):nl dv:=by
 rcases h with rfl|⟨_,rfl⟩
 ·exact .inr rfl
 ·exact .inl rfl
def C1k {a:AM} {l:List AM} (h:SA (a::l) dv):dv=DJ (a::l):=by
 rcases h with rfl|⟨h,_⟩
 ·rfl
 ·cases h
end
end
section
set_option maxHeartbeats 100000000
variable {L n:Nat}
def A8U (J:200000<L):CS (r! L (n+85)) Ou [] (Bo true):=by
 intro K hK;have x:40000<L:=by omega
 have c1:∀{H K},An (r! L (n+84)) I4 [z6,z6,(.v (.slice none 0 0)),(.v (.slice none 0 0))] H K=K (.agg eQ.cs):= λ{H K}=>Ky (m_A (n:=n+40) x) (Am (q:=false) (λK=>by kernel_rfl) (Am (q:=false) (λK=>by kernel_rfl) (Am (q:=false) C7 (Am (q:=false) C7 AJ))));have c2:∀{H K},An (r! L (n+84)) I4 [.agg [I 1,I 0,I 1,I 0,I 0,I 0],.agg [I 3,I 3,I 3,I 0,I 0,I 0],(.v (.slice none 0 0)),DJ [lA]] H K=K (.agg Ns.cs):= λ{H K}=>Ky (m_X (n:=n+40) x) (Am (q:=false) (λK=>by kernel_rfl) (Am (q:=false) (λK=>by kernel_rfl) (Am (q:=false) C7 (Am ((MK _).fx H) AJ))));have cu:∀{H K},An (r! L (n+84)) GU [.agg eQ.cs] H K=K (S lA):= λ{H K}=>by
  rw[<-ZK];exact AQ (A47 (n:=n+20) x pB (show([]:List (List UInt8)).Nodup by decide)) (uK H)
 have b0:∀{K:AV->Af},BZ B6 [] K=K z6:= λ{K}=>r_ rfl;have b1:∀{K:AV->Af},BZ B6 [(0,1,(AV.v (.int .i64 1))),(1,1,(AV.v (.int .i64 0))),(2,1,(AV.v (.int .i64 1))),(3,1,(AV.v (.int .i64 0))),(4,1,(AV.v (.int .i64 0))),(5,1,(AV.v (.int .i64 0)))] K=K (.agg [I 1,I 0,I 1,I 0,I 0,I 0]):= λ{K}=>r_ rfl;have b3:∀{K:AV->Af},BZ B6 [(0,1,(AV.v (.int .i64 3))),(1,1,(AV.v (.int .i64 3))),(2,1,(AV.v (.int .i64 3))),(3,1,(AV.v (.int .i64 0))),(4,1,(AV.v (.int .i64 0))),(5,1,(AV.v (.int .i64 0)))] K=K (.agg [I 3,I 3,I 3,I 0,I 0,I 0]):= λ{K}=>r_ rfl;have ce:∀{a:List UInt8} {K:AV->Af},Yr 1 Ai 1 [(0,1,S a)] K=K (DJ [a]):= λ{a K}=>by kernel_rfl
 have cf:∀{K:AV->Af},Yr 68 Ae 2 [(0,68,.agg Ns.cs),(68,68,.agg eQ.cs)] K=K (.list 2 (gX.flatMap Cd.cs)):= λ{K}=>by kernel_rfl
 have cg:∀{K:AV->Af},Yr 68 Ae 2 [(0,68,.agg eQ.cs),(68,68,.agg Ns.cs)] K=K (.list 2 ([PC.c eQ,PC.c Ns].flatMap PC.cells)):= λ{K}=>by kernel_rfl
 have ci:∀{K:AV->Af},Yr 68 Ae 1 [(0,68,.agg Ns.cs)] K=K (.list 1 Ns.cs):= λ{K}=>by kernel_rfl
 rw[sV];unfold VW dD Df GT A0 LW HQ;obtain⟨H1,e1,ad,w1, -⟩:=Ih (e:=Ad) (zs:=CH) (vs:=eQ.cs) Fk EA;rw[b0,b0,c1,B1 (cs:=CH) rfl,Cc (cs:=CH) (vs:=eQ.cs) (Aw (by simp)) EA rfl Mk,<-e1];generalize Ao []=a at ad;rw[b1,b3,Bu rfl EA.symm ad,cu,ce,c2];obtain⟨H2,e2,V,w2,k2⟩:=Ih (e:=Ad) (zs:=CH) (vs:=Ns.cs) w1 EA;rw[B1 (cs:=CH) rfl,Cc (cs:=CH) (vs:=Ns.cs) (Aw (by simp)) EA rfl Mk,<-e2];have az:=(k2 _ _ ad).1;generalize Ao H1=b at V;clear e1 e2 k2 ad w1;rw[Bu rfl EA.symm V,Bu rfl EA.symm az,cf];refine eG (n:=n+17) x WT (z:=3) ⟨by decide,by decide⟩ (.inl rfl) w2 λr1 m1 g s3 d6 l3=> ?_;rw[B3X] at s3;rw[EX,Na,B5j (n:=n+83)];have w3:=l3.wf w2;obtain⟨t4,w4,k4⟩:=A9X w3;have n4:Ao ((Ao g+1,c_ Du [.mp (Ao g)])::(Ao g,.map false [] none)::g)=Ao g+2:=rfl;have ax:∀u y,Aj H2 u=some y->Aj ((Ao g+1,c_ Du [.mp (Ao g)])::(Ao g,.map false [] none)::g) u=some y:= λu y M=>k4 u y (l3.keep w2 u y M id);have a3:=ax _ _ az;have X:=ax _ _ V;have s4:=s3.keep k4;have lb:=w2.lt V;have lr:=w3.lt s3.st;have lm:=w3.lt s3.mm;have dd:=l3.nx;generalize ((Ao g+1,c_ Du [.mp (Ao g)])::(Ao g,.map false [] none)::g:Hp)=H4 at t4 w4 n4 a3 X s4;have c0:Ao g+1≠Ao g:=by omega
 generalize d8:Ao g=m2 at t4 n4 lr lm dd c0;generalize m2+1=r2 at t4;have pC:∀{K},AF Ac (.ptr b 31 0) H4 K=K (DJ [lA]):= λ{K}=>AP (p:=31) rfl X (show 31<68 by decide);have de:∀{a:List UInt8} {K:AV->Af},Bq Ac (DJ [a]) K=K (.v (.int .i64 1)):= λ{a K}=>r_ rfl;have R:∀{K:AV->Af},Go.Abs.Ap Ab .neq (.v (.int .i64 1)) (.v (.int .i64 1)) K=K (Bo false):= λ{K}=>by kernel_rfl
 have un:∀{q:Bool} {K:AV->Af},Mg .not (Bo q) K=K (Bo (!q)):= λ{q K}=>En;have dq:∀{F:AV->Af},Rj BF CO .eql (.ptr r1 0 0) (.v (.pointer none)) F=F (Bo false):= λ{F}=>s4.sv.nn;have dr:∀{F:AV->Af},Rj BF CO .eql (.ptr r2 0 0) (.v (.pointer none)) F=F (Bo false):= λ{F}=>t4.sv.nn;simp only[un,Bool.not_true,dq,dr,dK,pC,de,R,gT,wT,dF,Cn,UH,SS];rw[Bj,Bu rfl EA.symm a3,Bu rfl EA.symm X,cg];refine C0V (n:=n+19) (l:=[PC.c eQ,PC.c Ns]) (λp hp=> ?_) (by decide) x (.inr (.inl rfl)) w4 λd0 H5 j d4=> ?_
 ·simp only[Uf,List.not_mem_nil,or_false] at hp;rcases hp with rfl|rfl
  ·exact⟨pB,by rw[jM];decide⟩
  ·exact⟨A2V,by rw[Vv];decide⟩
 have cy:[PC.c eQ,PC.c Ns].map PC.id=[lA,lX]:=by
  show[eQ.id,Ns.id]=_;rw[ZK,jL]
 rw[cy] at j;have w5:=j.wf;have af:=j.new;have dt:=j.nx;have k5:=j.keep;rcases j.sl with⟨_,h,_⟩|⟨nr,q5,N,bd,_⟩
 ·cases h
 have N:d0= .sl 1 nr 0 2:=N;subst N;have d5:Ao H4<=nr:=af nr ⟨_,_,_,rfl⟩;rw[A4G (n:=n+1) WT J (s4.keep k5).sv,B4p];obtain⟨H6,e6,a4,w6,k6⟩:=Ih (e:=A7) (zs:=[I 0,As,As]) (vs:=[I 1,DJ [lX],As]) w5 rfl;rw[B1 (cs:=[I 0,As,As]) rfl,Cc (cs:=[I 0,As,As]) (vs:=[I 1,DJ [lX],As]) (Aw (by simp)) rfl rfl rfl,<-e6];have Q:∀u y,Aj H5 u=some y->Aj H6 u=some y:= λu y M=>(k6 u y M).1;have d9:Ao H5≠m2:=by omega
 have ae:Sn b nr (Ao H5) r1 m1 m2 H6:=⟨w6,Q _ _ (k5 _ _ X),⟨q5,Q _ _ bd⟩,a4,(s4.keep k5).keep Q,by omega,by omega,by omega,by omega,by omega⟩
 have t6:=(t4.keep k5).keep Q;generalize Ao H5=pq at ae a4;clear e6 k6 Q w6 a4 bd w5 af dt k5 s4 t4 a3 X w4 n4 ax k4 w3 s3 l3 az V w2 j d4;have hh:∀{H:Hp},PkS H (.agg [I 1,DJ [lX],As]) ⟨1,[lX],[]⟩:= λ{H}=>⟨_,_,rfl,.inl (MK _),.inl ⟨rfl,rfl⟩,λh=>by cases h⟩
 have gN:GOk []:=⟨by simp,by simp,List.nodup_nil,by decide⟩
 have gS:=B5p.ok WT;have rh:Pk.Right ⟨1,[lX],[]⟩:=rX _ (by decide) (by decide) (by decide) (.inl ⟨rfl,.inl rfl⟩);rw[Bu rfl rfl ae.pk];refine A4F (PP:= λa=>a=_) (n:=n) (A:=[]) (q:=⟨1,[lX],[]⟩) J gN rh rfl ae.wf t6 hh (by decide) λH7 t7 l7=> ?_;rw[C1s];show(_:Af)=_;have d:=ae.kp l7;have f1:∀{H:Hp},Fx true depth (.agg [I 1,DJ [lX],As]) (.agg [I 1,DJ [lX],As]) H false:= λ{H} K=>by kernel_rfl
 have f2:∀{H:Hp},Fx true depth (.agg [I 2,DJ [lX],As]) (.agg [I 2,DJ [lX],As]) H false:= λ{H} K=>by kernel_rfl
 have fS:∀{H:Hp} {D:Nat},(∃q,Aj H nr=some (.cells q Ar [S lA,S lX]))->Fx true (D+1) (.sl 1 nr 1 1) (DJ [lX]) H true:= λ{H D} ⟨q,h⟩=>Wq (q':=false) h (by decide) (UX [lX]);have fT:∀{H:Hp} {D:Nat},(∃q,Aj H nr=some (.cells q Ar [S lA,S lX]))->Fx true (D+1) (.sl 1 nr 0 1) (DJ [lA]) H true:= λ{H D} ⟨q,h⟩=>Wq (q':=false) h (by decide) (UX [lA]);have fU:∀{H:Hp} {D:Nat},(∃q,Aj H nr=some (.cells q Ar [S lA,S lX]))->Fx true (D+1) (.sl 1 nr 0 2) (DJ [lA,lX]) H true:= λ{H D} ⟨q,h⟩=>Wq (q':=false) h (by decide) (UX [lA,lX]);have fP:∀{H:Hp} {z:Int} {v w:AV},Fx true 11 v w H true->Fx true depth (.agg [I z,v,As]) (.agg [I z,w,As]) H true:= λ{H z v w} h=>Lx (D:=11) (Am (q:=false) C7 (Am (q:=true) (q':=false) h (Am (q:=false) C7 AJ)));have bp:∀{K:AV->Af},Ee Ac (.sl 1 nr 0 2) (some (.v (.int .i64 1))) none none K=K (.sl 1 nr 1 1):= λ{K}=>YT (i:=1) (m:=2) (by decide);have dw:∀{K:AV->Af},Ee Ac (.sl 1 nr 0 2) none (some (.v (.int .i64 1))) none K=K (.sl 1 nr 0 1):= λ{K}=>YU (i:=1) (m:=2) (by decide);have cj:∀{K:AV->Af},BZ A9 [(0,1,(AV.v (.int .i64 1))),(1,1,.sl 1 nr 1 1)] K=K (.agg [I 1,.sl 1 nr 1 1,As]):= λ{K}=>by kernel_rfl
 have cm:∀{K:AV->Af},BZ A9 [(0,1,(AV.v (.int .i64 2))),(1,1,.sl 1 nr 1 1)] K=K (.agg [I 2,.sl 1 nr 1 1,As]):= λ{K}=>by kernel_rfl
 have cp:∀{K:AV->Af},BZ A9 [(0,1,(AV.v (.int .i64 2))),(1,1,.sl 1 nr 0 1)] K=K (.agg [I 2,.sl 1 nr 0 1,As]):= λ{K}=>by kernel_rfl
 have cq:∀{K:AV->Af},BZ A9 [(0,1,(AV.v (.int .i64 3))),(2,1,.list 1 Ns.cs)] K=K (.agg [I 3,As,.list 1 Ns.cs]):= λ{K}=>by kernel_rfl
 have d7:∀{K:AV->Af},AF A9 (.ptr pq 0 0) H7 K=K (.agg [I 1,DJ [lX],As]):= λ{K}=>Bu rfl rfl d.pk;have a7:∀{K:AV->Af},An (r! L (n+84)) CU [.agg [I 1,DJ [lX],As],.agg [I 1,.sl 1 nr 1 1,As]] H7 K=K (Bo true):= λ{K}=>Rv (s_h (n:=n+74)) (Am f1 (Am (fP (fS d.nm)) AJ));have c7:∀{K:AV->Af},An (r! L (n+84)) CU [.agg [I 2,DJ [lX],As],.agg [I 2,.sl 1 nr 1 1,As]] H7 K=K (Bo true):= λ{K}=>Rv (s_1 (n:=n+74) (.inl rfl)) (Am f2 (Am (fP (fS d.nm)) AJ));have dj:∀{K:AV->Af},Bq AB (vU [⟨2,[lX],[]⟩]) K=K (.v (.int .i64 1)):= λ{K}=>r_ rfl;have be:∀{K:AV->Af},Dw AB (vU [⟨2,[lX],[]⟩]) (.v (.int .i64 0)) K=K (.iptr [I 2,DJ [lX],As]):= λ{K}=>by kernel_rfl
 have bg:∀{H:Hp} {K:AV->Af},AF A9 (.iptr [I 2,DJ [lX],As]) H K=K (.agg [I 2,DJ [lX],As]):= λ{H K}=>r_ rfl;simp only[B7,d7,bp,cj,a7,un,Bool.not_true,gT,wT,dF,Cn,dj,R,UH,SS,be,bg,cm,c7];rw[Bj];have h2:PkS H7 (.agg [I 2,DJ [lX],As]) ⟨2,[lX],[]⟩:=⟨_,_,rfl,.inl (MK _),.inl ⟨rfl,rfl⟩,λh=>by cases h⟩
 refine Rm (n:=n) (A:=gX) (q:=⟨2,[lX],[]⟩) J WT (by simp) d.wf d.sx h2 (by decide) (λh=>by cases h) (by decide) (by rw[A94];exact WT) (by rw[A94];decide) λbx H8 s8 p8 l8=> ?_;rw[A94] at s8 p8;have l8:=d.sx.lat s8 l8;have a5:=d.kp l8.no;have t8:=t7.kp l8 d.wf;obtain⟨bm,w8,ao,aa,aq⟩:=p8.ptr (i:=0) (by decide);have ao:∀F:AV->Af,Dw AB bx (.v (.int .i64 0)) F=F bm:=ao;have aa:PkS H8 w8 ⟨3,[],[.c Ns]⟩:=aa;have aq:∀F:AV->Af,AF A9 bm H8 F=F w8:=aq H8 λu y _ M=>M;have df:∀F:AV->Af,Bq AB bx F=F (.v (.int .i64 1)):= λF=>p8.len;have b8:∀{K:AV->Af},AF Ae (.ptr b 0 0) H8 K=K (.agg Ns.cs):= λ{K}=>Bu rfl EA.symm a5.cb;have a8:∀{K:AV->Af},An (r! L (n+84)) CU [w8,.agg [I 3,As,.list 1 Ns.cs]] H8 K=K (Bo true):= λ{K}=>by
  obtain⟨dv,cv,qq,sd,sc,fw⟩:=aa.fx;rw[C35 sc] at fw;exact Rv (s_2 (n:=n+20) (C1j sd)) (Am fw (Am (q:=false) (Lx (D:=11) (Am (q:=false) C7 (Am (q:=false) C7 (Am (q:=false) Of AJ)))) AJ))
 simp only[df,R,B7,gT,wT,dF,Cn,UH,SS,ao,aq,b8,ci,cq,a8,un,Bool.not_true];rw[Bj];refine Rm (n:=n) (A:=[]) (q:=⟨3,[],[.c Ns]⟩) J gN (λp hp=>by
  rw[Ur] at hp;rw[hp];exact⟨A2V,by rw[Vv];decide⟩) a5.wf t8 aa (by decide) (λh=>by cases h) (by decide) (by rw[A93];exact gS) (by rw[A93];decide) λaj H9 t9 p9 l9=> ?_
 rw[A93] at t9 p9;have k:=a5.kp l9;obtain⟨bn,w9,ap,ab,ar⟩:=p9.ptr (i:=0) (by decide);have ap:∀F:AV->Af,Dw AB aj (.v (.int .i64 0)) F=F bn:=ap;have ab:PkS H9 w9 ⟨2,[lA],[]⟩:=ab;have ar:∀F:AV->Af,AF A9 bn H9 F=F w9:=ar H9 λu y _ M=>M;have dh:∀F:AV->Af,Bq AB aj F=F (.v (.int .i64 1)):= λF=>p9.len;have cc:∀{K:AV->Af},KC (r! L (n+84)) CF [.ptr r2 0 0] H9 K=K As:= λ{K}=>by rw[A8C (n:=n+2) gS J t9.sv,C0g];rfl
 have d3:∀{K:AV->Af},An (r! L (n+84)) CM [.ptr r2 0 0] H9 K=K (DJ [lX]):= λ{K}=>by
  rw[jD (n:=n+1) gS J t9.sv];unfold Xr;rw[C4 (by simp),B2k];rfl
 have dm:∀{K:AV->Af},Bq Av As K=K (.v (.int .i64 0)):= λ{K}=>r_ rfl;have Z:∀{K:AV->Af},Go.Abs.Ap Ab .eql (.v (.int .i64 0)) (.v (.int .i64 0)) K=K (Bo true):= λ{K}=>by kernel_rfl
 have dx:∀{K:AV->Af},An (r! L (n+84)) Gy [DJ [lX],.sl 1 nr 1 1] H9 K=K (Bo true):= λ{K}=>Rv (C3V (n:=n+74)) (Am ((MK _).fx H9) (Am (fS (D:=11) k.nm) AJ));have a9:∀{K:AV->Af},An (r! L (n+84)) CU [w9,.agg [I 2,.sl 1 nr 0 1,As]] H9 K=K (Bo true):= λ{K}=>by
  obtain⟨dv,cv,qq,sd,sc,fw⟩:=ab.fx;rw[C1k sd] at fw;exact Rv (s_3 (n:=n+74) (C06 sc)) (Am fw (Am (fP (fT k.nm)) AJ))
 simp only[cc,dm,Z,d3,bp,dx,dh,R,B7,gT,wT,dF,Cn,UH,SS,ap,ar,dw,cp,a9,un,Bool.not_true];rw[Bj];refine Rm (n:=n) (A:=gX) (q:=⟨2,[lA],[]⟩) J WT (by simp) k.wf k.sx ab (by decide) (λh=>by cases h) (by decide) (by rw[A92];exact WT) (by rw[A92];decide) λak am bo ay ac=> ?_;rw[A92] at bo ay;have ac:=k.sx.lat bo ac;have ah:=k.kp ac.no;have dy:=t9.kp ac k.wf;obtain⟨ag,b5,B,O,C⟩:=ay.ptr (i:=0) (by decide);have B:∀F:AV->Af,Dw AB ak (.v (.int .i64 0)) F=F ag:=B;have O:PkS am b5 ⟨3,[],[.c eQ]⟩:=O;have C:∀F:AV->Af,AF A9 ag am F=F b5:=C am λu y _ M=>M;have bh:∀F:AV->Af,Bq AB ak F=F (.v (.int .i64 1)):= λF=>ay.len;rw[bh,R,Bj,B,C];refine Rm (n:=n) (A:=[Ns]) (q:=⟨3,[],[.c eQ]⟩) J gS (λp hp=>by
  rw[Ur] at hp;rw[hp];exact⟨pB,by rw[jM];decide⟩) ah.wf dy O (by decide) (λh=>by cases h) (by decide) (by rw[A91];exact WT) (by rw[A91];decide) λbu an a6 bk da=> ?_
 rw[A91] at a6 bk;have Y:=ah.kp da;have bj:∀F:AV->Af,Bq AB bu F=F (.v (.int .i64 0)):= λF=>bk.len;have ids:∀{F:KV},(∀v f,NewSl an [lA,lX] v f->F v f=some (Bo true,[]))->Ef ((r! L (n+84)).call JY [.ptr r2 0 0] an λv H=>some (v,H)) F=some (Bo true,[]):= λ{F} hF=>
  A8n (n:=n+1) (K:= λv H=>some (v,H)) (PP:= λa=>Ef a F=some (Bo true,[])) WT J a6.sv Y.wf λv f j _=>by
   rw[B9f] at j;exact hF v f j
 simp only[bj,Z,B7,gT,wT,dF,Cn,UH,SS];refine ids λbv t j=> ?_;have bf:Lat an t (λ_=>False):=⟨λ_=>j.wf,j.nx,λ_ u y M _=>j.keep u y M⟩
 have r:=Y.kp bf.no;have bt:=a6.kp bf Y.wf;have bs:∀{K:AV->Af},An (r! L (n+84)) Gy [bv,.sl 1 nr 0 2] t K=K (Bo true):= λ{K}=>by
  obtain⟨a,q,ha,hf⟩:=Nh.fx (j.sat λh=>by cases h) (D:=11);rw[C1k ha] at hf;exact Rv (C3U (n:=n+74)) (Am hf (Am (fU (D:=11) r.nm) AJ))
 have b7:∀{K:AV->Af},An (r! L (n+84)) CM [.ptr r2 0 0] t K=K (.list 0 []):= λ{K}=>by
  rw[jD (n:=n+1) WT J bt.sv];unfold Xr;rw[C4 (by simp[gX]),B2l];rfl
 have dp:∀{K:AV->Af},Bq Ac (.list 0 []) K=K (.v (.int .i64 0)):= λ{K}=>r_ rfl;have cw:∀{K:AV->Af},AF A9 (.ptr pq 0 0) t K=K (.agg [I 1,DJ [lX],As]):= λ{K}=>Bu rfl rfl r.pk;have du:∀{F:KV},(∀f,StAt f r2 m2 gX->Lat t f (λu=>u=m2)->F As f=some (Bo true,[]))->Ef ((r! L (n+84)).call Bm [.ptr r2 0 0,.agg [I 1,DJ [lX],As]] t λv H=>some (v,H)) F=some (Bo true,[]):= λ{F} hF=>
  A4F (n:=n) (A:=gX) (q:=⟨1,[lX],[]⟩) (K:= λv H=>some (v,H)) (PP:= λa=>Ef a F=some (Bo true,[])) J WT rh rfl r.wf bt hh (by decide) λf s l=>by
   rw[C1r];exact hF f s l
 simp only[bs,b7,dp,Z,cw,B7,gT,wT,dF,Cn,UH,SS];refine du λba dz db=> ?_;have ai:=r.kp db;have dn:∀{K:AV->Af},Bq AB As K=K (.v (.int .i64 0)):= λ{K}=>r_ rfl;have bz:∀{K:AV->Af},BZ Ae [] K=K (.agg CH):= λ{K}=>by kernel_rfl
 have put:∀{F:KV},(∀f,StAt f r2 m2 gX->Lat ba f (λu=>u=m2)->F (I 280) f=some (Bo true,[]))->Ef ((r! L (n+84)).call EW [.ptr r2 0 0,.agg CH] ba λv H=>some (v,H)) F=some (Bo true,[]):= λ{F} hF=>
  A8i (n:=n+18) (p:= .z) (A:=gX) (K:= λv H=>some (v,H)) (P:= λa=>Ef a F=some (Bo true,[])) x trivial ai.wf dz (by decide) λf s l=>hF f s l
 simp only[dn,Z,bz,B7,gT,wT,dF,Cn,UH,SS];refine put λbc ea dc=> ?_;have bq:=ai.kp dc;have cz:∀{K:AV->Af},Go.Abs.Ap Ab .eql (I 280) (.v (.int .i64 280)) K=K (Bo true):= λ{K}=>by kernel_rfl
 have cx:∀{K:AV->Af},AF A9 (.ptr pq 0 0) bc K=K (.agg [I 1,DJ [lX],As]):= λ{K}=>Bu rfl rfl bq.pk;have b9:∀{K:AV->Af},An (r! L (n+84)) CU [.agg [I 1,DJ [lX],As],.agg [I 2,DJ [lX],As]] bc K=K (Bo false):= λ{K}=>Rv (s_n (n:=n+74) (.inl rfl)) (Am f1 (Am f2 AJ));simp only[cz,cx,be,bg,b9,un,Bool.not_false,B7,gT,wT,dF,Cn,UH,SS];exact hK _ _ λb=>⟨false,C7⟩
end
section
variable {L n:Nat}
section
variable {H H0 H' H'':Hp} {v x:AV} {A Y:List Cd} {K:KV} {x0:Af} {r m:Nat} {ws us:List Pk} {ps ss:PV}
end
end
section
variable {L n:Nat}
section
variable {H H0 H' H'':Hp} {v x v1 v2:AV} {gs A B:List Cd} {K:KV} {x0:Af} {r m ra ma rb mb N:Nat} {ws us:List Pk} {p1 p2 ss:PV}
end
end
section
variable {L n:Nat}
section
variable {H H0 H' H'':Hp} {v x v1 v2:AV} {gs A B:List Cd} {K:KV} {x0:Af} {r m ra ma rb mb N:Nat} {ws us:List Pk} {p1 p2 ss ps:PV}
end
end
section
set_option maxHeartbeats 4000000
variable {L n:Nat}
section
variable {H H0 H' H'':Hp} {v x v1 v2:AV} {gs A B:List Cd} {K:KV} {x0:Af} {r m ra ma rb mb N:Nat} {ws us:List Pk} {p1 p2 ss ps:PV}
end
end
section
variable {L n:Nat}
section
variable {K:KV}
def B1z (a:200000<L):∀(H:Hp) (K:AV->Af),An (r! L (n+86)) Ou [] H K=K (Bo true):= λH K=>AQ (A8U (n:=n+1) a) AJ
def A0c {xs:List Y7} {a0:AV} {c d e:Int} (b:200000<L) (i:XA xs a0) (a:∀y∈xs,y.Ok) (h1:Le c) (h2:Le d) (g:Le e)
 (h:∀f,K (Bo true) f=some (Bo true,[])):(r! L (n+87)).call KP [a0,I c,I d,I e] [] K=some (Bo true,[]):=B2N b (B1z b) i a h1 h2 g h
end
end
end Go.Abs
end
noncomputable section
namespace Go.Proofs
open Go.Shelf
def Tryz.lays156_ren:Go.Shelf.Ren:=⟨λ|156=>167|165=>236|166=>162|169=>105|240=>234|241=>275|276=>273|277=>313|n=>n,λ|31=>43|9=>9|3=>3|4=>4|0=>0|20=>20|72=>159|76=>212|70=>157|37=>129|75=>211|127=>221|164=>314|5=>5|80=>168|n=>n,λ|n=>n⟩
theorem Tryz.lays156:Go.Proofs.Lays.n156 Tryz.prog Tryz.lays156_ren:={
 mixed:=by kernel_rfl
 f156:=Tryz.func167.trans (congrArg some (by kernel_rfl))
 f165:=Tryz.func236.trans (congrArg some (by kernel_rfl))
 f166:=Tryz.func162.trans (congrArg some (by kernel_rfl))
 f169:=Tryz.func105.trans (congrArg some (by kernel_rfl))
 f240:=Tryz.func234.trans (congrArg some (by kernel_rfl))
 f241:=Tryz.func275.trans (congrArg some (by kernel_rfl))
 f276:=Tryz.func273.trans (congrArg some (by kernel_rfl))
 f277:=Tryz.func313.trans (congrArg some (by kernel_rfl))
 t0:=Tryz.underlying0
 a0:=Tryz.isAgg0
 z0:=Tryz.sizeOf0
 v0:=Tryz.zeroValue0
 t3:=Tryz.underlying3
 a3:=Tryz.isAgg3
 z3:=Tryz.sizeOf3
 v3:=Tryz.zeroValue3
 t4:=Tryz.underlying4
 a4:=Tryz.isAgg4
 z4:=Tryz.sizeOf4
 v4:=Tryz.zeroValue4
 t9:=Tryz.underlying9
 a9:=Tryz.isAgg9
 z9:=Tryz.sizeOf9
 v9:=Tryz.zeroValue9
 t20:=Tryz.underlying20
 a20:=Tryz.isAgg20
 z20:=Tryz.sizeOf20
 v20:=Tryz.zeroValue20
 t31:=Tryz.underlying43
 a31:=Tryz.isAgg43
 z31:=Tryz.sizeOf43
 v31:=Tryz.zeroValue43
 t37:=Tryz.underlying129
 a37:=Tryz.isAgg129
 z37:=Tryz.sizeOf129
 v37:=Tryz.zeroValue129
 t70:=Tryz.underlying157
 a70:=Tryz.isAgg157
 z70:=Tryz.sizeOf157
 v70:=Tryz.zeroValue157
 t72:=Tryz.underlying159
 a72:=Tryz.isAgg159
 z72:=Tryz.sizeOf159
 v72:=Tryz.zeroValue159
 t75:=Tryz.underlying211
 a75:=Tryz.isAgg211
 z75:=Tryz.sizeOf211
 v75:=Tryz.zeroValue211
 t76:=Tryz.underlying212
 a76:=Tryz.isAgg212
 z76:=Tryz.sizeOf212
 v76:=Tryz.zeroValue212
 t127:=Tryz.underlying221
 a127:=Tryz.isAgg221
 z127:=Tryz.sizeOf221
 v127:=Tryz.zeroValue221
 t164:=Tryz.underlying314
 a164:=Tryz.isAgg314
 z164:=Tryz.sizeOf314
 v164:=Tryz.zeroValue314}
theorem Tryz.Builder_Extra_156:Builder.Extra Tryz.prog Tryz.lays156_ren:={
 sizeBuilder:=by kernel_rfl
 liesBuilder:=by kernel_rfl
 t5:=Tryz.underlying5
 a5:=Tryz.isAgg5
 z5:=Tryz.sizeOf5
 v5:=Tryz.zeroValue5
 infoByte:=by kernel_rfl
 cellsByte:=by kernel_rfl
 sizeByte:=by kernel_rfl
 neB5:=by decide}
open Go.RowKit in
theorem Tryz.strings_Join_none (a:Option Addr) (c:Nat) (sep:ByteArray) (w:World):
 Calls Tryz.prog 167 #[.slice a 0 c,.string sep] w λe w'=>e= .returned (.string ⟨#[]⟩)/\w'=w:=Any.strings_Join_none Tryz.lays156 Tryz.Builder_Extra_156 a c sep w
open Go.RowKit in
theorem Tryz.strings_Join (bk o c:Nat) (xs:List ByteArray) (sep:ByteArray) (w:World) (hcells:∀(j:Nat) x,xs[j]?=some x->w.cell? ⟨bk,o+j,none⟩=some (.string x)) (hbk:bk<w.heap.size) (hN:xs.length<=140737488355328) (hcap:xs.length<=c) (hlen:(Lib.join (xs.map (·.data.toList)) sep.data.toList).length<=140737488355328):
 Calls Tryz.prog 167 #[.slice (some ⟨bk,o,none⟩) xs.length c,.string sep] w λe w'=>e= .returned (.string ⟨(Lib.join (xs.map (·.data.toList)) sep.data.toList).toArray⟩)/\Below w.heap.size w w':=Any.strings_Join Tryz.lays156 Tryz.Builder_Extra_156 bk o c xs sep w hcells hbk hN hcap hlen
def Tryz.lays190_ren:Go.Shelf.Ren:=⟨λ|190=>77|125=>144|258=>143|128=>211|129=>212|302=>202|303=>203|304=>204|305=>205|306=>206|307=>207|308=>208|309=>209|310=>210|333=>254|329=>255|330=>256|334=>257|335=>258|336=>259|344=>294|n=>n,λ|31=>43|9=>9|3=>3|46=>132|0=>0|51=>127|53=>240|4=>4|183=>255|182=>254|131=>259|5=>5|218=>298|222=>287|228=>327|229=>328|n=>n,λ|n=>n⟩
theorem Tryz.lays190:Go.Proofs.Lays.n190 Tryz.prog Tryz.lays190_ren:={
 mixed:=by kernel_rfl
 f125:=Tryz.func144.trans (congrArg some (by kernel_rfl))
 f128:=Tryz.func211.trans (congrArg some (by kernel_rfl))
 f129:=Tryz.func212.trans (congrArg some (by kernel_rfl))
 f190:=Tryz.func77.trans (congrArg some (by kernel_rfl))
 f258:=Tryz.func143.trans (congrArg some (by kernel_rfl))
 f302:=Tryz.func202.trans (congrArg some (by kernel_rfl))
 f303:=Tryz.func203.trans (congrArg some (by kernel_rfl))
 f304:=Tryz.func204.trans (congrArg some (by kernel_rfl))
 f305:=Tryz.func205.trans (congrArg some (by kernel_rfl))
 f306:=Tryz.func206.trans (congrArg some (by kernel_rfl))
 f307:=Tryz.func207.trans (congrArg some (by kernel_rfl))
 f308:=Tryz.func208.trans (congrArg some (by kernel_rfl))
 f309:=Tryz.func209.trans (congrArg some (by kernel_rfl))
 f310:=Tryz.func210.trans (congrArg some (by kernel_rfl))
 f329:=Tryz.func255.trans (congrArg some (by kernel_rfl))
 f330:=Tryz.func256.trans (congrArg some (by kernel_rfl))
 f333:=Tryz.func254.trans (congrArg some (by kernel_rfl))
 f334:=Tryz.func257.trans (congrArg some (by kernel_rfl))
 f335:=Tryz.func258.trans (congrArg some (by kernel_rfl))
 f336:=Tryz.func259.trans (congrArg some (by kernel_rfl))
 f344:=Tryz.func294.trans (congrArg some (by kernel_rfl))
 t0:=Tryz.underlying0
 a0:=Tryz.isAgg0
 z0:=Tryz.sizeOf0
 v0:=Tryz.zeroValue0
 t3:=Tryz.underlying3
 a3:=Tryz.isAgg3
 z3:=Tryz.sizeOf3
 v3:=Tryz.zeroValue3
 t4:=Tryz.underlying4
 a4:=Tryz.isAgg4
 z4:=Tryz.sizeOf4
 v4:=Tryz.zeroValue4
 t5:=Tryz.underlying5
 a5:=Tryz.isAgg5
 z5:=Tryz.sizeOf5
 v5:=Tryz.zeroValue5
 t9:=Tryz.underlying9
 a9:=Tryz.isAgg9
 z9:=Tryz.sizeOf9
 v9:=Tryz.zeroValue9
 t31:=Tryz.underlying43
 a31:=Tryz.isAgg43
 z31:=Tryz.sizeOf43
 v31:=Tryz.zeroValue43
 t46:=Tryz.underlying132
 a46:=Tryz.isAgg132
 z46:=Tryz.sizeOf132
 v46:=Tryz.zeroValue132
 t51:=Tryz.underlying127
 a51:=Tryz.isAgg127
 z51:=Tryz.sizeOf127
 v51:=Tryz.zeroValue127
 t53:=Tryz.underlying240
 a53:=Tryz.isAgg240
 z53:=Tryz.sizeOf240
 v53:=Tryz.zeroValue240
 t131:=Tryz.underlying259
 a131:=Tryz.isAgg259
 z131:=Tryz.sizeOf259
 v131:=Tryz.zeroValue259
 t182:=Tryz.underlying254
 a182:=Tryz.isAgg254
 z182:=Tryz.sizeOf254
 v182:=Tryz.zeroValue254
 t183:=Tryz.underlying255
 a183:=Tryz.isAgg255
 z183:=Tryz.sizeOf255
 v183:=Tryz.zeroValue255
 t218:=Tryz.underlying298
 a218:=Tryz.isAgg298
 z218:=Tryz.sizeOf298
 v218:=Tryz.zeroValue298
 t222:=Tryz.underlying287
 a222:=Tryz.isAgg287
 z222:=Tryz.sizeOf287
 v222:=Tryz.zeroValue287
 t228:=Tryz.underlying327
 a228:=Tryz.isAgg327
 z228:=Tryz.sizeOf327
 v228:=Tryz.zeroValue327
 t229:=Tryz.underlying328
 a229:=Tryz.isAgg328
 z229:=Tryz.sizeOf328
 v229:=Tryz.zeroValue328}
open Go.Sort Go.RowKit in
theorem Tryz.slices_Sort_string (blk off cap:Nat) (ss:List (List UInt8)) (w:World) (hH:Holds encStr w blk off ss.toArray) (hblk:blk<w.heap.size) (hsz:ss.length<4611686018427387904):
 Calls Tryz.prog 77 #[.slice (some ⟨blk,off,none⟩) ss.length cap] w λe w'=>
  e= .returned (.tuple #[])/\∃n os,w'=grow (putRow encStr (Sort.ahead w n) blk off (ss.mergeSort λx y=>decide (x<=y)).toArray) os:=Any.slices_Sort_string Tryz.lays190 blk off cap ss w hH hblk hsz
def Tryz.lays105_ren:Go.Shelf.Ren:=⟨λ|105=>330|212=>366|99=>367|165=>236|166=>162|170=>104|169=>105|263=>384|264=>385|206=>377|240=>234|241=>275|276=>273|277=>313|n=>n,λ|9=>9|3=>3|4=>4|20=>20|0=>0|46=>132|109=>382|5=>5|72=>159|76=>212|51=>127|146=>395|53=>240|148=>397|70=>157|37=>129|75=>211|127=>221|164=>314|80=>168|n=>n,λ|n=>n⟩
theorem Tryz.lays105:Go.Proofs.Lays.n105 Tryz.prog Tryz.lays105_ren:={
 mixed:=by kernel_rfl
 f99:=Tryz.func367.trans (congrArg some (by kernel_rfl))
 f105:=Tryz.func330.trans (congrArg some (by kernel_rfl))
 f165:=Tryz.func236.trans (congrArg some (by kernel_rfl))
 f166:=Tryz.func162.trans (congrArg some (by kernel_rfl))
 f169:=Tryz.func105.trans (congrArg some (by kernel_rfl))
 f170:=Tryz.func104.trans (congrArg some (by kernel_rfl))
 f206:=Tryz.func377.trans (congrArg some (by kernel_rfl))
 f212:=Tryz.func366.trans (congrArg some (by kernel_rfl))
 f240:=Tryz.func234.trans (congrArg some (by kernel_rfl))
 f241:=Tryz.func275.trans (congrArg some (by kernel_rfl))
 f263:=Tryz.func384.trans (congrArg some (by kernel_rfl))
 f264:=Tryz.func385.trans (congrArg some (by kernel_rfl))
 f276:=Tryz.func273.trans (congrArg some (by kernel_rfl))
 f277:=Tryz.func313.trans (congrArg some (by kernel_rfl))
 t0:=Tryz.underlying0
 a0:=Tryz.isAgg0
 z0:=Tryz.sizeOf0
 v0:=Tryz.zeroValue0
 t3:=Tryz.underlying3
 a3:=Tryz.isAgg3
 z3:=Tryz.sizeOf3
 v3:=Tryz.zeroValue3
 t4:=Tryz.underlying4
 a4:=Tryz.isAgg4
 z4:=Tryz.sizeOf4
 v4:=Tryz.zeroValue4
 t5:=Tryz.underlying5
 a5:=Tryz.isAgg5
 z5:=Tryz.sizeOf5
 v5:=Tryz.zeroValue5
 t9:=Tryz.underlying9
 a9:=Tryz.isAgg9
 z9:=Tryz.sizeOf9
 v9:=Tryz.zeroValue9
 t20:=Tryz.underlying20
 a20:=Tryz.isAgg20
 z20:=Tryz.sizeOf20
 v20:=Tryz.zeroValue20
 t37:=Tryz.underlying129
 a37:=Tryz.isAgg129
 z37:=Tryz.sizeOf129
 v37:=Tryz.zeroValue129
 t46:=Tryz.underlying132
 a46:=Tryz.isAgg132
 z46:=Tryz.sizeOf132
 v46:=Tryz.zeroValue132
 t51:=Tryz.underlying127
 a51:=Tryz.isAgg127
 z51:=Tryz.sizeOf127
 v51:=Tryz.zeroValue127
 t53:=Tryz.underlying240
 a53:=Tryz.isAgg240
 z53:=Tryz.sizeOf240
 v53:=Tryz.zeroValue240
 t70:=Tryz.underlying157
 a70:=Tryz.isAgg157
 z70:=Tryz.sizeOf157
 v70:=Tryz.zeroValue157
 t72:=Tryz.underlying159
 a72:=Tryz.isAgg159
 z72:=Tryz.sizeOf159
 v72:=Tryz.zeroValue159
 t75:=Tryz.underlying211
 a75:=Tryz.isAgg211
 z75:=Tryz.sizeOf211
 v75:=Tryz.zeroValue211
 t76:=Tryz.underlying212
 a76:=Tryz.isAgg212
 z76:=Tryz.sizeOf212
 v76:=Tryz.zeroValue212
 t109:=Tryz.underlying382
 a109:=Tryz.isAgg382
 z109:=Tryz.sizeOf382
 v109:=Tryz.zeroValue382
 t127:=Tryz.underlying221
 a127:=Tryz.isAgg221
 z127:=Tryz.sizeOf221
 v127:=Tryz.zeroValue221
 t146:=Tryz.underlying395
 a146:=Tryz.isAgg395
 z146:=Tryz.sizeOf395
 v146:=Tryz.zeroValue395
 t148:=Tryz.underlying397
 a148:=Tryz.isAgg397
 z148:=Tryz.sizeOf397
 v148:=Tryz.zeroValue397
 t164:=Tryz.underlying314
 a164:=Tryz.isAgg314
 z164:=Tryz.sizeOf314
 v164:=Tryz.zeroValue314}
theorem Tryz.Builder_Extra_105:Builder.Extra Tryz.prog Tryz.lays105_ren:={
 sizeBuilder:=by kernel_rfl
 liesBuilder:=by kernel_rfl
 t5:=Tryz.underlying5
 a5:=Tryz.isAgg5
 z5:=Tryz.sizeOf5
 v5:=Tryz.zeroValue5
 infoByte:=by kernel_rfl
 cellsByte:=by kernel_rfl
 sizeByte:=by kernel_rfl
 neB5:=by decide}
open Go.RowKit Go.Lib in
theorem Tryz.strings_Repeat (s:ByteArray) (c:Nat) (w:World) (hc:c<=9223372036854775807) (hlen:s.size*c<=140737488355328):
 Calls Tryz.prog 330 #[.string s,.int .i64 c] w λe w'=>e= .returned (.string ⟨(Lib.repeatL s.data.toList c).toArray⟩)/\Below w.heap.size w w':=Any.strings_Repeat Tryz.lays105 Tryz.Builder_Extra_105 s c w hc hlen
def Tryz.growS_ren:Go.Shelf.Ren:=⟨λ|4=>201|n=>n,λ|22=>43|25=>9|3=>3|4=>4|9=>9|20=>20|0=>0|n=>n,λn=>n⟩
theorem Tryz.growS:Go.Proofs.Lays8.n4 Tryz.prog Tryz.growS_ren:={
 mixed:=by kernel_rfl
 f4:=⟨Tryz.f201.name,by kernel_rfl,Tryz.func201.trans (congrArg some (by kernel_rfl))⟩
 t0:=Tryz.underlying0
 a0:=Tryz.isAgg0
 z0:=Tryz.sizeOf0
 v0:=Tryz.zeroValue0
 t3:=Tryz.underlying3
 a3:=Tryz.isAgg3
 z3:=Tryz.sizeOf3
 v3:=Tryz.zeroValue3
 t4:=Tryz.underlying4
 a4:=Tryz.isAgg4
 z4:=Tryz.sizeOf4
 v4:=Tryz.zeroValue4
 t9:=Tryz.underlying9
 a9:=Tryz.isAgg9
 z9:=Tryz.sizeOf9
 v9:=Tryz.zeroValue9
 t20:=Tryz.underlying20
 a20:=Tryz.isAgg20
 z20:=Tryz.sizeOf20
 v20:=Tryz.zeroValue20
 t22:=Tryz.underlying43
 a22:=Tryz.isAgg43
 z22:=Tryz.sizeOf43
 v22:=Tryz.zeroValue43
}
theorem Tryz.slices_Grow_0 (w:World):Calls Tryz.prog 201 #[.slice none 0 0,.int .i64 0] w λe w'=>e= .returned (.slice none 0 0)/\w'=w:=
 Any8.slices_Grow_room Tryz.growS none 0 0 0 w (Nat.le_refl _) (by decide) (by decide) (Nat.le_refl _)
theorem Tryz.slices_Grow_n (n:Nat) (w:World) (h0:0<n) (h1:n<=1000000):Calls Tryz.prog 201 #[.slice none 0 0,.int .i64 n] w λe w'=>∃(arr:Array Value) (fz:Nat×Nat) (cap:Nat),cap<=arr.size/\e= .returned (.slice (some ⟨w.heap.size,0,none⟩) 0 cap)/\Go.RowKit.Below w.heap.size w w'/\w'.heap[w.heap.size]?=some (.cells arr 9 fz)/\∀i,i<arr.size->¬(fz.1<=i/\i<fz.2):=by
 have hs:(Tryz.prog.info? 9).isSome=true:=by kernel_rfl
 obtain⟨i0,hi0⟩:=Option.isSome_iff_exists.1 hs
 have hz:(Tryz.prog.info? 9).bind (λi=>i.zero)=some (.string ⟨#[]⟩):=by kernel_rfl
 have hz1:(Tryz.prog.info? 9).map (λi=>i.size)=some 1:=by kernel_rfl
 have hz2:(Tryz.prog.info? 9).map (λi=>i.bytes)=some 16:=by kernel_rfl
 rw[hi0] at hz hz1 hz2
 have hz:i0.zero=some (.string ⟨#[]⟩):=hz
 have hz1:i0.size=1:=Option.some.inj hz1
 have hz2:i0.bytes=16:=Option.some.inj hz2
 refine(Any8.slices_Grow_grow Tryz.growS i0 (.string ⟨#[]⟩) hi0 hz (by rw[hz1];decide) none 0 0 n [] w (Nat.le_refl _) (by omega) (by rw[hz2];omega) (by omega) (by simp) (λ_=>rfl) (λa h=>by cases h)).mono ?_
 rintro e w' ⟨he,hw⟩
 have hzc:∀k,(Builtin.zeroCells (Value.string ⟨#[]⟩).cells k).size=k:= λk=>by
  have e:(Value.string ⟨#[]⟩).cells= #[.string ⟨#[]⟩]:=rfl
  rw[e]
  simp[Builtin.zeroCells]
 have key:∃arr:Array Value,w'=w.drew.alloc (.cells arr 9)/\grownCap w (0+n) 0 (Tryz.growS_ren.t 25)<=arr.size:=⟨_,hw,by
  simp only[Array.size_append,hzc]
  omega⟩
 obtain⟨arr,hw,hsz⟩:=key
 refine⟨arr,(0,0),_,hsz,he,?_,?_,λi _ h=>Nat.not_lt_zero _ h.2⟩
 ·rw[hw]
  exact((Go.RowKit.Below.refl _ _).drew).alloc (Nat.le_refl _) _
 ·rw[hw]
  show(w.heap.push _)[w.heap.size]?=_
  rw[Array.getElem?_push_size]
end Go.Proofs
end
noncomputable section
namespace Go.Abs
open Go.RowKit Go.Proofs
set_option maxRecDepth 100000
theorem C2O:Zw Tryz.prog 167:=⟨Tryz.f167,by kernel_rfl,by kernel_rfl,by kernel_rfl⟩
theorem C4s:Zw Tryz.prog 77:=⟨Tryz.f77,by kernel_rfl,by kernel_rfl,by kernel_rfl⟩
theorem C2N:Zw Tryz.prog 201:=⟨Tryz.f201,by kernel_rfl,by kernel_rfl,by kernel_rfl⟩
theorem C2M:Zw Tryz.prog 330:=⟨Tryz.f330,by kernel_rfl,by kernel_rfl,by kernel_rfl⟩
theorem C1I (E:XE):oT.All (zK E Tryz.prog):=
 ⟨B0t C2N Tryz.slices_Grow_0 Tryz.slices_Grow_n,⟨B0k C2O Tryz.strings_Join_none Tryz.strings_Join,⟨A8P C4s Tryz.slices_Sort_string,trivial,trivial⟩,trivial⟩,⟨A30 C2M Tryz.strings_Repeat,trivial,trivial⟩⟩
theorem A8Y (L n:Nat):RSound rO (E L) Tryz.prog (rt L n):=A3h (C53 L) (C1L L) (C1I _) n
def Y7.vs (y:Y7):List Value:=[.int .i64 y.y0,.int .i64 y.y1,.int .i64 y.y2,.int .i64 y.y3,.int .i64 y.y4,.int .i64 y.y5,.int .i64 y.y6]
theorem C0G (xs:List Y7):xs.flatMap Y7.cs=(xs.flatMap Y7.vs).map λx=> .v x:=by
 induction xs with
 |nil=>rfl
 |cons y xs ih=>rw[pP,pP,YN,ih];rfl
theorem B0A {α β:Type} (f:α->List β) (w:Nat) (hf:∀x,(f x).length=w):∀(l:List α) (i j:Nat) (h:i<l.length),j<w->(l.flatMap f)[i*w+j]?=(f l[i])[j]?:=by
 intro l
 induction l with
 |nil=>intro i j h;simp at h
 |cons a l ih=>
  intro i j h hj
  rw[pP]
  cases i with
  |zero=>
   rw[Nat.zero_mul,JQ,l0m (by rw[hf];exact hj)];rfl
  |succ i=>
   have e:(i+1)*w+j=(f a).length+(i*w+j):=by rw[hf,W_];omega
   rw[e,l0o (by omega),Nat.add_sub_cancel_left,List.getElem_cons_succ]
   exact ih i j (by simpa using h) hj
theorem yK {α β:Type} (f:α->List β) (w:Nat) (hf:∀x,(f x).length=w):∀l:List α,(l.flatMap f).length=l.length*w:=by
 intro l
 induction l with
 |nil=>simp
 |cons a l ih=>simp[ih,hf,W_,Nat.add_comm]
def B1m (W:World):Ctx:={π:= λ_=>none,F:= λb _=>b<W.heap.size,B:= λ_=>False}
theorem B1D {W:World} {b i:Nat} {v:Value} (h:W.cell? ⟨b,i,none⟩=some v):b<W.heap.size:=by
 unfold World.cell? at h
 split at h
 ·rename_i c t f he
  exact(l1v.1 he).1
 ·cases h
theorem C3W {W:World} {G:Gl} (hG:∀(g:Nat) (cs:List Value),G g=some cs->∀(i:Nat) (v:Value),cs[i]?=some v->W.cell? ⟨g,i,none⟩=some v):Rel G ⟨W,λ_=>False⟩ (B1m W) [] W where
 glob:= λg cs hg i v hv=>⟨B1D (hG g cs hg i v hv),hG g cs hg i v hv⟩
 below:=Keep.refl W _
 lt:= λr x h=>by cases h
 rows:= λr x h=>by cases h
 own:= λr x b o h=>by cases h
 sep:= λr r' x x' b o o' h=>by cases h
 fin:= λb i h=>h
 finB:= λb h=>h.elim
 nx:= λr _=>rfl
theorem B2O {W:World} {n cap:Nat} {a:Option Addr} {vs:List Value} (hn:n<=cap) (h0:n=0->vs=[]) (h:∀i (hi:i<vs.length),∃b o,a=some ⟨b,o,none⟩/\W.cell? ⟨b,o+i,none⟩=some vs[i]) (hne:0<n->0<vs.length):VRel (B1m W) W (.list n (vs.map λx=> .v x)) (.slice a n cap):=by
 by_cases h1:n=0
 ·subst h1
  rw[h0 rfl]
  exact .list0
 ·have h2:=hne (by omega)
  obtain⟨b,o,ha, -⟩:=h 0 h2
  subst ha
  have hc:∀i (hi:i<vs.length),W.cell? ⟨b,o+i,none⟩=some vs[i]:= λi hi=>by
   obtain⟨b',o',e,hc⟩:=h i hi
   cases e
   exact hc
  refine .list hn (λi=>vs.getD i undef) (λi hi=> ?_) (λi hi=> ?_) (λi hi=> ?_)
  ·exact B1D (hc i (by simpa using hi))
  ·have hi':i<vs.length:=by simpa using hi
   rw[hc i hi',Vl,K9 hi'];rfl
  ·have hi':i<vs.length:=by simpa using hi
   have:(vs.map λx=>AV.v x)[i]= .v (vs.getD i undef):=by
    rw[l2o,Vl,K9 hi'];rfl
   rw[this]
   exact .v _
end Go.Abs
end
noncomputable section
namespace Go.Proofs.YtngdjmhcceoafaaGreatDoor
open Go.ChangeShapes Go.WideShapes Go.ChangeAt Go.WideMaps Go.WideElems Go.RowKit Go.Abs
set_option maxRecDepth 100000
theorem own:ownKnob Tryz.prog.godebug=none:=by kernel_rfl
theorem B4b:laidOutB Tryz.prog=true:=by kernel_rfl
theorem u22:Tryz.prog.underlying 22=some (.slice 71):=by kernel_rfl
theorem u90:Tryz.prog.underlying 71=some (.array 7 3):=by kernel_rfl
theorem u3:Tryz.prog.underlying 3=some (.int .i64):=by kernel_rfl
theorem u4:Tryz.prog.underlying 4=some .bool:=by kernel_rfl
theorem c3:Tryz.prog.cellsOf 3=1:=by kernel_rfl
theorem c90:Tryz.prog.cellsOf 71=7:=by kernel_rfl
theorem zG {H:Type} {enc:TypeId×Value->H} {P:Program} {W:World} {base:Nat} {spare:Nat->Bool} {held:Bool} {fuel:Nat} {t e:TypeId} {k:IntKind} {cs:List Value} {ns:List Int} {pl:List MemPlace} (ht:P.underlying t=some (.array ns.length e)) (he:P.underlying e=some (.int k)) (ce:P.cellsOf e=1)
 (ct:P.cellsOf t=ns.length) (h:DataW.trod enc P W base spare held fuel t cs=some (.agg (ns.map λz=> .lit (.int k z)),pl)):cs=ns.map λz=>Value.int k z:=by
 obtain⟨xs,m,_,hx,hlen,hn,hel⟩:=DataW.trod_array ht h
 simp only[Prod.mk.injEq,DataW.agg.injEq] at hx
 obtain⟨hx,_⟩:=hx
 apply List.ext_getElem
 ·rw[hlen,ct,QI]
 ·intro i h1 h2
  have hi:i<ns.length:=by simpa using h2
  have hxi:i<xs.length:=by omega
  have h0:=hel i hi
  rw[ce,pL,K9 hxi] at h0
  obtain⟨z,e1,e2,_⟩:=DataW.trod_int he h0
  have e3:(cs.drop i).take 1=[cs[i]]:=by rw[vA h1];rfl
  rw[e3] at e1
  have e4:(ns.map λz=>DataW.lit (H:=H) (.int k z))[i]'(by simpa using hi)=(xs.map (·.1))[i]'(by simpa using hxi):=by simp only[hx]
  rw[l2o,l2o,e2] at e4
  have e5:ns[i]=z:=by simpa using e4
  rw[l2o,e5]
  simpa using e1
def B45 (l:List AV):List Int:=l.map λa=>match a with| .v (.int _ z)=>z|_=>0
theorem C22:Rows.laid_yardstick_digest_round (H:=Unit)= .agg ((B45 gl0).map λz=> .lit (.int .u32 z)):=by kernel_rfl
theorem C21:Rows.laid_internal_strconv_uint64pow10 (H:=Unit)= .agg ((B45 gl1).map λz=> .lit (.int .u64 z)):=by kernel_rfl
theorem C2D:gl0.map unV=(B45 gl0).map λz=>Value.int .u32 z:=by kernel_rfl
theorem C2B:gl1.map unV=(B45 gl1).map λz=>Value.int .u64 z:=by kernel_rfl
theorem gn0:Tryz.prog.globalNamed "yardstick/digest.round" =some 0:=by kernel_rfl
theorem gn1:Tryz.prog.globalNamed "internal/strconv.uint64pow10" =some 1:=by kernel_rfl
theorem B44 {W:World} (h:laidMetH Tryz.prog Rows.exchangeAlongRow.laid W):∀L (g:Nat) (cs:List Value),(E L).G g=some cs->∀(i:Nat) (v:Value),cs[i]?=some v->W.cell? ⟨g,i,none⟩=some v:=by
 rw[MakeChecks.laidMetH_plain _ _ _ (by kernel_rfl)] at h
 obtain⟨ps,hv,_,_⟩:=h
 obtain⟨_,_,_,_,_,_,_,_,_,_,hv,_⟩:=hv
 obtain⟨_,_,_,_,_,_,_,_,_,_,hv,_⟩:=hv
 obtain⟨g1,t1,cs1,f1,p1,q1,hg1,ht1,hv1,hd1,hv,_⟩:=hv
 obtain⟨_,_,_,_,_,_,_,_,_,_,hv,_⟩:=hv
 obtain⟨_,_,_,_,_,_,_,_,_,_,hv,_⟩:=hv
 obtain⟨_,_,_,_,_,_,_,_,_,_,hv,_⟩:=hv
 obtain⟨g0,t0,cs0,f0,p0,q0,hg0,ht0,hv0,hd0, -,_⟩:=hv
 obtain rfl:=l2c (gn0.symm.trans hg0)
 obtain rfl:=l2c (gn1.symm.trans hg1)
 have tt0:(Tryz.prog.globals[0]?).map (·.type)=some 224:=by kernel_rfl
 have tt1:(Tryz.prog.globals[1]?).map (·.type)=some 362:=by kernel_rfl
 obtain rfl:=l2c (tt0.symm.trans ht0)
 obtain rfl:=l2c (tt1.symm.trans ht1)
 rw[show(Rows.laid_yardstick_digest_round (H:=Unit))=_ from C22] at hd0
 rw[show(Rows.laid_internal_strconv_uint64pow10 (H:=Unit))=_ from C21] at hd1
 have k0:=zG (e:=127) (by kernel_rfl) (by kernel_rfl) (by kernel_rfl) (by kernel_rfl) hd0
 have k1:=zG (e:=240) (by kernel_rfl) (by kernel_rfl) (by kernel_rfl) (by kernel_rfl) hd1
 intro L g cs hg i v hvv
 match g,hg with
 |0,hg=>
  have e:(E L).G 0=some (gl0.map unV):=rfl
  rw[e] at hg
  obtain rfl:=l2c hg
  rw[World.var?_cell hg0 hv0 i,<-l27,k0,<-C2D]
  exact hvv
 |1,hg=>
  have e:(E L).G 1=some (gl1.map unV):=rfl
  rw[e] at hg
  obtain rfl:=l2c hg
  rw[World.var?_cell hg1 hv1 i,<-l27,k1,<-C2B]
  exact hvv
 |g+2,hg=>
  exfalso
  have e:(E L).G (g+2)=(glB.get (g+2)).map λcs=>cs.map unV:=rfl
  have e1:Nat.beq (g+2) 1=false:=rfl
  have e2:Nat.blt (g+2) 1=false:=rfl
  have e3:glB.get (g+2)=none:=by
   unfold glB
   simp only[BT.get,e1,e2]
  rw[e,e3] at hg
  cases hg
theorem B! {z:Int} (h:(Lit.int .i64 z).wf=true):Le z:=by
 have h1: -9223372036854775808<=z/\z<=9223372036854775807:=by simpa [Lit.wf,IntKind.min,IntKind.max,IntKind.signed,IntKind.bits] using h
 exact⟨h1.1,by omega⟩
theorem A3c {H:Type} {enc:TypeId×Value->H} {W:World} {base:Nat} {spare:Nat->Bool} {held:Bool} {fuel:Nat} {cs:List Value} {x:DataW H×List MemPlace} (h:DataW.trod enc Tryz.prog W base spare held fuel 22 cs=some x):
 cs=[.slice none 0 0]\/∃(a:Addr) (cap:Nat) (ys:List Y7),cs=[.slice (some a) ys.length cap]/\ys.length<=cap/\(∀y∈ys,y.Ok)/\∀i (hi:i<(ys.flatMap Y7.vs).length),W.cell? (a.add i)=some (ys.flatMap Y7.vs)[i]:=by
 rcases Deep.open_slice u22 h with⟨h0,_⟩|⟨a,len,cap,m,n,D,Pl,rfl,hb,hl,hm,hmm,rfl,hx⟩
 ·exact .inl h0
 right
 have hlm:len<=m:=by rw[hmm];split<;>omega
 have hrow:∀i,i<len->∃y:Y7,y.Ok/\∀j (hj:j<7),W.cell? (a.add (i*7+j))=(Y7.vs y)[j]?:=by
  intro i hi
  obtain⟨cs',hc,ht⟩:=hx i (by omega)
  rw[c90] at hc
  obtain⟨_,hl7,hcell⟩:=World.cells?_some hc
  obtain⟨xs,m',_,_,_,hn,hel⟩:=DataW.trod_array u90 ht
  have hz:∀j,j<7->∃z:Int,cs'[j]?=some (.int .i64 z)/\Le z:=by
   intro j hj
   have h0:=hel j hj
   rw[c3,pL,K9 (show j<xs.length by omega)] at h0
   obtain⟨z,e1,_,e3⟩:=DataW.trod_int u3 h0
   have hj':j<cs'.length:=by omega
   refine⟨z,?_,?_⟩
   ·rw[K9 hj']
    have e4:(cs'.drop j).take 1=[cs'[j]]:=by rw[vA hj'];rfl
    rw[e4] at e1
    have:cs'[j]= .int .i64 z:=by simpa using e1
    rw[this]
   ·exact B! e3
  obtain⟨Z,hZ⟩:=Deep.choose_lt hz
  refine⟨⟨Z 0,Z 1,Z 2,Z 3,Z 4,Z 5,Z 6⟩,⟨(hZ 0 (by omega)).2,(hZ 1 (by omega)).2,(hZ 2 (by omega)).2,(hZ 3 (by omega)).2,(hZ 4 (by omega)).2,(hZ 5 (by omega)).2,(hZ 6 (by omega)).2⟩,λj hj=> ?_⟩
  have hc2:W.cell? ((a.add (i*7)).add j)=cs'[j]?:=hcell j hj
  rw[Addr.add_add] at hc2
  rw[hc2,(hZ j hj).1]
  obtain rfl|rfl|rfl|rfl|rfl|rfl|rfl:j=0\/j=1\/j=2\/j=3\/j=4\/j=5\/j=6:=by omega
  all_goals rfl
 haveI:Inhabited Y7:=⟨⟨0,0,0,0,0,0,0⟩⟩
 obtain⟨V,hV⟩:=Deep.choose_lt hrow
 refine⟨a,cap,(List.range len).map V,by simp,by simpa using hl,λy hy=> ?_,λi hi=> ?_⟩
 ·obtain⟨k,hk,rfl⟩:=Ma.1 hy
  exact(hV k (K8.1 hk)).1
 ·have h7:(((List.range len).map V).flatMap Y7.vs).length=len*7:=by rw[yK Y7.vs 7 (λ_=>rfl)];simp
  have hi':i<len*7:=by omega
  have hd:i/7<len:=by omega
  have e:=B0A Y7.vs 7 (λ_=>rfl) ((List.range len).map V) (i/7) (i%7) (by simpa using hd) (by omega)
  rw[show i/7*7+i%7=i by omega,K9 hi] at e
  have h1:=(hV (i/7) hd).2 (i%7) (by omega)
  rw[show i/7*7+i%7=i by omega] at h1
  rw[h1,e]
  simp
theorem A7x {W:World} {a:Addr} {v:Value} (h:W.cell? a=some v):a=⟨a.block,a.off,none⟩:=by
 obtain⟨b,o,sp⟩:=a
 cases sp with
 |none=>rfl
 |some k=>
  unfold World.cell? at h
  split at h
  ·simp at h
  ·cases h
theorem B1R {a:Addr} (i:Nat) (h:a=⟨a.block,a.off,none⟩):a.add i=⟨a.block,a.off+i,none⟩:=by
 rw[h]
 unfold Addr.add
 by_cases hi:i=0
 ·subst hi;rfl
 ·rw[C4 hi]
theorem vT {H:Type} {enc:TypeId×Value->H} {P:Program} {f:Func} {s:ChangeSpec} {apart fresh L_ again:Bool} {W W':World} {args:Array Value} {v:Value} {ds gs:List (DataW H)} {before pa pv:List MemPlace}
 (hW:DataW.Whole enc P f.params.toList s.vars apart W args.toList ds gs before)
 (hres:∀(b:Nat) (sp:Nat->Bool) (hd:Bool),DataW.TrodAll enc P W' b sp hd f.resultTypes.toList (v.resultList f.resultTypes.size) (s.fn H (ds++gs)).results [])
 (hargs:∀sp:Nat->Bool,(∀p∈before,sp p.block=true)->DataW.TrodAll enc P W' 0 sp true f.params.toList args.toList (s.fn H (ds++gs)).args pa)
 (hvars:∀sp:Nat->Bool,(∀p∈before,sp p.block=true)->DataW.TrodVars enc P W' sp s.vars (s.fn H (ds++gs)).vars pv)
 (hps:before=pa++pv) (hb:Below W.heap.size W W')
 (hok:∀(j:Nat) (t:TypeId) (r:Value),f.resultTypes[j]?=some t->(v.resultList f.resultTypes.size)[j]?=some r->Value.okWide P W' .any 0 t r):
 s.post enc P f apart fresh L_ again W args v W':=by
 have hold:∀p∈before,(λb=>decide (b<W.heap.size)) p.block=true:= λp hp=>by simpa using hW.lt p hp
 have hlt:=hW.lt
 refine⟨ds,gs,before,[],pa,pv,hW,hres _ _ _,hargs _ hold,hvars _ hold,World.keptBut_mono (λp hp=>⟨hp,?_⟩) (hb.frame (· ∈before)),λ_=> ?_⟩
 ·rw[hps,Zs] at hp
  exact Or.inr hp
 ·obtain⟨_,_,_,_,_,hz,hn⟩:=hW
  refine⟨hok,_,_,([]++pa)++pv,⟨[]++pa,pv,trodAll_append (hargs _ (λ_ _=>rfl)) (hres _ _ _),hvars _ (λ_ _=>rfl),rfl,?_,?_⟩,?_⟩
  ·intro b off hp
   have hm:MemPlace.cell b off∈before:=by rw[hps];simpa using hp
   rw[hb.frozen (hlt _ hm)]
   exact hz b off hm
  ·intro ha
   have:=hn ha
   rw[hps] at this
   simpa using this
  ·intro p hp _
   rw[hps]
   simpa using hp
theorem B3l {H:Type} {enc:TypeId×Value->H} {W:World} {base:Nat} {spare:Nat->Bool} {held:Bool} {a0:Option Addr} {n0 k0:Nat} {d:DataW H} {p:List MemPlace} (h0:DataW.Trod enc Tryz.prog W base spare held 22 (.slice a0 n0 k0) d p):
 ∃xs:List Y7,(∀y∈xs,y.Ok)/\VRel (B1m W) W (.list xs.length (xs.flatMap Y7.cs)) (.slice a0 n0 k0):=by
 obtain⟨f,hf⟩:=h0
 rcases A3c hf with hc|⟨a,cap,ys,hc,hle,hok,hcell⟩
 ·simp only[Value.cells,List.cons.injEq,Value.slice.injEq,and_true] at hc
  obtain⟨rfl,rfl,rfl⟩:=hc
  exact⟨[],by simp,.list0⟩
 ·simp only[Value.cells,List.cons.injEq,Value.slice.injEq,and_true] at hc
  obtain⟨rfl,rfl,rfl⟩:=hc
  refine⟨ys,hok,?_⟩
  rw[C0G]
  refine B2O hle (λe=>by rw[mL e];rfl) (λi hi=> ?_) (λe=>by rw[yK Y7.vs 7 (λ_=>rfl)];omega)
  have h0:=hcell 0 (by omega)
  have hs:a=⟨a.block,a.off,none⟩:=A7x (v:=(ys.flatMap Y7.vs)[0]'(by omega)) (by simpa [Addr.add] using h0)
  exact⟨a.block,a.off,by rw[<-hs],by rw[<-B1R i hs];exact hcell i hi⟩
end Go.Proofs.YtngdjmhcceoafaaGreatDoor
end
noncomputable section
namespace Go.Abs
open Go.RowKit Go.Proofs
set_option maxRecDepth 100000
theorem Yc {W:World} (hG:∀L (g:Nat) (cs:List Value),(E L).G g=some cs->∀(i:Nat) (v:Value),cs[i]?=some v->W.cell? ⟨g,i,none⟩=some v) {xs:List Y7} {v0:Value} {z1:Int} {z2:Int} {z3:Int}
 (h0:VRel (B1m W) W (.list xs.length (xs.flatMap Y7.cs)) v0) (hok:∀y∈xs,y.Ok) (g1:Le z1) (g2:Le z2) (g3:Le z3):
 Calls Tryz.prog 3 #[v0,.int .i64 z1,.int .i64 z2,.int .i64 z3] W λe W'=>e= .returned (.bool true)/\Below W.heap.size W W':=by
 obtain⟨L,hL⟩:∃L,200000<L:=⟨200001,by decide⟩
 have h:=A0c (L:=L) (n:=0) (xs:=xs) (a0:= .list xs.length (xs.flatMap Y7.cs)) (K:= λv _=>some (v,[])) hL (.inl rfl) hok g1 g2 g3 (λ_=>rfl)
 have ac:=((A8Y (L+20) (0+87)).call _ _ _ _ _ h).2 ⟨W,λ_=>False⟩ (B1m W) W [v0,.int .i64 z1,.int .i64 z2,.int .i64 z3] (C3W (hG _)) ?_
 ·refine ac.mono λe W' ⟨v,y,C',H',he,hr,hv,_,hq⟩=> ?_
  injection hq with hq
  injection hq with hq _
  subst hq
  have hy:y= .bool true:=AL.1 hv
  subst hy
  have hb:=hr.below
  exact⟨he,hb.os,hb.tape,hb.output,hb.size,λk hk=>hb.block k hk (λhf=>hf)⟩
 ·refine⟨rfl,λi v hv=> ?_⟩
  match i,hv with
  |0,hv=>cases hv;exact⟨_,rfl,h0⟩
  |1,hv=>cases hv;exact⟨_,rfl,.v _⟩
  |2,hv=>cases hv;exact⟨_,rfl,.v _⟩
  |3,hv=>cases hv;exact⟨_,rfl,.v _⟩
end Go.Abs
namespace Go.Proofs.YtngdjmhcceoafaaGreatDoor
open Go.ChangeShapes Go.WideShapes Go.ChangeAt Go.WideMaps Go.WideElems Go.RowKit Go.Abs
set_option maxRecDepth 100000
theorem G':Tryz.f3.params= #[22,3,3,3]:=by kernel_rfl
theorem Yb (os:Os) (started:os.Started) (H:Type) (enc:TypeId×Value->H):
 ReturnsInHanded {} Tryz.checked os 3 .any (λw args=>(Rows.exchangeAlongSpec.pre enc Tryz.prog Tryz.f3 [] false w args/\laidMetH Tryz.prog Rows.exchangeAlongRow.laid w)/\sizedMet enc Tryz.prog Tryz.f3 (OpenSpec.ofChange Rows.exchangeAlongSpec) false w args)
  (Rows.exchangeAlongSpec.post enc Tryz.prog Tryz.f3 false true false false):=by
 refine returnsInHanded_of_change_and (C:=Tryz.checked) (X:= λw _=>laidMetH Tryz.prog Rows.exchangeAlongRow.laid w) (λ_ _ _ hh h=>h.of_heap hh) own started (by kernel_rfl) Tryz.func3
  (ChangeSpec.witness_shaped (enc:=enc) (C:=Tryz.checked) (os:=os) (X:= λw _=>laidMetH Tryz.prog Rows.exchangeAlongRow.laid w) false (World.laidAll Tryz.prog os Rows.exchangeAlongRow.laid) #[.slice none 0 0,.int .i64 0,.int .i64 0,.int .i64 0] 8 (World.laidAll_os _ _ _)
   (World.shaped_of_ZipB (by kernel_rfl) (by kernel_rfl)) (by kernel_rfl) (by kernel_rfl) (by kernel_rfl)
   (by rw[MakeChecks.laidMetH_plain _ _ _ (by kernel_rfl)];exact laidMet_laidAll _ (by kernel_rfl) (by kernel_rfl))) ?_
 intro W base args ds gs before hval0 hW _ _ hL _
 have hval:∀(j:Nat) t v,Tryz.f3.params[j]?=some t->args[j]?=some v->Value.okWide Tryz.prog W .any base t v:=hval0
 have hW':=hW
 obtain⟨p,q,hA0,hV,rfl,hfz,hnd⟩:=hW
 have hA:DataW.TrodAll enc Tryz.prog W 0 (λ_=>true) true Tryz.f3.params.toList args.toList ds p:=hA0
 rw[G'] at hA hval
 obtain⟨v0,v1,v2,v3,d0,d1,d2,d3,p0,p1,p2,p3,rfl,rfl,rfl,h0,h1,h2,h3⟩:=trodAll_four hA
 obtain⟨rfl,rfl⟩:=trodVars_none hV
 obtain⟨a0,n0,k0,rfl⟩:=okWide_slice u22 (hval 0 22 v0 rfl rfl)
 obtain⟨z1,rfl,rfl,rfl,wz1⟩:=open_int u3 (hval 1 3 v1 rfl rfl) h1
 obtain⟨z2,rfl,rfl,rfl,wz2⟩:=open_int u3 (hval 2 3 v2 rfl rfl) h2
 obtain⟨z3,rfl,rfl,rfl,wz3⟩:=open_int u3 (hval 3 3 v3 rfl rfl) h3
 have hG:=B44 hL
 obtain⟨xs,hok,hx⟩:=B3l h0
 refine(Yc hG hx hok (B! wz1) (B! wz2) (B! wz3)).mono λe W' ⟨he,hb⟩=> ?_
 subst he
 simp only[Wi] at hW'
 have hlt:=hW'.lt
 refine⟨_,rfl,vT (pa:=p0) (pv:=[]) hW' (λ_ _ _=>trodAll_mk1 (shut_bool u4 true)) (λsp hsp=> ?_) (λ_ _=>rfl) (by simp) hb (ok_one (by kernel_rfl) rfl (okWide_bool_mk u4 true))⟩
 show DataW.TrodAll enc Tryz.prog W' 0 sp true Tryz.f3.params.toList [.slice a0 n0 k0,.int .i64 z1,.int .i64 z2,.int .i64 z3] [d0,.lit (.int .i64 z1),.lit (.int .i64 z2),.lit (.int .i64 z3)] (p0)
 rw[G']
 have h9:=trodAll_mk4 (WideElems.Trod_stays B4b (by kernel_rfl) (l2z (by kernel_rfl)) h0 (λx hx=>hb.same (hlt x (by simp[hx]))) (λx hx=>hsp x (by simp[hx])))
  (shut_int u3 wz1)
  (shut_int u3 wz2)
  (shut_int u3 wz3)
 simpa using h9
end Go.Proofs.YtngdjmhcceoafaaGreatDoor
end
noncomputable section
namespace Go.Proofs.YtngdjmhcceoafaaGreatDoor
open Go.ChangeShapes Go.WideShapes Go.ChangeAt Go.WideMaps Go.WideElems Go.RowKit
set_option maxRecDepth 100000
theorem exchangeAlong_holds:Rows.ExchangeAlongSaid:=
 OpenClaim.holds_of_wide 3 Tryz.f3 rfl rfl rfl rfl rfl rfl rfl ⟨rfl,rfl,rfl,rfl,rfl⟩ rfl rfl rfl rfl rfl lI Tryz.func3 B4X
  (l2z (by kernel_rfl)) (by unfold Func.isWrapper;first|(rw[Dj (by decide+kernel)];kernel_rfl)|(rw[C4 (by decide+kernel)];exact⟨rfl,rfl⟩))
  (λos started H enc _=>Yb os started H enc)
theorem C4d:Rows.exchangeAlongRow.wfByText (OpenSpec.ofChange Rows.exchangeAlongSpec)=true:=by kernel_rfl
theorem B9b:Tryz.pinned.checked.prog.mainIs=some (true, "c9bd3950063cda76b90401f863cc822eef9645d5093847a81f528a30e9966070".toList):=by kernel_rfl
theorem B4j:true=Tryz.pinned.checked.prog.looks []:=by kernel_rfl
theorem A52:Tryz.prog.funcs.any Func.goes=false:=by kernel_rfl
theorem B9c:false=Rows.exchangeAlongRow.goesBy Tryz.pinned.checked.prog:=by
 have h1:∀l:List FuncId,(l.any λg=>(Tryz.prog.funcs[g]?).any Func.goes)=false:=by
  intro l
  rw[List.any_eq_false]
  intro g _
  cases hg:Tryz.prog.funcs[g]? with
  |none=>simp
  |some fn=>
   have h2:=Array.any_eq_false.1 A52
   obtain⟨hlt,e⟩:=l1v.1 hg
   have:=h2 g hlt
   rw[e] at this
   simpa using this
 have h3:Tryz.prog.goes 3=false:=by
  unfold Program.goes
  rw[h1,A52,Bool.and_false,Bool.or_false]
 have hs:Rows.exchangeAlongRow.start= .entering:=rfl
 have hp:Tryz.pinned.checked.prog=Tryz.prog:=rfl
 have hn:Tryz.prog.funcNamed Rows.exchangeAlongRow.func=some 3:=lI
 unfold OpenClaim.goesBy Program.goesAt Program.goesFrom
 rw[hs,hp,hn,Option.any_some,h3]
 rfl
theorem B4i:([22,3,3,3].all λu=> !Tryz.prog.wantsStandIn u)=true:=by kernel_rfl
theorem exchangeAlong_card:Rows.ExchangeAlongCardSaid:=
 Claim7.holds_tied_plain_at .later [] [.data,.data,.data,.data,.sentinel,.sentinel,.data,.pinned] true (true, "c9bd3950063cda76b90401f863cc822eef9645d5093847a81f528a30e9966070") true
  exchangeAlong_holds (λ_ h=>by cases h) C4d (λ_ h=>by cases h) exchangeAlong_row_tie rfl ⟨rfl,rfl⟩ B9b rfl
  (λf fn hf hfn=>by
   obtain rfl:f=3:=l2c (lI.symm.trans hf)|>.symm
   obtain rfl:fn=Tryz.f3:=(l2c (Tryz.func3.symm.trans hfn)).symm
   exact⟨B4j,λj t ht=>by
    rw[G'] at ht
    have hm:t∈[22,3,3,3]:=by simpa using Array.mem_of_getElem? ht
    exact(show Tryz.prog.wantsStandIn t=false by simpa using GH.1 B4i t hm)⟩)
  B9c
end Go.Proofs.YtngdjmhcceoafaaGreatDoor
end
