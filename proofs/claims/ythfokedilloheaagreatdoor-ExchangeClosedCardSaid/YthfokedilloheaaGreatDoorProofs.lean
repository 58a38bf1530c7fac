import Derived.Shelf.Strings.OnBuilder
import Derived.Shelf.Strings.Repeat
import Derived.Shelf.Sort.Plain
import Derived.Shelf.Spec.SlicesGrow
import Derived.Test.YthfokedilloheaaGreatDoorProg
import Derived.ProofKit
import Derived.Deep.Slices
import Derived.OpenShut
import Derived.Test.YthfokedilloheaaGreatDoorRows
import Derived.LaidMore
import Derived.Stop.Joined
import Derived.MakeChecks
import Derived.FnData
import Derived.DataElems
import Derived.Lay
import Derived.Test.YthfokedilloheaaGreatDoorTie
import Derived.Test.YthfokedilloheaaGreatDoorCards
import Derived.SevenTiedAt
import Derived.Test.YthfokedilloheaaGreatDoorP30
import Derived.Test.YthfokedilloheaaGreatDoorP31
import Derived.Test.YthfokedilloheaaGreatDoorP32
set_option linter.all false
set_option maxHeartbeats 100000000
noncomputable section
namespace Go.Abs
open Go.RowKit Go.Proofs
set_option maxRecDepth 100000
section
variable{P:Af->Prop}
variable{L n:Nat}
section
variable{H H0 H':Hp}{v dv cv:AV}{A:eo}{K:KV}{x0:Af}{x:AV}{r m:Nat}{p:PC}{q:Pk}
structure StAt(H:Hp)(r m:Nat)(A:eo):Prop where
 st:Ai H r=some (c_ Dz [.mp m])
 mm:Ai H m=some (.map false (Df DU (gE A)) none)
def StAt.sv(h:StAt H r m A):oS H (.ptr r 0 0) A:=.inr ⟨r,m,rfl,h.st,h.mm⟩
def StAt.ne(h:StAt H r m A):r≠m:=λe=>by
 have:=h.mm;rw[<-e,h.st]at this;cases this
def StAt.keep(h:StAt H r m A)(k:∀u y,Ai H u=some y->Ai H' u=some y):StAt H' r m A:=⟨k _ _ h.st,k _ _ h.mm⟩
def A8W:(r! L (n+1)).call XA5 [] H K=K (.ptr (Ar H+1) 0 0) ((Ar H+1,c_ Dz [.mp (Ar H)])::(Ar H,.map false [] none)::H):=by
 rw[mC];unfold SL q0N;have em:∀(H:Hp)(K:KV),LX Ae H K=K (.mp (Ar H)) ((Ar H,.map false [] none)::H):=λH K=>by
  show It H (λs=>K (.mp s) ((s,.map false [] (mF Ae.d))::H))=_;rw[Ca];rfl
 have a:∀{m:Nat}{F:K2},BR CC [(0,1,.mp m)] F=F (.agg [.mp m]):=λ{m F}=>by kernel_rfl
 rw[em,a,Es (by rfl)];rfl
def A3N(wf:Wf H):StAt ((Ar H+1,c_ Dz [.mp (Ar H)])::(Ar H,.map false [] none)::H) (Ar H+1) (Ar H) []/\Wf ((Ar H+1,c_ Dz [.mp (Ar H)])::(Ar H,.map false [] none)::H)/\
 ∀u y,Ai H u=some y->Ai ((Ar H+1,c_ Dz [.mp (Ar H)])::(Ar H,.map false [] none)::H) u=some y:=by
 have w1:=AF (x:=.map false [] none) wf;have b:Ar ((Ar H,Row.map false [] none)::H)=Ar H+1:=rfl;refine⟨⟨Ax (H:=(Ar H,Row.map false [] none)::H) (by simp),A6 (H:=(Ar H,Row.map false [] none)::H) (by rw[b];omega) (Ax (by simp))⟩,AF (x:=.cells true Dz [.mp (Ar H)]) w1,λu y a=>?_⟩;have a1:=A6 (x:=.map false [] none) (wf.lt a) a;exact A6 (w1.lt a1) a1
def add1(A:eo):PC->eo×Bool×Int
 |.z=>(A,false,280)
 |.c d=>if d.id∈A.map Cd.id then(A,false,0) else(A++[d],true,0)
def C55:(Df DU (gE A)).length=A.length:=by simp[gE]
def A9h(hL:40000<L)(B:p.Ok)(wf:Wf H)(Q:StAt H r m A)(O:A.length<60)(j:∀H',StAt H' r m (add1 A p).1->Lat H H' (λu=>u=m)->P (K (.tup [Bo (add1 A p).2.1,I (add1 A p).2.2]) H')):P ((r! L (n+65)).call Gy [.ptr r 0 0,.agg p.cells] H K):=by
 rw[Uv];unfold K1 L8;rw[Es p.one];have w1:=AF (x:=.cells true Ad p.cells) wf;have D:∀u y,Ai H u=some y->Ai ((Ar H,c_ Ad p.cells)::H) u=some y:=λu y e=>A6 (wf.lt e) e;have b1:Ai ((Ar H,c_ Ad p.cells)::H) (Ar H)=some (c_ Ad p.cells):=Ax (by simp);have n1:Ar ((Ar H,c_ Ad p.cells)::H)=Ar H+1:=rfl;generalize ((Ar H,c_ Ad p.cells)::H:Hp)=N at w1 D b1 n1;rw[Br rfl p.len.symm b1,B64 (n:=n) hL B];have V:=Q.keep D;rw[A2Z V.st];refine A5J (b:=gE A) (F:=λab ac X=>As Ah .eql (S p.id) (AV.v (.string ⟨⟨[]⟩⟩)) λad=>_) (λF=>Z8 V.mm) λa h2=>?_;obtain⟨cc,s⟩:=h2;have R:∀u y,Ai N u=some y->Ai a u=some y:=λu y e=>by
  have:=w1.lt e;rw[s,Ag (by omega)];exact A6 this e
 have w2:Wf a:=by rw[s];exact Bi (AF w1)
 have n2:Ar H<=Ar a:=by rw[s,B1];show Ar H<=Ar N+1;omega
 have k:∀u y,Ai H u=some y->Ai a u=some y:=λu y e=>R u y (D u y e);have g:=Q.keep k;have C:Lat H a (λu=>u=m):=⟨λ_=>w2,n2,λ_ u y e _=>k u y e⟩
 have w:∀{F:K2},As Ah .eql (S p.id) (AV.v (.string ⟨⟨[]⟩⟩)) F=F (Bo (decide (p.id=[]))):=λ{F}=>Lb;simp only[w];cases p with
 |z=>
  rw[show decide (PC.z.id=[])=true from rfl,Co];exact j a g C
 |c d=>
  rw[show decide ((PC.c d).id=[])=false from HN (nP d),Ba];have ef:MG (gE A) (PC.c d).id=MG (gE A) d.id:=rfl;rw[ef,iX];by_cases i:d.id∈A.map Cd.id
  ·rw[GI i,Co];have t:add1 A (.c d)=(A,false,0):=Dr i;rw[t]at j;exact j a g C
  ·rw[HN i,Ba];have t:add1 A (.c d)=(A++[d],true,0):=CD i;rw[t]at j;rw[A2Z g.st,vH g.mm,C55];have Y:∀{F:K2},As Ac .geq (I (A.length:Int)) (AV.v (.int .i64 64)) F=F (Bo false):=λ{F}=>by rw[KX,HN (by omega)]
   rw[Y,Ba];have b2:=R _ _ b1;have Z:∀{F:K2},(Au (L0 (.ptr r 0 0) λv=>some (v,[])) λJ=>Au (CL 0 J λv=>some (v,[])) λM=>Au (AE Aj M a λv=>some (v,[])) F)=F (.mp m):=λ{F}=>by
    rw[I3,B6,fA,B6,Kk,AL (p:=0) rfl g.st (by simp),B6];rfl
   rw[Z,Br rfl (PC.len (.c d)).symm b2,B6];have aa:=TP B.1;show P (Au (Aq (r! L (n+64)) Lx [.agg d.cs] a λv=>some (v,[])) _);rw[CT.z (A0J (n:=n+62) B.1 (by omega)) (oR a),B6,R!];show P (D6 (MC (.mp m) (SV d.id) (DU d) a λH=>some (AV.v undef,H)) _);rw[jE (f:=DU) (b:=gE A) (v:=d) g.mm,BW,Zr (by rw[Xi];exact i),B19];refine j _ ⟨by rw[Ag g.ne];exact g.st,(BF g.mm).trans rfl⟩ (C.trans (Lat.upd a m _ (P:=λu=>u=m) rfl) (λ_ _ h=>h) (λ_ _ h=>h))
def B7m(c:40000<L)(d:p.Ok)(wf:Wf H)(e:StAt H r m A)(b:A.length<60)(f:∀H',StAt H' r m (add1 A p).1->Lat H H' (λu=>u=m)->K (.tup [Bo (add1 A p).2.1,I (add1 A p).2.2]) H'=x0):(r! L (n+65)).call Gy [.ptr r 0 0,.agg p.cells] H K=x0:=
 A9h (P:=λa=>a=x0) c d wf e b f
def A31(d:40000<L)(e:p.Ok)(wf:Wf H)(f:StAt H r m A)(a:A.length<60)(g:∀H',StAt H' r m (add1 A p).1->Lat H H' (λu=>u=m)->P (K (I (add1 A p).2.2) H')):P ((r! L (n+66)).call Ep [.ptr r 0 0,.agg p.cells] H K):=by
 rw[Uw];unfold K3 A2;rw[Es p.one];have w1:=AF (x:=.cells true Ad p.cells) wf;have k:∀u y,Ai H u=some y->Ai ((Ar H,c_ Ad p.cells)::H) u=some y:=λu y b=>A6 (wf.lt b) b;have b1:Ai ((Ar H,c_ Ad p.cells)::H) (Ar H)=some (c_ Ad p.cells):=Ax (by simp);have c:=f.keep k;have j:Lat H ((Ar H,c_ Ad p.cells)::H) (λu=>u=m):=Lat.cons _ _ _;rw[c.sv.nn,Ba,Br rfl p.len.symm b1];refine A9h (n:=n) d e w1 c a λH' s i=>?_;rw[Gz,UJ];exact g H' s (j.trans i (λ_ _ h=>h) (λ_ _ h=>h))
def C4m(H:Hp)(v:AV)(q:Pk):Prop:=∃dv cv,v=.agg [I q.kd,dv,cv]/\jY H dv q.ds/\ZH H cv q.cs
def C4M{s:AP}:CS (r! L (n+1)) J3 [S s] (Bo (decide (s.length≠32))):=by
 intro K d;rw[WU];unfold XA4 HX;have a:∀{F:K2},Bp Ah (S s) F=F (I (s.length:Int)):=λ{F}=>by
  have:Bp Ah (S s) F=HQ s 0 λn=>F (.v (.int .i64 (.ofNat n))):=r_ rfl;rw[this,Cs,Kk];rfl
 have c:(!decide ((s.length:Int)=32))=decide (s.length≠32):=by
  by_cases h:s.length=32
  ·simp[h]
  ·simp[h];omega
 rw[a,I6,c];exact d _ _ λb=>⟨false,CA⟩
abbrev r1F:AV:=.fn (.func J3) [] []
def A8S(hL:40000<L)(w:SA q.ds dv)(hc:ZH [] cv q.cs)(Y:q.ds.length<1000)(X:q.cs.length<1000):CS (r! L (n+4)) Mw [.agg [I q.kd,dv,cv]] (Bo (@decide q.Right (Classical.propDecidable _))):=by
 intro K i;rw[eC];unfold PK HX;have C:AV.one cv=true:=hc.one.2;have D:AV.one dv=true:=w.cell.2;rw[Es (by simp[C,D];rfl)];have J:Ar ([]:Hp)=0:=rfl;simp only[J];have a:Ai [(0,c_ Aw [I q.kd,dv,cv])] 0=some (c_ Aw [I q.kd,dv,cv]):=rfl;have c:∀{j:Nat}{F:K2},CL j (.ptr 0 0 0) F=F (.ptr 0 j 0):=λ{j F}=>by rw[fA,Kk]
 generalize [(0,c_ Aw [I q.kd,dv,cv])]=H at a;have g:∀{F:K2},AE Ac (.ptr 0 0 0) H F=F (I q.kd):=λ{F}=>AL (p:=0) rfl a (by simp);have y:∀{F:K2},AE Ab (.ptr 0 1 0) H F=F dv:=λ{F}=>AL (p:=1) rfl a (by simp);have O:∀{F:K2},AE Ak (.ptr 0 2 0) H F=F cv:=λ{F}=>AL (p:=2) rfl a (by simp);have d1:∀{F:K2},Bp Ab dv F=F (I q.ds.length):=λ{F}=>w.len;have d2:∀{F:K2},Bp Ak cv F=F (I q.cs.length):=λ{F}=>by
  rcases hc with⟨rfl,h⟩|rfl|⟨_,_,_,_,h⟩
  ·rw[h];rfl
  ·exact r_ rfl
  ·simp[Ai]at h
 have R:∀{F:K2},As Ac .gtr (I (q.ds.length:Int)) (AV.v (.int .i64 64)) F=F (Bo (decide (64<q.ds.length))):=λ{F}=>by rw[DT];congr 3;simp;omega
 have V:∀{F:K2},As Ac .gtr (I (q.cs.length:Int)) (AV.v (.int .i64 64)) F=F (Bo (decide (64<q.cs.length))):=λ{F}=>by rw[DT];congr 3;simp;omega
 have Q:∀{F:K2},As Ac .eql (I (q.ds.length:Int)) (AV.v (.int .i64 0)) F=F (Bo (decide (q.ds=[]))):=λ{F}=>by rw[Cv];congr 3;simp
 have Z:∀{F:K2},As Ac .eql (I (q.cs.length:Int)) (AV.v (.int .i64 0)) F=F (Bo (decide (q.cs=[]))):=λ{F}=>by rw[Cv];congr 3;simp
 have k1:∀{z:Int}{F:K2},As Ac .eql (I q.kd) (AV.v (.int .i64 z)) F=F (Bo (decide (q.kd=z))):=λ{z F}=>Cv;have t:∀{F:K2},Aq (r! L (n+3)) B5 [dv,r1F] H F=F (Bo (q.ds.any λs=>decide (s.length≠32))):=λ{F}=>
  AQ (sJ (n:=n+1) w (λs K=>by
   have e:Cw (E (L+20)) (r! L (n+1)) r1F [S s] [] K=Aq (r! L (n+1)) J3 [S s] [] λv=>K v []:=by kernel_rfl
   rw[e];exact AQ C4M (Ao (q:=false) CA AI)) (λK=>rfl) (by omega) (by omega)) (Ao (w.fx H) (Ao (q:=false) (λK=>rfl) AI))
 simp only[c,y,d1,R];by_cases h1:64<q.ds.length
 ·have hn:¬q.Right:=λ⟨h,_⟩=>by omega
  simp only[GI h1,zK,BW,Ul];rw[Co];rw[@decide_eq_false _ (_) hn]at i⊢;exact i _ _ λb=>⟨false,CA⟩
 simp only[HN h1,gT,gU,BW,c,O,d2,V,RF];by_cases h2:64<q.cs.length
 ·have hn:¬q.Right:=λ⟨_,h,_⟩=>by omega
  simp only[GI h2,zK,BW,Ul];rw[Co];rw[@decide_eq_false _ (_) hn]at i⊢;exact i _ _ λb=>⟨false,CA⟩
 simp only[HN h2,gT,gU,BW,c,y,t,RF];by_cases k:∀s∈q.ds,s.length=32
 rotate_left
 ·have hn:¬q.Right:=λ⟨_,_,h,_⟩=>k h;have B:(q.ds.any λs=>decide (s.length≠32))=true:=by
   simp only[Classical.not_forall]at k;obtain⟨s,M,N⟩:=k;exact List.any_eq_true.2 ⟨s,M,by simpa using N⟩
  rw[B,Co];rw[@decide_eq_false _ (_) hn]at i⊢;exact i _ _ λb=>⟨false,CA⟩
 have B:(q.ds.any λs=>decide (s.length≠32))=false:=by
  rw[List.any_eq_false];intro s M;simp[k s M]
 rw[B,Ba];simp only[c,O,d2,Z];have fin:∀(b:Bool)(H:Hp),(b=true↔q.Right)->K (Bo b) H=some (Bo (@decide q.Right (Classical.propDecidable _)),[]):=λb H hb=>by
  have e:b=@decide q.Right (Classical.propDecidable _):=by
   cases b
   ·exact(@decide_eq_false _ (_) λh=>by have:=hb.2 h;cases this).symm
   ·exact(@decide_eq_true _ (_) (hb.1 rfl)).symm
  rw[e];exact i _ _ λb=>⟨false,CA⟩
 have f:q.Right↔(q.cs=[]/\(q.kd=1\/q.kd=2))\/(q.ds=[]/\q.kd=3):=⟨λ⟨_,_,_,h⟩=>h,λh=>⟨by omega,by omega,k,h⟩⟩
 by_cases d:q.cs=[]
 ·by_cases kk:q.kd=1
  ·simp only[GI d,gT,eP,zK,gU,BW,c,g,k1,GI kk,Ul,RF];exact fin true H ⟨λ_=>f.2 (.inl ⟨d,.inl kk⟩),λ_=>rfl⟩
  ·by_cases u:q.kd=2
   ·simp only[GI d,gT,eP,zK,gU,BW,c,g,k1,HN kk,GI u,Ul,RF];exact fin true H ⟨λ_=>f.2 (.inl ⟨d,.inr u⟩),λ_=>rfl⟩
   ·simp only[GI d,gT,eP,zK,gU,BW,c,g,k1,HN kk,HN u,Ul,RF,y,d1,Q];by_cases d0:q.ds=[]
    ·simp only[GI d0,gT,eP,zK,gU,BW,c,g,k1,Ul,RF];refine fin _ H ⟨λh=>f.2 (.inr ⟨d0,by simpa using h⟩),λh=>?_⟩;rcases f.1 h with⟨_,h|h⟩|⟨_,h⟩
     ·exact absurd h kk
     ·exact absurd h u
     ·exact GI h
    ·simp only[HN d0,gT,eP,zK,gU,BW,c,g,k1,Ul,RF];refine fin false H ⟨λh=>(by cases h),λh=>?_⟩;rcases f.1 h with⟨_,h|h⟩|⟨h,_⟩
     ·exact absurd h kk
     ·exact absurd h u
     ·exact absurd h d0
 ·simp only[HN d,gT,eP,zK,gU,BW,c,g,k1,Ul,RF,y,d1,Q];by_cases d0:q.ds=[]
  ·simp only[GI d0,gT,eP,zK,gU,BW,c,g,k1,Ul,RF];refine fin _ H ⟨λh=>f.2 (.inr ⟨d0,by simpa using h⟩),λh=>?_⟩;rcases f.1 h with⟨h,_⟩|⟨_,h⟩
   ·exact absurd h d
   ·exact GI h
  ·simp only[HN d0,gT,eP,zK,gU,BW,c,g,k1,Ul,RF];refine fin false H ⟨λh=>(by cases h),λh=>?_⟩;rcases f.1 h with⟨h,_⟩|⟨h,_⟩
   ·exact absurd h d
   ·exact absurd h d0
def A5d{pv:AV}(f:40000<L)(i:C4m H pv q)(d:q.ds.length<1000)(b:q.cs.length<1000){F:K2}:Aq (r! L (n+4)) Mw [pv] H F=F (Bo (@decide q.Right (Classical.propDecidable _))):=by
 obtain⟨dv,cv,rfl,g,hc⟩:=i;obtain⟨s,q1,c,f1⟩:∃e j,SA q.ds e/\Fx true 11 dv e H j:=by
  rcases g with h|h
  ·refine⟨dv,false,h,?_⟩;rcases h with rfl|⟨_,rfl⟩<;>exact λK=>rfl
  ·exact h.fx (D:=10)
 obtain⟨k,q2,a,f2⟩:=hc.fx (D:=10);exact AQ (A8S (n:=n) f c a d b) (Ao (LL (D:=11) (Ao (q:=false) CA (Ao f1 (Ao f2 AI)))) AI)
end
end
section
variable{s:AP}{F:K2}{PP:Af->Prop}
variable{L n:Nat}
section
variable{H H0 H':Hp}{v dv cv pv:AV}{A:eo}{K:KV}{x0:Af}{x:AV}{r m:Nat}{q:Pk}{l:List AP}
def jY.nn(h:jY H v l)(b:l≠[]):As Ab .eql v (AV.v (.slice none 0 0)) F=F (Bo false):=by
 cases l with
 |nil=>exact absurd rfl b
 |cons a l=>
  rcases h with h|h
  ·rcases h with rfl|⟨h,_⟩
   ·exact r_ rfl
   ·cases h
  ·rcases h with⟨_,h⟩|⟨r,q,c,rfl,_⟩
   ·cases h
   ·exact r_ rfl
theorem jY.src(h:jY H v l){F:Nat->Is->Af}:T7 H v F=F l.length (A9 l):=by
 rcases h with h|h
 ·exact h.src
 ·rcases h with⟨rfl,rfl⟩|⟨r,q,a,rfl,h2⟩
  ·rfl
  ·have:T7 H (.sl 1 r 0 l.length) F=IQ H r λx=>Kq x λ_ cs=>EL (Nat.mul l.length 1) (Do 0 cs) λc=>F l.length c:=rfl;rw[this,Bn h2];show EL (l.length*1) (Do 0 (A9 l++a)) (λc=>F l.length c)=_;rw[C9,rC,KZ _ _ _ (by rw[Ez,AZ];omega),oI,l32 (by rw[AZ];omega),l25 (by rw[AZ];omega)]
theorem jY.ok(h:jY H v l):(dG Ab.d&&RW 1 v)=true:=by
 rcases h with h|h
 ·exact h.ok
 ·rcases h with⟨rfl,rfl⟩|⟨r,q,a,rfl,h2⟩<;>rfl
def A0K(wf:Wf H)(h:jY H v l)(w:l=[]->v=Av)(hn:l.length<100000)(i:∀b H',Km H' b l->(∀u,A4 b u->Ar H<=u)->Wf H'->(∀u y,Ai H u=some y->Ai H' u=some y)->Ar H<=Ar H'->PP (K b H')):
 PP ((r! L (n+1)).call Bk [v] H K):=by
 rw[FU];unfold DF HX;by_cases d:l=[]
 ·subst d;obtain rfl:=w rfl;have e:∀{K:K2},As Ab .eql Av (AV.v (.slice none 0 0)) K=K (Bo true):=λ{K}=>r_ rfl;rw[e,Co];exact i Av H (.inl ⟨rfl,rfl⟩) (λu a=>absurd a Ie) wf (λu y a=>a) (LH _)
 ·rw[h.nn d,Ba,B2e];have w1:=AF (x:=.cells false Al []) wf;have j:∀u y,Ai H u=some y->Ai ((Ar H,Row.cells false Al [])::H) u=some y:=λu y a=>A6 (wf.lt a) a;have B:AU ((Ar H,.cells false Al [])::H) Al 1 (.sl 1 (Ar H) 0 0) 0 []:=.inr ⟨Ar H,false,rfl,Ax (by simp),rfl⟩;have f:=h.keep j;obtain⟨b,H',k,p,t,c⟩:=apt (ie:=Ah) (i2:=Ab) B (λK=>f.src (F:=K)) (by rw[AZ,oI]) (Yl (λ_=>rfl) l) (by decide) rfl f.ok (by show(0+l.length)*16<=_;omega) (by omega);rw[k];have n1:Ar ((Ar H,Row.cells false Al [])::H)=Ar H+1:=rfl;refine i b H' ?_ (λu a=>?_) (c.wf w1) (λu y a=>?_) ?_
  ·rcases p with⟨_,h,_⟩|⟨r,q,rfl,h2,_⟩
   ·exact absurd (kC (by omega)) d
   ·exact .inr ⟨r,q,[],by rw[Kk],by rw[US];exact h2⟩
  ·have:=t u a;omega
  ·have:=wf.lt a;exact c.keep w1 u y (j u y a) λ⟨_,_,_,g⟩=>by injection g with _ g;omega
  ·have:=c.nx;omega
def A9e(wf:Wf H)(h:jY H v l)(c:l=[]->v=Av)(hn:l.length<100000)(d:∀b H',Km H' b l->(∀u,A4 b u->Ar H<=u)->Wf H'->(∀u y,Ai H u=some y->Ai H' u=some y)->Ar H<=Ar H'->K b H'=x0):
 (r! L (n+1)).call Bk [v] H K=x0:=
 A0K (PP:=λa=>a=x0) wf h c hn d
structure PkS(H:Hp)(v:AV)(q:Pk):Prop where
 at_:∃dv cv,v=.agg [I q.kd,dv,cv]/\jY H dv q.ds/\ZH H cv q.cs/\(q.ds=[]->dv=Av)
def PkS.pk(h:PkS H v q):C4m H v q:=by
 obtain⟨dv,cv,h1,h2,a,_⟩:=h.at_;exact⟨dv,cv,h1,h2,a⟩
theorem PkS.keep(h:PkS H v q)(k:∀u y,Ai H u=some y->Ai H' u=some y):PkS H' v q:=by
 obtain⟨dv,cv,h1,h2,a,b⟩:=h.at_;exact⟨dv,cv,h1,h2.keep k,a.keep λu y _ c=>k u y c,b⟩
def A36(e:oS H x A):Aq (r! L (n+1)) BO [x,S s] H F=F (Bo (decide (s∈A.map Cd.id))):=by
 obtain⟨q1,c⟩:=e.fx (D:=7);refine AQ (λK d=>?_) (Ao c (Ao (q:=false) CA AI));rw[Ut];unfold K0 L8;rw[A0u];refine A3X (b:=gE A) (F:=λf _ a=>K f a) (λK=>r_ rfl) λH' _=>?_;rw[iX];exact d _ _ λb=>⟨false,CA⟩
abbrev C09(x:AV):AV:=.fn (.func BO) [x] []
def A8B{N:Nat}:Cw (E (L+20)) (rt (L+20) N) (C09 x) [S s] H K=Aq (rt (L+20) N) BO [x,S s] H λv=>K v H:=by
 show Ta [S s] [] (λa=>Ta [x] a λall=>A1R ((E (L+20)).ne BO) all H K (@Bool.rec (λ_=>Af) (zpm (E (L+20)) BO (rt (L+20) N) all H λv=>K v H) ((rt (L+20) N).call BO all H K) ((E (L+20)).imp BO)))=_;rw[Jx,Jx,show(E (L+20)).ne BO=false from rfl,show(E (L+20)).imp BO=false from rfl];show zpm (E (L+20)) BO (rt (L+20) N) [x,S s] H (λv=>K v H)=_;rw[A2L (by simp)]
def B5b{D:Nat}(c:oS H x A):∃q,Fx true (D+6) (C09 x) (C09 (.iptr [.imap (Df DU (gE A))])) H q:=by
 obtain⟨q1,h1⟩:=c.fx (D:=D);refine⟨q1,λK=>?_⟩;show IK (Ia true H (D+5)) [x] (λq b=>IK (Ia true H (D+5)) [] λd a=>K (@Bool.rec (λ_=>Bool) d true q) (.fn (.func BO) b a))=_;have h2:Rm true (D+5) [x] [.iptr [.imap (Df DU (gE A))]] H (q1||false):=Ao h1 AI;rw[h2];show K (@Bool.rec (λ_=>Bool) false true (q1||false)) _=_;cases q1<;>rfl
def A0C(O:GOk A)(M:200000<L)(wf:Wf H)(g:StAt H r m A)(R:PkS H pv q)(N:q.ds.length<=40)(X:∀H',Lat H H' (λ_=>False)->PP (K (wY (dN A (q.ds.filter λs=>decide (s∉A.map Cd.id)))) H')):PP ((r! L (n+83)).call CK [.ptr r 0 0,pv] H K):=by
 obtain⟨dv,cv,rfl,h1,h2,J⟩:=R.at_;rw[SD];unfold JA DI;have Y:([I q.kd,dv,cv]:Is).all AV.one=true:=by
  have a1:=h1.one.2;have a2:=h2.one.2;simp only[oG,l3a,a1,a2];rfl
 rw[Es Y];have w1:=AF (x:=.cells true Aw [I q.kd,dv,cv]) wf;have i:∀u y,Ai H u=some y->Ai ((Ar H,c_ Aw [I q.kd,dv,cv])::H) u=some y:=λu y a=>A6 (wf.lt a) a;have b1:Ai ((Ar H,c_ Aw [I q.kd,dv,cv])::H) (Ar H)=some (c_ Aw [I q.kd,dv,cv]):=Ax (by simp);rw[fA,Kk,AL (p:=1) rfl b1 (by simp)];refine A0K (n:=n+81) w1 (h1.keep i) J (by omega) λC t r2 f j w n2=>?_;have s2:=g.keep λu y a=>w u y (i u y a);obtain⟨Z,e⟩:=B5b (D:=6) s2.sv;have n2:Ar H+1<=Ar t:=n2;have d:∀u,A4 C u->Ar H+1<=u:=λu a=>f u a;have b:∀{c},Lat t c (A4 C)->∀u y,Ai H u=some y->Ai c u=some y:=λ{c}k u y a=>k.keep j u y (w u y (i u y a)) λQ=>by have:=d u Q;have:=wf.lt a;omega
 refine A99 (n:=n+80) (P:=λs=>decide (s∈A.map Cd.id)) j r2 (by omega) (by omega) ⟨_,Z,e,λs K=>?_⟩ (λc k3 s K=>?_) λv3 c B V k3=>?_
 ·rw[A8B];exact A36 (n:=n+79) (.inl rfl)
 ·rw[A8B];exact A36 (n:=n+80) (g.keep (b k3)).sv
 ·have w3:=k3.wf j;have ef:(q.ds.filter λs=>!decide (s∈A.map Cd.id))=q.ds.filter λs=>decide (s∉A.map Cd.id):=by
   congr 1
   funext s
   by_cases h:s∈A.map Cd.id<;>simp[h]
  rw[ef]at B;rw[A8H (n:=n) O M (g.keep (b k3)).sv (.inr B) (fG (l30 _ _) N)];exact X c ⟨λ_=>w3,by have:=k3.nx;omega,λ_ u y a _=>b k3 u y a⟩
def A92(d:GOk A)(b:200000<L)(wf:Wf H)(f:StAt H r m A)(e:PkS H pv q)(c:q.ds.length<=40)(g:∀H',Lat H H' (λ_=>False)->K (wY (dN A (q.ds.filter λs=>decide (s∉A.map Cd.id)))) H'=x0):(r! L (n+83)).call CK [.ptr r 0 0,pv] H K=x0:=
 A0C (PP:=λa=>a=x0) d b wf f e c g
end
end
section
variable{L n:Nat}
abbrev PV:=List (Pk×AV×AV)
def pvC(p:Pk×AV×AV):Is:=[I p.1.kd,p.2.1,p.2.2]
structure PvOk(H:Hp)(p:Pk×AV×AV):Prop where
 ds:jY H p.2.1 p.1.ds
 cs:ZH H p.2.2 p.1.cs
 nl:p.1.ds=[]->p.2.1=Av
def B2v(H:Hp)(v:AV)(ps:PV):Prop:=(v=Av/\ps=[])\/v=.list ps.length (ps.flatMap pvC)\/∃r q a,v=.sl 3 r 0 ps.length/\Ai H r=some (.cells q Aw (ps.flatMap pvC++a))
structure PksAt(H:Hp)(v:AV)(l:List Pk):Prop where
 at_:∃ps:PV,ps.map Prod.fst=l/\(∀p∈ps,PvOk H p)/\B2v H v ps
section
variable{H H0 H':Hp}{v dv cv pv:AV}{A:eo}{K:KV}{x0:Af}{x:AV}{r m:Nat}{q:Pk}{l:List AP}{ps:PV}
def B9w(ps:PV):(ps.flatMap pvC).length=ps.length*3:=A5Y (f:=pvC) (w:=3) (λ_=>rfl) ps
def PksAt.pks{ls:List Pk}:PksAt H (wY ls) ls:=by
 refine⟨ls.map λp=>(p,DV p.ds,match p.cs with|[]=>Av|c::cs=>.list (c::cs).length ((c::cs).flatMap PC.cells)),by rw[List.map_map];exact List.map_id _,λp b=>?_,?_⟩
 ·obtain⟨a,_,rfl⟩:=PW.1 b;refine⟨.inl (My _),?_,λh=>?_⟩
  ·show ZH H (match a.cs with|[]=>Av|c::cs=>.list (c::cs).length ((c::cs).flatMap PC.cells)) a.cs;cases a.cs with
   |nil=>exact .inl ⟨rfl,rfl⟩
   |cons c cs=>exact .inr (.inl rfl)
  ·have h:a.ds=[]:=h;show DV a.ds=Av;rw[h];rfl
 ·cases ls with
  |nil=>exact .inl ⟨rfl,rfl⟩
  |cons p ls=>
   refine .inr (.inl ?_);show AV.list _ _=AV.list _ _;rw[Po,List.flatMap_map];rfl
def B63{s:AP}:CS (r! L (n+2)) Fj [S s,.iptr [.iptr [.imap (Df DU (gE A))]]] (Bo (decide (s∉A.map Cd.id))):=by
 intro K c;rw[Pi];unfold HK L8;have a:∀{F:K2},AE BA (.iptr [.iptr [.imap (Df DU (gE A))]]) [] F=F (.iptr [.imap (Df DU (gE A))]):=λ{F}=>by kernel_rfl
 rw[a,A36 (n:=n) (.inl rfl),DR];have:(!decide (s∈A.map Cd.id))=decide (s∉A.map Cd.id):=by by_cases h:s∈A.map Cd.id<;>simp[h]
 rw[this];exact c _ _ λb=>⟨false,CA⟩
def A5T{ws:List AP}:gvn A ws=[]↔RI (Et (ws.filter λx=>decide (x∈A.map Cd.id)))=[]:=by
 constructor
 ·intro h;cases hc:RI (Et (ws.filter λx=>decide (x∈A.map Cd.id))) with
  |nil=>rfl
  |cons a t=>
   have d:a∈RI (Et (ws.filter λx=>decide (x∈A.map Cd.id))):=by rw[hc];simp
   rw[X!,(Bl _).mem_iff,l2z,decide_eq_true_eq]at d;obtain⟨c,b⟩:=T! d.2;unfold gvn at h;rw[hc,List.filterMap_cons,b]at h;cases h
 ·intro h;unfold gvn;rw[h];rfl
def A6C(hg:GOk A)(hL:200000<L)(wf:Wf H)(hs:StAt H r m A)(N:PkS H pv q)(hd:q.ds.length<=64)(O:∀J H',PksAt H' J (S' A q.ds)->Lat H H' (λ_=>False)->K J H'=x0):(r! L (n+83)).call Dw [.ptr r 0 0,pv] H K=x0:=by
 obtain⟨dv,cv,rfl,h1,h2,h3⟩:=N.at_;rw[Rw];unfold Jk DI A2;rw[A4y ⟨rfl,rfl⟩];have o3:([I q.kd,dv,cv]:Is).all AV.one=true:=by
  have a1:=h1.one.2;have a2:=h2.one.2;simp only[oG,l3a,a1,a2];rfl
 rw[Es o3];have w0:=AF (x:=.cells true AX [.ptr r 0 0]) wf;have e0:Ar ((Ar H,c_ AX [.ptr r 0 0])::H)=Ar H+1:=rfl;rw[e0];have w1:Wf ((Ar H+1,c_ Aw [I q.kd,dv,cv])::(Ar H,c_ AX [.ptr r 0 0])::H):=AF (x:=.cells true Aw [I q.kd,dv,cv]) w0;have Q:∀u y,Ai H u=some y->Ai ((Ar H+1,c_ Aw [I q.kd,dv,cv])::(Ar H,c_ AX [.ptr r 0 0])::H) u=some y:=λu y a=>by
  have a1:=A6 (x:=.cells true AX [.ptr r 0 0]) (wf.lt a) a;exact A6 (w0.lt a1) a1
 have V:Ai ((Ar H+1,c_ Aw [I q.kd,dv,cv])::(Ar H,c_ AX [.ptr r 0 0])::H) (Ar H)=some (c_ AX [.ptr r 0 0]):=A6 (H:=(Ar H,c_ AX [.ptr r 0 0])::H) (by rw[e0];omega) (Ax (by simp));have b1:Ai ((Ar H+1,c_ Aw [I q.kd,dv,cv])::(Ar H,c_ AX [.ptr r 0 0])::H) (Ar H+1)=some (c_ Aw [I q.kd,dv,cv]):=Ax (H:=(Ar H,c_ AX [.ptr r 0 0])::H) (by simp);have n1:Ar ((Ar H+1,c_ Aw [I q.kd,dv,cv])::(Ar H,c_ AX [.ptr r 0 0])::H)=Ar H+2:=rfl;generalize ((Ar H+1,c_ Aw [I q.kd,dv,cv])::(Ar H,c_ AX [.ptr r 0 0])::H:Hp)=M at w1 Q V b1 n1;rw[fA,Nat.add_comm 0 1,AL (p:=1) rfl b1 (by simp)];refine A9e (n:=n+81) w1 (h1.keep Q) h3 (by omega) λJ H2 r2 aa w2 k2 n2=>?_;have g:∀u,A4 J u->Ar H+2<=u:=λu a=>by have:=aa u a;omega
 have B:∀{d},Lat H2 d (A4 J)->∀u y,Ai M u=some y->Ai d u=some y:=λ{d}k u y a=>k.keep w2 u y (k2 u y a) λw=>by have:=g u w;have:=w1.lt a;omega
 have fxc:∀(D:Nat){d},(∀u y,Ai M u=some y->Ai d u=some y)->Fx true (D+6) (.ptr (Ar H) 0 0) (.iptr [.iptr [.imap (Df DU (gE A))]]) d true:=λD{d}k=>by
  obtain⟨qx,O⟩:=(hs.keep λu y a=>k u y (Q u y a)).sv.fx (D:=D);exact Xk (D:=D+5) (k _ _ V) (Ao O AI)
 refine A9b (n:=n+80) (P:=λs=>decide (s∉A.map Cd.id)) w2 r2 (by omega) (by omega) ⟨.fn (.func Fj) [] [.iptr [.iptr [.imap (Df DU (gE A))]]],_,zM (D:=11) (Ao (fxc 5 k2) AI),λs K=>?_⟩ (λd k3 s K=>?_) λv3 d r3 ab k3=>?_
 ·rw[F' rfl rfl];exact AQ (B63 (n:=n+78)) (Ao (q:=false) CA (Ao (q:=false) Rx AI))
 ·rw[F' rfl rfl];exact AQ (B63 (n:=n+79)) (Ao (q:=false) CA (Ao (fxc 6 (B k3)) AI))
 ·have w3:=k3.wf w2;have ef:(q.ds.filter λs=>!decide (s∉A.map Cd.id))=q.ds.filter λs=>decide (s∈A.map Cd.id):=by
   congr 1
   funext s
   by_cases h:s∈A.map Cd.id<;>simp[h]
  rw[ef]at r3;have Z:(q.ds.filter λs=>decide (s∈A.map Cd.id)).length<=64:=fG (l30 _ _) hd;have ae:=B k3;refine A5c (n:=n+78) r3 (by omega) λH4 r4 k4=>?_;have w4:=k4.wf w3;have b:∀u,A4 v3 u->Ar H+2<=u:=λu a=>g u (ab u a);have af:∀u y,Ai M u=some y->Ai H4 u=some y:=λu y a=>k4.keep w3 u y (ae u y a) λw=>by have:=b u w;have:=w1.lt a;omega
  refine B67 (n:=n+81) w4 r4 (by rw[(Bl _).length_eq];omega) (by omega) λv5 j r5 ah _ k5=>?_;have w5:=k5.wf w4;have C:∀u y,Ai M u=some y->Ai j u=some y:=λu y a=>k5.keep w4 u y (af u y a) λw=>by have:=b u w;have:=w1.lt a;omega
  have i:∀u y,Ai H u=some y->Ai j u=some y:=λu y a=>C u y (Q u y a);have ad:Ar H<=Ar j:=by have:=k3.nx;have:=k4.nx;have:=k5.nx;omega
  rw[r5.len,Cv];by_cases hz:gvn A q.ds=[]
  ·have f:=A5T.1 hz;rw[GI (by rw[f];rfl),Co];refine O Av j ?_ ⟨λ_=>w5,ad,λ_ u y a _=>i u y a⟩;unfold S';rw[Dr hz];exact PksAt.pks (ls:=[])
  ·have f:RI (Et (q.ds.filter λx=>decide (x∈A.map Cd.id)))≠[]:=λh=>hz (A5T.2 h);have ag:=List.length_pos_iff.2 f;rw[HN (λh=>f (kC (by simpa using h))),Ba];have lx:∀{F:K2},AE BA (.ptr (Ar H) 0 0) j F=F (.ptr r 0 0):=λ{F}=>AL (p:=0) rfl (C _ _ V) (by simp);rw[lx];have t:=A6a (Et (q.ds.filter λx=>decide (x∈A.map Cd.id)));rw[(Bl _).length_eq]at t;refine A98 (n:=n+76) (A:=A) hg (λy hy=>?_) (Nat.lt_of_le_of_lt (fG t Z) (by decide)) (by omega) w5 (hs.keep i).sv (.inr r5) λR H6 e=>?_
   ·rw[X!,(Bl _).mem_iff,l2z,decide_eq_true_eq]at hy;exact hy.2
   ·have eg:Vm A (RI (Et (q.ds.filter λx=>decide (x∈A.map Cd.id))))=gvn A q.ds:=rfl;rw[eg]at e;have Y:=e.sl.co;have X:∀{F:K2},BR A3 [(0,1,(AV.v (.int .i64 3))),(2,1,R)] F=F (.agg [I 3,Av,R]):=λ{F}=>by
     rcases e.sl with⟨h,_⟩|⟨rr,qq,h,_⟩<;>(rw[h];kernel_rfl)
    rw[X,B1S ⟨rfl,rfl⟩ Y];refine O _ _ ?_ ⟨λ_=>AF e.wf,by show Ar H<=Ar H6+1;have:=e.nx;omega,λ_ u y a _=>?_⟩
    ·unfold S';rw[CD hz];have ac:=e.wf;refine⟨[(⟨3,[],(gvn A q.ds).map .c⟩,Av,R)],rfl,λp N=>?_,.inr (.inr ⟨Ar H6,false,[],rfl,Ax (by simp)⟩)⟩;rw[XR]at N;subst N;refine⟨.inl (.inr ⟨rfl,rfl⟩),?_,λ_=>rfl⟩;show ZH _ R ((gvn A q.ds).map .c);rcases e.sl with⟨rfl,h1,h2⟩|⟨rr,qq,rfl,h2,_⟩
     ·exact absurd (kC h1) hz
     ·refine .inr (.inr ⟨rr,qq,[],by rw[Po],?_⟩);rw[US,A5x];exact A6 (ac.lt h2) h2
    ·have:=e.keep u y (i u y a);exact A6 (e.wf.lt this) this
end
end
section
variable{d:Cd}
variable{L n:Nat}
section
variable{H H0 H':Hp}{v dv cv pv:AV}{A:eo}{K:KV}{x0:Af}{x:AV}{r m:Nat}{q:Pk}{l:List PC}{p:PC}
def vX(h:d.id∈A.map Cd.id):add1 A (.c d)=(A,false,0):=Dr h
def jW(h:d.id∉A.map Cd.id):add1 A (.c d)=(A++[d],true,0):=CD h
def E':Rf A (p::l)=Rf (add1 A p).1 l:=by
 cases p with
 |z=>rfl
 |c d=>
  show Rf (if d.id∈A.map Cd.id then A else A++[d]) l=_;by_cases h:d.id∈A.map Cd.id
  ·rw[Dr h,vX h]
  ·rw[CD h,jW h]
def A2A:(add1 A p).1.length=A.length+if(add1 A p).2.1 then 1 else 0:=by
 cases p with
 |z=>rfl
 |c d=>
  by_cases h:d.id∈A.map Cd.id
  ·rw[vX h];rfl
  ·rw[jW h];simp
def B5T:A.length<=(Rf A l).length:=by
 induction l generalizing A with
 |nil=>exact LH _
 |cons p l ih=>
  rw[E'];have:=ih (A:=(add1 A p).1);have e:=A2A (A:=A) (p:=p);omega
def bxC{F:KV}(g:∀H',Lat H H' (λ_=>False)->F (.agg p.cells) H'=x0):
 (Bw Ad Ae H λb c=>DN Ae b (.agg p.cells) c λa=>AE Ae b a λe=>F e a)=x0:=by
 rw[Bv (cs:=C7) rfl,BQ (cs:=C7) (vs:=p.cells) (Ax (by simp)) p.len rfl p.one,Br rfl p.len.symm (BF (Ax (by simp)))];refine g _ ⟨λw=>Bi (AF w),by rw[B1];show Ar H<=Ar H+1;omega,λw u y f _=>?_⟩;have:=w.lt f;rw[Ag (by omega)];exact A6 this f
def C43(hc:ZH H cv l)(c:StAt H r m A){u:Nat}(a:A4 cv u):u≠m:=by
 rcases hc with⟨rfl,_⟩|rfl|⟨g,f,i,rfl,h⟩
 ·exact absurd a (by simp[A4])
 ·exact absurd a (by simp[A4])
 ·intro e;obtain⟨_,_,_,b⟩:=a;cases b
  subst e;have:=c.mm;rw[h]at this;cases this
theorem A1F{B:eo}{k:AV->KV}(Q:40000<L)(hq:∀p∈l,p.Ok)(C:l.length<1000)(X:B.length<60)(e:Wf H0)(j:StAt H0 r m A)(c:ZH H0 cv l)(V:∀H',StAt H' r m B->Lat H0 H' (λu=>u=m)->k (.ptr r 0 0) (Bo (decide (B.length≠A.length))) H'=x0):
 ∀(fuel i:Nat)(a:eo)(H:Hp),l.length<fuel+i->i<=l.length->Rf a (l.drop i)=B->A.length<=a.length->StAt H r m a->Lat H0 H (λu=>u=m)->
  Jg (L+20) (r! L (n+65)) K k fuel (.ptr r 0 0) (Bo (decide (a.length≠A.length))) cv (I l.length) (I i) H=x0
 |0,i,a,H,h1,h2,_,_,_,_=>by omega
 |fuel+1,i,a,H,h1,h2,b,h4,R,s=>by
  rw[Rq];unfold Jh HV G8 A2 MF;by_cases hi:i<l.length
  ·have hc:ZH H cv l:=c.keep λu y ru D=>s.keep e u y D (C43 c j ru);rw[FG (by omega),Co,hc.get hi];refine bxC λH1 J=>?_;have w:=s.wf e;have s1:=R.keep λu y D=>J.keep w u y D id;have Y:l.drop i=l[i]::l.drop (i+1):=rF hi;rw[Y,E']at b;have Z:(add1 a l[i]).1.length<=B.length:=by rw[<-b];exact B5T
   have O:=A2A (A:=a) (p:=l[i]);refine B7m (n:=n) Q (hq _ (NT hi)) (J.wf w) s1 (by omega) λf s2 l2=>?_;rw[Gz,UJ];have ef:∀{F:KV},(D6 (gdV false (Bo (decide (a.length≠A.length))) λg=>@Bool.rec (λ_=>Af) (some (AV.v undef,f)) (some (Bo (add1 a l[i]).2.1,f)) g) λM t=>Cn (Bo (decide (a.length≠A.length))) (AV.v (.bool true)) M λN=>F N t)=F (Bo (decide ((add1 a l[i]).1.length≠A.length))) f:=λ{F}=>by
    by_cases P:a.length=A.length
    ·rw[HN (by simpa using P),gT];show D6 (some (Bo (add1 a l[i]).2.1,f)) _=_;rw[BW,RF]
     congr 2
     cases hb:(add1 a l[i]).2.1<;>rw[hb]at O<;>simp at O
     ·exact(HN (by simp;omega)).symm
     ·exact(GI (by omega)).symm
    ·rw[GI P,zK];show D6 (some (AV.v undef,f)) _=_;rw[BW,Ul];rw[GI (p:=(add1 a l[i]).1.length≠A.length) (by omega)]
   rw[ef,Dd (by omega)];exact A1F Q hq C X e j c V fuel (i+1) _ f (by omega) (by omega) b (by omega) s2 (s.trans (J.trans l2 (λ_ _ h=>h.elim) (λ_ _ h=>h)) (λ_ _ h=>h) (λ_ _ h=>h))
  ·rw[FB (by omega),Ba];rw[List.drop_of_length_le (by omega)]at b;have b:a=B:=b;subst b;exact V H R s
def A96(D:200000<L)(F:GOk (Rf A q.cs))(hq:∀p∈q.cs,p.Ok)(wf:Wf H)(k:StAt H r m A)(J:PkS H pv q)(f:q.cs.length<1000)(C:(Rf A q.cs).length<60)(c:∀t H',StAt H' r m (Rf A q.cs)->PksAt H' t (if(Rf A q.cs).length=A.length then[] else dN (Rf A q.cs) [])->Lat H H' (λu=>u=m)->K t H'=x0):(r! L (n+83)).call D9 [.ptr r 0 0,pv] H K=x0:=by
 obtain⟨dv,cv,rfl,h1,h2,O⟩:=J.at_;rw[SE];unfold JB DI A2 Hv;have N:([I q.kd,dv,cv]:Is).all AV.one=true:=by
  have a1:=h1.one.2;have a2:=h2.one.2;simp only[oG,l3a,a1,a2];rfl
 rw[Es N];have w1:=AF (x:=.cells true Aw [I q.kd,dv,cv]) wf;have e:∀u y,Ai H u=some y->Ai ((Ar H,c_ Aw [I q.kd,dv,cv])::H) u=some y:=λu y b=>A6 (wf.lt b) b;have b1:Ai ((Ar H,c_ Aw [I q.kd,dv,cv])::H) (Ar H)=some (c_ Aw [I q.kd,dv,cv]):=Ax (by simp);have s:Lat H ((Ar H,c_ Aw [I q.kd,dv,cv])::H) (λu=>u=m):=Lat.cons _ _ _;generalize ((Ar H,c_ Aw [I q.kd,dv,cv])::H:Hp)=i at w1 e b1 s;simp only[BH];have c1:=h2.keep (H':=i) λu y _ b=>e u y b;rw[fA,Kk,AL (p:=2) rfl b1 (by simp)];show Bp Ak cv _=_;have w:(AV.v (.bool false))=Bo (decide (A.length≠A.length)):=by simp
 rw[c1.len,w,show(AV.v (.int .i64 0))=I ((0:Nat):Int) from rfl];refine A1F (n:=n+17) (B:=Rf A q.cs) (l:=q.cs) (by omega) hq f C w1 (k.keep e) c1 (λj g M=>?_) (L+20) 0 A i (by omega) (by omega) rfl (LH _) (k.keep e) (Lat.refl _ _);have a:=s.trans M (R:=λu=>u=m) (λ_ _ h=>h) (λ_ _ h=>h);rw[DR];by_cases he:(Rf A q.cs).length=A.length
 ·rw[HN (by simpa using he)];show A1 (Bo true) _ _=_;rw[Co];rw[Dr he]at c;exact c Av j g (PksAt.pks (ls:=[])) a
 ·rw[GI he];show A1 (Bo false) _ _=_;rw[Ba];rw[CD he]at c;rw[A8H (n:=n) (ex:=[]) (lv:=.v (.slice none 0 0)) F D g.sv (.inl (.inr ⟨rfl,rfl⟩)) (by simp)];exact c _ j g PksAt.pks a
end
end
section
variable{PP:Af->Prop}{F:Option (Nat×AV)->Af}
variable{L n:Nat}
section
variable{H H0 H':Hp}{v pv:AV}{A:eo}{K:KV}{x0:Af}{x:AV}{r m:Nat}{q:Pk}{l:List PC}{p:PC}
def mu1{k:Value}{es:IH}{K:Ru}(h:Ai H r=some (.map false es none))(b:∀F:Option (Nat×AV)->Af,IC k es F=F none):MC (.mp r) k v H K=K (upd H r (.map false (es++[(k,v)]) none)):=by
 have e:MC (.mp r) k v H K=IQ H r λy=>mH y λes a=>IC k es λq=>match q with
  |none=>LJ H r (.map false (es++[(k,v)]) (vR a)) K
  |some (i,_)=>LJ H r (.map false (es.set i (k,v)) a) K:=rfl
 rw[e,Bn h];show IC k es _=_;rw[b];show LJ H r _ K=_;rw[Dg];rfl
abbrev fnR(f:Nat):AV:=.fn (.func f) [] []
abbrev A3k:IH:=[(.int .i64 1,fnR CK),(.int .i64 2,fnR Dw),(.int .i64 3,fnR D9)]
def C2a{F:KV}(wf:Wf H)(k:∀H' t,Ai H' t=some (.map false A3k none)->Lat H H' (λ_=>False)->PP (F (.mp t) H')):
 PP (LX Aa H λa b=>
  Xf .i64 (AV.v (.int .i64 1)) λg=>MC a g (AV.fn (.func CK) [] []) b λc=>
  Xf .i64 (AV.v (.int .i64 2)) λh=>MC a h (AV.fn (.func Dw) [] []) c λe=>
  Xf .i64 (AV.v (.int .i64 3)) λi=>MC a i (AV.fn (.func D9) [] []) e λf=>F a f):=by
 have em:∀(H:Hp)(K:KV),LX Aa H K=K (.mp (Ar H)) ((Ar H,.map false [] none)::H):=λH K=>by
  show It H (λs=>K (.mp s) ((s,.map false [] (mF Aa.d))::H))=_;rw[Ca];rfl
 have kk:∀{z:Int}{F:Value->Af},Xf .i64 (AV.v (.int .i64 z)) F=F (.int .i64 z):=λ{z F}=>r_ rfl;rw[em,kk,mu1 (Ax (by simp)) (λF=>rfl),kk,mu1 (BF (Ax (by simp))) (λF=>rfl),kk,mu1 (BF (BF (Ax (by simp)))) (λF=>rfl)];refine k _ _ (BF (BF (BF (Ax (by simp))))) ⟨λw=>Bi (Bi (Bi (AF w))),by simp only[B1];show Ar H<=Ar H+1;omega,λw u y j _=>?_⟩;have:=w.lt j;rw[Ag (by omega),Ag (by omega),Ag (by omega)];exact A6 this j
def C2T{t:Nat}{k:Int}{F:K2}(h:Ai H t=some (.map false A3k none)):(Xf .i64 (I k) λa=>ZB Aa false (.mp t) a H F)=IC (.int .i64 k) A3k λf=>match f with|none=>F Aa.zero|some (_,v)=>F v:=by
 show ZB Aa false (.mp t) (.int .i64 k) H F=_;show IQ H t _=_;rw[Bn h];show IC _ A3k _=_
 congr 1
 funext f
 cases f with
 |none=>rfl
 |some p=>obtain⟨_,_⟩:=p;rfl
def C3a:IC (.int .i64 1) A3k F=F (some (0,fnR CK)):=by kernel_rfl
def C59:IC (.int .i64 2) A3k F=F (some (1,fnR Dw)):=by kernel_rfl
def C58:IC (.int .i64 3) A3k F=F (some (2,fnR D9)):=by kernel_rfl
def B2X{f:Nat}{ws:Is}{N:Nat}(h1:(E (L+20)).imp f=true)(h2:(E (L+20)).ne f=false):Cw (E (L+20)) (rt (L+20) N) (fnR f) ws H K=(rt (L+20) N).call f ws H K:=by
 show Ta ws [] (λa=>Ta [] a λall=>A1R ((E (L+20)).ne f) all H K (@Bool.rec (λ_=>Af) (zpm (E (L+20)) f (rt (L+20) N) all H λv=>K v H) ((rt (L+20) N).call f all H K) ((E (L+20)).imp f)))=_;rw[Jx,Jx,h1,h2];show(rt (L+20) N).call f (ws++[]) H K=_;rw[US]
def UW(M:200000<L)(hg:GOk A)(hq:∀p∈q.cs,p.Ok)(wf:Wf H)(hs:StAt H r m A)(hp:PkS H pv q)(N:q.ds.length<1000)(hd:q.kd=1->q.ds.length<=40)(B:q.cs.length<1000)(b:GOk (Lr A q).1)(k:(Lr A q).1.length<60)(e:∀v' H',StAt H' r m (Lr A q).1->PksAt H' v' (Lr A q).2->Lat H H' (λu=>u=m)->K v' H'=x0):(r! L (n+84)).call B9 [.ptr r 0 0,pv] H K=x0:=by
 obtain⟨d,cv,rfl,h1,h2,J⟩:=id hp.at_;rw[KS];unfold Gi DI G8 A2 MF;have o3:([I q.kd,d,cv]:Is).all AV.one=true:=by
  have a1:=h1.one.2;have a2:=h2.one.2;simp only[oG,l3a,a1,a2];rfl
 rw[Es o3];have w1:=AF (x:=.cells true Aw [I q.kd,d,cv]) wf;have Y:∀u y,Ai H u=some y->Ai ((Ar H,c_ Aw [I q.kd,d,cv])::H) u=some y:=λu y f=>A6 (wf.lt f) f;have b1:Ai ((Ar H,c_ Aw [I q.kd,d,cv])::H) (Ar H)=some (c_ Aw [I q.kd,d,cv]):=Ax (by simp);have V:Lat H ((Ar H,c_ Aw [I q.kd,d,cv])::H) (λu=>u=m):=Lat.cons _ _ _;generalize P:Ar H=r1 at b1;have:((r1,c_ Aw [I q.kd,d,cv])::H:Hp)=(Ar H,c_ Aw [I q.kd,d,cv])::H:=by rw[P]
 rw[this]at b1⊢;clear this;generalize ((Ar H,c_ Aw [I q.kd,d,cv])::H:Hp)=H1 at w1 Y b1 V;have Z:=hs.keep Y;have p1:=hp.keep Y;have ld:∀{j:Hp}{F:K2},Ai j r1=some (c_ Aw [I q.kd,d,cv])->AE A3 (.ptr r1 0 0) j F=F (.agg [I q.kd,d,cv]):=λ{j F}h=>Br rfl rfl h;rw[Z.sv.nn];simp only[gT,ld b1,BW];rw[A5d (n:=n+79) (by omega) p1.pk N B];simp only[BW,DR,RF];by_cases s:q.Right
 ·rw[@decide_eq_true _ (_) s];show A1 (Bo false) _ _=_;rw[Ba];refine C2a (PP:=λa=>a=x0) w1 λj t ht X=>?_;have Q:∀u y,Ai H1 u=some y->Ai j u=some y:=λu y f=>X.keep w1 u y f id;have b2:=Q _ _ b1;have C:=Z.keep Q;have p2:=p1.keep Q;have D:=X.wf w1;have g:=V.trans X (R:=λu=>u=m) (λ_ _ h=>h) (λ_ _ h=>h.elim);rw[fA,Kk];have lk:∀{F:K2},AE Ac (.ptr r1 0 0) j F=F (I q.kd):=λ{F}=>AL (p:=0) rfl b2 (by simp);rw[lk,C2T ht];simp only[ld b2];have c:q.kd=1\/q.kd=2\/q.kd=3:=by
   obtain⟨_,_,_,h⟩:=s;rcases h with⟨_,h|h⟩|⟨_,h⟩
   ·exact .inl h
   ·exact .inr (.inl h)
   ·exact .inr (.inr h)
  unfold Lr at e b k;rw[@if_pos _ (_) s]at e b k;rcases c with c|c|c
  ·rw[Dr c]at e b k;rw[c,C3a,<-c];show Cw (E (L+20)) (r! L (n+83)) (fnR CK) _ _ _=_;rw[B2X rfl rfl];refine A92 (n:=n) hg M D C p2 (hd c) λw i=>?_;exact e _ w (C.keep λu y f=>i.keep D u y f id) PksAt.pks (g.trans i (λ_ _ h=>h) (λ_ _ h=>h.elim))
  ·have hn:¬q.kd=1:=by omega
   rw[CD hn,Dr c]at e b k;rw[c,C59,<-c];show Cw (E (L+20)) (r! L (n+83)) (fnR Dw) _ _ _=_;rw[B2X rfl rfl];refine A6C (n:=n) hg M D C p2 s.1 λv3 w J i=>?_;exact e _ w (C.keep λu y f=>i.keep D u y f id) J (g.trans i (λ_ _ h=>h) (λ_ _ h=>h.elim))
  ·have hn:¬q.kd=1:=by omega
   have O:¬q.kd=2:=by omega
   rw[CD hn,CD O]at e b k;rw[c,C58,<-c];show Cw (E (L+20)) (r! L (n+83)) (fnR D9) _ _ _=_;rw[B2X rfl rfl];refine A96 (n:=n) M b hq D C p2 B k λv3 w s3 J i=>?_;exact e _ w s3 J (g.trans i (λ_ _ h=>h) (λ_ _ h=>h))
 ·rw[@decide_eq_false _ (_) s];show A1 (Bo true) _ _=_;rw[Co];unfold Lr at e;rw[@if_neg _ (_) s]at e;exact e _ H1 Z (PksAt.pks (ls:=[])) V
def A5e(Q:200000<L)(X:GOk A)(d:q.Right)(e:q.kd=1)(wf:Wf H)(Y:StAt H r m A)(w:PkS H pv q)(V:q.ds.length<=40)(g:∀H',StAt H' r m A->Lat H H' (λu=>u=m)->PP (K (wY (Lr A q).2) H')):PP ((r! L (n+84)).call B9 [.ptr r 0 0,pv] H K):=by
 obtain⟨a,cv,rfl,h1,h2,h3⟩:=id w.at_;rw[KS];unfold Gi DI G8 A2 MF;have o3:([I q.kd,a,cv]:Is).all AV.one=true:=by
  have a1:=h1.one.2;have a2:=h2.one.2;simp only[oG,l3a,a1,a2];rfl
 rw[Es o3];have w1:=AF (x:=.cells true Aw [I q.kd,a,cv]) wf;have s:∀u y,Ai H u=some y->Ai ((Ar H,c_ Aw [I q.kd,a,cv])::H) u=some y:=λu y c=>A6 (wf.lt c) c;have b1:Ai ((Ar H,c_ Aw [I q.kd,a,cv])::H) (Ar H)=some (c_ Aw [I q.kd,a,cv]):=Ax (by simp);have B:Lat H ((Ar H,c_ Aw [I q.kd,a,cv])::H) (λu=>u=m):=Lat.cons _ _ _;generalize f:Ar H=r1 at b1;have:((r1,c_ Aw [I q.kd,a,cv])::H:Hp)=(Ar H,c_ Aw [I q.kd,a,cv])::H:=by rw[f]
 rw[this]at b1⊢;clear this;generalize ((Ar H,c_ Aw [I q.kd,a,cv])::H:Hp)=O at w1 s b1 B;have J:=Y.keep s;have p1:=w.keep s;have D:∀{b:Hp}{F:K2},Ai b r1=some (c_ Aw [I q.kd,a,cv])->AE A3 (.ptr r1 0 0) b F=F (.agg [I q.kd,a,cv]):=λ{b F}h=>Br rfl rfl h;rw[J.sv.nn];simp only[gT,D b1,BW];rw[A5d (n:=n+79) (by omega) p1.pk (by omega) (by have:=d.2.1;omega)];simp only[BW,DR,RF];rw[@decide_eq_true _ (_) d];show PP (A1 (Bo false) _ _);rw[Ba];refine C2a w1 λb t Z k=>?_;have i:∀u y,Ai O u=some y->Ai b u=some y:=λu y c=>k.keep w1 u y c id;have b2:=i _ _ b1;have M:=J.keep i;have p2:=p1.keep i;have N:=k.wf w1;have j:=B.trans k (R:=λu=>u=m) (λ_ _ h=>h) (λ_ _ h=>h.elim);rw[fA,Kk];have lk:∀{F:K2},AE Ac (.ptr r1 0 0) b F=F (I q.kd):=λ{F}=>AL (p:=0) rfl b2 (by simp);rw[lk,C2T Z];simp only[D b2];unfold Lr at g;rw[@if_pos _ (_) d,Dr e]at g;rw[e,C3a,<-e];show PP (Cw (E (L+20)) (r! L (n+83)) (fnR CK) _ _ _);rw[B2X rfl rfl];refine A0C (n:=n) X Q N M p2 V λP C=>?_;exact g P (M.keep λu y c=>C.keep N u y c id) (j.trans C (λ_ _ h=>h) (λ_ _ h=>h.elim))
end
end
section
variable{w:AV}{H0:Hp}
variable{L n:Nat}
section
variable{gs A:eo}{H:Hp}{K:KV}{x x0:AV}
abbrev iL(gs:eo):AV:=.fn (.func Dp) [] [.iptr [gV gs]]
def B0W{r0 s e0 it:Nat}{q0:Bool}{c6 w:AV}{r:Ru}{ks:List AP}(M:VQ 6 w w=true)(q:ks.length<1000000)(i:∀l v H,l.Perm ks->(l=[]->v=Av)->Coll H0 r0 s q0 e0 c6 l v H->r H=some (w,[]))(c:it≠r0/\it≠s/\Ar H0<=it):
 ∀(f:Nat)(es:List (AP×Cd))(l:List AP)(v:AV)(H:Hp)(o:Option (Value×AV)),es.length<f->(l++es.map Prod.fst).Perm ks->(l=[]->v=Av)->Coll H0 r0 s q0 e0 c6 l v H->¬A4 v it->Ai H it=some (.iter (Df DU es) o)->
 B3 (L+20) (r! L (n+1)) K r f (.yl s) (.it it) H=some (w,[]):=by
 intro f
 induction f with
 |zero=>intro es l v H o h;omega
 |succ f ih=>
  intro es l v H o D m C hc hv p;rw[Fm];unfold Ch;refine Y0 (f:=DU) M p (λe=>?_) (λa e b he=>?_)
  ·subst e;rw[Gz,Ba];exact i l v H (by simpa using m) C hc
  ·subst he;have g:=hc.it (.iter (Df DU (a++b)) (some (.string ⟨⟨e.1⟩⟩,DU e.2))) c hv;have d:=LG (es:=Df DU (a++b)) (o:=some (.string ⟨⟨e.1⟩⟩,DU e.2)) p;have k:(l++(a++e::b).map Prod.fst).length=ks.length:=m.length_eq;simp at k;have u:tQ (.string ⟨⟨e.1⟩⟩)=S e.1:=rfl;rw[Gz,Co,NK d,Gz,u];refine L' g (by omega) λN t j F hr=>?_;rw[DR];show A1 (.v (.bool false)) _ _=_;rw[Ba];refine ih (a++b) (l++[e.1]) N t _ (by simp at D⊢;omega) ?_ (by simp) j (λJ=>?_) (F it _ c.1 c.2.1 hv d)
   ·refine List.Perm.trans ?_ m;simp only[XS,XC,eK];refine List.Perm.append_left l ?_;show(e.1::(a.map Prod.fst++b.map Prod.fst)).Perm _;exact List.perm_middle.symm
   ·have y:=hr it J;have B:=g.wf.lt d;rw[B1]at y B;omega
def A38(C:VQ 6 w w=true)(M:gs.length<=100)(J:100<L)(wf:Wf H0)(D:∀l v H,l.Perm (gs.map Cd.id)->(l=[]->v=Av)->NewSl H0 l v H->K v H=some (w,[])):
 (r! L (n+4)).call EH [iL gs] H0 K=some (w,[]):=by
 rw[GG];unfold EG;rw[DB];unfold C6;simp only[BH];rw[nI (by rfl),Wa,Fy];unfold Ck;simp only[BH];have w1:=AF (x:=.cells true A7 [Av]) wf;have c:=Ax (H:=H0) (x:=.cells true A7 [Av]) (by simp);have t:Ar ((Ar H0,c_ A7 [Av])::H0)=Ar H0+1:=rfl;have i:Wf ((Ar H0+1,NU (.ptr (Ar H0) 0 0) (iL gs) (some none))::(Ar H0,c_ A7 [Av])::H0):=AF (x:=NU (.ptr (Ar H0) 0 0) (iL gs) (some none)) w1;have e:Ai ((Ar H0+1,NU (.ptr (Ar H0) 0 0) (iL gs) (some none))::(Ar H0,c_ A7 [Av])::H0) (Ar H0+1)=some (NU (.ptr (Ar H0) 0 0) (iL gs) (some none)):=Ax (H:=((Ar H0,c_ A7 [Av])::H0)) (x:=NU (.ptr (Ar H0) 0 0) (iL gs) (some none)) (by simp[NU]);have ol:∀u y,Ai H0 u=some y->Ai ((Ar H0+1,NU (.ptr (Ar H0) 0 0) (iL gs) (some none))::(Ar H0,c_ A7 [Av])::H0) u=some y:=λu y a=>by
  have a1:=A6 (x:=.cells true A7 [Av]) (wf.lt a) a;exact A6 (w1.lt a1) a1
 have k:∀{H:Hp}{K:K2},AE Aj (.iptr [gV gs]) H K=K (gV gs):=λ{H K}=>Ny rfl;rw[k,Xr];have d:Ai ((Ar H0+1,NU (.ptr (Ar H0) 0 0) (iL gs) (some none))::(Ar H0,c_ A7 [Av])::H0) (Ar H0)=some (c_ A7 [Av]):=A6 (w1.lt c) c;show B3 (L+20) (r! L (n+1)) _ _ (L+20) (.yl (Ar H0+1)) (.it (Ar ((Ar H0+1,NU (.ptr (Ar H0) 0 0) (iL gs) (some none))::(Ar H0,c_ A7 [Av])::H0))) ((Ar ((Ar H0+1,NU (.ptr (Ar H0) 0 0) (iL gs) (some none))::(Ar H0,c_ A7 [Av])::H0),.iter (Df DU (gE gs)) none)::((Ar H0+1,NU (.ptr (Ar H0) 0 0) (iL gs) (some none))::(Ar H0,c_ A7 [Av])::H0))=_;generalize f:((Ar H0+1,NU (.ptr (Ar H0) 0 0) (iL gs) (some none))::(Ar H0,c_ A7 [Av])::H0:Hp)=b at i e ol d;have r:Ar b=Ar H0+2:=by rw[<-f];rfl
 have F:=AF (x:=.iter (Df DU (gE gs)) none) i;have up:∀u y,Ai b u=some y->Ai ((Ar b,Row.iter (Df DU (gE gs)) none)::b) u=some y:=λu y j=>A6 (i.lt j) j;have g:Ai ((Ar b,Row.iter (Df DU (gE gs)) none)::b) (Ar b)=some (.iter (Df DU (gE gs)) none):=Ax (by simp);have q:(gE gs).length=gs.length:=by simp[gE]
 refine B0W (n:=n) (H0:=H0) (r0:=Ar H0) (s:=Ar H0+1) (it:=Ar b) (q0:=true) (e0:=A7) (c6:=iL gs) (ks:=gs.map Cd.id) C (by rw[Po];omega) ?_ (by omega) (L+20) (gE gs) [] Av _ none (by omega) (by rw[l3b,Xi]) (λ_=>rfl)
  ⟨up _ _ d,.inl ⟨rfl,rfl,rfl⟩,up _ _ e,λu ⟨_,_,_,h⟩=>(by cases h),F,λu y a=>up u y (ol u y a),by omega,by omega,by omega,wf⟩ (λ⟨_,_,_,h⟩=>(by cases h)) g
 intro l v H B m hc;show IQ H (Ar H0+1) _=_;rw[Bn hc.lp];show LJ H (Ar H0+1) .gone _=_;rw[Dg];have hr:Ai (upd H (Ar H0+1) .gone) (Ar H0)=some (c_ A7 [v]):=by rw[Ag (by omega)];exact hc.at_
 show AE Ab (.ptr (Ar H0) 0 0) (upd H (Ar H0+1) .gone) _=_;rw[AL (p:=0) rfl hr (by simp)];refine D _ _ _ B m ⟨?_,λu a=>(hc.new u a).2.2,Bi hc.wf,λu y a=>?_,?_⟩
 ·exact hc.sl.lat hc.wf (Lat.upd H _ _ (P:=λu=>u=Ar H0+1) rfl) (λu a=>(hc.new u a).2.1)
 ·have:=wf.lt a;rw[Ag (by omega)];exact hc.keep u y a
 ·rw[B1];have:=hc.wf.lt hc.at_;omega
def B3k{K:K2}:Aq (r! L (n+5)) Cz [gV gs] H0 K=K (iL gs):=by
 refine JT (λK a=>?_) (Ao (q:=false) iW AI);rw[show n+5=(n+4)+1 from rfl,FW];unfold Cy HX;rw[vK];exact a _ _ ⟨true,λK=>by kernel_rfl⟩
def A2v(d:GOk A):(J7 A).Perm (Hd A):=by
 have hn:=TO (S:=A) d.ids;have hm:((J7 A).map Cd.id).Nodup:=by rw[jR d.ids];exact(Qq (gs:=Hd A)).1.nd
 exact(l35 (List.Pairwise.of_map Cd.id (λa b h e=>h (congrArg Cd.id e)) hm) (List.Pairwise.of_map Cd.id (λa b h e=>h (congrArg Cd.id e)) hn)).2 λc=>VK d.ids
def C0f{D:Nat}{ps:List AP}:Fx true (D+3) (DV ps) (DV ps) H false:=by cases ps<;>exact λK=>by kernel_rfl
def A0B(a:GOk A)(i:200000<L){w:AV×Hp}(h:∀H,K (.agg [I 1,DV (Jw (Hd A)),Av]) H=some w):(r! L (n+83)).call Dj [.iptr [.imap (Df DU (gE A))]] [] K=some w:=by
 rw[SF];unfold JC HX;have e:∀{H:Hp},oS H (.iptr [.imap (Df DU (gE A))]) A:=λ{H}=>.inl rfl;have f:∀{F:KV},Bw Aw A3 [] F=F (.ptr 0 0 0) [(0,c_ Aw [I 0,Av,Av])]:=λ{F}=>Bv (cs:=[I 0,Av,Av]) rfl;rw[f,(e (H:=[(0,c_ Aw [I 0,Av,Av])])).nn,Ba,A5g (n:=n) a i e];have d:=A2v a;have b:=A4E a d;have j:∀{H:Hp}{F:K2},Aq (r! L (n+82)) UI [eH (J7 A)] H F=F (DV (Jw (Hd A))):=λ{H F}=>by
  rw[AQ (B3m (L:=L) (n:=n+2) b (by omega) (λc hc=>by have:=TP (b.ok c hc);omega) (Xb _)) (Ao ((Xb _).fx H) AI),A46 (TO a.ids) d]
 rw[j];have g:∀{F:K2},BR A3 [(0,1,(AV.v (.int .i64 1))),(1,1,DV (Jw (Hd A)))] F=F (.agg [I 1,DV (Jw (Hd A)),Av]):=λ{F}=>by
  cases Jw (Hd A)<;>kernel_rfl
 have m:([I 1,DV (Jw (Hd A)),Av]:Is).all AV.one=true:=by
  cases Jw (Hd A)<;>rfl
 rw[g,BQ (cs:=[I 0,Av,Av]) (vs:=[I 1,DV (Jw (Hd A)),Av]) rfl rfl rfl m];have k:Ai (upd [(0,c_ Aw [I 0,Av,Av])] 0 (c_ Aw [I 1,DV (Jw (Hd A)),Av])) 0=some (c_ Aw [I 1,DV (Jw (Hd A)),Av]):=BF (x:=.cells true Aw [I 0,Av,Av]) rfl;rw[Br rfl rfl k];exact h _
def B3l(g:GOk A)(f:200000<L)(k:oS H x A){F:K2}:Lc (r! L (n+83)) Dj [x] H F=F (.agg [I 1,DV (Jw (Hd A)),Av]):=by
 rcases k with rfl|⟨r,m,rfl,h1,h2⟩
 ·show Aq (r! L (n+83)) Dj [.iptr [.imap (Df DU (gE A))]] H F=_;exact CT.z (λK i=>A0B g f λH=>i _ H ⟨false,LL (D:=11) (Ao (q:=false) CA (Ao (q:=false) (C0f (D:=8)) (Ao (q:=false) CA AI)))⟩) (Ao (q:=false) Rx AI)
 ·have e:Lc (r! L (n+83)) Dj [.ptr r 0 0] H F=IQ H r λx=>gH x λq _ cs=>match q,cs with
   |true,[.mp m]=>IQ H m λy=>qI y λb=>ck (b.all λp=>eW 3 p.2) (Au ((r! L (n+83)).call Dj [.iptr [.imap b]] [] λv c=>NH c depth v λd=>some (d,[])) F)
   |_,_=>none:=rfl
  rw[e,Bn h1];show(IQ H m λy=>qI y λb=>ck (b.all λp=>eW 3 p.2) (Au ((r! L (n+83)).call Dj [.iptr [.imap b]] [] λv c=>NH c depth v λd=>some (d,[])) F))=_;rw[Bn h2];show ck ((Df DU (gE A)).all λp=>eW 3 p.2) _=_;rw[B2c,A0B (w:=(.agg [I 1,DV (Jw (Hd A)),Av],[])) g f λH=>?_]
  ·rfl
  ·rw[show depth=11+1 from rfl];have h:∀F:K2,NH H (11+1) (.agg [I 1,DV (Jw (Hd A)),Av]) F=SR (NH H 11) [I 1,DV (Jw (Hd A)),Av] λl=>F (.agg l):=λF=>rfl;rw[h,B0N];have:=Yl (q:=SZ) (λ_=>rfl) (Jw (Hd A));cases j:Jw (Hd A) with
   |nil=>rfl
   |cons a l=>
    rw[j]at this;show(fl1 (I 1)&&((A9 (a::l)).all SZ&&(fl1 Av&&true)))=true;rw[this];rfl
end
end
section
variable{L n:Nat}
section
variable{gs A out:eo}{H:Hp}{K:KV}{x w:AV}
def A5a{s:AP}:CS (r! L (n+2)) EZ [S s,.iptr [.imap (Df DU (gE out))]] (Bo (decide (s∈out.map Cd.id))):=by
 intro K d;rw[Oy];unfold GX L8;have c:∀{F:K2},AE Aj (.iptr [.imap (Df DU (gE out))]) [] F=F (.imap (Df DU (gE out))):=λ{F}=>Ny rfl;rw[c];refine A3X (b:=gE out) (F:=λe _ a=>K e a) (λK=>r_ rfl) λf _=>?_;rw[iX];exact d _ _ λb=>⟨false,CA⟩
def Yf(A:eo):AV:=if A=[] then Av else Ls (T9 A)
def A8G:SA (T9 A) (Yf A):=by
 unfold Yf;by_cases h:A=[]
 ·rw[Dr h];subst h;exact .inr ⟨by simp[T9,Et],rfl⟩
 ·rw[CD h];exact .inl rfl
def B34(hn:(A.map Cd.id).Nodup)(b:out.Perm (Hd A)):(Et (A.map Cd.id)).filter (λs=>!decide (s∈out.map Cd.id))=T9 A:=by
 refine II ?_ ((DM _).filter _) (DM _);refine List.Perm.trans ?_ (Bl _).symm;refine((Bl _).filter _).trans ?_;have e:(A.map Cd.id).filter (λs=>!decide (s∈out.map Cd.id))=(A.map Cd.id).filter λx=>@decide (¬Cmp A x) (Classical.propDecidable _):=by
  refine List.filter_congr λs c=>?_;have hc:s∈out.map Cd.id↔Cmp A s:=by rw[(b.map _).mem_iff];exact Tk
  by_cases h:Cmp A s
  ·rw[GI (hc.2 h),@decide_eq_false _ (_) (λa=>a h)];rfl
  ·rw[HN (λa=>h (hc.1 a)),@decide_eq_true _ (_) h];rfl
 rw[e]
def C2q{l:List AP}{r:Nat}{q:Bool}{tl:Is}{D:Nat}{b:Bool}(h2:Ai H r=some (.cells q Al (A9 l++tl))):Fx b (D+1) (.sl 1 r 0 l.length) (Ls l) H true:=by
 refine Xj (q':=false) h2 (by rw[Ez,AZ];omega) ?_;have:((A9 l++tl).drop 0).take (l.length*1)=A9 l:=by
  rw[rC,oI];have:=List.take_left (l₁:=A9 l) (l₂:=tl);rw[AZ]at this;exact this
 rw[this];exact V0 l
def B35(Q:VQ 6 w w=true)(C:GOk A)(Y:200000<L)(N:∀v H,(∀b,∃q,Fx b depth v (Yf A) H q)->K v H=some (w,[])):
 (r! L (n+83)).call CQ [.iptr [.imap (Df DU (gE A))]] [] K=some (w,[]):=by
 rw[QN];unfold IX DI;have hx:oS [] (.iptr [.imap (Df DU (gE A))]) A:=.inl rfl;rw[hx.nn,Ba];refine sL (n:=n+78) Q C (by omega) Fq λout m c hp hm _ w1 _ n1=>?_;rw[A2d (v:=.map none) rfl];have w2:=AF (x:=.cells true Ay [.v (.map none)]) w1;have b2:Ai ((Ar c,c_ Ay [.v (.map none)])::c) (Ar c)=some (c_ Ay [.v (.map none)]):=Ax (by simp);rw[D5 (cs:=[.v (.map none)]) b2 (by simp) rfl rfl rfl];have m2:=A6 (x:=.cells true Ay [.v (.map none)]) (w1.lt hm) hm;have p:=Bi (r:=Ar c) (y:=.cells true Ay ([AV.v (.map none)].set 0 (.mp m))) w2;have B:Ai (upd ((Ar c,c_ Ay [.v (.map none)])::c) (Ar c) (c_ Ay ([AV.v (.map none)].set 0 (.mp m)))) (Ar c)=some (c_ Ay [.mp m]):=BF b2;have m3:Ai (upd ((Ar c,c_ Ay [.v (.map none)])::c) (Ar c) (c_ Ay ([AV.v (.map none)].set 0 (.mp m)))) m=some (.map false (Df DU (gE out)) none):=by
  rw[Ag (by have:=w1.lt hm;omega)];exact m2
 generalize hb:Ar c=b at B m3;rw[hb]at p;generalize upd ((b,c_ Ay [.v (.map none)])::c) b (c_ Ay ([AV.v (.map none)].set 0 (.mp m)))=J at p B m3⊢;rw[A0u,B3k (n:=n+77),Hn];unfold EX;have Z:=C.len;refine A38 (n:=n+77) Q (by omega) (by omega) p λl v H4 d M hc=>?_;refine A30 (n:=n+77) p (by rw[d.length_eq,Po];omega) M hc λV a=>?_;have e:Et l=Et (A.map Cd.id):=II ((Bl l).trans (d.trans (Bl _).symm)) (DM l) (DM _);rw[e]at a;have j:∀u,A4 v u->Ar J<=u:=a.new;have g:∀(D:Nat){f},Lat V f (A4 v)->Fx true (D+5) (.ptr b 0 0) (.iptr [.imap (Df DU (gE out))]) f true:=λD{f}k=>by
  have kk:∀u y,Ai J u=some y->Ai f u=some y:=λu y O=>k.keep a.wf u y (a.keep u y O) λhh=>by have:=j u hh;have:=p.lt O;omega
  exact Xk (D:=D+4) (kk _ _ B) (Ao (q:=true) (q':=false) (A47 (D:=D) (kk _ _ m3)) AI)
 refine A9a (n:=n+80) (P:=λs=>decide (s∈out.map Cd.id)) a.wf a.sl.rq (by rw[(Bl _).length_eq,Po];omega) Y ⟨.fn (.func EZ) [] [.iptr [.imap (Df DU (gE out))]],_,zM (D:=11) (Ao (g 6 (Lat.refl _ _)) AI),λs K=>?_⟩ (λf R s K=>?_) λv' f F i R=>?_
 ·rw[F' rfl rfl];exact AQ (A5a (n:=n+78)) (Ao (q:=false) CA (Ao (q:=false) Rx AI))
 ·rw[F' rfl rfl];exact AQ (A5a (n:=n+79)) (Ao (q:=false) CA (Ao (g 7 R) AI))
 ·rw[B34 C.ids hp]at F;by_cases t:A=[]
  ·have hv:v=Av:=M (by subst t;exact kC (by rw[d.length_eq];rfl));rcases F with⟨rfl,h⟩|⟨r,q,tl,rfl,h⟩
   ·refine N _ _ λb=>⟨false,?_⟩
    unfold Yf;rw[Dr t];exact CA
   ·have:=(i r).1 ⟨_,_,_,rfl⟩;rw[hv]at this;obtain⟨_,_,_,h⟩:=this;cases h
  ·rcases F with⟨rfl,h⟩|X
   ·rcases a.sl with⟨rfl,h1,h2⟩|⟨r,q,rfl,h2,_⟩
    ·have:(Et (A.map Cd.id)).length=A.length:=by rw[(Bl _).length_eq,Po]
     exact absurd (kC (by omega)) t
    ·have:=(i r).2 ⟨_,_,_,rfl⟩;obtain⟨_,_,_,h⟩:=this;cases h
   ·obtain⟨r,q',tl,rfl,h⟩:=X;refine N _ _ λb=>⟨true,?_⟩
    unfold Yf;rw[CD t];exact C2q h
def A8F:pl 6 (Yf A)=true:=by
 unfold Yf;by_cases h:A=[]
 ·rw[Dr h];rfl
 ·rw[CD h];exact Yl (q:=pl 5) (λ_=>rfl) _
def kN(d:GOk A)(c:200000<L)(e:oS H x A){F:K2}:Aq (r! L (n+83)) CQ [x] H F=F (Yf A):=by
 obtain⟨q1,a⟩:=e.fx (D:=7);exact AQ (λK b=>B35 (Tq 6 _ A8F) d c b) (Ao a AI)
end
end
section
variable{L n:Nat}
def A2k(z:Int)(i:Nat):Bool:=decide (((pk z 1048576).fdiv (2^i)).tmod 2=1)
def NC(z:Int):Nat->eo->eo
 |_,[]=>[]
 |i,c::l=>if A2k z i then c::NC z (i+1) l else NC z (i+1) l
def Wm{z:Int}{i:Nat}{c:Cd}{l:eo}:NC z i (c::l)=if A2k z i then c::NC z (i+1) l else NC z (i+1) l:=rfl
def yX{z:Int}{l:eo}:∀{i:Nat},(NC z i l).Sublist l:=by
 induction l with
 |nil=>intro i;exact List.Sublist.refl _
 |cons c l ih=>
  intro i;unfold NC;split
  ·exact(ih (i:=i+1)).cons_cons c
  ·exact(ih (i:=i+1)).cons c
section
variable{H H0 H':Hp}{v a:AV}{gs A:eo}{K:KV}{x0:Af}{r m:Nat}{z:Int}
def StAt.kp(h:StAt H r m A)(k:Lat H H' (λ_=>False))(wf:Wf H):StAt H' r m A:=h.keep λu y b=>k.keep wf u y b id
theorem kT{k:KV}(B:40000<L)(f:GOk gs)(hz:J8 z)(q:LA gs a)(M:∀H',StAt H' r m (NC z 0 gs)->Lat H0 H' (λu=>u=m)->k (.ptr r 0 0) H'=x0):
 ∀(fuel i:Nat)(b:eo)(H:Hp),gs.length<fuel+i->i<=gs.length->b++NC z i (gs.drop i)=NC z 0 gs->(∀c∈b,c∈gs.take i)->b.length<=i->Wf H->StAt H r m b->Lat H0 H (λu=>u=m)->
  QQ (L+20) (r! L (n+66)) K k fuel a (I z) (.ptr r 0 0) (I i) H=x0
 |0,i,b,H,h1,h2,_,_,_,_,_,_=>by omega
 |fuel+1,i,b,H,h1,h2,d,y,Y,wf,s,C=>by
  rw[iG];unfold QR Dm A2 Hv;have V:=f.len;rw[q.len];by_cases hi:i<gs.length
  ·rw[FG (by omega),Co];have X:∀{H:Hp}{F:K2},Aq (r! L (n+66)) Ht [I z,(AV.v (.int .i64 1048576))] H F=F (I (pk z 1048576)):=λ{H F}=>(gP (n:=n+65) hz (by decide) (by decide)) H F;have j:∀{F:K2},As Ac .rem (I ((pk z 1048576).fdiv (2^i))) (AV.v (.int .i64 2)) F=F (I (((pk z 1048576).fdiv (2^i)).tmod 2)):=λ{F}=>Q9 (by decide);rw[X,A9w (by omega),j,Cv];have N:gs.drop i=gs[i]::gs.drop (i+1):=rF hi;rw[N]at d;rw[Wm]at d;by_cases hb:((pk z 1048576).fdiv (2^i)).tmod 2=1
   ·have e:A2k z i=true:=GI hb;rw[Dr e]at d;simp only[GI hb,gT,BW,q.ia hi,nH];have D:gs[i].id∉b.map Cd.id:=λh=>by
     obtain⟨c,hc,he⟩:=PW.1 h;have g:=f.ids;rw[<-l38 i gs,XS,l36]at g;exact g.2.2 _ (List.mem_map_of_mem (y c hc)) _ (List.mem_map_of_mem (by rw[N];exact List.mem_cons_self)) he
    have J:(PC.c gs[i]).Ok:=⟨f.ok _ (NT hi),f.nd _ (NT hi)⟩
    have O:add1 b (.c gs[i])=(b++[gs[i]],true,0):=jW D;have put:∀{F:KV},(∀H',StAt H' r m (b++[gs[i]])->Lat H H' (λu=>u=m)->F (I 0) H'=x0)->D6 ((r! L (n+66)).call Ep [.ptr r 0 0,.agg gs[i].cs] H λv H=>some (v,H)) F=x0:=λ{F}R=>
     A31 (n:=n) (p:=.c gs[i]) (K:=λv H=>some (v,H)) (P:=λa=>D6 a F=x0) B J wf s (by omega) λx w t=>by
      rw[O]at w⊢;exact R x w t
    refine put λx w t=>?_;have Q:∀{F:K2},As Ac .neq (I 0) (AV.v (.int .i64 0)) F=F (Bo false):=λ{F}=>by kernel_rfl
    simp only[BW,Q,Ul,Ba];rw[Dd (by omega)];refine kT B f hz q M fuel (i+1) (b++[gs[i]]) x (by omega) (by omega) (by rw[<-d];simp) (λc hc=>?_) (by simp;omega) (t.wf wf) w (C.trans t (λ_ _ h=>h) (λ_ _ h=>h));rw[oJ hi];rcases Zx.1 hc with hc|hc
    ·exact List.mem_append_left _ (y c hc)
    ·exact List.mem_append_right _ hc
   ·have e:A2k z i=false:=HN hb;rw[e]at d;simp only[HN hb,eP,gU,gT,BW,RF,Ul,Ba];rw[Dd (by omega)];refine kT B f hz q M fuel (i+1) b H (by omega) (by omega) (by simpa using d) (λc hc=>?_) (by omega) wf s C;have:=y c hc;rw[oJ hi];exact List.mem_append_left _ this
  ·rw[FB (by omega),Ba];rw[List.drop_of_length_le (by omega)]at d;have d:b++[]=NC z 0 gs:=d;rw[US]at d;rw[d]at s;exact M H s C
def A8O(f:40000<L)(d:GOk gs)(hz:J8 z)(g:LA gs a)(wf:Wf H)(i:∀r m H',StAt H' r m (NC z 0 gs)->Ar H<=m->Lat H H' (λ_=>False)->K (.tup [.ptr r 0 0,Bo true]) H'=x0):
 (r! L (n+67)).call Tf [a,I z] H K=x0:=by
 rw[lZ];unfold SH A2 MF Hv;rw[A8W (n:=n+65)];obtain⟨e,w1,k1⟩:=A3N wf;rw[e.sv.nn,Ba];simp only[BH];have j:Lat H ((Ar H+1,c_ Dz [.mp (Ar H)])::(Ar H,.map false [] none)::H) (λu=>u=Ar H):=⟨λ_=>w1,by show Ar H<=Ar H+1+1;omega,λ_ u y b _=>k1 u y b⟩
 have h:=d.len;refine kT (n:=n) (H0:=H) f d hz g (λH' k c=>?_) (L+20) 0 [] _ (by omega) (by omega) rfl (by simp) (by simp) w1 e j;exact i _ _ H' k (LH _) ⟨c.wf,c.nx,λw u y b _=>c.keep w u y b (by have:=w.lt b;omega)⟩
end
end
end Go.Abs
end
noncomputable section
namespace Go.Proofs
open Go.Abs
set_option maxRecDepth 100000

end Go.Proofs
end
noncomputable section
namespace Go.Abs
open Go.RowKit Go.Proofs
set_option maxRecDepth 100000
section
variable{F:K2}
variable{L n:Nat}
section
variable{H:Hp}{K:K2}{a b:Ha}{x0:Af}
def neI{z:Int}{ty:TI}:As ty .neq (I z) (I z) F=F (Bo false):=by rw[I6,GI rfl];rfl
def eqI{z:Int}{ty:TI}:As ty .eql (I z) (I z) F=F (Bo true):=by rw[Cv,GI rfl]
end
section
variable{H:Hp}{K:KV}{x0:Af}{a b:Nat}
end
end
section
variable{L n:Nat}
section
variable{H:Hp}{K:KV}{x0:Af}{a b:Nat}
end
end
section
variable{L n:Nat}
abbrev Uu(u:Nat):AV:=.v (.int .u64 (u:Int))
def A0v{x:Int}(h1:0<=x)(h2:x<18446744073709551616):IntKind.u64.wrap x=x:=by
 simp only[IntKind.wrap,IntKind.bits,IntKind.signed];have a:(2^64:Int)=18446744073709551616:=by decide
 simp only[a,Bool.false_and,xT,if_false];omega
section
variable{K:K2}{u v:Nat}{z:Int}
def B6K(a:0<=z)(h1:z<9223372036854775808):Hj Ac CE (I z) K=K (Uu z.toNat):=by
 have e:Hj Ac CE (I z) K=MQ .u64 z λz=>K (.v (.int .u64 z)):=rfl;rw[e,HP,A0v a (by omega)];exact congrArg (λz=>K (.v (.int .u64 z))) (Int.toNat_of_nonneg a).symm
def B6J:Hj CE AT (Uu u) K=K (By (UInt8.ofNat u)):=by
 have e:Hj CE AT (Uu u) K=MQ .u8 (u:Int) λz=>K (.v (.int .u8 z)):=rfl;rw[e,HP,Ye rfl];have:(u:Int)%(2^IntKind.u8.bits:Nat)=((UInt8.ofNat u).toNat:Int):=by
  rw[UInt8.toNat_ofNat'];exact(Int.natCast_emod _ _).symm
 rw[this]
def C1V(h:u+v<18446744073709551616):As CE .add (Uu u) (Uu v) K=K (Uu (u+v)):=by
 rw[Dl,A0v (by omega) (by omega)];exact congrArg (λz=>K (.v (.int .u64 z))) (by omega)
def B69(h:u*v<18446744073709551616):As CE .mul (Uu u) (Uu v) K=K (Uu (u*v)):=by
 have e:(u:Int)*(v:Int)=((u*v:Nat):Int):=(Int.natCast_mul u v).symm;rw[OU,e,A0v (by omega) (by omega)]
def C1S(h:v<=u)(a:u<18446744073709551616):As CE .sub (Uu u) (Uu v) K=K (Uu (u-v)):=by
 rw[J6,A0v (by omega) (by omega)];exact congrArg (λz=>K (.v (.int .u64 z))) (by omega)
def C1T(h:v≠0):As CE .rem (Uu u) (Uu v) K=K (Uu (u%v)):=by
 rw[Q9 (by omega)];exact congrArg (λz=>K (.v (.int .u64 z))) rfl
def C1U(h:v≠0)(b:u<18446744073709551616):As CE .quo (Uu u) (Uu v) K=K (Uu (u/v)):=by
 have e:(u:Int).tdiv (v:Int)=((u/v:Nat):Int):=rfl;have a:u/v<=u:=Nat.div_le_self u v;rw[A2b (by omega),e];generalize u/v=w at a;rw[A0v (by omega) (by omega)]
end
def B9b{z:Int}(h1: -4611686018427387904<z)(h2:z<4611686018427387904):PS (r! L (n+1)) Tc [I z] (Uu (zig z)):=by
 refine CS.ps (λK c=>?_) (λH=>λK=>by kernel_rfl);rw[lV];unfold SB HX;rw[Dk,Fa];by_cases h:z<0
 ·rw[Dr (by simpa using h),zZ (by omega) (by omega),B6K (by omega) (by omega)];have a:(AV.v (.int .u64 2))=Uu 2:=rfl;have d:(AV.v (.int .u64 1))=Uu 1:=rfl;rw[a,d,B69 (by omega),C1S (by omega) (by omega)];have e:zig z=(-z).toNat*2-1:=by unfold zig;rw[Dr h];omega
  rw[<-e];exact c _ _ λb=>⟨false,λK=>by kernel_rfl⟩
 ·rw[CD (by simpa using h),B6K (by omega) (by omega)];have a:(AV.v (.int .u64 2))=Uu 2:=rfl;rw[a,B69 (by omega)];have e:zig z=z.toNat*2:=by unfold zig;rw[CD h];omega
  rw[<-e];exact c _ _ λb=>⟨false,λK=>by kernel_rfl⟩
def XK:Nat->Nat->Ha->Nat×Ha
 |0,u,l=>(u,l)
 |f+1,u,l=>if 128<=u then XK f (u/128) (l++[UInt8.ofNat (u%128+128)]) else(u,l)
theorem A1c:∀(f u:Nat)(l:Ha),(XK f u l).2.length<=l.length+f
 |0,u,l=>LH _
 |f+1,u,l=>by
  unfold XK;split
  ·have:=A1c f (u/128) (l++[UInt8.ofNat (u%128+128)]);rw[Ez,List.length_singleton]at this;omega
  ·show l.length<=_;omega
def B6O{b:UInt8}{H:Hp}(K:KV):FV Bj 1 AT 1 [(0,1,By b)] H K=K (.sl 1 (Ar H) 0 1) ((Ar H,.cells false Bj [By b])::H):=nQ (z:=By 0) (λK=>rfl) (λK=>rfl) rfl K
section
variable{K:KV}{x0:Af}{R:Rt}{k:AV->KV}
theorem B0j:∀(f F u:Nat)(l:Ha)(v:AV)(H:Hp),u<128^(f+1)->u<18446744073709551616->f<F->AU H Bj 1 v l.length (L3 l)->Wf H->l.length+f<=100->
 (∀e c,AU c Bj 1 e (XK f u l).2.length (L3 (XK f u l).2)->Wf c->k (Uu (XK f u l).1) e c=x0)->QH L R K k F (Uu u) v H=x0
 |f,0,u,l,v,H,_,_,h,_,_,_,_=>by omega
 |f,F+1,u,l,v,H,d,hb,i,m,w,j,a=>by
  rw[gK];unfold QI;have q:(AV.v (.int .u64 128))=Uu 128:=rfl;rw[q,KX,Fa];by_cases h:128<=u
  ·rw[Dr (GI (by omega))]
   match f,d,i,j,a with
   |0,d,_,_,_=>exact absurd d (by omega)
   |f+1,d,i,j,a=>
    have g:XK (f+1) u l=XK f (u/128) (l++[UInt8.ofNat (u%128+128)]):=by rw[XK,Dr h]
    rw[g]at a;obtain⟨e,c,a1,a2,p,_⟩:=C18 (ie:=AT) (i2:=AS) (B6O (b:=UInt8.ofNat (u%128+128)) (H:=H)) m w rfl rfl (by decide) rfl (λ_=>rfl) (by show(_+1)*1<=_;omega) (by omega);rw[C1T (by decide),C1V (by omega),B6J,a1,C1U (by decide) hb];have r:L3 l++[By (UInt8.ofNat (u%128+128))]=L3 (l++[UInt8.ofNat (u%128+128)]):=jP l [_];rw[r]at a2;refine B0j f F (u/128) _ e c ?_ (by omega) (by omega) (by rw[Ez];exact a2) p (by rw[Ez,List.length_singleton];omega) a;rw[Nat.pow_succ]at d;omega
  ·rw[CD (by rw[decide_eq_true_eq];omega)];have g:XK f u l=(u,l):=by cases f with|zero=>rfl|succ f=>rw[XK,CD h]
   rw[g]at a;exact a v H m w
end
def B9i{z:Int}(hz:J8 z)(p:100<L):∃s e,s.length<=12/\PS (r! L (n+2)) LO [I z] (.tup [S s,I e]):=by
 obtain⟨g,h⟩:=hz;by_cases h1:z< -4611686018427387903
 ·refine⟨[],10,by simp,CS.ps (λK c=>?_) (λH=>λK=>by kernel_rfl)⟩;rw[PG];unfold LC G8 A2 MF;rw[Dk,GI h1];simp only[zK,BW,Ul,Co];exact c _ _ λb=>⟨false,λK=>by kernel_rfl⟩
 ·by_cases h2:4611686018427387903<z
  ·refine⟨[],10,by simp,CS.ps (λK c=>?_) (λH=>λK=>by kernel_rfl)⟩;rw[PG];unfold LC G8 A2 MF;rw[Dk,HN h1];simp only[gT,BW,DT,GI h2,RF,Co];exact c _ _ λb=>⟨false,λK=>by kernel_rfl⟩
  ·have i:zig z<9223372036854775808:=by unfold zig;split<;>omega
   have a:=A1c 10 (zig z) [];refine⟨(XK 10 (zig z) []).2++[UInt8.ofNat (XK 10 (zig z) []).1],0,by rw[Ez];simp at a⊢;omega,CS.ps (λK c=>?_) (λH=>λK=>by kernel_rfl)⟩;rw[PG];unfold LC G8 A2 MF;rw[Dk,HN h1];simp only[gT,BW,DT,HN h2,RF,Ba];rw[B9b (n:=n) (by omega) (by omega)];simp only[BH];refine B0j 10 (L+20) (zig z) [] _ _ (by rw[show(128:Nat)^(10+1)=151115727451828646838272 from by decide];omega) (by omega) (by omega) (.inl ⟨rfl,rfl,rfl⟩) Fq (by simp) λv H f w=>?_;simp at a;obtain⟨q,j,a1,a2,m,_⟩:=C18 (ie:=AT) (i2:=AS) (B6O (b:=UInt8.ofNat (XK 10 (zig z) []).1) (H:=H)) f w rfl rfl (by decide) rfl (λ_=>rfl) (by show(_+1)*1<=_;omega) (by omega);rw[B6J,a1];have d:L3 (XK 10 (zig z) []).2++[By (UInt8.ofNat (XK 10 (zig z) []).1)]=L3 ((XK 10 (zig z) []).2++[UInt8.ofNat (XK 10 (zig z) []).1]):=jP _ [_];rw[d]at a2;rw[W_ a2];exact c _ _ λb=>⟨false,λK=>by kernel_rfl⟩
def B4n{z:Int}(hz:J8 z)(h:100<L):∃s,s.length<=12/\CS (r! L (n+3)) Eu [.list 1 (Fi [z])] (S s):=by
 obtain⟨s,e,j,i⟩:=B9i (L:=L) (n:=n) hz h;refine⟨s,j,λK g=>?_⟩;rw[TF];unfold MV A2;simp only[BH];have d:=λH K=>i H K;have el:∀K,Bp Bs (.list 1 (Fi [z])) K=K (I ((1:Nat):Int)):=λK=>r_ rfl;have a:∀{F:K2},CV (.tup [S s,I e]) 0 F=F (S s):=λ{F}=>r_ rfl;have c:∀{F:K2},CV (.tup [S s,I e]) 1 F=F (I e):=λ{F}=>r_ rfl;have f:(AV.v (.int .i64 0))=I ((0:Nat):Int):=rfl;have ia:∀{F:K2},D1 Bs (.list 1 (Fi [z])) (I ((0:Nat):Int)) F=F (.iptr [I z]):=λ{F}=>by kernel_rfl
 show Mk (L+20) (r! L (n+2)) K _ (L+18+1+1) _ _ _ _=_;rw[Ni];unfold JV HV A2;rw[el,f,FG (by omega),Co,ia,Ny rfl,d,a,c,B7 (by simp;omega),l3b,Dd (by omega),Ni];unfold JV HV A2;rw[el,FB (by omega),Ba];exact g _ _ λb=>⟨false,CA⟩
def B9j{z:Int}(hz:J8 z)(d:40000<L):∃s,PS (r! L (n+20)) Gt [I z] (S s):=by
 obtain⟨s,e,c⟩:=B4n (L:=L) (n:=n+16) hz (by omega);refine⟨sha s,CS.ps (λK a=>?_) (λH=>λK=>by kernel_rfl)⟩;rw[Vq];unfold Ol HX;have fx:Rm true depth [.sl 1 (Ar []) 0 1] [.list 1 (Fi [z])] ((Ar [],.cells false GL (Fi [z]))::[]) true:=
  Ao (q:=true) (q':=false) (VA (D:=depth-1) (q':=false) (Ax (by simp)) rfl (K7 (λz:Int=>Value.int .i64 z) [z])) AI
 rw[Xx,AQ c fx,AQ (A9A (L:=L+20) (n:=n+16) (s:=s) (by omega) (by omega)) (q:=false) (λK=>by kernel_rfl)];exact a _ _ (λb=>⟨false,λK=>by kernel_rfl⟩)
end
section
variable{L n:Nat}
section
variable{H H0 H':Hp}{v a:AV}{gs A B:eo}{K:KV}{x0:Af}{r m:Nat}{z:Int}{x y:AV}{ss tt:List AP}
end
end
section
variable{F:K2}{i:Nat}
variable{L n:Nat}
section
variable{H H0 H':Hp}{v a:AV}{l gs A B:eo}{K:KV}{x0:Af}{r m:Nat}{z:Int}{x y:AV}{ps:PV}{ws:List Pk}
def B6G(h:i<m):D1 AR (.sl 3 r 0 m) (I (i:Int)) F=F (.ptr r (i*3) 0):=by
 have b:D1 AR (.sl 3 r 0 m) (I (i:Int)) F=iN (i:Int) λn=>ck (Nat.blt n m) (fN (Nat.add 0 (Nat.mul n 3)) λp=>F (.ptr r p 0)):=rfl;rw[b,Kr,Ef];have h1:Nat.blt i m=true:=by rw[Xe];exact h
 have h2:Nat.add 0 (Nat.mul i 3)=i*3:=Kk _;rw[h1,h2];rfl
def A5u{tl:Is}(hi:i<ps.length):(ps.flatMap pvC++tl).drop (i*3)=pvC ps[i]++((ps.drop (i+1)).flatMap pvC++tl):=by
 have b:ps=ps.take i++ps[i]::ps.drop (i+1):=by rw[<-rF hi,l38]
 conv=>lhs;rw[b]
 have c:((ps.take i).flatMap pvC).length=i*3:=by rw[B9w,zF];congr 1;omega
 rw[l2l,eK,<-c,List.drop_left,oK,eK]
def B2v.len(h:B2v H v ps):Bp AR v F=F (I ps.length):=by
 rcases h with⟨rfl,rfl⟩|rfl|⟨_,_,_,rfl,_⟩<;>exact r_ rfl
theorem B2v.cs(h:B2v H v ps)(hi:i<ps.length):(D1 AR v (I i) λu=>CL 2 u λw=>AE Ak w H F)=F ps[i].2.2:=by
 rcases h with⟨rfl,rfl⟩|rfl|⟨r,q,b,rfl,h⟩
 ·simp at hi
 ·rw[Xu (f:=pvC) rfl (λ_=>rfl) hi];exact r_ rfl
 ·rw[B6G hi,fA];have e:AE Ak (.ptr r (i*3+2) 0) H F=IQ H r λx=>Kq x λ_ cs=>hdK (Do (Nat.add (i*3+2) 0) cs) F:=r_ rfl;rw[e,Bn h];show hdK (Do (i*3+2+0) (ps.flatMap pvC++b)) F=_;rw[Nat.add_zero,C9,<-l1a,A5u hi];exact r_ rfl
theorem PksAt.len(h:PksAt H v ws):Bp AR v F=F (I ws.length):=by
 obtain⟨ps,rfl,h2,b⟩:=h.at_;rw[b.len,Po]
theorem PksAt.cs(h:PksAt H v ws)(hi:i<ws.length):∃cv,ZH H cv ws[i].cs/\∀F:K2,(D1 AR v (I i) λu=>CL 2 u λw=>AE Ak w H F)=F cv:=by
 obtain⟨ps,rfl,h2,b⟩:=h.at_;rw[Po]at hi;have c:=h2 _ (NT hi);refine⟨ps[i].2.2,?_,λF=>b.cs hi⟩;rw[l2n];exact c.cs
end
end
section
variable{L n:Nat}
section
variable{H H0 H':Hp}{v a:AV}{l gs A B:eo}{K:KV}{x0:Af}{r m ra ma rb mb:Nat}{z:Int}{x y:AV}{ps:PV}{ws:List Pk}{p:Pk}
def StAt.lat(h:StAt H r m A)(c:StAt H' r m A)(k:Lat H H' (λu=>u=m)):Lat H H' (λ_=>False):=
 ⟨k.wf,k.nx,λw u y b _=>by
  by_cases e:u=m
  ·subst e;rw[h.mm]at b;rw[<-b];exact c.mm
  ·exact k.keep w u y b e⟩
def A0X(c:p.Right)(b:p.kd=2):Lr A p=(A,S' A p.ds):=by
 unfold Lr;rw[Dr c,CD (by omega),Dr b]
end
end
section
variable{L n:Nat}
section
variable{H H0 H':Hp}{v a:AV}{l gs A B:eo}{K:KV}{x0:Af}{r m ra ma rb mb:Nat}{z:Int}{x y:AV}{ps:PV}{ws:List Pk}{p:Pk}
def B4G(b:GOk gs){i:Nat}:StIn gs (NC z i gs):=⟨λc hc=>yX.mem hc,b.ids.sublist (yX.map _)⟩
end
end
def lX:Ha:=[131,104,90,156,194,33,46,235,120,196,11,153,229,79,30,59,146,4,139,217,16,139,18,15,47,76,188,190,151,16,182,131]
def NO:Cd:=.co ⟨⟨1,2,1,0,0⟩, -80,0,[(1, -5),(2, -5),(3, -5),(4, -8),(5, -8)]⟩ ⟨1,[3],.no⟩ [lA] none
def A9x:cdM 1 0 1 0 0 0 3 3 3 0 0 0 none [lA]=NO:=by kernel_rfl
def kU:NO.id=lX:=by kernel_rfl
def VZ:NO.ps=[lA]:=by kernel_rfl
def kV:gG.ps=[]:=rfl
def A3r:NO.Ok:=A9x▸A4I (by simp[lA])
def qV:gG.Ok:=A9y▸A4I (by simp)
def gX:eo:=[NO,gG]
def eO:gX.map Cd.id=[lX,lA]:=by simp[gX,kU,dT]
def kW:[NO].map Cd.id=[lX]:=by simp[kU]
def C3C:gE gX=[(lX,NO),(lA,gG)]:=by simp[gE,gX,kU,dT]
def XD:GOk gX:=by
 refine⟨λc hc=>?_,λc hc=>?_,by rw[eO];decide,by decide⟩
 ·simp only[gX,Xd,List.not_mem_nil,or_false]at hc;rcases hc with rfl|rfl
  ·exact A3r
  ·exact qV
 ·simp only[gX,Xd,List.not_mem_nil,or_false]at hc;rcases hc with rfl|rfl
  ·rw[VZ];decide
  ·rw[kV];decide
def B6a:StIn gX [NO]:=⟨λc hc=>by rw[XR]at hc;rw[hc];simp[gX],by rw[kW];decide⟩
def C0R:Cmp gX gG.id:=.mk (by simp[gX]) (by rw[kV];simp)
def C41:Cmp gX NO.id:=.mk (by simp[gX]) (by rw[VZ];intro p a;rw[XR]at a;rw[a,<-dT];exact C0R)
def B21:Hd gX=gX:=List.filter_eq_self.2 λc hc=>@decide_eq_true _ (_) (by
 simp only[gX,Xd,List.not_mem_nil,or_false]at hc;rcases hc with rfl|rfl
 ·exact C41
 ·exact C0R)
def B6l:¬Cmp [NO] NO.id:=λh=>by
 have h2:=Cmp.par B6a.nd (by simp) h lA (by rw[VZ];simp);have:=h2.ids;rw[kW]at this;exact absurd this (by decide)
def C0P:Hd [NO]=[]:=List.filter_eq_nil_iff.2 λc hc=>by
 rw[XR]at hc;rw[hc,@decide_eq_true_iff _ (_)];exact B6l
def B58:Jw (Hd gX)=[lX]:=by
 rw[B21,Jw,eO];have:([lX,lA].filter λx=>decide (∀c∈gX,x∉c.ps))=[lX]:=by
  have h1:decide (∀c∈gX,lX∉c.ps)=true:=GI λc hc=>by
   simp only[gX,Xd,List.not_mem_nil,or_false]at hc;rcases hc with rfl|rfl
   ·rw[VZ];decide
   ·rw[kV];simp
  have h2:decide (∀c∈gX,lA∉c.ps)=false:=HN λh=>by
   have:=h NO (by simp[gX]);rw[VZ]at this;simp at this
  rw[l2m,h1,l2m,h2];rfl
 rw[this];rfl
def B4P:JN [NO]=[lA]:=by
 unfold JN;rw[kW,show[NO].flatMap Cd.ps=[lA] by simp[VZ]];decide
def B4Q:JN gX=[]:=by
 unfold JN;rw[eO,show gX.flatMap Cd.ps=[lA] by simp[gX,VZ,kV]];decide
def C1F:dN [] [lX]=[⟨2,[lX],[]⟩]:=by
 have:wK [] [lX]=[lX]:=by decide
 unfold dN;rw[this];rfl
def C1E:dN [NO] []=[⟨2,[lA],[]⟩]:=by
 have:wK [NO] []=[lA]:=by unfold wK;rw[B4P];decide
 unfold dN;rw[this];rfl
def B62:dN gX []=[]:=by
 have:wK gX []=[]:=by unfold wK;rw[B4Q];decide
 unfold dN;rw[this];rfl
def C3v:S' gX [lX]=[⟨3,[],[.c NO]⟩]:=by
 have:gvn gX [lX]=[NO]:=by
  unfold gvn;rw[eO,C3C];rfl
 unfold S';rw[this];rfl
def C3u:S' gX [lA]=[⟨3,[],[.c gG]⟩]:=by
 have:gvn gX [lA]=[gG]:=by
  unfold gvn;rw[eO,C3C];rfl
 unfold S';rw[this];rfl
def C19:J7 [NO]=[]:=by unfold J7;rw[C0P];rfl
def B32:T9 [NO]=[lX]:=by
 have:([NO].map Cd.id).filter (λx=>@decide (¬Cmp [NO] x) (Classical.propDecidable _))=[NO].map Cd.id:=List.filter_eq_self.2 λx a=>@decide_eq_true _ (_) (by
  rw[kW,XR]at a;rw[a,<-kU];exact B6l)
 unfold T9;rw[this,kW];rfl
def B33:T9 gX=[]:=by
 have:(gX.map Cd.id).filter (λx=>@decide (¬Cmp gX x) (Classical.propDecidable _))=[]:=List.filter_eq_nil_iff.2 λx a=>by
  rw[@decide_eq_true_iff _ (_)];rw[eO]at a;simp only[Xd,List.not_mem_nil,or_false]at a;rcases a with rfl|rfl
  ·rw[<-kU];exact λh=>h C41
  ·rw[<-dT];exact λh=>h C0R
 unfold T9;rw[this];rfl
def C04:(J7 gX).map Cd.id=[lA,lX]:=by
 rw[jR XD.ids,B21]
 kernel_rfl
def B4H:NC 3 0 gX=gX:=by
 have h:A2k 3 0=true:=by decide
 have h1:A2k 3 1=true:=by decide
 unfold gX;rw[Wm,h,Dr rfl,Wm,h1,Dr rfl];rfl
def rX(q:Pk)(h1:q.ds.length<=64)(h2:q.cs.length<=64)(a:∀s∈q.ds,s.length=32)(b:(q.cs=[]/\(q.kd=1\/q.kd=2))\/(q.ds=[]/\q.kd=3)):q.Right:=⟨h1,h2,a,b⟩
def C2p:Lr [] ⟨1,[lX],[]⟩=([],[⟨2,[lX],[]⟩]):=by
 unfold Lr;rw[Dr (rX _ (by decide) (by decide) (by decide) (.inl ⟨rfl,.inl rfl⟩)),Dr rfl];exact congrArg _ C1F
def A9K:Lr gX ⟨2,[lX],[]⟩=(gX,[⟨3,[],[.c NO]⟩]):=by
 rw[A0X (rX _ (by decide) (by decide) (by decide) (.inl ⟨rfl,.inr rfl⟩)) rfl];exact congrArg _ C3v
def A9J:Lr [] ⟨3,[],[.c NO]⟩=([NO],[⟨2,[lA],[]⟩]):=by
 unfold Lr;rw[Dr (rX _ (by decide) (by decide) (by simp) (.inr ⟨rfl,rfl⟩)),CD (by decide),CD (by decide)];have:Rf [] [.c NO]=[NO]:=by
  show(if NO.id∈[].map Cd.id then[] else[]++[NO])=[NO]
  rw[CD (by simp)];rfl
 rw[show(⟨3,[],[.c NO]⟩:Pk).cs=[.c NO] from rfl,this,CD (by decide),C1E]
def A9I:Lr gX ⟨2,[lA],[]⟩=(gX,[⟨3,[],[.c gG]⟩]):=by
 rw[A0X (rX _ (by decide) (by decide) (by decide) (.inl ⟨rfl,.inr rfl⟩)) rfl];exact congrArg _ C3u
def A9H:Lr [NO] ⟨3,[],[.c gG]⟩=(gX,[]):=by
 unfold Lr;rw[Dr (rX _ (by decide) (by decide) (by simp) (.inr ⟨rfl,rfl⟩)),CD (by decide),CD (by decide)];have:Rf [NO] [.c gG]=gX:=by
  show(if gG.id∈[NO].map Cd.id then[NO] else[NO]++[gG])=gX;rw[CD (by rw[kW,dT];decide)];rfl
 rw[show(⟨3,[],[.c gG]⟩:Pk).cs=[.c gG] from rfl,this,CD (by decide),B62]
def C2o:Lr gX ⟨1,[lX],[]⟩=(gX,[]):=by
 unfold Lr;rw[Dr (rX _ (by decide) (by decide) (by decide) (.inl ⟨rfl,.inl rfl⟩)),Dr rfl];have:([lX].filter λx=>decide (x∉gX.map Cd.id))=[]:=by rw[eO];decide
 rw[show(⟨1,[lX],[]⟩:Pk).ds=[lX] from rfl,this,B62]
section
set_option maxHeartbeats 100000000
variable{cv:AV}
variable{L n:Nat}
def RB(R:Rt)(f:Nat)(args:Is)(v:AV):Prop:=∀b,(R.call f args [] λv a=>Ia b a depth v λ_ c=>some (c,[]))=some (v,[])
def RM{R:Rt}{f:Nat}{args args':Is}{v:AV}{H:Hp}{q:Bool}{K:K2}(hc:RB R f args' v)(a:Rm true depth args args' H q):Aq R f args H K=K v:=by
 unfold Aq;rw[a,hc (!q)];rfl
abbrev z6:AV:=.agg [I 0,I 0,I 0,I 0,I 0,I 0]
def m_A(d:40000<L):CT (r! L (n+44)) ID [z6,z6,Av,Av] (.agg gG.cs):=by
 intro K c;have a:J8 0:=⟨by decide,by decide⟩
 refine tI (n:=n) (y:=none) (l:=[]) d Fq a a a a a a a a a a a a (λb _=>⟨false,CA⟩) trivial (.inl (.inr ⟨rfl,rfl⟩)) (by decide) (by simp) ?_;rw[A9y];intro v b sv nv e kp fr;obtain⟨q,hq⟩:=X' (D:=depth-2) sv nv;exact c _ _ ⟨q,LL (D:=depth-1) hq⟩
def m_X(f:40000<L):CT (r! L (n+44)) ID [.agg [I 1,I 0,I 1,I 0,I 0,I 0],.agg [I 3,I 3,I 3,I 0,I 0,I 0],Av,DV [lA]] (.agg NO.cs):=by
 intro K e;have a:J8 0:=⟨by decide,by decide⟩
 have c:J8 1:=⟨by decide,by decide⟩
 have b:J8 3:=⟨by decide,by decide⟩
 refine tI (n:=n) (y:=none) (l:=[lA]) f Fq c a c a a a b b b a a a (λd _=>⟨false,CA⟩) trivial (.inl (My [lA])) (by decide) (by simp[lA]) ?_;rw[A9x];intro v d sv nv g kp fr;obtain⟨q,hq⟩:=X' (D:=depth-2) sv nv;exact e _ _ ⟨q,LL (D:=depth-1) hq⟩
abbrev l0A:AV:=.list 0 []
def nl(cv:AV):Prop:=cv=Av\/cv=l0A
def s_h:RB (r! L (n+10)) CZ [.agg [I 1,DV [lX],Av],.agg [I 1,DV [lX],Av]] (Bo true):=by intro b;cases b<;>kernel_rfl
def s_1(h:nl cv):RB (r! L (n+10)) CZ [.agg [I 2,DV [lX],cv],.agg [I 2,DV [lX],Av]] (Bo true):=by
 intro b;rcases h with rfl|rfl<;>cases b<;>kernel_rfl
def s_3(h:nl cv):RB (r! L (n+10)) CZ [.agg [I 2,DV [lA],cv],.agg [I 2,DV [lA],Av]] (Bo true):=by
 intro b;rcases h with rfl|rfl<;>cases b<;>kernel_rfl
def s_n(h:nl cv):RB (r! L (n+10)) CZ [.agg [I 1,DV [lX],Av],.agg [I 2,DV [lX],cv]] (Bo false):=by
 intro b;rcases h with rfl|rfl<;>cases b<;>kernel_rfl
def s_2{a:AV}(h:nl a):RB (r! L (n+64)) CZ [.agg [I 3,a,.list 1 NO.cs],.agg [I 3,Av,.list 1 NO.cs]] (Bo true):=by
 intro b;rcases h with rfl|rfl<;>cases b<;>kernel_rfl
def C4S:RB (r! L (n+10)) G7 [DV [lX],DV [lX]] (Bo true):=by intro b;cases b<;>kernel_rfl
def C4R:RB (r! L (n+10)) G7 [DV [lA,lX],DV [lA,lX]] (Bo true):=by intro b;cases b<;>kernel_rfl
end
section
set_option maxHeartbeats 100000000
variable{cv dv:AV}
variable{L n:Nat}
section
variable{H H0 H':Hp}{v:AV}{A Y:eo}{K:KV}{x0:Af}{r m b nr pq r1 m1 m2:Nat}{ws:List Pk}
structure Sn(b nr pq r1 m1 m2:Nat)(H:Hp):Prop where
 wf:Wf H
 cb:Ai H b=some (c_ Ad NO.cs)
 nm:∃q,Ai H nr=some (.cells q Al [S lA,S lX])
 pk:Ai H pq=some (c_ Aw [I 1,DV [lX],Av])
 sx:StAt H r1 m1 gX
 ne:b≠m2/\nr≠m2/\pq≠m2/\r1≠m2/\m1≠m2
def Sn.kp(h:Sn b nr pq r1 m1 m2 H)(k:Lat H H' (λu=>u=m2)):Sn b nr pq r1 m1 m2 H':=by
 obtain⟨w,h1,⟨q,h2⟩,i,g,a,c,d,e,f⟩:=h;exact⟨k.wf w,k.keep w _ _ h1 a,⟨q,k.keep w _ _ h2 c⟩,k.keep w _ _ i d,⟨k.keep w _ _ g.st e,k.keep w _ _ g.mm f⟩,a,c,d,e,f⟩
def Lat.no(k:Lat H H' (λ_=>False)):Lat H H' (λu=>u=m2):=⟨k.wf,k.nx,λw u y a _=>k.keep w u y a id⟩
theorem PksAt.ptr(h:PksAt H v ws){i:Nat}(hi:i<ws.length):∃p w,(∀F:K2,D1 AR v (I i) F=F p)/\PkS H w ws[i]/\∀H',(∀u y,A4 v u->Ai H u=some y->Ai H' u=some y)->∀F:K2,AE A3 p H' F=F w:=by
 obtain⟨ps,rfl,h2,j⟩:=h.at_;rw[Po]at hi;have a:=h2 _ (NT hi);have g:PkS H (.agg (pvC ps[i])) (ps.map Prod.fst)[i]:=⟨ps[i].2.1,ps[i].2.2,by rw[l2n];rfl,by rw[l2n];exact a.ds,by rw[l2n];exact a.cs,by rw[l2n];exact a.nl⟩
 rcases j with⟨rfl,rfl⟩|rfl|⟨r,q,s,rfl,d⟩
 ·simp at hi
 ·exact⟨.iptr (pvC ps[i]),_,λF=>Xu (f:=pvC) rfl (λ_=>rfl) hi,g,λH' _ F=>r_ rfl⟩
 ·refine⟨.ptr r (i*3) 0,_,λF=>B6G hi,g,λH' k F=>?_⟩;have h:=k r _ ⟨_,_,_,rfl⟩ d;have e:AE A3 (.ptr r (i*3) 0) H' F=IQ H' r λx=>Kq x λ_ cs=>EL 3 (Do (Nat.add (i*3) 0) cs) λc=>F (.agg c):=r_ rfl;rw[e,Bn h];show EL 3 (Do (i*3+0) (ps.flatMap pvC++s)) (λc=>F (.agg c))=_;rw[Nat.add_zero,C9,A5u hi];exact r_ rfl
theorem PkS.fx{q:Pk}(h:PkS H v q):∃dv cv f,SA q.ds dv/\ZH [] cv q.cs/\Fx true depth v (.agg [I q.kd,dv,cv]) H f:=by
 obtain⟨dv,cv,rfl,h1,h2,_⟩:=h.at_;obtain⟨d,q1,g,f1⟩:∃a e,SA q.ds a/\Fx true 11 dv a H e:=by
  rcases h1 with h|h
  ·refine⟨dv,false,h,?_⟩;rcases h with rfl|⟨_,rfl⟩<;>exact λK=>rfl
  ·exact h.fx (D:=10)
 obtain⟨c,q2,i,f2⟩:=h2.fx (D:=10);exact⟨d,c,_,g,i,LL (D:=11) (Ao (q:=false) CA (Ao f1 (Ao f2 AI)))⟩
def C0W(h:ZH [] cv []):nl cv:=by
 rcases h with⟨rfl,_⟩|rfl|⟨_,_,_,_,h⟩
 ·exact .inl rfl
 ·exact .inr rfl
 ·simp[Ai]at h
def C44{d:Cd}(h:ZH [] cv [.c d]):cv=.list 1 d.cs:=by
 rcases h with⟨_,h⟩|rfl|⟨_,_,_,_,h⟩
 ·cases h
 ·show AV.list 1 (d.cs++[])=_;rw[US]
 ·simp[Ai]at h
def C2g(h:SA [] dv):nl dv:=by
 rcases h with rfl|⟨_,rfl⟩
 ·exact .inr rfl
 ·exact .inl rfl
def C2h{a:AP}{l:List AP}(h:SA (a::l) dv):dv=DV (a::l):=by
 rcases h with rfl|⟨h,_⟩
 ·rfl
 ·cases h
end
end
section
set_option maxHeartbeats 100000000
variable{L n:Nat}
def A9B(J:200000<L):CS (r! L (n+85)) R6 [] (Bo true):=by
 intro K hK;have x:40000<L:=by omega
 have c1:∀{H K},Aq (r! L (n+84)) ID [z6,z6,(.v (.slice none 0 0)),(.v (.slice none 0 0))] H K=K (.agg gG.cs):=λ{H K}=>JT (m_A (n:=n+40) x) (Ao (q:=false) (λK=>by kernel_rfl) (Ao (q:=false) (λK=>by kernel_rfl) (Ao (q:=false) CA (Ao (q:=false) CA AI))));have c2:∀{H K},Aq (r! L (n+84)) ID [.agg [I 1,I 0,I 1,I 0,I 0,I 0],.agg [I 3,I 3,I 3,I 0,I 0,I 0],(.v (.slice none 0 0)),DV [lA]] H K=K (.agg NO.cs):=λ{H K}=>JT (m_X (n:=n+40) x) (Ao (q:=false) (λK=>by kernel_rfl) (Ao (q:=false) (λK=>by kernel_rfl) (Ao (q:=false) CA (Ao ((My _).fx H) AI))));have cw:∀{H K},Aq (r! L (n+84)) FH [.agg gG.cs] H K=K (S lA):=λ{H K}=>by
  rw[<-dT];exact AQ (Y' (n:=n+20) x qV (show([]:List Ha).Nodup by decide)) (oR H)
 have b0:∀{K:K2},BR B8 [] K=K z6:=λ{K}=>r_ rfl;have b1:∀{K:K2},BR B8 [(0,1,(AV.v (.int .i64 1))),(1,1,(AV.v (.int .i64 0))),(2,1,(AV.v (.int .i64 1))),(3,1,(AV.v (.int .i64 0))),(4,1,(AV.v (.int .i64 0))),(5,1,(AV.v (.int .i64 0)))] K=K (.agg [I 1,I 0,I 1,I 0,I 0,I 0]):=λ{K}=>r_ rfl;have b3:∀{K:K2},BR B8 [(0,1,(AV.v (.int .i64 3))),(1,1,(AV.v (.int .i64 3))),(2,1,(AV.v (.int .i64 3))),(3,1,(AV.v (.int .i64 0))),(4,1,(AV.v (.int .i64 0))),(5,1,(AV.v (.int .i64 0)))] K=K (.agg [I 3,I 3,I 3,I 0,I 0,I 0]):=λ{K}=>r_ rfl;have cf:∀{a:Ha}{K:K2},Zc 1 Ah 1 [(0,1,S a)] K=K (DV [a]):=λ{a K}=>by kernel_rfl
 have cg:∀{K:K2},Zc 68 Ae 2 [(0,68,.agg NO.cs),(68,68,.agg gG.cs)] K=K (.list 2 (gX.flatMap Cd.cs)):=λ{K}=>by kernel_rfl
 have ci:∀{K:K2},Zc 68 Ae 2 [(0,68,.agg gG.cs),(68,68,.agg NO.cs)] K=K (.list 2 ([PC.c gG,PC.c NO].flatMap PC.cells)):=λ{K}=>by kernel_rfl
 have cj:∀{K:K2},Zc 68 Ae 1 [(0,68,.agg NO.cs)] K=K (.list 1 NO.cs):=λ{K}=>by kernel_rfl
 rw[uE];unfold WR eN Dm G8 A2 MF Hv;obtain⟨H1,e1,ad,w1, -⟩:=HF (e:=Ad) (zs:=C7) (vs:=gG.cs) Fq Eb;rw[b0,b0,c1,Bv (cs:=C7) rfl,BQ (cs:=C7) (vs:=gG.cs) (Ax (by simp)) Eb rfl Ma,<-e1];generalize Ar []=a at ad;rw[b1,b3,Br rfl Eb.symm ad,cw,cf,c2];obtain⟨H2,e2,V,w2,k2⟩:=HF (e:=Ad) (zs:=C7) (vs:=NO.cs) w1 Eb;rw[Bv (cs:=C7) rfl,BQ (cs:=C7) (vs:=NO.cs) (Ax (by simp)) Eb rfl Ma,<-e2];have a3:=(k2 _ _ ad).1;generalize Ar H1=b at V;clear e1 e2 k2 ad w1;rw[Br rfl Eb.symm V,Br rfl Eb.symm a3,cg];refine A8O (n:=n+17) x XD (z:=3) ⟨by decide,by decide⟩ (.inl rfl) w2 λr1 m1 g s3 d9 l3=>?_;rw[B4H]at s3;rw[Gz,UJ,A8W (n:=n+83)];have w3:=l3.wf w2;obtain⟨t4,w4,k4⟩:=A3N w3;have n4:Ar ((Ar g+1,c_ Dz [.mp (Ar g)])::(Ar g,.map false [] none)::g)=Ar g+2:=rfl;have ay:∀u y,Ai H2 u=some y->Ai ((Ar g+1,c_ Dz [.mp (Ar g)])::(Ar g,.map false [] none)::g) u=some y:=λu y M=>k4 u y (l3.keep w2 u y M id);have a4:=ay _ _ a3;have X:=ay _ _ V;have s4:=s3.keep k4;have lb:=w2.lt V;have lr:=w3.lt s3.st;have lm:=w3.lt s3.mm;have de:=l3.nx;generalize ((Ar g+1,c_ Dz [.mp (Ar g)])::(Ar g,.map false [] none)::g:Hp)=H4 at t4 w4 n4 a4 X s4;have da:Ar g+1≠Ar g:=by omega
 generalize ea:Ar g=m2 at t4 n4 lr lm de da;generalize m2+1=r2 at t4;have pC:∀{K},AE Ab (.ptr b 31 0) H4 K=K (DV [lA]):=λ{K}=>AL (p:=31) rfl X (show 31<68 by decide);have df:∀{a:Ha}{K:K2},Bp Ab (DV [a]) K=K (.v (.int .i64 1)):=λ{a K}=>r_ rfl;have R:∀{K:K2},As Ac .neq (.v (.int .i64 1)) (.v (.int .i64 1)) K=K (Bo false):=λ{K}=>by kernel_rfl
 have un:∀{q:Bool}{K:K2},MB .not (Bo q) K=K (Bo (!q)):=λ{q K}=>DR;have dr:∀{F:K2},Rb BA CC .eql (.ptr r1 0 0) (.v (.pointer none)) F=F (Bo false):=λ{F}=>s4.sv.nn;have dt:∀{F:K2},Rb BA CC .eql (.ptr r2 0 0) (.v (.pointer none)) F=F (Bo false):=λ{F}=>t4.sv.nn;simp only[un,Bool.not_true,dr,dt,QD,pC,df,R,gT,zK,eP,BW,Ul,RF];rw[Ba,Br rfl Eb.symm a4,Br rfl Eb.symm X,ci];refine A9j (n:=n+19) (l:=[PC.c gG,PC.c NO]) (λp hp=>?_) (by decide) x (.inr (.inl rfl)) w4 λd4 H5 j d6=>?_
 ·simp only[Xd,List.not_mem_nil,or_false]at hp;rcases hp with rfl|rfl
  ·exact⟨qV,by rw[kV];decide⟩
  ·exact⟨A3r,by rw[VZ];decide⟩
 have cz:[PC.c gG,PC.c NO].map PC.id=[lA,lX]:=by
  show[gG.id,NO.id]=_;rw[dT,kU]
 rw[cz]at j;have w5:=j.wf;have af:=j.new;have du:=j.nx;have k5:=j.keep;rcases j.sl with⟨_,h,_⟩|⟨nr,q5,N,be,_⟩
 ·cases h
 have N:d4=.sl 1 nr 0 2:=N;subst N;have d8:Ar H4<=nr:=af nr ⟨_,_,_,rfl⟩;rw[B3l (n:=n+1) XD J (s4.keep k5).sv,B58];obtain⟨H6,e6,a5,w6,k6⟩:=HF (e:=Aw) (zs:=[I 0,Av,Av]) (vs:=[I 1,DV [lX],Av]) w5 rfl;rw[Bv (cs:=[I 0,Av,Av]) rfl,BQ (cs:=[I 0,Av,Av]) (vs:=[I 1,DV [lX],Av]) (Ax (by simp)) rfl rfl rfl,<-e6];have Q:∀u y,Ai H5 u=some y->Ai H6 u=some y:=λu y M=>(k6 u y M).1;have eb:Ar H5≠m2:=by omega
 have ae:Sn b nr (Ar H5) r1 m1 m2 H6:=⟨w6,Q _ _ (k5 _ _ X),⟨q5,Q _ _ be⟩,a5,(s4.keep k5).keep Q,by omega,by omega,by omega,by omega,by omega⟩
 have t6:=(t4.keep k5).keep Q;generalize Ar H5=pq at ae a5;clear e6 k6 Q w6 a5 be w5 af du k5 s4 t4 a4 X w4 n4 ay k4 w3 s3 l3 a3 V w2 j d6;have hh:∀{H:Hp},PkS H (.agg [I 1,DV [lX],Av]) ⟨1,[lX],[]⟩:=λ{H}=>⟨_,_,rfl,.inl (My _),.inl ⟨rfl,rfl⟩,λh=>by cases h⟩
 have gN:GOk []:=⟨by simp,by simp,List.nodup_nil,by decide⟩
 have gS:=B6a.ok XD;have rh:Pk.Right ⟨1,[lX],[]⟩:=rX _ (by decide) (by decide) (by decide) (.inl ⟨rfl,.inl rfl⟩);rw[Br rfl rfl ae.pk];refine A5e (PP:=λa=>a=_) (n:=n) (A:=[]) (q:=⟨1,[lX],[]⟩) J gN rh rfl ae.wf t6 hh (by decide) λH7 t7 l7=>?_;rw[C2p];show(_:Af)=_;have d:=ae.kp l7;have f1:∀{H:Hp},Fx true depth (.agg [I 1,DV [lX],Av]) (.agg [I 1,DV [lX],Av]) H false:=λ{H}K=>by kernel_rfl
 have f2:∀{H:Hp},Fx true depth (.agg [I 2,DV [lX],Av]) (.agg [I 2,DV [lX],Av]) H false:=λ{H}K=>by kernel_rfl
 have fS:∀{H:Hp}{D:Nat},(∃q,Ai H nr=some (.cells q Al [S lA,S lX]))->Fx true (D+1) (.sl 1 nr 1 1) (DV [lX]) H true:=λ{H D} ⟨q,h⟩=>Xj (q':=false) h (by decide) (V0 [lX]);have fT:∀{H:Hp}{D:Nat},(∃q,Ai H nr=some (.cells q Al [S lA,S lX]))->Fx true (D+1) (.sl 1 nr 0 1) (DV [lA]) H true:=λ{H D} ⟨q,h⟩=>Xj (q':=false) h (by decide) (V0 [lA]);have fU:∀{H:Hp}{D:Nat},(∃q,Ai H nr=some (.cells q Al [S lA,S lX]))->Fx true (D+1) (.sl 1 nr 0 2) (DV [lA,lX]) H true:=λ{H D} ⟨q,h⟩=>Xj (q':=false) h (by decide) (V0 [lA,lX]);have fP:∀{H:Hp}{z:Int}{v w:AV},Fx true 11 v w H true->Fx true depth (.agg [I z,v,Av]) (.agg [I z,w,Av]) H true:=λ{H z v w}h=>LL (D:=11) (Ao (q:=false) CA (Ao (q:=true) (q':=false) h (Ao (q:=false) CA AI)));have bq:∀{K:K2},DS Ab (.sl 1 nr 0 2) (some (.v (.int .i64 1))) none none K=K (.sl 1 nr 1 1):=λ{K}=>ZA (i:=1) (m:=2) (by decide);have dx:∀{K:K2},DS Ab (.sl 1 nr 0 2) none (some (.v (.int .i64 1))) none K=K (.sl 1 nr 0 1):=λ{K}=>VE (i:=1) (m:=2) (by decide);have cm:∀{K:K2},BR A3 [(0,1,(AV.v (.int .i64 1))),(1,1,.sl 1 nr 1 1)] K=K (.agg [I 1,.sl 1 nr 1 1,Av]):=λ{K}=>by kernel_rfl
 have cp:∀{K:K2},BR A3 [(0,1,(AV.v (.int .i64 2))),(1,1,.sl 1 nr 1 1)] K=K (.agg [I 2,.sl 1 nr 1 1,Av]):=λ{K}=>by kernel_rfl
 have cq:∀{K:K2},BR A3 [(0,1,(AV.v (.int .i64 2))),(1,1,.sl 1 nr 0 1)] K=K (.agg [I 2,.sl 1 nr 0 1,Av]):=λ{K}=>by kernel_rfl
 have cu:∀{K:K2},BR A3 [(0,1,(AV.v (.int .i64 3))),(2,1,.list 1 NO.cs)] K=K (.agg [I 3,Av,.list 1 NO.cs]):=λ{K}=>by kernel_rfl
 have d7:∀{K:K2},AE A3 (.ptr pq 0 0) H7 K=K (.agg [I 1,DV [lX],Av]):=λ{K}=>Br rfl rfl d.pk;have a7:∀{K:K2},Aq (r! L (n+84)) CZ [.agg [I 1,DV [lX],Av],.agg [I 1,.sl 1 nr 1 1,Av]] H7 K=K (Bo true):=λ{K}=>RM (s_h (n:=n+74)) (Ao f1 (Ao (fP (fS d.nm)) AI));have c7:∀{K:K2},Aq (r! L (n+84)) CZ [.agg [I 2,DV [lX],Av],.agg [I 2,.sl 1 nr 1 1,Av]] H7 K=K (Bo true):=λ{K}=>RM (s_1 (n:=n+74) (.inl rfl)) (Ao f2 (Ao (fP (fS d.nm)) AI));have dm:∀{K:K2},Bp AR (wY [⟨2,[lX],[]⟩]) K=K (.v (.int .i64 1)):=λ{K}=>r_ rfl;have bf:∀{K:K2},D1 AR (wY [⟨2,[lX],[]⟩]) (.v (.int .i64 0)) K=K (.iptr [I 2,DV [lX],Av]):=λ{K}=>by kernel_rfl
 have bh:∀{H:Hp}{K:K2},AE A3 (.iptr [I 2,DV [lX],Av]) H K=K (.agg [I 2,DV [lX],Av]):=λ{H K}=>r_ rfl;simp only[B6,d7,bq,cm,a7,un,Bool.not_true,gT,zK,eP,BW,dm,R,Ul,RF,bf,bh,cp,c7];rw[Ba];have h2:PkS H7 (.agg [I 2,DV [lX],Av]) ⟨2,[lX],[]⟩:=⟨_,_,rfl,.inl (My _),.inl ⟨rfl,rfl⟩,λh=>by cases h⟩
 refine UW (n:=n) (A:=gX) (q:=⟨2,[lX],[]⟩) J XD (by simp) d.wf d.sx h2 (by decide) (λh=>by cases h) (by decide) (by rw[A9K];exact XD) (by rw[A9K];decide) λb5 H8 s8 p8 l8=>?_;rw[A9K]at s8 p8;have l8:=d.sx.lat s8 l8;have a6:=d.kp l8.no;have t8:=t7.kp l8 d.wf;obtain⟨bn,w8,ap,aa,ar⟩:=p8.ptr (i:=0) (by decide);have ap:∀F:K2,D1 AR b5 (.v (.int .i64 0)) F=F bn:=ap;have aa:PkS H8 w8 ⟨3,[],[.c NO]⟩:=aa;have ar:∀F:K2,AE A3 bn H8 F=F w8:=ar H8 λu y _ M=>M;have dh:∀F:K2,Bp AR b5 F=F (.v (.int .i64 1)):=λF=>p8.len;have b8:∀{K:K2},AE Ae (.ptr b 0 0) H8 K=K (.agg NO.cs):=λ{K}=>Br rfl Eb.symm a6.cb;have a8:∀{K:K2},Aq (r! L (n+84)) CZ [w8,.agg [I 3,Av,.list 1 NO.cs]] H8 K=K (Bo true):=λ{K}=>by
  obtain⟨dv,cv,qq,sd,sc,fw⟩:=aa.fx;rw[C44 sc]at fw;exact RM (s_2 (n:=n+20) (C2g sd)) (Ao fw (Ao (q:=false) (LL (D:=11) (Ao (q:=false) CA (Ao (q:=false) CA (Ao (q:=false) OD AI)))) AI))
 simp only[dh,R,B6,gT,zK,eP,BW,Ul,RF,ap,ar,b8,cj,cu,a8,un,Bool.not_true];rw[Ba];refine UW (n:=n) (A:=[]) (q:=⟨3,[],[.c NO]⟩) J gN (λp hp=>by
  rw[XR]at hp;rw[hp];exact⟨A3r,by rw[VZ];decide⟩) a6.wf t8 aa (by decide) (λh=>by cases h) (by decide) (by rw[A9J];exact gS) (by rw[A9J];decide) λaj H9 t9 p9 l9=>?_
 rw[A9J]at t9 p9;have k:=a6.kp l9;obtain⟨bo,w9,aq,ab,ax⟩:=p9.ptr (i:=0) (by decide);have aq:∀F:K2,D1 AR aj (.v (.int .i64 0)) F=F bo:=aq;have ab:PkS H9 w9 ⟨2,[lA],[]⟩:=ab;have ax:∀F:K2,AE A3 bo H9 F=F w9:=ax H9 λu y _ M=>M;have dj:∀F:K2,Bp AR aj F=F (.v (.int .i64 1)):=λF=>p9.len;have ce:∀{K:K2},Lc (r! L (n+84)) Cu [.ptr r2 0 0] H9 K=K Av:=λ{K}=>by rw[A5g (n:=n+2) gS J t9.sv,C19];rfl
 have d5:∀{K:K2},Aq (r! L (n+84)) CQ [.ptr r2 0 0] H9 K=K (DV [lX]):=λ{K}=>by
  rw[kN (n:=n+1) gS J t9.sv];unfold Yf;rw[CD (by simp),B32];rfl
 have dn:∀{K:K2},Bp Ak Av K=K (.v (.int .i64 0)):=λ{K}=>r_ rfl;have Z:∀{K:K2},As Ac .eql (.v (.int .i64 0)) (.v (.int .i64 0)) K=K (Bo true):=λ{K}=>by kernel_rfl
 have dy:∀{K:K2},Aq (r! L (n+84)) G7 [DV [lX],.sl 1 nr 1 1] H9 K=K (Bo true):=λ{K}=>RM (C4S (n:=n+74)) (Ao ((My _).fx H9) (Ao (fS (D:=11) k.nm) AI));have a9:∀{K:K2},Aq (r! L (n+84)) CZ [w9,.agg [I 2,.sl 1 nr 0 1,Av]] H9 K=K (Bo true):=λ{K}=>by
  obtain⟨dv,cv,qq,sd,sc,fw⟩:=ab.fx;rw[C2h sd]at fw;exact RM (s_3 (n:=n+74) (C0W sc)) (Ao fw (Ao (fP (fT k.nm)) AI))
 simp only[ce,dn,Z,d5,bq,dy,dj,R,B6,gT,zK,eP,BW,Ul,RF,aq,ax,dx,cq,a9,un,Bool.not_true];rw[Ba];refine UW (n:=n) (A:=gX) (q:=⟨2,[lA],[]⟩) J XD (by simp) k.wf k.sx ab (by decide) (λh=>by cases h) (by decide) (by rw[A9I];exact XD) (by rw[A9I];decide) λak am bp az ac=>?_;rw[A9I]at bp az;have ac:=k.sx.lat bp ac;have ah:=k.kp ac.no;have dz:=t9.kp ac k.wf;obtain⟨ag,b7,B,O,C⟩:=az.ptr (i:=0) (by decide);have B:∀F:K2,D1 AR ak (.v (.int .i64 0)) F=F ag:=B;have O:PkS am b7 ⟨3,[],[.c gG]⟩:=O;have C:∀F:K2,AE A3 ag am F=F b7:=C am λu y _ M=>M;have bj:∀F:K2,Bp AR ak F=F (.v (.int .i64 1)):=λF=>az.len;rw[bj,R,Ba,B,C];refine UW (n:=n) (A:=[NO]) (q:=⟨3,[],[.c gG]⟩) J gS (λp hp=>by
  rw[XR]at hp;rw[hp];exact⟨qV,by rw[kV];decide⟩) ah.wf dz O (by decide) (λh=>by cases h) (by decide) (by rw[A9H];exact XD) (by rw[A9H];decide) λbv ao ba bm db=>?_
 rw[A9H]at ba bm;have Y:=ah.kp db;have bk:∀F:K2,Bp AR bv F=F (.v (.int .i64 0)):=λF=>bm.len;have ids:∀{F:KV},(∀v f,NewSl ao [lA,lX] v f->F v f=some (Bo true,[]))->D6 ((r! L (n+84)).call LQ [.ptr r2 0 0] ao λv H=>some (v,H)) F=some (Bo true,[]):=λ{F}hF=>
  A91 (n:=n+1) (K:=λv H=>some (v,H)) (PP:=λa=>D6 a F=some (Bo true,[])) XD J ba.sv Y.wf λv f j _=>by
   rw[C04]at j;exact hF v f j
 simp only[bk,Z,B6,gT,zK,eP,BW,Ul,RF];refine ids λbx t j=>?_;have bg:Lat ao t (λ_=>False):=⟨λ_=>j.wf,j.nx,λ_ u y M _=>j.keep u y M⟩
 have r:=Y.kp bg.no;have bu:=ba.kp bg Y.wf;have bt:∀{K:K2},Aq (r! L (n+84)) G7 [bx,.sl 1 nr 0 2] t K=K (Bo true):=λ{K}=>by
  obtain⟨a,q,ha,hf⟩:=Km.fx (j.sat λh=>by cases h) (D:=11);rw[C2h ha]at hf;exact RM (C4R (n:=n+74)) (Ao hf (Ao (fU (D:=11) r.nm) AI))
 have b9:∀{K:K2},Aq (r! L (n+84)) CQ [.ptr r2 0 0] t K=K (.list 0 []):=λ{K}=>by
  rw[kN (n:=n+1) XD J bu.sv];unfold Yf;rw[CD (by simp[gX]),B33];rfl
 have dq:∀{K:K2},Bp Ab (.list 0 []) K=K (.v (.int .i64 0)):=λ{K}=>r_ rfl;have cx:∀{K:K2},AE A3 (.ptr pq 0 0) t K=K (.agg [I 1,DV [lX],Av]):=λ{K}=>Br rfl rfl r.pk;have dw:∀{F:KV},(∀f,StAt f r2 m2 gX->Lat t f (λu=>u=m2)->F Av f=some (Bo true,[]))->D6 ((r! L (n+84)).call B9 [.ptr r2 0 0,.agg [I 1,DV [lX],Av]] t λv H=>some (v,H)) F=some (Bo true,[]):=λ{F}hF=>
  A5e (n:=n) (A:=gX) (q:=⟨1,[lX],[]⟩) (K:=λv H=>some (v,H)) (PP:=λa=>D6 a F=some (Bo true,[])) J XD rh rfl r.wf bu hh (by decide) λf s l=>by
   rw[C2o];exact hF f s l
 simp only[bt,b9,dq,Z,cx,B6,gT,zK,eP,BW,Ul,RF];refine dw λbc d3 dc=>?_;have ai:=r.kp dc;have dp:∀{K:K2},Bp AR Av K=K (.v (.int .i64 0)):=λ{K}=>r_ rfl;have bz:∀{K:K2},BR Ae [] K=K (.agg C7):=λ{K}=>by kernel_rfl
 have put:∀{F:KV},(∀f,StAt f r2 m2 gX->Lat bc f (λu=>u=m2)->F (I 280) f=some (Bo true,[]))->D6 ((r! L (n+84)).call Ep [.ptr r2 0 0,.agg C7] bc λv H=>some (v,H)) F=some (Bo true,[]):=λ{F}hF=>
  A31 (n:=n+18) (p:=.z) (A:=gX) (K:=λv H=>some (v,H)) (P:=λa=>D6 a F=some (Bo true,[])) x trivial ai.wf d3 (by decide) λf s l=>hF f s l
 simp only[dp,Z,bz,B6,gT,zK,eP,BW,Ul,RF];refine put λbd ec dd=>?_;have bs:=ai.kp dd;have c0:∀{K:K2},As Ac .eql (I 280) (.v (.int .i64 280)) K=K (Bo true):=λ{K}=>by kernel_rfl
 have cy:∀{K:K2},AE A3 (.ptr pq 0 0) bd K=K (.agg [I 1,DV [lX],Av]):=λ{K}=>Br rfl rfl bs.pk;have cc:∀{K:K2},Aq (r! L (n+84)) CZ [.agg [I 1,DV [lX],Av],.agg [I 2,DV [lX],Av]] bd K=K (Bo false):=λ{K}=>RM (s_n (n:=n+74) (.inl rfl)) (Ao f1 (Ao f2 AI));simp only[c0,cy,bf,bh,cc,un,Bool.not_false,B6,gT,zK,eP,BW,Ul,RF];exact hK _ _ λb=>⟨false,CA⟩
end
section
variable{L n:Nat}
def Kc(H H':Hp):Prop:=∀u q e cs,e≠Aw->Ai H u=some (.cells q e cs)->Ai H' u=some (.cells q e cs)
section
variable{H H0 H' H'':Hp}{v x:AV}{A Y:eo}{K:KV}{x0:Af}{r m:Nat}{ws us:List Pk}{ps ss:PV}
def Kc.refl:Kc H H:=λ_ _ _ _ _ h=>h
def Kc.trans(h:Kc H H')(k:Kc H' H''):Kc H H'':=λu q e cs he a=>k u q e cs he (h u q e cs he a)
theorem Kc.map{b:IH}{q:Bool}{o}(k:Lat H H' (λu=>u=m))(w:Wf H)(h:Ai H m=some (.map q b o)):Kc H H':=λu q e cs _ a=>k.keep w u _ a λc=>by
 rw[c,h]at a;cases a
structure Pls(H:Hp)(v:AV)(ps:PV):Prop where
 ok:∀p∈ps,PvOk H p
 at_:(v=Av/\ps=[])\/∃r q tl,v=.sl 3 r 0 ps.length/\Ai H r=some (.cells q Aw (ps.flatMap pvC++tl))
end
end
section
variable{u:Nat}
variable{L n:Nat}
section
variable{H H0 H' H'':Hp}{v x v1 v2:AV}{gs A B:eo}{K:KV}{x0:Af}{r m ra ma rb mb N:Nat}{ws us:List Pk}{p1 p2 ss:PV}
def Pls.row(h:Pls H v p1)(b:A4 v u):∃q cs,Ai H u=some (.cells q Aw cs):=by
 rcases h.at_ with⟨rfl,_⟩|⟨r,q,d,rfl,c⟩
 ·exact absurd b (by simp[A4])
 ·obtain⟨_,_,_,a⟩:=b;injection a with _ a
  subst a;exact⟨q,_,c⟩
theorem Pls.lt(h:Pls H v p1)(w:Wf H)(b:A4 v u):u<Ar H:=by
 obtain⟨q,cs,a⟩:=h.row b;exact w.lt a
end
end
section
variable{L n:Nat}
section
variable{H H0 H' H'':Hp}{v x v1 v2:AV}{gs A B:eo}{K:KV}{x0:Af}{r m ra ma rb mb N:Nat}{ws us:List Pk}{p1 p2 ss ps:PV}
end
end
section
set_option maxHeartbeats 4000000
variable{L n:Nat}
section
variable{H H0 H' H'':Hp}{v x v1 v2:AV}{gs A B:eo}{K:KV}{x0:Af}{r m ra ma rb mb N:Nat}{ws us:List Pk}{p1 p2 ss ps:PV}
end
end
section
variable{L n:Nat}
section
variable{K:KV}
def B2a(a:200000<L):∀(H:Hp)(K:K2),Aq (r! L (n+86)) R6 [] H K=K (Bo true):=λH K=>AQ (A9B (n:=n+1) a) AI
end
end
section
variable{v:AV}{F:K2}{e e' m s sz:Nat}{y:Row}
variable{L n:Nat}
section
variable{H H0 H':Hp}{dv cv a:AV}{K:KV}{x0:Af}{p:Nat}{q:Pk}{gs:eo}
structure PkR(H0 H:Hp)(p:Nat)(q:Pk)(dv cv:AV):Prop where
 row:Ai H p=some (c_ Aw [I q.kd,dv,cv])
 ds:AU H Al 1 dv q.ds.length (A9 q.ds)
 cs:AU H Ad 68 cv q.cs.length (q.cs.flatMap PC.cells)
 d0:q.ds=[]->dv=Av
 w0:Wf H0
 wf:Wf H
 nx:Ar H0<=Ar H
 fr:∀u y,Ai H0 u=some y->Ai H u=some y
 ip:Ar H0<=p
 id:∀u,A4 dv u->Ar H0<=u
 ic:∀u,A4 cv u->Ar H0<=u
def AU.el{cs cs':Is}{b:Bool}(h:AU H e sz v m cs)(c:Ai H s=some (.cells b e' cs'))(hn:e≠e'):¬A4 v s:=by
 rintro⟨_,_,_,rfl⟩;rcases h with⟨h,_⟩|⟨r,q,h1,h2,_⟩
 ·cases h
 ·injection h1 with _ h1
  subst h1;rw[c]at h2;injection h2 with h2
  injection h2 with _ h2
  exact hn h2.symm
def AU.no{e e' sz b m f s:Nat}{v w:AV}{cs cs':Is}(h:AU H e sz v m cs)(k:AU H e' b w f cs')(hn:e≠e')(c:A4 w s):¬A4 v s:=by
 obtain⟨_,_,_,rfl⟩:=c;rcases k with⟨k,_⟩|⟨r,q,k1,d,_⟩
 ·cases k
 ·injection k1 with _ k1
  subst k1;exact h.el d hn
def AU.up{cs:Is}(h:AU H e sz v m cs)(hn:¬A4 v p):AU (upd H p y) e sz v m cs:=
 h.kp λs x c b=>by
  have e:s≠p:=λe=>hn (by rw[<-e];exact c);rw[Ag e];exact b
def PkR.ne(h:PkR H0 H p q dv cv){u:Nat}(b:Ai H0 u=some y):u≠p:=λe=>by
 have:=h.w0.lt b;have:=h.ip;omega
def PkR.addD(h:PkR H0 H p q dv cv)(b:AP)(M:q.ds.length<1000):∃c g d k,(∀K:KV,FV Al 1 Ah 1 [(0,1,S b)] H K=K (.sl 1 (Ar H) 0 1) g)/\(∀K:KV,Dy Al 1 Ah Ab dv (.sl 1 (Ar H) 0 1) g K=K c d)/\(∀F:Ru,DN Ab (.ptr p 1 0) c d F=F k)/\
 (∀F:K2,AE Ab (.ptr p 1 0) g F=F dv)/\PkR H0 k p ⟨q.kd,q.ds++[b],q.cs⟩ c cv:=by
 obtain⟨j,d,a1,a2,r,J,i,t⟩:=vU (ie:=Ah) (i2:=Ab) (ys:=A9 [b]) h.ds h.wf rfl rfl (by decide) rfl (λ_=>rfl) (by show(_+1)*16<=_;omega) (by omega);have r2:=i p _ h.row (h.ds.el h.row (by decide));have A:=h.wf.lt h.row;have D:=A6 (x:=.cells false Al (A9 [b])) A h.row;have e:A9 q.ds++A9 [b]=A9 (q.ds++[b]):=by simp[A9]
 rw[e]at a2;refine⟨j,_,d,_,λK=>ZF,a1,λF=>D5 r2 (by simp) rfl (AU.cell a2) (AU.one a2),λF=>AL (p:=1) rfl D (by simp),?_⟩;have hr:=AC (q:=true) (e:=Aw) (cs:=[I q.kd,j,cv]) r2;have c2:AU d Ad 68 cv q.cs.length (q.cs.flatMap PC.cells):=h.cs.kp λs x B C=>i s x C (h.ds.no h.cs (by decide) B);refine⟨hr,?_,c2.up (c2.el r2 (by decide)),λe=>absurd e (by simp),h.w0,Bi r,by rw[B1];have:=h.nx;omega,λu y f=>?_,h.ip,λu f=>?_,h.ic⟩
 ·have:=AU.up (y:=.cells true Aw [I q.kd,j,cv]) a2 (AU.el a2 r2 (by decide));rw[Ez];exact this
 ·rw[Ag (h.ne f)];refine i u y (h.fr u y f) λw=>?_;have:=h.id u w;have:=h.w0.lt f;omega
 ·have:=t u f;have:=h.nx;omega
def PkR.addC(h:PkR H0 H p q dv cv)(b:PC)(M:q.cs.length<1000):∃c g d k,(∀K:KV,FV Ad 68 Ae 1 [(0,68,.agg b.cells)] H K=K (.sl 68 (Ar H) 0 1) g)/\(∀K:KV,Dy Ad 68 Ae Ak cv (.sl 68 (Ar H) 0 1) g K=K c d)/\(∀F:Ru,DN Ak (.ptr p 2 0) c d F=F k)/\
 (∀F:K2,AE Ak (.ptr p 2 0) g F=F cv)/\PkR H0 k p ⟨q.kd,q.ds,q.cs++[b]⟩ dv c:=by
 obtain⟨j,d,a1,a2,r,J,i,t⟩:=vU (ie:=Ae) (i2:=Ak) (ys:=b.cells) h.cs h.wf b.len b.one (by decide) rfl (λ_=>rfl) (by show(_+1)*800<=_;omega) (by omega);have r2:=i p _ h.row (h.cs.el h.row (by decide));have A:=h.wf.lt h.row;have D:=A6 (x:=.cells false Ad b.cells) A h.row;have e:q.cs.flatMap PC.cells++b.cells=(q.cs++[b]).flatMap PC.cells:=by simp
 rw[e]at a2;refine⟨j,_,d,_,λK=>C10 b.len b.one,a1,λF=>D5 r2 (by simp) rfl (AU.cell a2) (AU.one a2),λF=>AL (p:=2) rfl D (by simp),?_⟩;have hr:=AC (q:=true) (e:=Aw) (cs:=[I q.kd,dv,j]) r2;have c2:AU d Al 1 dv q.ds.length (A9 q.ds):=h.ds.kp λs x B C=>i s x C (h.cs.no h.ds (by decide) B);refine⟨hr,c2.up (c2.el r2 (by decide)),?_,h.d0,h.w0,Bi r,by rw[B1];have:=h.nx;omega,λu y f=>?_,h.ip,h.id,λu f=>?_⟩
 ·have:=AU.up (y:=.cells true Aw [I q.kd,dv,j]) a2 (AU.el a2 r2 (by decide));rw[Ez];exact this
 ·rw[Ag (h.ne f)];refine i u y (h.fr u y f) λw=>?_;have:=h.ic u w;have:=h.w0.lt f;omega
 ·have:=t u f;have:=h.nx;omega
def PkR.pks(h:PkR H0 H p q dv cv):PkS H (.agg [I q.kd,dv,cv]) q:=by
 refine⟨dv,cv,rfl,.inr (AU.rq h.ds),?_,h.d0⟩;rcases h.cs with⟨h1,h2,_⟩|⟨r,b,h1,h2,_⟩
 ·exact .inl ⟨h1,kC h2⟩
 ·exact .inr (.inr ⟨r,b,[],h1,by rw[US];exact h2⟩)
def PkR.ldk(h:PkR H0 H p q dv cv):AE Ac (.ptr p 0 0) H F=F (I q.kd):=AL (p:=0) rfl h.row (by simp)
def PkR.ldd(h:PkR H0 H p q dv cv):AE Ab (.ptr p 1 0) H F=F dv:=AL (p:=1) rfl h.row (by simp)
def PkR.ldc(h:PkR H0 H p q dv cv):AE Ak (.ptr p 2 0) H F=F cv:=AL (p:=2) rfl h.row (by simp)
def PkR.lda(h:PkR H0 H p q dv cv):AE A3 (.ptr p 0 0) H F=F (.agg [I q.kd,dv,cv]):=Br rfl rfl h.row
end
end
section
variable{L n:Nat}
def Vl(kd:Int)(A:eo):Pk:=if kd=3 then⟨kd,[],A.map .c⟩ else⟨kd,A.map Cd.id,[]⟩
def A5w{kd:Int}{A:eo}:(Vl kd A).kd=kd:=by unfold Vl;split<;>rfl
section
variable{H H0 H':Hp}{dv cv a:AV}{K:KV}{x0:Af}{p r1 r3:Nat}{gs:eo}{kd z tw:Int}
def C15{i:Nat}:((pk z 1048576).fdiv (2^i)).tmod 2=0\/((pk z 1048576).fdiv (2^i)).tmod 2=1:=by
 have h1:=(Ft (c:=z) (n:=1048576) (by decide)).1;have b:(0:Int)<2^i:=Int.pow_pos (by decide);have h2:0<=(pk z 1048576).fdiv (2^i):=Int.fdiv_nonneg h1 (by omega);rw[Int.tmod_eq_emod_of_nonneg h2];omega
theorem A3J{k:AV->AV->KV}(C:40000<L)(t:GOk gs)(hz:J8 z)(s:LA gs a)(D:Ai H0 r1=some (c_ BC [I kd,I z,I tw])){d:Int}(N:∀dv cv H,PkR H0 H p (Vl d (NC z 0 gs)) dv cv->k (.ptr r1 0 0) (.ptr r3 0 0) (.ptr p 0 0) H=x0):
 ∀(fuel i:Nat)(b:eo)(dv cv:AV)(H:Hp),gs.length<fuel+i->i<=gs.length->b++NC z i (gs.drop i)=NC z 0 gs->b.length<=i->PkR H0 H p (Vl d b) dv cv->
  MX (L+20) (r! L (n+65)) K k fuel a (.ptr r1 0 0) (.ptr r3 0 0) (.ptr p 0 0) (I i) H=x0
 |0,i,b,dv,cv,H,h1,h2,_,_,_=>by omega
 |fuel+1,i,b,dv,cv,H,h1,h2,h,Y,hq=>by
  rw[iH];unfold QS DI Nc A2;have R:=t.len;rw[s.len];simp only[BH];by_cases hi:i<gs.length
  ·rw[FG (by omega),Co];have X:∀{F:K2},AE Ac (.ptr r1 1 0) H F=F (I z):=λ{F}=>AL (p:=1) rfl (hq.fr _ _ D) (by simp);have V:∀{H:Hp}{F:K2},Aq (r! L (n+65)) Ht [I z,(AV.v (.int .i64 1048576))] H F=F (I (pk z 1048576)):=λ{H F}=>(gP (n:=n+64) hz (by decide) (by decide)) H F;have u:∀{F:K2},As Ac .rem (I ((pk z 1048576).fdiv (2^i))) (AV.v (.int .i64 2)) F=F (I (((pk z 1048576).fdiv (2^i)).tmod 2)):=λ{F}=>Q9 (by decide);rw[QD,X,V,A9w (by omega),u,Cv];have J:gs.drop i=gs[i]::gs.drop (i+1):=rF hi;rw[J,Wm]at h;rcases C15 (z:=z) (i:=i) with hb|hb
   ·have m:A2k z i=false:=HN (by rw[hb];decide);rw[m]at h;rw[GI hb,Co,Dd (by omega)];exact A3J C t hz s D N fuel (i+1) b dv cv H (by omega) (by omega) (by simpa using h) (by omega) hq
   ·have m:A2k z i=true:=GI hb;rw[Dr m]at h;rw[HN (by rw[hb];decide),Ba,QD,hq.ldk,A5w,Cv];have nx:∀(q:Pk)(g f:AV)(j:Hp),q=Vl d (b++[gs[i]])->PkR H0 j p q g f->(As Ac .add (I i) (AV.v (.int .i64 1)) λO=>MX (L+20) (r! L (n+65)) K k fuel a (.ptr r1 0 0) (.ptr r3 0 0) (.ptr p 0 0) O j)=x0:=λq g f j e hr=>by
     subst e;rw[Dd (by omega)];exact A3J C t hz s D N fuel (i+1) (b++[gs[i]]) g f j (by omega) (by omega) (by rw[<-h];simp) (by simp;omega) hr
    by_cases r:d=3
    ·have A:Vl d b=⟨d,[],b.map .c⟩:=Dr r;have B:Vl d (b++[gs[i]])=⟨d,[],b.map .c++[.c gs[i]]⟩:=by unfold Vl;rw[Dr r,XS];rfl
     rw[A]at hq;obtain⟨f,P,Q,j,a1,a2,w,x,y⟩:=hq.addC (.c gs[i]) (by simp;omega);have a1:∀K:KV,FV Ad 68 Ae 1 [(0,68,.agg gs[i].cs)] H K=K (.sl 68 (Ar H) 0 1) P:=a1;rw[GI r,Co];simp only[QD,B6,hq.ldc,s.ia hi,nH,a1,BW,a2,w,x];rw[okS (rP hq.cs)];exact nx _ dv f j B.symm y
    ·have A:Vl d b=⟨d,b.map Cd.id,[]⟩:=CD r;have B:Vl d (b++[gs[i]])=⟨d,b.map Cd.id++[gs[i].id],[]⟩:=by unfold Vl;rw[CD r,XS];rfl
     rw[A]at hq;obtain⟨g,P,Q,j,a1,a2,w,x,y⟩:=hq.addD gs[i].id (by simp;omega);have M:∀{F:K2},Aq (r! L (n+65)) FH [.agg gs[i].cs] H F=F (S gs[i].id):=λ{F}=>AQ (Y' (n:=n+1) C (t.ok _ (NT hi)) (t.nd _ (NT hi))) (oR H);rw[HN r,Ba];simp only[QD,B6,hq.ldd,s.ia hi,nH,M,a1,BW,a2,w,x];rw[okS (rP hq.ds)];exact nx _ g cv j B.symm y
  ·rw[FB (by omega),Ba];rw[List.drop_of_length_le (by omega)]at h;have h:b++[]=NC z 0 gs:=h;rw[US]at h;rw[h]at hq;exact N dv cv H hq
structure PkO(H0 H:Hp)(q:Pk)(dv cv:AV):Prop where
 ds:AU H Al 1 dv q.ds.length (A9 q.ds)
 cs:AU H Ad 68 cv q.cs.length (q.cs.flatMap PC.cells)
 d0:q.ds=[]->dv=Av
 wf:Wf H
 nx:Ar H0<=Ar H
 fr:∀u y,Ai H0 u=some y->Ai H u=some y
 id:∀u,A4 dv u->Ar H0<=u
 ic:∀u,A4 cv u->Ar H0<=u
end
end
section
variable{L n:Nat}
def C3c{α:Type}{F:α}{k:α->Af}{x0:Af}{P:α->Prop}(b:P F)(c:∀f,P f->k f=x0):jn F k=x0:=c F b
section
variable{H H0 H':Hp}{dv cv a v:AV}{K:KV}{x0:Af}{p r m:Nat}{q:Pk}{gs A:eo}{l:List AP}
def PkO.row(h:PkO H0 H q dv cv)(w0:Wf H0):∃H',(∀F:KV,(Bw Aw A3 H λb d=>DN A3 b (.agg [I q.kd,dv,cv]) d λe=>F b e)=F (.ptr (Ar H) 0 0) H')/\PkR H0 H' (Ar H) q dv cv:=by
 have g:Ai ((Ar H,c_ Aw [I 0,Av,Av])::H) (Ar H)=some (c_ Aw [I 0,Av,Av]):=Ax (by simp);have i:([I q.kd,dv,cv]:Is).all AV.one=true:=by
  have a1:=AU.one h.ds;have a2:=AU.one h.cs;simp only[oG,l3a,a1,a2];rfl
 have kp:∀u y,Ai H u=some y->Ai (upd ((Ar H,c_ Aw [I 0,Av,Av])::H) (Ar H) (c_ Aw [I q.kd,dv,cv])) u=some y:=λu y c=>by
  have:=h.wf.lt c;rw[Ag (by omega)];exact A6 this c
 refine⟨_,λF=>by rw[Bv (cs:=[I 0,Av,Av]) rfl,BQ (vs:=[I q.kd,dv,cv]) g rfl rfl i],⟨AC g,h.ds.kp λs x _ f=>kp s x f,h.cs.kp λs x _ f=>kp s x f,h.d0,w0,Bi (AF h.wf),?_,λu y c=>kp u y (h.fr u y c),h.nx,h.id,h.ic⟩⟩;rw[B1];exact fG h.nx (l1u _)
end
end
section
variable{L n:Nat}
section
variable{H H0 H' H2:Hp}{dv cv a v dv' cv':AV}{K:KV}{x0:Af}{p r m:Nat}{q:Pk}{gs A:eo}{l:List AP}{kd z tw:Int}
structure PkG(gs:eo)(q:Pk):Prop where
 mem:∀p∈q.cs,p=.z\/∃c∈gs,p=.c c
 dl:q.ds.length<=20
 cl:q.cs.length<=20
def PkG.oks(b:GOk gs)(h:PkG gs q):∀p∈q.cs,p.Ok:=λp d=>by
 rcases h.mem p d with rfl|⟨c,hc,rfl⟩
 ·trivial
 ·exact⟨b.ok c hc,b.nd c hc⟩
def PkR.setD(h:PkR H0 H p q dv cv)(a2:AU H2 Al 1 dv' l.length (A9 l))(f:Wf H2)(t:Ar H<=Ar H2)(c:∀s x,Ai H s=some x->¬A4 dv s->Ai H2 s=some x)(g:∀s,A4 dv' s->Ar H0<=s)(d0:l=[]->dv'=Av):
 ∃d,(∀F:Ru,DN Ab (.ptr p 1 0) dv' H2 F=F d)/\PkR H0 d p ⟨q.kd,l,q.cs⟩ dv' cv:=by
 have r2:=c p _ h.row (h.ds.el h.row (by decide));refine⟨_,λF=>D5 r2 (by simp) rfl (AU.cell a2) (AU.one a2),?_⟩;have hr:=AC (q:=true) (e:=Aw) (cs:=[I q.kd,dv',cv]) r2;have c2:AU H2 Ad 68 cv q.cs.length (q.cs.flatMap PC.cells):=h.cs.kp λs x j k=>c s x k (h.ds.no h.cs (by decide) j);refine⟨hr,AU.up (y:=.cells true Aw [I q.kd,dv',cv]) a2 (AU.el a2 r2 (by decide)),c2.up (c2.el r2 (by decide)),d0,h.w0,Bi f,by rw[B1];have:=h.nx;omega,λu y b=>?_,h.ip,λu b=>g u b,h.ic⟩;rw[Ag (h.ne b)];refine c u y (h.fr u y b) λi=>?_;have:=h.id u i;have:=h.w0.lt b;omega
def PkR.dblD(h:PkR H0 H p q dv cv)(u:q.ds.length<1000):∃dv' H2 b,(∀K:KV,Dy Al 1 Ah Ab dv dv H K=K dv' H2)/\(∀F:Ru,DN Ab (.ptr p 1 0) dv' H2 F=F b)/\PkR H0 b p ⟨q.kd,q.ds++q.ds,q.cs⟩ dv' cv:=by
 by_cases d:q.ds=[]
 ·have hn:=h.d0 d;subst hn;obtain⟨b,h1,h2⟩:=h.setD (l:=q.ds++q.ds) (dv':=Av) (H2:=H) (.inl ⟨rfl,by rw[d];rfl,by rw[d];rfl⟩) h.wf (LH _) (λs x g _=>g) (λs c=>absurd c Ie) (λ_=>rfl);exact⟨Av,H,b,λK=>by kernel_rfl,h1,h2⟩
 ·have c:=h.ds.rq;obtain⟨t,H2,j,i,k,f⟩:=apt (ie:=Ah) (i2:=Ab) h.ds (λK=>OT (K:=K) h.ds) (by rw[AZ,oI]) (Yl (λ_=>rfl) q.ds) (by decide) rfl (jY.ok (.inr c)) (by show(q.ds.length+q.ds.length)*16<=_;omega) (by omega);have e:A9 q.ds++A9 q.ds=A9 (q.ds++q.ds):=by simp[A9]
  rw[e,<-Ez]at i;obtain⟨b,h1,h2⟩:=h.setD i (f.wf h.wf) f.nx (λs x g hn=>f.keep h.wf s x g hn) (λs c=>by have:=k s c;have:=h.nx;omega) (λe=>absurd (List.append_eq_nil_iff.1 e).1 d);exact⟨t,H2,b,j,h1,h2⟩
def AU.stOk{e sz m:Nat}{cs:Is}(h:AU H e sz v m cs):RW sz v=true:=by
 rcases h with⟨rfl,_⟩|⟨r,q,rfl,_⟩<;>rfl
def PkR.dblC(h:PkR H0 H p q dv cv)(J:q.cs.length<1000):∃cv' H2 k,(∀K:KV,Dy Ad 68 Ae Ak cv cv H K=K cv' H2)/\(∀F:Ru,DN Ak (.ptr p 2 0) cv' H2 F=F k)/\PkR H0 k p ⟨q.kd,q.ds,q.cs++q.cs⟩ dv cv':=by
 have C:(q.cs.flatMap PC.cells).all AV.one=true:=by
  rw[G9];intro x f;obtain⟨b,_,hb⟩:=l39.1 f;exact G9.1 b.one x hb
 obtain⟨j,H2,t,c,w,i⟩:=apt (ie:=Ae) (i2:=Ak) h.cs (λK=>OT (K:=K) h.cs) (Zs q.cs) C (by decide) rfl (by rw[h.cs.stOk];rfl) (by show(q.cs.length+q.cs.length)*800<=_;omega) (by omega);have g:∀s x,Ai H s=some x->¬A4 cv s->Ai H2 s=some x:=λs x f hn=>i.keep h.wf s x f hn;have r2:=g p _ h.row (h.cs.el h.row (by decide));have e:q.cs.flatMap PC.cells++q.cs.flatMap PC.cells=(q.cs++q.cs).flatMap PC.cells:=by simp
 rw[e,<-Ez]at c;refine⟨j,H2,_,t,λF=>D5 r2 (by simp) rfl (AU.cell c) (AU.one c),?_⟩;have hr:=AC (q:=true) (e:=Aw) (cs:=[I q.kd,dv,j]) r2;have c2:AU H2 Al 1 dv q.ds.length (A9 q.ds):=h.ds.kp λs x D f=>g s x f (h.cs.no h.ds (by decide) D);refine⟨hr,c2.up (c2.el r2 (by decide)),AU.up (y:=.cells true Aw [I q.kd,dv,j]) c (AU.el c r2 (by decide)),h.d0,h.w0,Bi (i.wf h.wf),by rw[B1];have:=h.nx;have:=i.nx;omega,λu y d=>?_,h.ip,h.id,λu d=>?_⟩
 ·rw[Ag (h.ne d)];refine g u y (h.fr u y d) λB=>?_;have:=h.ic u B;have:=h.w0.lt d;omega
 ·have:=w u d;have:=h.nx;omega
def B9D(h:∀c∈A,c∈gs)(b:A.length<=8):PkG gs (Vl kd A)/\(Vl kd A).ds.length<=8/\(Vl kd A).cs.length<=8:=by
 unfold Vl;split
 ·refine⟨⟨λp d=>?_,by simp,by simp;omega⟩,by simp,by simpa using b⟩;obtain⟨c,hc,rfl⟩:=PW.1 d;exact .inr ⟨c,h c hc,rfl⟩
 ·exact⟨⟨by simp,by simp;omega,by simp⟩,by simpa using b,by simp⟩
def A6I(hL:40000<L)(C:GOk gs)(Q:J8 kd)(hz:J8 z)(Z:J8 tw)(ha:LA gs a)(wf:Wf H)(hx:∀q dv cv H',q.kd=pk kd 6-1->PkG gs q->PkO H H' q dv cv->K (.agg [I q.kd,dv,cv]) H'=x0):
 (r! L (n+66)).call Tg [a,.agg [I kd,I z,I tw]] H K=x0:=by
 rw[mA];unfold SI DI UU A2;rw[Es (by rfl),Bv (cs:=[I 0,Av,Av]) rfl];have w1:=AF (x:=.cells true BC [I kd,I z,I tw]) wf;have w2:=AF (x:=.cells true Aw [I 0,Av,Av]) w1;have f1:∀u y,Ai H u=some y->Ai ((Ar H,c_ BC [I kd,I z,I tw])::H) u=some y:=λu y b=>A6 (wf.lt b) b;have f2:∀u y,Ai ((Ar H,c_ BC [I kd,I z,I tw])::H) u=some y->Ai ((Ar ((Ar H,c_ BC [I kd,I z,I tw])::H),c_ Aw [I 0,Av,Av])::(Ar H,c_ BC [I kd,I z,I tw])::H) u=some y:=λu y b=>A6 (w1.lt b) b;have b1:=f2 _ _ (Ax (H:=H) (x:=.cells true BC [I kd,I z,I tw]) (by simp));have g:Ai ((Ar ((Ar H,c_ BC [I kd,I z,I tw])::H),c_ Aw [I 0,Av,Av])::(Ar H,c_ BC [I kd,I z,I tw])::H) (Ar ((Ar H,c_ BC [I kd,I z,I tw])::H))=some (c_ Aw [I 0,Av,Av]):=Ax (by simp);have e3:Ar ((Ar H,c_ BC [I kd,I z,I tw])::H)=Ar H+1:=rfl;have P:=λu y b=>f2 u y (f1 u y b);have B:Ar ((Ar ((Ar H,c_ BC [I kd,I z,I tw])::H),c_ Aw [I 0,Av,Av])::(Ar H,c_ BC [I kd,I z,I tw])::H)=Ar H+2:=rfl;have wb:=w2;rw[e3]at g P b1 B wb⊢;generalize ((Ar H+1,c_ Aw [I 0,Av,Av])::(Ar H,c_ BC [I kd,I z,I tw])::H:Hp)=f at b1 g P B wb⊢;clear f1 f2 w1 w2;have lk:∀{F:K2},AE Ac (.ptr (Ar H) 0 0) f F=F (I kd):=λ{F}=>AL (p:=0) rfl b1 (by simp);have p6:=Ft (c:=kd) (n:=6) (by decide);have d:∀{m:Int}(h1:0<m)(h2:m<9223372036854775808){y:Int}(hy:J8 y){H:Hp}{F:K2},Aq (r! L (n+65)) Ht [I y,I m] H F=F (I (pk y m)):=λ{m}h1 h2{y}hy{H F}=>(gP (n:=n+64) hy h1 h2) H F;have O:∀{y:Int}{F:K2},BR A3 [(0,1,I y)] F=F (.agg [I y,Av,Av]):=λ{y F}=>by kernel_rfl
 have sb:∀{F:K2},As Ac .sub (I (pk kd 6)) (AV.v (.int .i64 1)) F=F (I (pk kd 6-1)):=λ{F}=>by rw[J6,CX (by omega) (by omega)]
 rw[QD,lk,d (m:=6) (by decide) (by decide) Q,sb,O,Bv (cs:=[I 0,Av,Av]) rfl];have n0:Ai ((Ar f,c_ Aw [I 0,Av,Av])::f) (Ar f)=some (c_ Aw [I 0,Av,Av]):=Ax (by simp);rw[BQ (vs:=[I (pk kd 6-1),Av,Av]) n0 rfl rfl rfl];simp only[BH];have st:PkR f (upd ((Ar f,c_ Aw [I 0,Av,Av])::f) (Ar f) (c_ Aw [I (pk kd 6-1),Av,Av])) (Ar f) (Vl (pk kd 6-1) []) Av Av:=by
  have e0:Vl (pk kd 6-1) []=⟨pk kd 6-1,[],[]⟩:=by unfold Vl;split<;>rfl
  rw[e0];refine⟨AC n0,.inl ⟨rfl,rfl,rfl⟩,.inl ⟨rfl,rfl,rfl⟩,λ_=>rfl,wb,Bi (AF wb),?_,λu y b=>?_,LH _,λu b=>absurd b (by simp[A4]),λu b=>absurd b (by simp[A4])⟩
  ·rw[B1];exact l1u _
  ·have:=wb.lt b;rw[Ag (by omega)];exact A6 this b
 refine A3J (n:=n) (r3:=Ar H+1) hL C hz ha b1 (λdv cv k hq=>?_) (L+20) 0 [] Av Av _ (by have:=C.len;omega) (by omega) rfl (by simp) st;have lt:∀{F:K2},AE Ac (.ptr (Ar H) 2 0) k F=F (I tw):=λ{F}=>AL (p:=2) rfl (hq.fr _ _ b1) (by simp);have w:=B4G (z:=z) C (i:=0);obtain⟨j,o2,o3⟩:=B9D (kd:=pk kd 6-1) w.sub (by have:=w.len;have:=C.len;omega);have e:(Vl (pk kd 6-1) (NC z 0 gs)).kd=pk kd 6-1:=A5w;generalize Vl (pk kd 6-1) (NC z 0 gs)=q at hq j o2 o3 e;have fin:∀(q:Pk)(dv cv:AV)(k:Hp),q.kd=pk kd 6-1->PkG gs q->PkR f k (Ar f) q dv cv->(AE A3 (.ptr (Ar f) 0 0) k λV=>DN A3 (.ptr (Ar H+1) 0 0) V k λs=>AE A3 (.ptr (Ar H+1) 0 0) s λX=>K X s)=x0:=by
  intro q dv cv k Q hG hq;have h:=hq.fr _ _ g;have ho:([I q.kd,dv,cv]:Is).all AV.one=true:=by
   have a1:=AU.one hq.ds;have a2:=AU.one hq.cs;simp only[oG,l3a,a1,a2];rfl
  rw[hq.lda,BQ (vs:=[I q.kd,dv,cv]) h rfl rfl ho,Br rfl rfl (AC h)];refine hx q dv cv _ Q hG ⟨hq.ds.up (hq.ds.el h (by decide)),hq.cs.up (hq.cs.el h (by decide)),hq.d0,Bi hq.wf,by rw[B1];have:=hq.nx;omega,λu y b=>?_,λu b=>?_,λu b=>?_⟩
  ·have:=wf.lt b;rw[Ag (by omega)];exact hq.fr u y (P u y b)
  ·have:=hq.id u b;omega
  ·have:=hq.ic u b;omega
 rw[QD,lt,d (m:=8) (by decide) (by decide) Z,Cv];by_cases Y:pk tw 8=0
 ·obtain⟨ps,R⟩:=B9j (L:=L) (n:=n+45) Z (by omega);obtain⟨dv',D,J,M,b1,b2,g,b4,t⟩:=hq.addD ps (by omega);have pp:∀{F:K2},Aq (r! L (n+65)) Gt [I tw] k F=F (S ps):=λ{F}=>R k F;rw[GI Y,Co];simp only[QD,B6,hq.ldd,lt,pp,b1,BW,b2,g,b4];rw[okS (rP hq.ds)];exact fin ⟨q.kd,q.ds++[ps],q.cs⟩ _ _ _ e ⟨j.mem,by simp;omega,by have:=j.cl;simpa using this⟩ t
 rw[HN Y,Ba,Cv];by_cases c1:pk tw 8=1
 ·obtain⟨dv',H5,D,a1,a2,N⟩:=hq.dblD (by omega);obtain⟨cv',J,M,b1,b2,g⟩:=N.dblC (by show q.cs.length<1000;omega);rw[GI c1,Co,QD,hq.ldd,QD,hq.ldd,a1,QD,a2,QD,N.ldc,QD,N.ldc,b1,QD,b2];refine fin ⟨q.kd,q.ds++q.ds,q.cs++q.cs⟩ _ _ _ e ⟨λp d=>?_,by simp;omega,by simp;omega⟩ g;rcases Zx.1 d with d|d<;>exact j.mem p d
 rw[HN c1,Ba,Cv];by_cases c2:pk tw 8=2
 ·obtain⟨dv',D,J,M,b1,b2,g,b4,t⟩:=hq.addD [120] (by omega);rw[GI c2,Co,QD,hq.ldd,b1,b2,QD,g];exact fin ⟨q.kd,q.ds++[[120]],q.cs⟩ _ _ _ e ⟨j.mem,by simp;omega,by have:=j.cl;simpa using this⟩ t
 rw[HN c2,Ba,Cv];by_cases c3:pk tw 8=3
 ·obtain⟨cv',D,J,M,b1,b2,g,b4,t⟩:=hq.addC .z (by omega);have O:∀{F:K2},BR Ae [] F=F (.agg PC.z.cells):=λ{F}=>by kernel_rfl
  rw[GI c3,Co,QD,hq.ldc,O,b1,b2,QD,g];refine fin ⟨q.kd,q.ds,q.cs++[.z]⟩ _ _ _ e ⟨λp d=>?_,by have:=j.dl;simpa using this,by simp;omega⟩ t;rcases Zx.1 d with d|d
  ·exact j.mem p d
  ·rw[XR]at d;exact .inl d
 rw[HN c3,Ba];exact fin _ _ _ _ e j hq
end
end
section
variable{i:Nat}
variable{L n:Nat}
section
variable{H H0 H':Hp}{v a x w:AV}{K:KV}{x0:Af}{r m:Nat}{gs A ls:eo}{l:List AP}
def A4T(b:GOk A)(hi:i<(J7 A).length):∀p∈(J7 A)[i].ps,p∈((J7 A).map Cd.id).take i:=by
 intro p e;have hc:=(VK b.ids).1 (NT hi);have hn:=TO b.ids;have d:=A2h b.ids hc e;have g:=(Qq (gs:=Hd A)).1;have c:i<((J7 A).map Cd.id).length:=by rw[Po];exact hi
 have he:((J7 A).map Cd.id)[i]=(J7 A)[i].id:=by rw[l2n]
 have f:(J7 A).map Cd.id=((J7 A).map Cd.id).take i++(J7 A)[i].id::((J7 A).map Cd.id).drop (i+1):=by
  rw[<-he,<-rF c,l38]
 rw[jR b.ids]at f⊢;exact g.pr _ _ _ f p (by rw[gQ hn hc];exact e) d
def A4S(b:GOk A):JN (J7 A)=[]:=by
 have c:(J7 A).Perm (Hd A):=A2v b;rw[uI c];exact A7Y b.ids
def B36(g:GOk gs)(f:40000<L)(e:LA gs a):CS (r! L (n+65)) Qk [a] (Bo true):=by
 intro K c;rw[qE];unfold UA HX;have d:Rm true depth [a] [a] [] false:=by rcases e with rfl|⟨_,rfl⟩<;>exact λK=>by kernel_rfl
 have of:∀{K:K2},Aq (r! L (n+64)) KB [a] [] K=K (.tup [gV gs,Bo true]):=λ{K}=>JT (λK c=>B3j g f e K c) d;rw[of,Fl,Fk];exact c _ _ λb=>⟨false,CA⟩
theorem Km.hi(h:Km H v l)(hi:i<l.length):∃w,(∀K:K2,DS Ab v none (some (I (i:Int))) none K=K w)/\Km H w (l.take i):=by
 rcases h with⟨_,rfl⟩|⟨r,q,b,rfl,h2⟩
 ·simp at hi
 ·refine⟨_,λK=>VE (by omega),.inr ⟨r,q,A9 (l.drop i)++b,by rw[zF,l22 (by omega)],?_⟩⟩;have e:A9 (l.take i)++A9 (l.drop i)=A9 l:=by rw[A9,A9,A9,<-XS,l38]
  rw[<-eK,e];exact h2
theorem B24{k:AV->AV->AV->KV}(e:40000<L)(hv:Km H v l)(c:LA ls a)(hi:i<ls.length)(b:i<l.length)(h:∀p∈ls[i].ps,p∈l.take i)(d:ls[i].ps.length<100)(hb:l.length<900)(q:∀j:AV,k a v (I (i:Int)) j H=x0):∀(fuel j:Nat),ls[i].ps.length<fuel+j->j<=ls[i].ps.length->
  QT (L+20) (r! L (n+2)) K k fuel a v (I (i:Int)) (I (j:Int)) H=x0
 |0,j,h1,h2=>by omega
 |fuel+1,j,h1,h2=>by
  rw[iI];unfold QV DI UU Nc A2 Hv;obtain⟨f,f1,f2⟩:=C0p ls[i] H;obtain⟨w,s,t⟩:=hv.hi b;rw[c.ia hi,f1,f2,B4B];by_cases g:j<ls[i].ps.length
  ·have hm:=h _ (NT g);have u:∀{F:K2},Aq (r! L (n+2)) NJ [w,S ls[i].ps[j]] H F=F (Bo true):=λ{F}=>by
    rw[A95 (n:=n) (.inr t) (by rw[zF];omega) e,GI hm]
   rw[FG (by omega),Co];simp only[s,B6,c.ia hi,f1,f2,(My ls[i].ps).ia g,KD,u,DR,Bool.not_true];rw[Ba,Dd (by omega)];exact B24 e hv c hi b h d hb q fuel (j+1) (by omega) (by omega)
  ·rw[FB (by omega),Ba];exact q _
theorem B25{k:KV}(f:40000<L)(hv:Km H v (ls.map Cd.id))(e:LA ls a)(g:∀(i:Nat)(hi:i<ls.length),∀p∈ls[i].ps,p∈(ls.map Cd.id).take i)(b:∀c∈ls,c.ps.length<100)(hb:ls.length<900)(h:k a H=x0):∀(fuel i:Nat)(d:AV),ls.length<fuel+i->i<=ls.length->
  QU (L+20) (r! L (n+2)) K k fuel a v (I (i:Int)) d H=x0
 |0,i,d,h1,h2=>by omega
 |fuel+1,i,d,h1,h2=>by
  rw[iJ];unfold QW A2;simp only[BH];rw[e.len];by_cases hi:i<ls.length
  ·rw[FG (by omega),Co];refine B24 (n:=n) f hv e hi (by rw[Po];exact hi) (g i hi) (b _ (NT hi)) (by rw[Po];exact hb) (λj=>?_) (L+20) 0 (by have:=b _ (NT hi);omega) (by omega);rw[Dd (by omega)];exact B25 f hv e g b hb h fuel (i+1) j (by omega) (by omega)
  ·rw[FB (by omega),Ba];exact h
def A2i(b:GOk A):∀c∈A,c.ps.length<100:=λc hc=>by
 have:=TP (b.ok c hc);omega
def A6T(g:GOk A)(q:200000<L):CS (r! L (n+84)) LR [.iptr [.imap (Df DU (gE A))]] (Bo true):=by
 intro K p;rw[mB];unfold SJ Dm A2 Hv;have f:=jQ g;have u:=f.len;have d:=Xb (J7 A);rw[A5g (n:=n+1) g q (.inl rfl)];refine A9j (n:=n+18) (l:=(J7 A).map .c) (B0t f) (by rw[Po];omega) (by omega) (ZH.of_LA d) Fq λv H' j k=>?_;rw[A5y]at j;simp only[BH];have h:=j.sat λe=>k (by rw[List.map_eq_nil_iff.1 e];rfl);refine B25 (n:=n+81) (by omega) h d (λi hi=>A4T g hi) (A2i f) (by omega) ?_ (L+20) 0 _ (by omega) (by omega);have s:∀{H:Hp}{F:K2},Aq (r! L (n+83)) Qk [eH (J7 A)] H F=F (Bo true):=λ{H F}=>AQ (B36 (n:=n+18) f (by omega) d) (Ao (d.fx H) AI);have ms:∀{H:Hp}{F:K2},Aq (r! L (n+83)) Js [eH (J7 A)] H F=F Av:=λ{H F}=>by
  rw[AQ (yJ (n:=n+3) f (by omega) (A2i f) d) (Ao (d.fx H) AI),A4S g];rfl
 have el:∀{F:K2},Bp Ab Av F=F (I 0):=λ{F}=>r_ rfl;have t:∀{F:K2},As Ac .eql (I 0) (AV.v (.int .i64 0)) F=F (Bo true):=λ{F}=>eqI;simp only[s,gT,BW,ms,el,t,Ul];exact p _ _ λb=>⟨false,CA⟩
def A9d(d:GOk A)(c:200000<L)(e:oS H x A){F:K2}:Aq (r! L (n+84)) LR [x] H F=F (Bo true):=by
 obtain⟨q1,b⟩:=e.fx (D:=7);exact AQ (A6T d c) (Ao b AI)
end
end
section
set_option maxHeartbeats 4000000
variable{F:K2}{b:Bool}{d:Int×Int×Int}{es:IH}{s:Nat}
variable{L n:Nat}
section
variable{H H0 H':Hp}{dv cv a v gv da x w:AV}{K:KV}{x0:Af}{r m p:Nat}{q:Pk}{gs A:eo}{l ss tt:List AP}{ds:List (Int×Int×Int)}
def ddC(d:Int×Int×Int):Is:=[I d.1,I d.2.1,I d.2.2]
def DA(ds:List (Int×Int×Int))(a:AV):Prop:=(a=.list ds.length (ds.flatMap ddC)\/(ds=[]/\a=Av))/\∀d∈ds,J8 d.1/\J8 d.2.1/\J8 d.2.2
def DA.len(h:DA ds a):Bp Eh a F=F (I ds.length):=by
 rcases h.1 with rfl|⟨rfl,rfl⟩<;>exact r_ rfl
def DA.ia(h:DA ds a){i:Nat}(hi:i<ds.length):D1 Eh a (I i) F=F (.iptr (ddC ds[i])):=by
 rcases h.1 with rfl|⟨rfl,rfl⟩
 ·exact Xu (f:=ddC) rfl (λ_=>rfl) hi
 ·simp at hi
def C3Z:AE I7 (.iptr (ddC d)) H F=F (.agg [I d.1,I d.2.1,I d.2.2]):=r_ rfl
def C5r:(CL 1 (.iptr (ddC d)) λu=>AE Ac u H F)=F (I d.2.1):=r_ rfl
def Z'(h:AU H Al 1 v ss.length (A9 ss))(e:jY H a l)(hn:ss.length+l.length<1000000):
 ∃c H',(∀K:KV,Dy Al 1 Ah Ab v a H K=K c H')/\AU H' Al 1 c (ss++l).length (A9 (ss++l))/\(∀u,A4 c u->u=Ar H)/\Lat H H' (A4 v):=by
 obtain⟨c,H',h1,h2,f,g⟩:=apt (ie:=Ah) (i2:=Ab) h (λK=>e.src (F:=K)) (by rw[AZ,oI]) (Yl (λ_=>rfl) l) (by decide) rfl e.ok (by show(ss.length+l.length)*16<=_;omega) (by omega);refine⟨c,H',h1,?_,f,g⟩;rw[Ez];have:A9 (ss++l)=A9 ss++A9 l:=by simp[A9]
 rw[this];exact h2
def AU.nm{e sz k s:Nat}{cs:Is}{o:Option (Hb×Nat)}(h:AU H e sz v k cs)(c:Ai H s=some (.map b es o)):¬A4 v s:=by
 rintro⟨_,_,_,rfl⟩;rcases h with⟨h,_⟩|⟨r,q,h1,h2,_⟩
 ·cases h
 ·injection h1 with _ h1
  subst h1;rw[c]at h2;cases h2
def Km.nm{o:Option (Hb×Nat)}(h:Km H v l)(c:Ai H s=some (.map b es o)):¬A4 v s:=by
 rintro⟨_,_,_,rfl⟩;rcases h with⟨h,_⟩|⟨r,q,_,h1,h2⟩
 ·cases h
 ·injection h1 with _ h1
  subst h1;rw[c]at h2;cases h2
def B97(e:StIn gs A)(g:PkG gs q):StIn gs (Lr A q).1/\(∀c∈A,c∈(Lr A q).1)/\∀c∈(Lr A q).1,c∈A\/PC.c c∈q.cs:=by
 have f:StIn gs A/\(∀c∈A,c∈A)/\∀c∈A,c∈A\/PC.c c∈q.cs:=⟨e,λ_ h=>h,λ_ h=>.inl h⟩
 unfold Lr;split
 ·split
  ·exact f
  ·split
   ·exact f
   ·refine⟨B5U q.cs e λd i=>?_,(A2y q.cs).1,(A2y q.cs).2.1⟩;rcases g.mem _ i with h|⟨c,hc,h⟩
    ·cases h
    ·injection h with h
     rw[h];exact hc
 ·exact f
theorem B5Z{c1 c2 c3 c4 c5 c6 v1 c c9:AV}{k:AV->AV->AV->AV->AV->AV->AV->AV->AV->KV}(e:40000<L)(h1:jY H v1 ss)(h2:jY H c tt)(u:ss.length<900)(g:tt.length<900)(hm:∀s∈ss,s∈tt)(h:k c1 c2 c3 c4 c5 c6 v1 c c9 (I ss.length) H=x0):∀(fuel j:Nat)(d:AV),ss.length<fuel+j->j<=ss.length->
  Ke (L+20) (r! L (n+2)) K k fuel c1 c2 c3 c4 c5 c6 v1 c c9 (I j) d H=x0
 |0,j,d,i,t=>by omega
 |fuel+1,j,d,i,t=>by
  rw[T3];unfold Kh HV A2 Hv;rw[h1.len];by_cases f:j<ss.length
  ·rw[FG (by omega),Co,h1.get f,A95 (n:=n) h2 g e,GI (hm _ (NT f)),DR,Bool.not_true,Ba,Dd (by omega)];exact B5Z e h1 h2 u g hm h fuel (j+1) d (by omega) (by omega)
  ·rw[FB (by omega),Ba];have:j=ss.length:=by omega
   subst this;exact h
theorem B60{c1 c2 c3 c4 c6 c7 c8 c10 v1 c:AV}{k:AV->AV->AV->AV->AV->AV->AV->AV->AV->AV->KV}(e:40000<L)(h1:AU H Al 1 v1 ss.length (A9 ss))(h2:jY H c tt)(u:ss.length<900)(g:tt.length<900)(hm:∀s∈ss,s∈tt/\s≠[])(h:k c1 c2 c3 c4 c c6 c7 c8 v1 c10 (I ss.length) H=x0):∀(fuel j:Nat),ss.length<fuel+j->j<=ss.length->
  Kf (L+20) (r! L (n+2)) K k fuel c1 c2 c3 c4 c c6 c7 c8 v1 c10 (I j) H=x0
 |0,j,i,t=>by omega
 |fuel+1,j,i,t=>by
  rw[T4];unfold Ki HV G8 A2 MF Hv;have hq:=h1.rq;rw[hq.len];by_cases f:j<ss.length
  ·obtain⟨a,a1,a2⟩:=h1.ia f;obtain⟨m1,y⟩:=hm _ (NT f);rw[FG (by omega),Co,a1,a2,A95 (n:=n) h2 g e,GI m1,DR,Bool.not_true];simp only[gT,BW,a1,a2,Lb,HN y,RF];rw[Ba,Dd (by omega)];exact B60 e h1 h2 u g hm h fuel (j+1) (by omega) (by omega)
  ·rw[FB (by omega),Ba];have:j=ss.length:=by omega
   subst this;exact h
theorem B61{k9:KV}(hL:200000<L)(Y:GOk gs)(hd:DA ds da)(f:∀H',k9 (Bo true) H'=x0):
 ∀(fuel i:Nat)(A:eo)(G:List AP)(gv w1 w2 w3 w4 w5:AV)(H:Hp),15<fuel+i->i<=15->StIn gs A->StAt H r m A->AU H Al 1 gv G.length (A9 G)->(∀c∈A,c.id∈G)->G.length<=i*20->Wf H->
  Kg (L+20) (r! L (n+86)) K k9 fuel da (Bo true) (eH gs) (.ptr r 0 0) gv (I i) w1 w2 w3 w4 w5 H=x0
 |0,i,A,G,gv,w1,w2,w3,w4,w5,H,h1,h2,_,_,_,_,_,_=>by omega
 |fuel+1,i,A,G,gv,w1,w2,w3,w4,w5,H,h1,h2,ao,g,bp,aq,d7,wf=>by
  rw[T6];unfold Kj DI HV Dm A2 Hv;have hA:=ao.ok Y;have ha:=Xb gs;have ec:=Y.len;rw[hd.len,Dk];by_cases hi:i<ds.length
  rotate_left
  ·simp only[HN (show¬(i:Int)<(ds.length:Int) by omega),eP,gU,gT,BW,RF];rw[Ba];exact f H
  have db:∀{F:K2},As Ac .lss (I (i:Int)) (AV.v (.int .i64 15)) F=F (Bo (decide (i<15))):=λ{F}=>by rw[Dk];congr 3;simp;omega
  simp only[GI (show(i:Int)<(ds.length:Int) by omega),gT,BW,db,Ul];by_cases bs:i<15
  rotate_left
  ·rw[HN bs,Ba];exact f H
  rw[GI bs,Co];have d9:=(jQ hA).len;refine A90 (n:=n+3) hA hL g.sv wf λcp a5 hN dz=>?_;have du:=g.keep hN.keep;have df:AU a5 Al 1 gv G.length (A9 G):=bp.kp λs x _ f=>hN.keep s x f;have c0:Km a5 cp ((J7 A).map Cd.id):=hN.sat λe=>dz (List.map_eq_nil_iff.1 e);have a7:∀u,A4 gv u->u<Ar H:=λu N=>bp.rq.lt wf N;obtain⟨i1,i2,i3⟩:=hd.2 _ (NT hi);rw[hd.ia hi,C3Z];refine A6I (n:=n+20) (by omega) Y i1 i2 i3 ha hN.wf λq dv cv cy hk hG ho=>?_;obtain⟨M,c39,k⟩:=ho.row hN.wf;rw[c39 (λeh M=>_)];generalize Ar cy=p at k;have C:=du.keep k.fr;have R:AU M Al 1 gv G.length (A9 G):=df.kp λs x _ f=>k.fr s x f;have am:=c0.kp λs x _ f=>k.fr s x f;have bn:=hG.oks Y;refine C3c (P:=λbd:KV=>∀(O:eo)(G':List AP)(ac:AV)(Q:Hp),StIn gs O->(∀c∈A,c∈O)->StAt Q r m O->AU Q Al 1 ac G'.length (A9 G')->(∀c∈O,c.id∈G')->G'.length<=(i+1)*20->Wf Q->Km Q cp ((J7 A).map Cd.id)->bd ac Q=x0) (λO G' ac Q ar ay bc bq ae a8 dy dh=>?_) λbd ax=>?_
  ·have V:=ar.ok Y;have d4:=(jQ V).len;have ee:(T9 O).length<=O.length:=by
    unfold T9;rw[(Bl _).length_eq];exact fG (l30 _ _) (by rw[Po];exact LH _)
   have d5:=V.len;refine A90 (n:=n+3) V hL bc.sv dy λcq t B d3=>?_;have bh:Km t cq ((J7 O).map Cd.id):=B.sat λe=>d3 (List.map_eq_nil_iff.1 e);rw[B2e];have cu:=AF (x:=.cells false Al []) B.wf;have bv:∀u y,Ai t u=some y->Ai ((Ar t,Row.cells false Al [])::t) u=some y:=λu y N=>A6 (B.wf.lt N) N;have eg:Ar ((Ar t,Row.cells false Al [])::t)=Ar t+1:=rfl;have dc:AU ((Ar t,.cells false Al [])::t) Al 1 (.sl 1 (Ar t) 0 0) ([]:List AP).length (A9 []):=.inr ⟨Ar t,false,rfl,Ax (by simp),rfl⟩;obtain⟨ei,cz,dd,cf,bf,b5⟩:=Z' (l:=(J7 O).map Cd.id) (a:=cq) dc (.inr (bh.kp λs x _ f=>bv s x f)) (by rw[Po];simp;omega);rw[dd];have cw:=b5.wf cu;have bx:∀u y,Ai t u=some y->Ai cz u=some y:=λu y N=>b5.keep cu u y (bv u y N) λ⟨_,_,_,hh⟩=>by
    injection hh with _ hh
    have:=B.wf.lt N;omega
   have dw:=(bc.keep B.keep).keep bx;rw[kN (n:=n+3) V hL dw.sv];obtain⟨ej,ab,de,cg,dt,b7⟩:=Z' (l:=T9 O) (a:=Yf O) cf (.inl A8G) (by rw[Ez,Po];simp;omega);rw[de];have dx:=b7.wf cw;have bz:∀u y,Ai t u=some y->Ai ab u=some y:=λu y N=>b7.keep cw u y (bx u y N) λhh=>by
    have:=bf u hh;have:=B.wf.lt N;omega
   have af:∀u y,Ai Q u=some y->Ai ab u=some y:=λu y N=>bz u y (B.keep u y N);have ce:=bc.keep af;have bm:AU ab Al 1 ac G'.length (A9 G'):=bq.kp λs x _ f=>af s x f;have mono:∀s∈(J7 A).map Cd.id,s∈(J7 O).map Cd.id:=λs g=>by
    rw[PW]at g⊢;obtain⟨c,hc,rfl⟩:=g;have hc:=KY.1 ((VK hA.ids).1 hc);exact⟨c,(VK V.ids).2 (KY.2 ⟨ay c hc.1,hc.2.mono ay⟩),rfl⟩
   simp only[BH];refine B5Z (n:=n+84) (by omega) (.inr (dh.kp λs x _ f=>af s x f)) (.inr (bh.kp λs x _ f=>bz s x f)) (by rw[Po];omega) (by rw[Po];omega) mono ?_ (L+20) 0 _ (by rw[Po];omega) (by omega);have bo:∀s∈(([]:List AP)++(J7 O).map Cd.id)++T9 O,s∈G'/\s≠[]:=λs g=>by
    have g:s∈O.map Cd.id:=by
     rw[l3b,Zx]at g;rcases g with g|g
     ·rw[PW]at g⊢;obtain⟨c,hc,rfl⟩:=g;exact⟨c,(KY.1 ((VK V.ids).1 hc)).1,rfl⟩
     ·exact(A6B.1 g).1
    obtain⟨c,hc,rfl⟩:=PW.1 g;exact⟨ae c hc,nP c⟩
   refine B60 (n:=n+84) (by omega) cg (.inr bm.rq) (by rw[Ez,Ez,Po];simp;omega) (by omega) bo ?_ (L+20) 0 (by rw[Ez,Ez,Po];simp;omega) (by omega);show(Aq (r! L (n+86)) LR [.ptr r 0 0] ab λek=>_)=x0;rw[A9d (n:=n+2) V hL ce.sv,DR,Bool.not_true,Ba,Dd (by omega)];exact B61 hL Y hd f fuel (i+1) O G' ac _ _ _ _ _ ab (by omega) (by omega) ar ce bm ae a8 dx
  ·have a4:=k.wf;have recv:(CL 2 (.ptr p 0 0) λci=>AE Ak ci M λcj=>(r! L (n+86)).call Ks [cj] M λaj Z=>Dy Al 1 Ah Ab gv aj Z λak D=>
    AE A3 (.ptr p 0 0) D λcm=>(r! L (n+86)).call B9 [.ptr r 0 0,cm] D λd8 aa=>bd ak aa)=x0:=by
    have ea:=hG.cl;have eb:=hG.dl;obtain⟨ba,dn,dp⟩:=B97 ao hG;have ap:ZH M cv q.cs:=by
     rcases k.cs with⟨h1,h2,_⟩|⟨r,b,h1,h2,_⟩
     ·exact .inl ⟨h1,kC h2⟩
     ·exact .inr (.inr ⟨r,b,[],h1,by rw[US];exact h2⟩)
    rw[QD,k.ldc];refine A9j (n:=n+21) (l:=q.cs) bn (by omega) (by omega) ap a4 λaj Z B z2=>?_;have bk:AU Z Al 1 gv G.length (A9 G):=R.kp λs x _ f=>B.keep s x f;obtain⟨ak,D,bj,ai,cx,az⟩:=Z' (l:=q.cs.map PC.id) (a:=aj) bk (.inr (B.sat λe=>z2 (List.map_eq_nil_iff.1 e))) (by rw[Po];omega);rw[bj];have X:=az.wf B.wf;have J:∀u y,¬A4 gv u->Ai M u=some y->Ai D u=some y:=λu y hn N=>az.keep B.wf u y (B.keep u y N) hn;have a3:StAt D r m A:=⟨J _ _ (R.el C.st (by decide)) C.st,J _ _ (R.nm C.mm) C.mm⟩
    have b8:=J _ _ (R.el k.row (by decide)) k.row;have nw:∀u,Ar a5<=u->¬A4 gv u:=λu N hr=>by
     have:=a7 u hr;have:=hN.nx;omega
    have be:PkS D (.agg [I q.kd,dv,cv]) q:=by
     refine⟨dv,cv,rfl,.inr (AU.rq (k.ds.kp λs x g f=>J s x (nw s (k.id s g)) f)),ap.keep λs x g f=>J s x (nw s (k.ic s g)) f,k.d0⟩
    rw[Br rfl rfl b8];refine UW (n:=n+2) hL hA bn X a3 be (by omega) (λ_=>by omega) (by omega) (ba.ok Y) (by have:=(ba.ok Y).len;omega) λv' aa cc _ ah=>?_;refine ax _ (G++q.cs.map PC.id) ak aa ba dn cc (ai.kp λs x g f=>ah.keep X s x f λe=>ai.nm a3.mm (e▸g)) (λc hc=>?_) (by rw[Ez,Po];omega) (ah.wf X) (am.kp λs x g f=>?_)
    ·rw[Zx];rcases dp c hc with h|h
     ·exact .inl (aq c h)
     ·exact .inr (PW.2 ⟨_,h,rfl⟩)
    ·have a9:¬A4 gv s:=λhr=>by
      have:=a7 s hr;have:=hN.new s g;omega
     have dq:=J s x a9 f;exact ah.keep X s x dq λe=>(am.nm C.mm) (e▸g)
   simp only[QD,k.ldk,Dk];by_cases bu:q.kd<1
   rotate_left
   ·simp only[HN bu,eP,gU,gT,BW,RF];rw[Ba];simpa only[QD] using recv
   have g0:∀{F:K2},As Ac .gtr (I (gs.length:Int)) (AV.v (.int .i64 0)) F=F (Bo (decide ((0:Int)<gs.length))):=λ{F}=>DT;simp only[GI bu,gT,BW,ha.len,g0,Ul];by_cases ed:0<gs.length
   rotate_left
   ·rw[HN (by omega),Ba];simpa only[QD] using recv
   rw[GI (by omega),Co,hd.ia hi,C5r,(gP (n:=n+85) i2 (by omega) (by omega)) M _];obtain⟨j,dm,bt⟩:∃j:Nat,pk ds[i].2.1 gs.length=(j:Int)/\j<gs.length:=by
    obtain⟨a,b⟩:=Ft (c:=ds[i].2.1) (n:=(gs.length:Int)) (by omega);exact⟨(pk ds[i].2.1 gs.length).toNat,by omega,by omega⟩
   have ad:=NT bt;rw[dm,ha.ia bt,nH,Bv (cs:=C7) rfl,BQ (cs:=C7) (vs:=gs[j].cs) (Ax (by simp)) Eb rfl Ma];obtain⟨H1,e1,a6,w1,k1⟩:=HF (e:=Ad) (zs:=C7) (vs:=gs[j].cs) a4 Eb;rw[<-e1,Br rfl Eb.symm a6];have dj:∀{F:K2},Aq (r! L (n+86)) FL [.agg gs[j].cs] H1 F=F (S gs[j].id):=λ{F}=>B64 (n:=n+22) (by omega) (p:=.c gs[j]) ⟨Y.ok _ ad,Y.nd _ ad⟩;have g1:AU H1 Al 1 gv G.length (A9 G):=R.kp λs x _ f=>(k1 s x f).1;rw[dj];obtain⟨v',H',h3,h4,h5,h6,h7,h8⟩:=A2r gs[j].id g1 w1 (by omega);rw[h3,Br rfl Eb.symm (h7 _ _ a6 (g1.el a6 (by decide)))];have k2:∀u y,¬A4 gv u->Ai M u=some y->Ai H' u=some y:=λu y hn N=>h7 u y (k1 u y N).1 hn;have s2:StAt H' r m A:=⟨k2 _ _ (R.el C.st (by decide)) C.st,k2 _ _ (R.nm C.mm) C.mm⟩
   have e2:(add1 A (.c gs[j])).2.2=0/\StIn gs (add1 A (.c gs[j])).1/\(∀c∈A,c∈(add1 A (.c gs[j])).1)/\∀c∈(add1 A (.c gs[j])).1,c∈A\/c=gs[j]:=by
    by_cases hm:gs[j].id∈A.map Cd.id
    ·rw[vX hm];exact⟨rfl,ao,λ_ h=>h,λ_ h=>.inl h⟩
    ·rw[jW hm];have:=ao.add1 ad;rw[CD hm]at this;exact⟨rfl,this,λc h=>List.mem_append_left _ h,λc h=>by simpa using h⟩
   obtain⟨e3,e4,e5,e6⟩:=e2;have d6:=hA.len;refine A31 (P:=λa=>a=x0) (n:=n+20) (p:=.c gs[j]) (by omega) ⟨Y.ok _ ad,Y.nd _ ad⟩ h5 s2 (by omega) λbg b9 ag=>?_;rw[e3];have dr:∀{F:K2},As Ac .neq (I 0) (AV.v (.int .i64 0)) F=F (Bo false):=λ{F}=>neI;show As Ac .neq (I 0) (AV.v (.int .i64 0)) _=x0;rw[dr,Ba];refine ax _ (G++[gs[j].id]) v' bg e4 e5 b9 (h4.kp λs x g f=>ag.keep h5 s x f λe=>h4.nm s2.mm (e▸g)) (λc hc=>?_) (by rw[Ez];simp;omega) (ag.wf h5) (am.kp λs x g f=>?_)
   ·rw[Zx];rcases e6 c hc with h|h
    ·exact .inl (aq c h)
    ·exact .inr (by rw[h];simp)
   ·have a9:¬A4 gv s:=λhr=>by
     have:=a7 s hr;have:=hN.new s g;omega
    exact ag.keep h5 s x (k2 s x a9 f) λe=>(am.nm C.mm) (e▸g)
def J!{xs:List Y7}{a0:AV}(g:200000<L)(i:XA xs a0)(e:∀y∈xs,y.Ok)(t:DA ds da)(k:∀H0,K (Bo true) H0=some (Bo true,[])):(r! L (n+87)).call OO [a0,da] [] K=some (Bo true,[]):=by
 rw[Uy];unfold K6 A2 Hv;obtain⟨h,c⟩:=B16 xs (min 8 xs.length) (by omega);have f:Fx true depth a0 a0 [] false:=by
  rcases i with rfl|⟨_,rfl⟩
  ·exact OD
  ·exact CA
 rw[B2a g,JT (B07 (n:=n+21) (by omega) i e) (Ao f AI)];generalize QC xs (min 8 xs.length)=gs at h c;rw[A8W (n:=n+85)];obtain⟨j,w1,k1⟩:=A3N Fq;rw[j.sv.nn,Ba];simp only[BH];exact B61 (n:=n) g h t k (L+20) 0 [] [] Av _ _ _ _ _ _ (by omega) (by omega) StIn.nil j (.inl ⟨rfl,rfl,rfl⟩) (by simp) (by simp) w1
end
end
end Go.Abs
end
noncomputable section
namespace Go.Proofs
open Go.Shelf
def Tryz.lays156_ren:Go.Shelf.Ren:=⟨λ|156=>127|165=>198|166=>122|169=>66|240=>196|241=>256|276=>254|277=>310|n=>n,λ|31=>29|9=>9|3=>3|4=>4|0=>0|20=>20|72=>122|76=>188|70=>119|37=>120|75=>187|127=>199|164=>303|5=>5|80=>133|n=>n,λ|n=>n⟩
theorem Tryz.lays156:Go.Proofs.Lays.n156 Tryz.prog Tryz.lays156_ren:={
 mixed:=by kernel_rfl
 f156:=Tryz.func127.trans (congrArg some (by kernel_rfl))
 f165:=Tryz.func198.trans (congrArg some (by kernel_rfl))
 f166:=Tryz.func122.trans (congrArg some (by kernel_rfl))
 f169:=Tryz.func66.trans (congrArg some (by kernel_rfl))
 f240:=Tryz.func196.trans (congrArg some (by kernel_rfl))
 f241:=Tryz.func256.trans (congrArg some (by kernel_rfl))
 f276:=Tryz.func254.trans (congrArg some (by kernel_rfl))
 f277:=Tryz.func310.trans (congrArg some (by kernel_rfl))
 t0:=Tryz.underlying0
 a0:=Tryz.isAgg0
 z0:=Tryz.sizeOf0
 v0:=Tryz.zeroValue0
 t3:=Tryz.underlying3
 a3:=Tryz.isAgg3
 z3:=Tryz.sizeOf3
 v3:=Tryz.zeroValue3
 t4:=Tryz.underlying4
 a4:=Tryz.isAgg4
 z4:=Tryz.sizeOf4
 v4:=Tryz.zeroValue4
 t9:=Tryz.underlying9
 a9:=Tryz.isAgg9
 z9:=Tryz.sizeOf9
 v9:=Tryz.zeroValue9
 t20:=Tryz.underlying20
 a20:=Tryz.isAgg20
 z20:=Tryz.sizeOf20
 v20:=Tryz.zeroValue20
 t31:=Tryz.underlying29
 a31:=Tryz.isAgg29
 z31:=Tryz.sizeOf29
 v31:=Tryz.zeroValue29
 t37:=Tryz.underlying120
 a37:=Tryz.isAgg120
 z37:=Tryz.sizeOf120
 v37:=Tryz.zeroValue120
 t70:=Tryz.underlying119
 a70:=Tryz.isAgg119
 z70:=Tryz.sizeOf119
 v70:=Tryz.zeroValue119
 t72:=Tryz.underlying122
 a72:=Tryz.isAgg122
 z72:=Tryz.sizeOf122
 v72:=Tryz.zeroValue122
 t75:=Tryz.underlying187
 a75:=Tryz.isAgg187
 z75:=Tryz.sizeOf187
 v75:=Tryz.zeroValue187
 t76:=Tryz.underlying188
 a76:=Tryz.isAgg188
 z76:=Tryz.sizeOf188
 v76:=Tryz.zeroValue188
 t127:=Tryz.underlying199
 a127:=Tryz.isAgg199
 z127:=Tryz.sizeOf199
 v127:=Tryz.zeroValue199
 t164:=Tryz.underlying303
 a164:=Tryz.isAgg303
 z164:=Tryz.sizeOf303
 v164:=Tryz.zeroValue303}
theorem Tryz.Builder_Extra_156:Builder.Extra Tryz.prog Tryz.lays156_ren:={
 sizeBuilder:=by kernel_rfl
 liesBuilder:=by kernel_rfl
 t5:=Tryz.underlying5
 a5:=Tryz.isAgg5
 z5:=Tryz.sizeOf5
 v5:=Tryz.zeroValue5
 infoByte:=by kernel_rfl
 cellsByte:=by kernel_rfl
 sizeByte:=by kernel_rfl
 neB5:=by decide}
open Go.RowKit in
theorem Tryz.strings_Join_none(a:Option Addr)(c:Nat)(sep:ByteArray)(w:World):
 Calls Tryz.prog 127 #[.slice a 0 c,.string sep] w λe w'=>e=.returned (.string ⟨#[]⟩)/\w'=w:=Any.strings_Join_none Tryz.lays156 Tryz.Builder_Extra_156 a c sep w
open Go.RowKit in
theorem Tryz.strings_Join(bk o c:Nat)(xs:List ByteArray)(sep:ByteArray)(w:World)(hcells:∀(j:Nat)x,xs[j]?=some x->w.cell? ⟨bk,o+j,none⟩=some (.string x))(hbk:bk<w.heap.size)(hN:xs.length<=140737488355328)(hcap:xs.length<=c)(hlen:(Lib.join (xs.map (·.data.toList)) sep.data.toList).length<=140737488355328):
 Calls Tryz.prog 127 #[.slice (some ⟨bk,o,none⟩) xs.length c,.string sep] w λe w'=>e=.returned (.string ⟨(Lib.join (xs.map (·.data.toList)) sep.data.toList).toArray⟩)/\Below w.heap.size w w':=Any.strings_Join Tryz.lays156 Tryz.Builder_Extra_156 bk o c xs sep w hcells hbk hN hcap hlen
def Tryz.lays190_ren:Go.Shelf.Ren:=⟨λ|190=>77|125=>137|258=>136|128=>211|129=>212|302=>202|303=>203|304=>204|305=>205|306=>206|307=>207|308=>208|309=>209|310=>210|333=>272|329=>273|330=>274|334=>275|335=>276|336=>277|344=>318|n=>n,λ|31=>29|9=>9|3=>3|46=>169|0=>0|51=>134|53=>231|4=>4|183=>271|182=>270|131=>275|5=>5|218=>313|222=>267|228=>347|229=>348|n=>n,λ|n=>n⟩
theorem Tryz.lays190:Go.Proofs.Lays.n190 Tryz.prog Tryz.lays190_ren:={
 mixed:=by kernel_rfl
 f125:=Tryz.func137.trans (congrArg some (by kernel_rfl))
 f128:=Tryz.func211.trans (congrArg some (by kernel_rfl))
 f129:=Tryz.func212.trans (congrArg some (by kernel_rfl))
 f190:=Tryz.func77.trans (congrArg some (by kernel_rfl))
 f258:=Tryz.func136.trans (congrArg some (by kernel_rfl))
 f302:=Tryz.func202.trans (congrArg some (by kernel_rfl))
 f303:=Tryz.func203.trans (congrArg some (by kernel_rfl))
 f304:=Tryz.func204.trans (congrArg some (by kernel_rfl))
 f305:=Tryz.func205.trans (congrArg some (by kernel_rfl))
 f306:=Tryz.func206.trans (congrArg some (by kernel_rfl))
 f307:=Tryz.func207.trans (congrArg some (by kernel_rfl))
 f308:=Tryz.func208.trans (congrArg some (by kernel_rfl))
 f309:=Tryz.func209.trans (congrArg some (by kernel_rfl))
 f310:=Tryz.func210.trans (congrArg some (by kernel_rfl))
 f329:=Tryz.func273.trans (congrArg some (by kernel_rfl))
 f330:=Tryz.func274.trans (congrArg some (by kernel_rfl))
 f333:=Tryz.func272.trans (congrArg some (by kernel_rfl))
 f334:=Tryz.func275.trans (congrArg some (by kernel_rfl))
 f335:=Tryz.func276.trans (congrArg some (by kernel_rfl))
 f336:=Tryz.func277.trans (congrArg some (by kernel_rfl))
 f344:=Tryz.func318.trans (congrArg some (by kernel_rfl))
 t0:=Tryz.underlying0
 a0:=Tryz.isAgg0
 z0:=Tryz.sizeOf0
 v0:=Tryz.zeroValue0
 t3:=Tryz.underlying3
 a3:=Tryz.isAgg3
 z3:=Tryz.sizeOf3
 v3:=Tryz.zeroValue3
 t4:=Tryz.underlying4
 a4:=Tryz.isAgg4
 z4:=Tryz.sizeOf4
 v4:=Tryz.zeroValue4
 t5:=Tryz.underlying5
 a5:=Tryz.isAgg5
 z5:=Tryz.sizeOf5
 v5:=Tryz.zeroValue5
 t9:=Tryz.underlying9
 a9:=Tryz.isAgg9
 z9:=Tryz.sizeOf9
 v9:=Tryz.zeroValue9
 t31:=Tryz.underlying29
 a31:=Tryz.isAgg29
 z31:=Tryz.sizeOf29
 v31:=Tryz.zeroValue29
 t46:=Tryz.underlying169
 a46:=Tryz.isAgg169
 z46:=Tryz.sizeOf169
 v46:=Tryz.zeroValue169
 t51:=Tryz.underlying134
 a51:=Tryz.isAgg134
 z51:=Tryz.sizeOf134
 v51:=Tryz.zeroValue134
 t53:=Tryz.underlying231
 a53:=Tryz.isAgg231
 z53:=Tryz.sizeOf231
 v53:=Tryz.zeroValue231
 t131:=Tryz.underlying275
 a131:=Tryz.isAgg275
 z131:=Tryz.sizeOf275
 v131:=Tryz.zeroValue275
 t182:=Tryz.underlying270
 a182:=Tryz.isAgg270
 z182:=Tryz.sizeOf270
 v182:=Tryz.zeroValue270
 t183:=Tryz.underlying271
 a183:=Tryz.isAgg271
 z183:=Tryz.sizeOf271
 v183:=Tryz.zeroValue271
 t218:=Tryz.underlying313
 a218:=Tryz.isAgg313
 z218:=Tryz.sizeOf313
 v218:=Tryz.zeroValue313
 t222:=Tryz.underlying267
 a222:=Tryz.isAgg267
 z222:=Tryz.sizeOf267
 v222:=Tryz.zeroValue267
 t228:=Tryz.underlying347
 a228:=Tryz.isAgg347
 z228:=Tryz.sizeOf347
 v228:=Tryz.zeroValue347
 t229:=Tryz.underlying348
 a229:=Tryz.isAgg348
 z229:=Tryz.sizeOf348
 v229:=Tryz.zeroValue348}
open Go.Sort Go.RowKit in
theorem Tryz.slices_Sort_string(blk off cap:Nat)(ss:List (List UInt8))(w:World)(hH:Holds encStr w blk off ss.toArray)(hblk:blk<w.heap.size)(hsz:ss.length<4611686018427387904):
 Calls Tryz.prog 77 #[.slice (some ⟨blk,off,none⟩) ss.length cap] w λe w'=>
  e=.returned (.tuple #[])/\∃n os,w'=grow (putRow encStr (Sort.ahead w n) blk off (ss.mergeSort λx y=>decide (x<=y)).toArray) os:=Any.slices_Sort_string Tryz.lays190 blk off cap ss w hH hblk hsz
def Tryz.lays105_ren:Go.Shelf.Ren:=⟨λ|105=>331|212=>367|99=>368|165=>198|166=>122|170=>65|169=>66|263=>385|264=>386|206=>378|240=>196|241=>256|276=>254|277=>310|n=>n,λ|9=>9|3=>3|4=>4|20=>20|0=>0|46=>169|109=>385|5=>5|72=>122|76=>188|51=>134|146=>398|53=>231|148=>400|70=>119|37=>120|75=>187|127=>199|164=>303|80=>133|n=>n,λ|n=>n⟩
theorem Tryz.lays105:Go.Proofs.Lays.n105 Tryz.prog Tryz.lays105_ren:={
 mixed:=by kernel_rfl
 f99:=Tryz.func368.trans (congrArg some (by kernel_rfl))
 f105:=Tryz.func331.trans (congrArg some (by kernel_rfl))
 f165:=Tryz.func198.trans (congrArg some (by kernel_rfl))
 f166:=Tryz.func122.trans (congrArg some (by kernel_rfl))
 f169:=Tryz.func66.trans (congrArg some (by kernel_rfl))
 f170:=Tryz.func65.trans (congrArg some (by kernel_rfl))
 f206:=Tryz.func378.trans (congrArg some (by kernel_rfl))
 f212:=Tryz.func367.trans (congrArg some (by kernel_rfl))
 f240:=Tryz.func196.trans (congrArg some (by kernel_rfl))
 f241:=Tryz.func256.trans (congrArg some (by kernel_rfl))
 f263:=Tryz.func385.trans (congrArg some (by kernel_rfl))
 f264:=Tryz.func386.trans (congrArg some (by kernel_rfl))
 f276:=Tryz.func254.trans (congrArg some (by kernel_rfl))
 f277:=Tryz.func310.trans (congrArg some (by kernel_rfl))
 t0:=Tryz.underlying0
 a0:=Tryz.isAgg0
 z0:=Tryz.sizeOf0
 v0:=Tryz.zeroValue0
 t3:=Tryz.underlying3
 a3:=Tryz.isAgg3
 z3:=Tryz.sizeOf3
 v3:=Tryz.zeroValue3
 t4:=Tryz.underlying4
 a4:=Tryz.isAgg4
 z4:=Tryz.sizeOf4
 v4:=Tryz.zeroValue4
 t5:=Tryz.underlying5
 a5:=Tryz.isAgg5
 z5:=Tryz.sizeOf5
 v5:=Tryz.zeroValue5
 t9:=Tryz.underlying9
 a9:=Tryz.isAgg9
 z9:=Tryz.sizeOf9
 v9:=Tryz.zeroValue9
 t20:=Tryz.underlying20
 a20:=Tryz.isAgg20
 z20:=Tryz.sizeOf20
 v20:=Tryz.zeroValue20
 t37:=Tryz.underlying120
 a37:=Tryz.isAgg120
 z37:=Tryz.sizeOf120
 v37:=Tryz.zeroValue120
 t46:=Tryz.underlying169
 a46:=Tryz.isAgg169
 z46:=Tryz.sizeOf169
 v46:=Tryz.zeroValue169
 t51:=Tryz.underlying134
 a51:=Tryz.isAgg134
 z51:=Tryz.sizeOf134
 v51:=Tryz.zeroValue134
 t53:=Tryz.underlying231
 a53:=Tryz.isAgg231
 z53:=Tryz.sizeOf231
 v53:=Tryz.zeroValue231
 t70:=Tryz.underlying119
 a70:=Tryz.isAgg119
 z70:=Tryz.sizeOf119
 v70:=Tryz.zeroValue119
 t72:=Tryz.underlying122
 a72:=Tryz.isAgg122
 z72:=Tryz.sizeOf122
 v72:=Tryz.zeroValue122
 t75:=Tryz.underlying187
 a75:=Tryz.isAgg187
 z75:=Tryz.sizeOf187
 v75:=Tryz.zeroValue187
 t76:=Tryz.underlying188
 a76:=Tryz.isAgg188
 z76:=Tryz.sizeOf188
 v76:=Tryz.zeroValue188
 t109:=Tryz.underlying385
 a109:=Tryz.isAgg385
 z109:=Tryz.sizeOf385
 v109:=Tryz.zeroValue385
 t127:=Tryz.underlying199
 a127:=Tryz.isAgg199
 z127:=Tryz.sizeOf199
 v127:=Tryz.zeroValue199
 t146:=Tryz.underlying398
 a146:=Tryz.isAgg398
 z146:=Tryz.sizeOf398
 v146:=Tryz.zeroValue398
 t148:=Tryz.underlying400
 a148:=Tryz.isAgg400
 z148:=Tryz.sizeOf400
 v148:=Tryz.zeroValue400
 t164:=Tryz.underlying303
 a164:=Tryz.isAgg303
 z164:=Tryz.sizeOf303
 v164:=Tryz.zeroValue303}
theorem Tryz.Builder_Extra_105:Builder.Extra Tryz.prog Tryz.lays105_ren:={
 sizeBuilder:=by kernel_rfl
 liesBuilder:=by kernel_rfl
 t5:=Tryz.underlying5
 a5:=Tryz.isAgg5
 z5:=Tryz.sizeOf5
 v5:=Tryz.zeroValue5
 infoByte:=by kernel_rfl
 cellsByte:=by kernel_rfl
 sizeByte:=by kernel_rfl
 neB5:=by decide}
open Go.RowKit Go.Lib in
theorem Tryz.strings_Repeat(s:ByteArray)(c:Nat)(w:World)(hc:c<=9223372036854775807)(hlen:s.size*c<=140737488355328):
 Calls Tryz.prog 331 #[.string s,.int .i64 c] w λe w'=>e=.returned (.string ⟨(Lib.repeatL s.data.toList c).toArray⟩)/\Below w.heap.size w w':=Any.strings_Repeat Tryz.lays105 Tryz.Builder_Extra_105 s c w hc hlen
def Tryz.growS_ren:Go.Shelf.Ren:=⟨λ|4=>194|n=>n,λ|22=>29|25=>9|3=>3|4=>4|9=>9|20=>20|0=>0|n=>n,λn=>n⟩
theorem Tryz.growS:Go.Proofs.Lays8.n4 Tryz.prog Tryz.growS_ren:={
 mixed:=by kernel_rfl
 f4:=⟨Tryz.f194.name,by kernel_rfl,Tryz.func194.trans (congrArg some (by kernel_rfl))⟩
 t0:=Tryz.underlying0
 a0:=Tryz.isAgg0
 z0:=Tryz.sizeOf0
 v0:=Tryz.zeroValue0
 t3:=Tryz.underlying3
 a3:=Tryz.isAgg3
 z3:=Tryz.sizeOf3
 v3:=Tryz.zeroValue3
 t4:=Tryz.underlying4
 a4:=Tryz.isAgg4
 z4:=Tryz.sizeOf4
 v4:=Tryz.zeroValue4
 t9:=Tryz.underlying9
 a9:=Tryz.isAgg9
 z9:=Tryz.sizeOf9
 v9:=Tryz.zeroValue9
 t20:=Tryz.underlying20
 a20:=Tryz.isAgg20
 z20:=Tryz.sizeOf20
 v20:=Tryz.zeroValue20
 t22:=Tryz.underlying29
 a22:=Tryz.isAgg29
 z22:=Tryz.sizeOf29
 v22:=Tryz.zeroValue29
}
theorem Tryz.slices_Grow_0(w:World):Calls Tryz.prog 194 #[.slice none 0 0,.int .i64 0] w λe w'=>e=.returned (.slice none 0 0)/\w'=w:=
 Any8.slices_Grow_room Tryz.growS none 0 0 0 w (Nat.le_refl _) (by decide) (by decide) (Nat.le_refl _)
theorem Tryz.slices_Grow_n(n:Nat)(w:World)(h0:0<n)(h1:n<=1000000):Calls Tryz.prog 194 #[.slice none 0 0,.int .i64 n] w λe w'=>∃(arr:Array Value)(fz:Nat×Nat)(cap:Nat),cap<=arr.size/\e=.returned (.slice (some ⟨w.heap.size,0,none⟩) 0 cap)/\Go.RowKit.Below w.heap.size w w'/\w'.heap[w.heap.size]?=some (.cells arr 9 fz)/\∀i,i<arr.size->¬(fz.1<=i/\i<fz.2):=by
 have hs:(Tryz.prog.info? 9).isSome=true:=by kernel_rfl
 obtain⟨i0,hi0⟩:=Option.isSome_iff_exists.1 hs
 have hz:(Tryz.prog.info? 9).bind (λi=>i.zero)=some (.string ⟨#[]⟩):=by kernel_rfl
 have hz1:(Tryz.prog.info? 9).map (λi=>i.size)=some 1:=by kernel_rfl
 have hz2:(Tryz.prog.info? 9).map (λi=>i.bytes)=some 16:=by kernel_rfl
 rw[hi0]at hz hz1 hz2
 have hz:i0.zero=some (.string ⟨#[]⟩):=hz
 have hz1:i0.size=1:=Option.some.inj hz1
 have hz2:i0.bytes=16:=Option.some.inj hz2
 refine(Any8.slices_Grow_grow Tryz.growS i0 (.string ⟨#[]⟩) hi0 hz (by rw[hz1];decide) none 0 0 n [] w (Nat.le_refl _) (by omega) (by rw[hz2];omega) (by omega) (by simp) (λ_=>rfl) (λa h=>by cases h)).mono ?_
 rintro e w' ⟨he,hw⟩
 have hzc:∀k,(Builtin.zeroCells (Value.string ⟨#[]⟩).cells k).size=k:=λk=>by
  have e:(Value.string ⟨#[]⟩).cells= #[.string ⟨#[]⟩]:=rfl
  rw[e]
  simp[Builtin.zeroCells]
 have key:∃arr:Array Value,w'=w.drew.alloc (.cells arr 9)/\grownCap w (0+n) 0 (Tryz.growS_ren.t 25)<=arr.size:=⟨_,hw,by
  simp only[Array.size_append,hzc]
  omega⟩
 obtain⟨arr,hw,hsz⟩:=key
 refine⟨arr,(0,0),_,hsz,he,?_,?_,λi _ h=>Nat.not_lt_zero _ h.2⟩
 ·rw[hw]
  exact((Go.RowKit.Below.refl _ _).drew).alloc (Nat.le_refl _) _
 ·rw[hw]
  show(w.heap.push _)[w.heap.size]?=_
  rw[Array.getElem?_push_size]
end Go.Proofs
end
noncomputable section
namespace Go.Abs
open Go.RowKit Go.Proofs
set_option maxRecDepth 100000
theorem C3M:dC Tryz.prog 127:=⟨Tryz.f127,by kernel_rfl,by kernel_rfl,by kernel_rfl⟩
theorem C5p:dC Tryz.prog 77:=⟨Tryz.f77,by kernel_rfl,by kernel_rfl,by kernel_rfl⟩
theorem C3L:dC Tryz.prog 194:=⟨Tryz.f194,by kernel_rfl,by kernel_rfl,by kernel_rfl⟩
theorem C3K:dC Tryz.prog 331:=⟨Tryz.f331,by kernel_rfl,by kernel_rfl,by kernel_rfl⟩
theorem C2G(E:XE):oT.All (E! E Tryz.prog):=
 ⟨B17 C3L Tryz.slices_Grow_0 Tryz.slices_Grow_n,⟨B0Z C3M Tryz.strings_Join_none Tryz.strings_Join,⟨A9t C5p Tryz.slices_Sort_string,trivial,trivial⟩,trivial⟩,⟨A3w C3K Tryz.strings_Repeat,trivial,trivial⟩⟩
theorem A9F(L n:Nat):RSound tB (E L) Tryz.prog (rt L n):=A3Q (C60 L) (C2J L) (C2G _) n
def Y7.vs(y:Y7):List Value:=[.int .i64 y.y0,.int .i64 y.y1,.int .i64 y.y2,.int .i64 y.y3,.int .i64 y.y4,.int .i64 y.y5,.int .i64 y.y6]
theorem C1A(xs:List Y7):xs.flatMap Y7.cs=(xs.flatMap Y7.vs).map λx=>.v x:=by
 induction xs with
 |nil=>rfl
 |cons y xs ih=>rw[oK,oK,XS,ih];rfl
theorem A1K{α β:Type}(f:α->List β)(w:Nat)(hf:∀x,(f x).length=w):∀(l:List α)(i j:Nat)(h:i<l.length),j<w->(l.flatMap f)[i*w+j]?=(f l[i])[j]?:=by
 intro l
 induction l with
 |nil=>intro i j h;simp at h
 |cons a l ih=>
  intro i j h hj
  rw[oK]
  cases i with
  |zero=>
   rw[Nat.zero_mul,Kk,l0m (by rw[hf];exact hj)];rfl
  |succ i=>
   have e:(i+1)*w+j=(f a).length+(i*w+j):=by rw[hf,l1e];omega
   rw[e,l0o (by omega),Nat.add_sub_cancel_left,List.getElem_cons_succ]
   exact ih i j (by simpa using h) hj
theorem Z5{α β:Type}(f:α->List β)(w:Nat)(hf:∀x,(f x).length=w):∀l:List α,(l.flatMap f).length=l.length*w:=by
 intro l
 induction l with
 |nil=>simp
 |cons a l ih=>simp[ih,hf,l1e,Nat.add_comm]
def A4B(W:World):Ctx:={π:=λ_=>none,F:=λb _=>b<W.heap.size,B:=λ_=>False}
theorem B2f{W:World}{b i:Nat}{v:Value}(h:W.cell? ⟨b,i,none⟩=some v):b<W.heap.size:=by
 unfold World.cell? at h
 split at h
 ·rename_i c t f he
  exact(l1v.1 he).1
 ·cases h
theorem C4T{W:World}{G:Gl}(hG:∀(g:Nat)(cs:List Value),G g=some cs->∀(i:Nat)(v:Value),cs[i]?=some v->W.cell? ⟨g,i,none⟩=some v):Rel G ⟨W,λ_=>False⟩ (A4B W) [] W where
 glob:=λg cs hg i v hv=>⟨B2f (hG g cs hg i v hv),hG g cs hg i v hv⟩
 below:=Keep.refl W _
 lt:=λr x h=>by cases h
 rows:=λr x h=>by cases h
 own:=λr x b o h=>by cases h
 sep:=λr r' x x' b o o' h=>by cases h
 fin:=λb i h=>h
 finB:=λb h=>h.elim
 nx:=λr _=>rfl
theorem A5h{W:World}{n cap:Nat}{a:Option Addr}{vs:List Value}(hn:n<=cap)(h0:n=0->vs=[])(h:∀i(hi:i<vs.length),∃b o,a=some ⟨b,o,none⟩/\W.cell? ⟨b,o+i,none⟩=some vs[i])(hne:0<n->0<vs.length):VRel (A4B W) W (.list n (vs.map λx=>.v x)) (.slice a n cap):=by
 by_cases h1:n=0
 ·subst h1
  rw[h0 rfl]
  exact .list0
 ·have h2:=hne (by omega)
  obtain⟨b,o,ha, -⟩:=h 0 h2
  subst ha
  have hc:∀i(hi:i<vs.length),W.cell? ⟨b,o+i,none⟩=some vs[i]:=λi hi=>by
   obtain⟨b',o',e,hc⟩:=h i hi
   cases e
   exact hc
  refine .list hn (λi=>vs.getD i undef) (λi hi=>?_) (λi hi=>?_) (λi hi=>?_)
  ·exact B2f (hc i (by simpa using hi))
  ·have hi':i<vs.length:=by simpa using hi
   rw[hc i hi',UT,KL hi'];rfl
  ·have hi':i<vs.length:=by simpa using hi
   have:(vs.map λx=>AV.v x)[i]=.v (vs.getD i undef):=by
    rw[l2n,UT,KL hi'];rfl
   rw[this]
   exact .v _
end Go.Abs
end
noncomputable section
namespace Go.Proofs.YthfokedilloheaaGreatDoor
open Go.ChangeShapes Go.WideShapes Go.ChangeAt Go.WideMaps Go.WideElems Go.RowKit Go.Abs
set_option maxRecDepth 100000
theorem own:ownKnob Tryz.prog.godebug=none:=by kernel_rfl
theorem A5L:laidOutB Tryz.prog=true:=by kernel_rfl
theorem u22:Tryz.prog.underlying 22=some (.slice 75):=by kernel_rfl
theorem u90:Tryz.prog.underlying 75=some (.array 7 3):=by kernel_rfl
theorem u3:Tryz.prog.underlying 3=some (.int .i64):=by kernel_rfl
theorem u4:Tryz.prog.underlying 4=some .bool:=by kernel_rfl
theorem c3:Tryz.prog.cellsOf 3=1:=by kernel_rfl
theorem c90:Tryz.prog.cellsOf 75=7:=by kernel_rfl
theorem D!{H:Type}{enc:TypeId×Value->H}{P:Program}{W:World}{base:Nat}{spare:Nat->Bool}{held:Bool}{fuel:Nat}{t e:TypeId}{k:IntKind}{cs:List Value}{ns:List Int}{pl:List MemPlace}(ht:P.underlying t=some (.array ns.length e))(he:P.underlying e=some (.int k))(ce:P.cellsOf e=1)(ct:P.cellsOf t=ns.length)(h:DataW.trod enc P W base spare held fuel t cs=some (.agg (ns.map λz=>.lit (.int k z)),pl)):cs=ns.map λz=>Value.int k z:=by
 obtain⟨xs,m,_,hx,hlen,hn,hel⟩:=DataW.trod_array ht h
 simp only[Prod.mk.injEq,DataW.agg.injEq]at hx
 obtain⟨hx,_⟩:=hx
 apply List.ext_getElem
 ·rw[hlen,ct,Po]
 ·intro i h1 h2
  have hi:i<ns.length:=by simpa using h2
  have hxi:i<xs.length:=by omega
  have h0:=hel i hi
  rw[ce,oI,KL hxi]at h0
  obtain⟨z,e1,e2,_⟩:=DataW.trod_int he h0
  have e3:(cs.drop i).take 1=[cs[i]]:=by rw[rF h1];rfl
  rw[e3]at e1
  have e4:(ns.map λz=>DataW.lit (H:=H) (.int k z))[i]'(by simpa using hi)=(xs.map (·.1))[i]'(by simpa using hxi):=by simp only[hx]
  rw[l2n,l2n,e2]at e4
  have e5:ns[i]=z:=by simpa using e4
  rw[l2n,e5]
  simpa using e1
def B4O(l:List AV):List Int:=l.map λa=>match a with|.v (.int _ z)=>z|_=>0
theorem C2Z:Rows.laid_yardstick_digest_round (H:=Unit)=.agg ((B4O gl0).map λz=>.lit (.int .u32 z)):=by kernel_rfl
theorem C2Y:Rows.laid_internal_strconv_uint64pow10 (H:=Unit)=.agg ((B4O gl1).map λz=>.lit (.int .u64 z)):=by kernel_rfl
theorem C3B:gl0.map unV=(B4O gl0).map λz=>Value.int .u32 z:=by kernel_rfl
theorem C3z:gl1.map unV=(B4O gl1).map λz=>Value.int .u64 z:=by kernel_rfl
theorem gn0:Tryz.prog.globalNamed "yardstick/digest.round" =some 0:=by kernel_rfl
theorem gn1:Tryz.prog.globalNamed "internal/strconv.uint64pow10" =some 1:=by kernel_rfl
theorem B4N{W:World}(h:laidMetH Tryz.prog Rows.exchangeClosedRow.laid W):∀L(g:Nat)(cs:List Value),(E L).G g=some cs->∀(i:Nat)(v:Value),cs[i]?=some v->W.cell? ⟨g,i,none⟩=some v:=by
 rw[MakeChecks.laidMetH_plain _ _ _ (by kernel_rfl)]at h
 obtain⟨ps,hv,_,_⟩:=h
 obtain⟨_,_,_,_,_,_,_,_,_,_,hv,_⟩:=hv
 obtain⟨_,_,_,_,_,_,_,_,_,_,hv,_⟩:=hv
 obtain⟨g1,t1,cs1,f1,p1,q1,hg1,ht1,hv1,hd1,hv,_⟩:=hv
 obtain⟨_,_,_,_,_,_,_,_,_,_,hv,_⟩:=hv
 obtain⟨_,_,_,_,_,_,_,_,_,_,hv,_⟩:=hv
 obtain⟨_,_,_,_,_,_,_,_,_,_,hv,_⟩:=hv
 obtain⟨g0,t0,cs0,f0,p0,q0,hg0,ht0,hv0,hd0, -,_⟩:=hv
 obtain rfl:=l2b (gn0.symm.trans hg0)
 obtain rfl:=l2b (gn1.symm.trans hg1)
 have tt0:(Tryz.prog.globals[0]?).map (·.type)=some 202:=by kernel_rfl
 have tt1:(Tryz.prog.globals[1]?).map (·.type)=some 365:=by kernel_rfl
 obtain rfl:=l2b (tt0.symm.trans ht0)
 obtain rfl:=l2b (tt1.symm.trans ht1)
 rw[show(Rows.laid_yardstick_digest_round (H:=Unit))=_ from C2Z]at hd0
 rw[show(Rows.laid_internal_strconv_uint64pow10 (H:=Unit))=_ from C2Y]at hd1
 have k0:=D! (e:=134) (by kernel_rfl) (by kernel_rfl) (by kernel_rfl) (by kernel_rfl) hd0
 have k1:=D! (e:=231) (by kernel_rfl) (by kernel_rfl) (by kernel_rfl) (by kernel_rfl) hd1
 intro L g cs hg i v hvv
 match g,hg with
 |0,hg=>
  have e:(E L).G 0=some (gl0.map unV):=rfl
  rw[e]at hg
  obtain rfl:=l2b hg
  rw[World.var?_cell hg0 hv0 i,<-l27,k0,<-C3B]
  exact hvv
 |1,hg=>
  have e:(E L).G 1=some (gl1.map unV):=rfl
  rw[e]at hg
  obtain rfl:=l2b hg
  rw[World.var?_cell hg1 hv1 i,<-l27,k1,<-C3z]
  exact hvv
 |g+2,hg=>
  exfalso
  have e:(E L).G (g+2)=(glB.get (g+2)).map λcs=>cs.map unV:=rfl
  have e1:Nat.beq (g+2) 1=false:=rfl
  have e2:Nat.blt (g+2) 1=false:=rfl
  have e3:glB.get (g+2)=none:=by
   unfold glB
   simp only[BT.get,e1,e2]
  rw[e,e3]at hg
  cases hg
theorem I?{z:Int}(h:(Lit.int .i64 z).wf=true):J8 z:=by
 have h1: -9223372036854775808<=z/\z<=9223372036854775807:=by simpa [Lit.wf,IntKind.min,IntKind.max,IntKind.signed,IntKind.bits] using h
 exact⟨h1.1,by omega⟩
theorem A3K{H:Type}{enc:TypeId×Value->H}{W:World}{base:Nat}{spare:Nat->Bool}{held:Bool}{fuel:Nat}{cs:List Value}{x:DataW H×List MemPlace}(h:DataW.trod enc Tryz.prog W base spare held fuel 22 cs=some x):
 cs=[.slice none 0 0]\/∃(a:Addr)(cap:Nat)(ys:List Y7),cs=[.slice (some a) ys.length cap]/\ys.length<=cap/\(∀y∈ys,y.Ok)/\∀i(hi:i<(ys.flatMap Y7.vs).length),W.cell? (a.add i)=some (ys.flatMap Y7.vs)[i]:=by
 rcases Deep.open_slice u22 h with⟨h0,_⟩|⟨a,len,cap,m,n,D,Pl,rfl,hb,hl,hm,hmm,rfl,hx⟩
 ·exact .inl h0
 right
 have hlm:len<=m:=by rw[hmm];split<;>omega
 have hrow:∀i,i<len->∃y:Y7,y.Ok/\∀j(hj:j<7),W.cell? (a.add (i*7+j))=(Y7.vs y)[j]?:=by
  intro i hi
  obtain⟨cs',hc,ht⟩:=hx i (by omega)
  rw[c90]at hc
  obtain⟨_,hl7,hcell⟩:=World.cells?_some hc
  obtain⟨xs,m',_,_,_,hn,hel⟩:=DataW.trod_array u90 ht
  have hz:∀j,j<7->∃z:Int,cs'[j]?=some (.int .i64 z)/\J8 z:=by
   intro j hj
   have h0:=hel j hj
   rw[c3,oI,KL (show j<xs.length by omega)]at h0
   obtain⟨z,e1,_,e3⟩:=DataW.trod_int u3 h0
   have hj':j<cs'.length:=by omega
   refine⟨z,?_,?_⟩
   ·rw[KL hj']
    have e4:(cs'.drop j).take 1=[cs'[j]]:=by rw[rF hj'];rfl
    rw[e4]at e1
    have:cs'[j]=.int .i64 z:=by simpa using e1
    rw[this]
   ·exact I? e3
  obtain⟨Z,hZ⟩:=Deep.choose_lt hz
  refine⟨⟨Z 0,Z 1,Z 2,Z 3,Z 4,Z 5,Z 6⟩,⟨(hZ 0 (by omega)).2,(hZ 1 (by omega)).2,(hZ 2 (by omega)).2,(hZ 3 (by omega)).2,(hZ 4 (by omega)).2,(hZ 5 (by omega)).2,(hZ 6 (by omega)).2⟩,λj hj=>?_⟩
  have hc2:W.cell? ((a.add (i*7)).add j)=cs'[j]?:=hcell j hj
  rw[Addr.add_add]at hc2
  rw[hc2,(hZ j hj).1]
  obtain rfl|rfl|rfl|rfl|rfl|rfl|rfl:j=0\/j=1\/j=2\/j=3\/j=4\/j=5\/j=6:=by omega
  all_goals rfl
 haveI:Inhabited Y7:=⟨⟨0,0,0,0,0,0,0⟩⟩
 obtain⟨V,hV⟩:=Deep.choose_lt hrow
 refine⟨a,cap,(List.range len).map V,by simp,by simpa using hl,λy hy=>?_,λi hi=>?_⟩
 ·obtain⟨k,hk,rfl⟩:=PW.1 hy
  exact(hV k (KT.1 hk)).1
 ·have h7:(((List.range len).map V).flatMap Y7.vs).length=len*7:=by rw[Z5 Y7.vs 7 (λ_=>rfl)];simp
  have hi':i<len*7:=by omega
  have hd:i/7<len:=by omega
  have e:=A1K Y7.vs 7 (λ_=>rfl) ((List.range len).map V) (i/7) (i%7) (by simpa using hd) (by omega)
  rw[show i/7*7+i%7=i by omega,KL hi]at e
  have h1:=(hV (i/7) hd).2 (i%7) (by omega)
  rw[show i/7*7+i%7=i by omega]at h1
  rw[h1,e]
  simp
theorem D?{W:World}{a:Addr}{v:Value}(h:W.cell? a=some v):a=⟨a.block,a.off,none⟩:=by
 obtain⟨b,o,sp⟩:=a
 cases sp with
 |none=>rfl
 |some k=>
  unfold World.cell? at h
  split at h
  ·simp at h
  ·cases h
theorem A2x{a:Addr}(i:Nat)(h:a=⟨a.block,a.off,none⟩):a.add i=⟨a.block,a.off+i,none⟩:=by
 rw[h]
 unfold Addr.add
 by_cases hi:i=0
 ·subst hi;rfl
 ·rw[CD hi]
theorem wX{H:Type}{enc:TypeId×Value->H}{P:Program}{f:Func}{s:ChangeSpec}{apart fresh R_ again:Bool}{W W':World}{args:Array Value}{v:Value}{ds gs:List (DataW H)}{before pa pv:List MemPlace}(hW:DataW.Whole enc P f.params.toList s.vars apart W args.toList ds gs before)(hres:∀(b:Nat)(sp:Nat->Bool)(hd:Bool),DataW.TrodAll enc P W' b sp hd f.resultTypes.toList (v.resultList f.resultTypes.size) (s.fn H (ds++gs)).results [])(hargs:∀sp:Nat->Bool,(∀p∈before,sp p.block=true)->DataW.TrodAll enc P W' 0 sp true f.params.toList args.toList (s.fn H (ds++gs)).args pa)(hvars:∀sp:Nat->Bool,(∀p∈before,sp p.block=true)->DataW.TrodVars enc P W' sp s.vars (s.fn H (ds++gs)).vars pv)(hps:before=pa++pv)(hb:Below W.heap.size W W')(hok:∀(j:Nat)(t:TypeId)(r:Value),f.resultTypes[j]?=some t->(v.resultList f.resultTypes.size)[j]?=some r->Value.okWide P W' .any 0 t r):
 s.post enc P f apart fresh R_ again W args v W':=by
 have hold:∀p∈before,(λb=>decide (b<W.heap.size)) p.block=true:=λp hp=>by simpa using hW.lt p hp
 have hlt:=hW.lt
 refine⟨ds,gs,before,[],pa,pv,hW,hres _ _ _,hargs _ hold,hvars _ hold,World.keptBut_mono (λp hp=>⟨hp,?_⟩) (hb.frame (· ∈before)),λ_=>?_⟩
 ·rw[hps,Zx]at hp
  exact Or.inr hp
 ·obtain⟨_,_,_,_,_,hz,hn⟩:=hW
  refine⟨hok,_,_,([]++pa)++pv,⟨[]++pa,pv,trodAll_append (hargs _ (λ_ _=>rfl)) (hres _ _ _),hvars _ (λ_ _=>rfl),rfl,?_,?_⟩,?_⟩
  ·intro b off hp
   have hm:MemPlace.cell b off∈before:=by rw[hps];simpa using hp
   rw[hb.frozen (hlt _ hm)]
   exact hz b off hm
  ·intro ha
   have:=hn ha
   rw[hps]at this
   simpa using this
  ·intro p hp _
   rw[hps]
   simpa using hp
theorem B42{H:Type}{enc:TypeId×Value->H}{W:World}{base:Nat}{spare:Nat->Bool}{held:Bool}{a0:Option Addr}{n0 k0:Nat}{d:DataW H}{p:List MemPlace}(h0:DataW.Trod enc Tryz.prog W base spare held 22 (.slice a0 n0 k0) d p):
 ∃xs:List Y7,(∀y∈xs,y.Ok)/\VRel (A4B W) W (.list xs.length (xs.flatMap Y7.cs)) (.slice a0 n0 k0):=by
 obtain⟨f,hf⟩:=h0
 rcases A3K hf with hc|⟨a,cap,ys,hc,hle,hok,hcell⟩
 ·simp only[Value.cells,List.cons.injEq,Value.slice.injEq,and_true]at hc
  obtain⟨rfl,rfl,rfl⟩:=hc
  exact⟨[],by simp,.list0⟩
 ·simp only[Value.cells,List.cons.injEq,Value.slice.injEq,and_true]at hc
  obtain⟨rfl,rfl,rfl⟩:=hc
  refine⟨ys,hok,?_⟩
  rw[C1A]
  refine A5h hle (λe=>by rw[kC e];rfl) (λi hi=>?_) (λe=>by rw[Z5 Y7.vs 7 (λ_=>rfl)];omega)
  have h0:=hcell 0 (by omega)
  have hs:a=⟨a.block,a.off,none⟩:=D? (v:=(ys.flatMap Y7.vs)[0]'(by omega)) (by simpa [Addr.add] using h0)
  exact⟨a.block,a.off,by rw[<-hs],by rw[<-A2x i hs];exact hcell i hi⟩
end Go.Proofs.YthfokedilloheaaGreatDoor
end
noncomputable section
namespace Go.Abs
open Go.RowKit Go.Proofs
set_option maxRecDepth 100000
theorem XQ{W:World}(hG:∀L(g:Nat)(cs:List Value),(E L).G g=some cs->∀(i:Nat)(v:Value),cs[i]?=some v->W.cell? ⟨g,i,none⟩=some v){xs:List Y7}{v0:Value}{ds1:List (Int×Int×Int)}{u1:Value}(h0:VRel (A4B W) W (.list xs.length (xs.flatMap Y7.cs)) v0)(hok:∀y∈xs,y.Ok)(g1:VRel (A4B W) W (.list ds1.length (ds1.flatMap ddC)) u1)(gi1:∀d∈ds1,J8 d.1/\J8 d.2.1/\J8 d.2.2):
 Calls Tryz.prog 3 #[v0,u1] W λe W'=>e=.returned (.bool true)/\Below W.heap.size W W':=by
 obtain⟨L,hL⟩:∃L,200000<L:=⟨200001,by decide⟩
 have h:=J! (L:=L) (n:=0) (xs:=xs) (a0:=.list xs.length (xs.flatMap Y7.cs)) (K:=λv _=>some (v,[])) hL (.inl rfl) hok ⟨.inl rfl,gi1⟩ (λ_=>rfl)
 have ac:=((A9F (L+20) (0+87)).call _ _ _ _ _ h).2 ⟨W,λ_=>False⟩ (A4B W) W [v0,u1] (C4T (hG _)) ?_
 ·refine ac.mono λe W' ⟨v,y,C',H',he,hr,hv,_,hq⟩=>?_
  injection hq with hq
  injection hq with hq _
  subst hq
  have hy:y=.bool true:=AM.1 hv
  subst hy
  have hb:=hr.below
  exact⟨he,hb.os,hb.tape,hb.output,hb.size,λk hk=>hb.block k hk (λhf=>hf)⟩
 ·refine⟨rfl,λi v hv=>?_⟩
  match i,hv with
  |0,hv=>cases hv;exact⟨_,rfl,h0⟩
  |1,hv=>cases hv;exact⟨_,rfl,g1⟩
end Go.Abs
namespace Go.Proofs.YthfokedilloheaaGreatDoor
open Go.ChangeShapes Go.WideShapes Go.ChangeAt Go.WideMaps Go.WideElems Go.RowKit Go.Abs
set_option maxRecDepth 100000
theorem cD:Tryz.prog.cellsOf 35=3:=by kernel_rfl
theorem A7l{H:Type}{enc:TypeId×Value->H}{W:World}{base:Nat}{spare:Nat->Bool}{held:Bool}{fuel:Nat}{cs:List Value}{x:DataW H×List MemPlace}(h:DataW.trod enc Tryz.prog W base spare held fuel 35 cs=some x):
 ∃k b t:Int,cs=[.int .i64 k,.int .i64 b,.int .i64 t]/\(J8 k/\J8 b/\J8 t)/\x=(.agg [.lit (.int .i64 k),.lit (.int .i64 b),.lit (.int .i64 t)],[]):=by
 obtain⟨xs,n,_,rfl,hl,hlen,hf⟩:=DataW.trod_struct Tryz.underlying35 h
 rw[cD]at hl
 match xs,hlen with
 |[y0,y1,y2],_=>
  match cs,hl with
  |[c0,c1,c2],_=>
   obtain⟨k,e0,rfl,w0⟩:=DataW.trod_int u3 (hf 0 _ rfl)
   obtain⟨b,e1,rfl,w1⟩:=DataW.trod_int u3 (hf 1 _ rfl)
   obtain⟨t,e2,rfl,w2⟩:=DataW.trod_int u3 (hf 2 _ rfl)
   have q0:c0=.int .i64 k:=by simpa [c3] using e0
   have q1:c1=.int .i64 b:=by simpa [c3] using e1
   have q2:c2=.int .i64 t:=by simpa [c3] using e2
   subst q0 q1 q2
   exact⟨k,b,t,rfl,⟨I? w0,I? w1,I? w2⟩,rfl⟩
theorem uDL:Tryz.prog.underlying 23=some (.slice 35):=by kernel_rfl
def ddV(d:Int×Int×Int):List Value:=[.int .i64 d.1,.int .i64 d.2.1,.int .i64 d.2.2]
theorem C0J(xs:List (Int×Int×Int)):xs.flatMap ddC=(xs.flatMap ddV).map λx=>.v x:=by
 induction xs with
 |nil=>rfl
 |cons y xs ih=>rw[oK,oK,XS,ih];rfl
theorem B1W{H:Type}{enc:TypeId×Value->H}{W:World}{base:Nat}{spare:Nat->Bool}{held:Bool}{a0:Option Addr}{n0 k0:Nat}{d:DataW H}{p:List MemPlace}(h0:DataW.Trod enc Tryz.prog W base spare held 23 (.slice a0 n0 k0) d p):
 ∃ds:List (Int×Int×Int),(∀d∈ds,J8 d.1/\J8 d.2.1/\J8 d.2.2)/\VRel (A4B W) W (.list ds.length (ds.flatMap ddC)) (.slice a0 n0 k0):=by
 obtain⟨f,hf⟩:=h0
 rcases Deep.open_slice uDL hf with⟨hc,_⟩|⟨a,len,cap,m,n,D,Pl,hc,hb,hl,hm,hmm,_,hx⟩
 ·simp only[Value.cells,List.cons.injEq,Value.slice.injEq,and_true]at hc
  obtain⟨rfl,rfl,rfl⟩:=hc
  exact⟨[],by simp,.list0⟩
 ·simp only[Value.cells,List.cons.injEq,Value.slice.injEq,and_true]at hc
  obtain⟨rfl,rfl,rfl⟩:=hc
  have hlm:n0<=m:=by rw[hmm];split<;>omega
  have hrow:∀i,i<n0->∃y:Int×Int×Int,(J8 y.1/\J8 y.2.1/\J8 y.2.2)/\∀j(hj:j<3),W.cell? (a.add (i*3+j))=(ddV y)[j]?:=by
   intro i hi
   obtain⟨cs',hc,ht⟩:=hx i (by omega)
   rw[cD]at hc
   obtain⟨_,hl3,hcell⟩:=World.cells?_some hc
   obtain⟨k,b,t,rfl,hok,_⟩:=A7l ht
   refine⟨(k,b,t),hok,λj hj=>?_⟩
   have hc2:=hcell j hj
   rw[Addr.add_add]at hc2
   exact hc2
  haveI:Inhabited (Int×Int×Int):=⟨(0,0,0)⟩
  obtain⟨V,hV⟩:=Deep.choose_lt hrow
  have el:((List.range n0).map V).length=n0:=by simp
  have hcell:∀i(hi:i<(((List.range n0).map V).flatMap ddV).length),W.cell? (a.add i)=some (((List.range n0).map V).flatMap ddV)[i]:=λi hi=>by
   have h7:(((List.range n0).map V).flatMap ddV).length=n0*3:=by rw[Z5 ddV 3 (λ_=>rfl),el]
   have hd:i/3<n0:=by omega
   have e:=A1K ddV 3 (λ_=>rfl) ((List.range n0).map V) (i/3) (i%3) (by rw[el];exact hd) (by omega)
   rw[show i/3*3+i%3=i by omega,KL hi]at e
   have h1:=(hV (i/3) hd).2 (i%3) (by omega)
   rw[show i/3*3+i%3=i by omega]at h1
   rw[h1,e]
   simp
  refine⟨(List.range n0).map V,λy hy=>?_,?_⟩
  ·obtain⟨k,hk,rfl⟩:=PW.1 hy
   exact(hV k (KT.1 hk)).1
  ·rw[el,C0J]
   refine A5h (by omega) (λe=>by subst e;rfl) (λi hi=>?_) (λe=>by rw[Z5 ddV 3 (λ_=>rfl),el];omega)
   have h0:=hcell 0 (by omega)
   have hs:a=⟨a.block,a.off,none⟩:=D? (by simpa [Addr.add] using h0)
   exact⟨a.block,a.off,by rw[<-hs],by rw[<-A2x i hs];exact hcell i hi⟩
theorem M?:Tryz.f3.params= #[22,23]:=by kernel_rfl
theorem XP(os:Os)(started:os.Started)(H:Type)(enc:TypeId×Value->H):
 ReturnsInHanded {} Tryz.checked os 3 .any (λw args=>(Rows.exchangeClosedSpec.pre enc Tryz.prog Tryz.f3 [] false w args/\laidMetH Tryz.prog Rows.exchangeClosedRow.laid w)/\sizedMet enc Tryz.prog Tryz.f3 (OpenSpec.ofChange Rows.exchangeClosedSpec) false w args)
  (Rows.exchangeClosedSpec.post enc Tryz.prog Tryz.f3 false true false false):=by
 refine returnsInHanded_of_change_and (C:=Tryz.checked) (X:=λw _=>laidMetH Tryz.prog Rows.exchangeClosedRow.laid w) (λ_ _ _ hh h=>h.of_heap hh) own started (by kernel_rfl) Tryz.func3
  (ChangeSpec.witness_shaped (enc:=enc) (C:=Tryz.checked) (os:=os) (X:=λw _=>laidMetH Tryz.prog Rows.exchangeClosedRow.laid w) false (World.laidAll Tryz.prog os Rows.exchangeClosedRow.laid) #[.slice none 0 0,.slice none 0 0] 8 (World.laidAll_os _ _ _)
   (World.shaped_of_ZipB (by kernel_rfl) (by kernel_rfl)) (by kernel_rfl) (by kernel_rfl) (by kernel_rfl)
   (by rw[MakeChecks.laidMetH_plain _ _ _ (by kernel_rfl)];exact laidMet_laidAll _ (by kernel_rfl) (by kernel_rfl))) ?_
 intro W base args ds gs before hval0 hW _ _ hL _
 have hval:∀(j:Nat)t v,Tryz.f3.params[j]?=some t->args[j]?=some v->Value.okWide Tryz.prog W .any base t v:=hval0
 have hW':=hW
 obtain⟨p,q,hA0,hV,rfl,hfz,hnd⟩:=hW
 have hA:DataW.TrodAll enc Tryz.prog W 0 (λ_=>true) true Tryz.f3.params.toList args.toList ds p:=hA0
 rw[M?]at hA hval
 obtain⟨v0,v1,d0,d1,p0,p1,rfl,rfl,rfl,h0,h1⟩:=trodAll_two hA
 obtain⟨rfl,rfl⟩:=trodVars_none hV
 obtain⟨a0,n0,k0,rfl⟩:=okWide_slice u22 (hval 0 22 v0 rfl rfl)
 obtain⟨a1,n1,k1,rfl⟩:=okWide_slice uDL (hval 1 23 v1 rfl rfl)
 have hG:=B4N hL
 obtain⟨xs,hok,hx⟩:=B42 h0
 obtain⟨ds1,hws1,hw1⟩:=B1W h1
 refine(XQ hG hx hok hw1 hws1).mono λe W' ⟨he,hb⟩=>?_
 subst he
 simp only[US]at hW'
 have hlt:=hW'.lt
 refine⟨_,rfl,wX (pa:=p0++p1) (pv:=[]) hW' (λ_ _ _=>trodAll_mk1 (shut_bool u4 true)) (λsp hsp=>?_) (λ_ _=>rfl) (by simp) hb (ok_one (by kernel_rfl) rfl (okWide_bool_mk u4 true))⟩
 show DataW.TrodAll enc Tryz.prog W' 0 sp true Tryz.f3.params.toList [.slice a0 n0 k0,.slice a1 n1 k1] [d0,d1] (p0++p1)
 rw[M?]
 have h9:=trodAll_mk2 (WideElems.Trod_stays A5L (by kernel_rfl) (l2y (by kernel_rfl)) h0 (λx hx=>hb.same (hlt x (by simp[hx]))) (λx hx=>hsp x (by simp[hx])))
  (WideElems.Trod_stays A5L (by kernel_rfl) (l2y (by kernel_rfl)) h1 (λx hx=>hb.same (hlt x (by simp[hx]))) (λx hx=>hsp x (by simp[hx])))
 simpa using h9
end Go.Proofs.YthfokedilloheaaGreatDoor
end
noncomputable section
namespace Go.Proofs.YthfokedilloheaaGreatDoor
open Go.ChangeShapes Go.WideShapes Go.ChangeAt Go.WideMaps Go.WideElems Go.RowKit
set_option maxRecDepth 100000
theorem exchangeClosed_holds:Rows.ExchangeClosedSaid:=
 OpenClaim.holds_of_wide 3 Tryz.f3 rfl rfl rfl rfl rfl rfl rfl ⟨rfl,rfl,rfl,rfl,rfl⟩ rfl rfl rfl rfl rfl mS Tryz.func3 B5I
  (l2y (by kernel_rfl)) (by unfold Func.isWrapper;first|(rw[Dr (by decide+kernel)];kernel_rfl)|(rw[CD (by decide+kernel)];exact⟨rfl,rfl⟩))
  (λos started H enc _=>XP os started H enc)
theorem C5a:Rows.exchangeClosedRow.wfByText (OpenSpec.ofChange Rows.exchangeClosedSpec)=true:=by kernel_rfl
theorem C00:Tryz.pinned.checked.prog.mainIs=some (true, "56b0a94900a19a7f9c6a91fa9dd7557a4d349c62bffad5ecf815a2c14385180e".toList):=by kernel_rfl
theorem B52:true=Tryz.pinned.checked.prog.looks []:=by kernel_rfl
theorem A5F:Tryz.prog.funcs.any Func.goes=false:=by kernel_rfl
theorem C01:false=Rows.exchangeClosedRow.goesBy Tryz.pinned.checked.prog:=by
 have h1:∀l:List FuncId,(l.any λg=>(Tryz.prog.funcs[g]?).any Func.goes)=false:=by
  intro l
  rw[List.any_eq_false]
  intro g _
  cases hg:Tryz.prog.funcs[g]? with
  |none=>simp
  |some fn=>
   have h2:=Array.any_eq_false.1 A5F
   obtain⟨hlt,e⟩:=l1v.1 hg
   have:=h2 g hlt
   rw[e]at this
   simpa using this
 have h3:Tryz.prog.goes 3=false:=by
  unfold Program.goes
  rw[h1,A5F,Bool.and_false,Bool.or_false]
 have hs:Rows.exchangeClosedRow.start=.entering:=rfl
 have hp:Tryz.pinned.checked.prog=Tryz.prog:=rfl
 have hn:Tryz.prog.funcNamed Rows.exchangeClosedRow.func=some 3:=mS
 unfold OpenClaim.goesBy Program.goesAt Program.goesFrom
 rw[hs,hp,hn,Option.any_some,h3]
 rfl
theorem B51:([22,23].all λu=>!Tryz.prog.wantsStandIn u)=true:=by kernel_rfl
theorem exchangeClosed_card:Rows.ExchangeClosedCardSaid:=
 Claim7.holds_tied_plain_at .later [] [.data,.data,.data,.data,.sentinel,.sentinel,.data,.pinned] true (true, "56b0a94900a19a7f9c6a91fa9dd7557a4d349c62bffad5ecf815a2c14385180e") true
  exchangeClosed_holds (λ_ h=>by cases h) C5a (λ_ h=>by cases h) exchangeClosed_row_tie rfl ⟨rfl,rfl⟩ C00 rfl
  (λf fn hf hfn=>by
   obtain rfl:f=3:=l2b (mS.symm.trans hf)|>.symm
   obtain rfl:fn=Tryz.f3:=(l2b (Tryz.func3.symm.trans hfn)).symm
   exact⟨B52,λj t ht=>by
    rw[M?]at ht
    have hm:t∈[22,23]:=by simpa using Array.mem_of_getElem? ht
    exact(show Tryz.prog.wantsStandIn t=false by simpa using G9.1 B51 t hm)⟩)
  C01
end Go.Proofs.YthfokedilloheaaGreatDoor
end
