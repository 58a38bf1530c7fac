import Derived.Shelf.Strings.OnBuilder
import Derived.Shelf.Strings.Repeat
import Derived.Shelf.Sort.Plain
import Derived.Shelf.Spec.SlicesGrow
import Derived.Shelf.SlSortCmp.NoneTotal
import Derived.Test.YthffkeagibaidaaGreatDoorProg
import Derived.Lib.Small
import Derived.Lib.Walk
import Derived.Sort.Grow
import Derived.Deep.Draws
import Derived.Laws.Cover1
import Derived.ProofKit
import Derived.Deep.Slices
import Derived.OpenShut
import Derived.Test.YthffkeagibaidaaGreatDoorRows
import Derived.LaidMore
import Derived.Stop.Joined
import Derived.MakeChecks
import Derived.FnData
import Derived.DataElems
import Derived.Lay
import Derived.Test.YthffkeagibaidaaGreatDoorTie
import Derived.Test.YthffkeagibaidaaGreatDoorCards
import Derived.SevenTiedAt
import Derived.Test.YthffkeagibaidaaGreatDoorP30
import Derived.Test.YthffkeagibaidaaGreatDoorP31
import Derived.Test.YthffkeagibaidaaGreatDoorP32
set_option linter.all false
set_option maxHeartbeats 0
noncomputable section
namespace Go.Abs
open Go.RowKit Go.Proofs
set_option maxRecDepth 100000
section
variable{a:Ha}
variable{L n:Nat}
def A1a:AV:=.list 2 (Jg.cs++Vu.cs)
def xJ:LA [Jg,Vu] A1a:=.inl (by
 show AV.list 2 _=AV.list 2 ([Jg,Vu].flatMap Cd.cs);simp)
section
variable{K:K2}{H:Hp}
def C09:Qa 68 Ac 2 [(0,68,.agg Jg.cs),(68,68,.agg Vu.cs)] K=K A1a:=by kernel_rfl
def C0a:Qa 68 Ac 2 [(0,68,.agg Jg.cs),(68,68,.agg Jg.cs)] K=K A5v:=by kernel_rfl
def bf4:Qa 68 Ac 4 [(0,68,.agg uP.cs),(68,68,.agg Xr.cs),(136,68,.agg Vu.cs),(204,68,.agg Jg.cs)] K=K Mb:=by kernel_rfl
def bf3:Qa 68 Ac 3 [(0,68,.agg Jg.cs),(68,68,.agg Vu.cs),(136,68,.agg wA.cs)] K=K A5u:=by kernel_rfl
def C08:Qa 1 Ag 1 [(0,1,S a)] K=K (Gp [a]):=by kernel_rfl
def B8u{a b:Ha}:Qa 1 Ag 2 [(0,1,S a),(1,1,S b)] K=K (Gp [a,b]):=by kernel_rfl
def C07{a b c d:Ha}:Qa 1 Ag 4 [(0,1,S a),(1,1,S b),(2,1,S c),(3,1,S d)] K=K (Gp [a,b,c,d]):=by kernel_rfl
def ix0{l:List Ha}:Cy Ad (Gp (a::l)) (.v (.int .i64 0)) K=K (.iptr [S a]):=by
 have:=(QO (a::l)).ia (K:=K) (i:=0) (by simp);exact this
def ix1{a b:Ha}{l:List Ha}:Cy Ad (Gp (a::b::l)) (.v (.int .i64 1)) K=K (.iptr [S b]):=by
 have:=(QO (a::b::l)).ia (K:=K) (i:=1) (by simp);exact this
def mmT:C! true (S lA) (S lB) K=K (S lB):=by kernel_rfl
def mmF:C! false (S lA) (S lB) K=K (S lA):=by kernel_rfl
def ln2{a b:Ha}:Bi Ad (Gp [a,b]) K=K (.v (.int .i64 2)):=id rfl
def ln3{a b c:Ha}:Bi Ad (Gp [a,b,c]) K=K (.v (.int .i64 3)):=id rfl
def lnp{l:Is}:Bi B5 (.list 1 l) K=K (.v (.int .i64 1)):=id rfl
def B9j:Al Ab .neq (.v (.int .i64 2)) (.v (.int .i64 2)) K=K (Bo false):=by kernel_rfl
def B9k:Al Ab .neq (.v (.int .i64 1)) (.v (.int .i64 1)) K=K (Bo false):=by kernel_rfl
def B9H:Al Ab .eql (.v (.int .i64 3)) (.v (.int .i64 3)) K=K (Bo true):=by kernel_rfl
def B9I:Al Ab .eql (I 0) (.v (.int .i64 0)) K=K (Bo true):=by kernel_rfl
end
def B3p(f:40000<L):CS (r! L (n+81)) Tn [] (Bo true):=by
 intro K hK;have c1:∀{H K},Ak (r! L (n+80)) DI [(.v (.int .i64 1))] H K=K (.agg Jg.cs):=λ{H K}=>HF (A0R (n:=n+35) (k:=1) f (by decide) (by decide) A4s) (Az (q:=false) Er Bq);have c2:∀{H K},Ak (r! L (n+80)) DI [(.v (.int .i64 2))] H K=K (.agg Vu.cs):=λ{H K}=>HF (A0R (n:=n+35) (k:=2) f (by decide) (by decide) A4r) (Az (q:=false) Er Bq);have cI2:∀{H K},Ak (r! L (n+80)) Jm [A1a] H K=K (Gp [lA,lB]):=λ{H K}=>by
  have h:=A4Z (L:=L) (n:=n+15) (gs:=[Jg,Vu]) (a:=A1a) (by
   intro c hc;simp only[Rx,List.not_mem_nil,or_false]at hc;rcases hc with rfl|rfl
   ·exact⟨rZ,show([]:List Ha).Nodup by decide⟩
   ·exact⟨rY,show([]:List Ha).Nodup by decide⟩) (by decide) f xJ
  rw[show([Jg,Vu].map Cd.id)=[lA,lB] by simp[Wp,Wo]]at h;exact AX h (Az (xJ.fx H) Bq)
 have cI4:∀{H K},Ak (r! L (n+80)) Jm [Mb] H K=K (Gp [lD,lC,lB,lA]):=λ{H K}=>by
  have h:=A4Z (L:=L) (n:=n+15) (gs:=Y?) (a:=Mb) (λc hc=>⟨kS.ok c hc,kS.nd c hc⟩) (by decide) f Ta;rw[show(Y?.map Cd.id)=[lD,lC,lB,lA] by simp[Y?,Wp,Wo,iT,sA]]at h;exact AX h (Az (Ta.fx H) Bq)
 have cC:∀{H K},Ak (r! L (n+80)) EG [(.v (.int .i64 3)),Gp [lA,lB]] H K=K (.agg Xr.cs):=λ{H K}=>HF (A0S (n:=n+35) (k:=3) f (by decide) (by decide) (l:=[lA,lB]) rfl (by simp[lA,lB]) A4q) (Az (q:=false) Er (Az ((QO _).fx H) Bq));have cD:∀{H K},Ak (r! L (n+80)) EG [(.v (.int .i64 4)),Gp [lC,lM]] H K=K (.agg uP.cs):=λ{H K}=>HF (A0S (n:=n+35) (k:=4) f (by decide) (by decide) (l:=[lC,lM]) rfl (by simp[lC,lM]) A4p) (Az (q:=false) Er (Az ((QO _).fx H) Bq));have cP:∀{H K},Ak (r! L (n+80)) F2 [(.v (.int .i64 77))] H K=K (S lM):=λ{H K}=>by
  rw[<-B7b];exact jE (n:=n+60) f (by decide) (by decide) H K
 have aj:∀{H K},Ak (r! L (n+80)) Gw [.agg Xr.cs] H K=K (S lC):=λ{H K}=>by
  rw[<-iT];exact AX (A0p (n:=n+16) f A4n (show[lA,lB].Nodup by decide)) (Yw H)
 have f4:∀{H},Qi true depth [Mb] [Mb] H false:=λ{H}=>Az (Ta.fx H) Bq;have i:∀{H}{s:Ha},Qi true depth [Mb,S s] [Mb,S s] H false:=λ{H s}=>Az (Ta.fx H) (Az (q:=false) Er Bq);have m:∀{H}{a b:List Ha},Qi true depth [Gp a,Gp b] [Gp a,Gp b] H false:=λ{H a b}=>Az ((QO a).fx H) (Az ((QO b).fx H) Bq);have cO:∀{H K},Ak (r! L (n+80)) Nb [Mb] H K=K (.tup [Gp [lB,lA,lC,lD],I 0]):=λ{H K}=>FQ (A8t (n:=n+15) f) f4;have cF:∀{H K},Ak (r! L (n+80)) Ew [A5u] H K=K (.list 1 [S lE,S lB]):=λ{H K}=>FQ (A8w (n:=n+15) f) (Az (sW.fx H) Bq);have ah:∀{H K},Ak (r! L (n+80)) Il [Mb,S lC] H K=K (.tup [.agg Xr.cs,Bo true]):=λ{H K}=>FQ (A8y (n:=n+15) f) i;have ai:∀{H K},Ak (r! L (n+80)) Il [Mb,S lM] H K=K (.tup [.agg BG,Bo false]):=λ{H K}=>FQ (A8x (n:=n+15) f) i;have cM:∀{H K},Ak (r! L (n+80)) Kt [Mb] H K=K (Gp [lM]):=λ{H K}=>FQ (A2g (n:=n+15) f) f4;have cH:∀{H K},Ak (r! L (n+80)) Nc [Mb] H K=K (Gp [lD]):=λ{H K}=>FQ (A8v (n:=n+15) f) f4;have af:∀{H K},Ak (r! L (n+80)) ED [Mb,S lC] H K=K (Gp [lB,lA]):=λ{H K}=>FQ (B6x (n:=n+15) f) i;have ag:∀{H K},Ak (r! L (n+80)) ED [Mb,S lD] H K=K (Gp [lB,lC,lA]):=λ{H K}=>FQ (B6w (n:=n+15) f) i;have cV:∀{H K},Ak (r! L (n+80)) Hr [Mb] H K=K (Bo true):=λ{H K}=>FQ (A8r (n:=n+15) f) f4;have ak:∀{H K},Ak (r! L (n+80)) Hr [A5v] H K=K (Bo false):=λ{H K}=>FQ (A4t (n:=n+15) f) (Az (sX.fx H) Bq);have cS:∀{H K},Ak (r! L (n+80)) KH [.agg Xr.cs,.agg Xr.cs] H K=K (Bo true):=λ{H K}=>FQ (B3q (n:=n+15)) (Az (A0r (D:=depth-3)) (Az (A0r (D:=depth-3)) Bq));have s1:∀{H K},Ak (r! L (n+80)) BV [Gp [lM],Gp [lM]] H K=K (Bo true):=λ{H K}=>FQ (B6v (n:=n+78)) m;have s2:∀{H K},Ak (r! L (n+80)) BV [Gp [lD],Gp [lD]] H K=K (Bo true):=λ{H K}=>FQ (B6u (n:=n+78)) m;have s3:∀{H K},Ak (r! L (n+80)) BV [Gp [lB,lA],Gp [lB,lA]] H K=K (Bo true):=λ{H K}=>FQ (B6t (n:=n+78)) m;have s4:∀{H K},Ak (r! L (n+80)) BV [Gp [lB,lA,lC,lD],Gp [lB,lA,lC,lD]] H K=K (Bo true):=λ{H K}=>FQ (B6s (n:=n+78)) m;have P:gr Y?=[(lD,cE uP),(lC,cE Xr),(lB,cE Vu),(lA,cE Jg)]:=by simp[gr,Y?,Wp,Wo,iT,sA]
 have Q:∀c∈Y?,c.ps.length<100:=λc hc=>by have:=B5a (kS.ok c hc);omega
 have cR:∀{s:Ha}{H K},Ak (r! L (n+80)) XA1 [Mb,S s] H K=K (Bo (rz [(lD,cE uP),(lC,cE Xr),(lB,cE Vu),(lA,cE Jg)] 4 s)):=λ{s H K}=>by
  have:=I! (L:=L) (n:=n) (s:=s) kS f Q Ta;rw[P]at this;exact AX this i
 have r1:rz [(lD,cE uP),(lC,cE Xr),(lB,cE Vu),(lA,cE Jg)] 4 lC=true:=by decide
 have r2:rz [(lD,cE uP),(lC,cE Xr),(lB,cE Vu),(lA,cE Jg)] 4 lD=false:=by decide
 have cR1:∀{H K},Ak (r! L (n+80)) XA1 [Mb,S lC] H K=K (Bo true):=λ{H K}=>by rw[cR,r1]
 have cR2:∀{H K},Ak (r! L (n+80)) XA1 [Mb,S lD] H K=K (Bo false):=λ{H K}=>by rw[cR,r2]
 clear cR r1 r2 P Q f4 i m;rw[kC];unfold SS DV Tg B3 EU Aq JR EV;obtain⟨H1,e1,C,w1, -⟩:=DN (e:=Ae) (zs:=BG) (vs:=Jg.cs) EH BI;rw[c1,AW (cs:=BG) rfl,Bx (cs:=BG) (vs:=Jg.cs) (Av (by simp)) BI rfl IM,<-e1];generalize Ay []=a at C;obtain⟨H2,e2,x,w2,k2⟩:=DN (e:=Ae) (zs:=BG) (vs:=Vu.cs) w1 BI;rw[c2,AW (cs:=BG) rfl,Bx (cs:=BG) (vs:=Vu.cs) (Av (by simp)) BI rfl IM,<-e2];have F:=(k2 _ _ C).1;generalize Ay H1=b at x;clear e1 e2 k2 C w1;rw[AR rfl BI.symm F,AR rfl BI.symm x,C09,cI2];simp only[ix0,ix1,IK,mmT,mmF,B4];obtain⟨H3,e3,A,w3,k3⟩:=DN (e:=Ae) (zs:=BG) (vs:=Xr.cs) w2 BI;rw[cC,AW (cs:=BG) rfl,Bx (cs:=BG) (vs:=Xr.cs) (Av (by simp)) BI rfl IM,<-e3];have X:=(k3 _ _ F).1;have aa:=(k3 _ _ x).1;generalize Ay H2=c at A;clear e3 k3 F x w2;rw[cP,AR rfl BI.symm A,aj,B8u,cD];obtain⟨H4,e4,J,w4,k4⟩:=DN (e:=Ae) (zs:=BG) (vs:=uP.cs) w3 BI;rw[AW (cs:=BG) rfl,Bx (cs:=BG) (vs:=uP.cs) (Av (by simp)) BI rfl IM,<-e4];have Y:=(k4 _ _ X).1;have ab:=(k4 _ _ aa).1;have ac:=(k4 _ _ A).1;generalize Ay H3=d at J;clear e4 k4 X aa A w3;obtain⟨H5,e5,B,w5,R⟩:=DN (e:=Ae) (zs:=BG) (vs:=Vu.cs) w4 BI;rw[c2,AW (cs:=BG) rfl,Bx (cs:=BG) (vs:=Vu.cs) (Av (by simp)) BI rfl IM,<-e5];obtain⟨j,na⟩:=R _ _ Y;obtain⟨t,nb⟩:=R _ _ ab;obtain⟨u,nc⟩:=R _ _ ac;obtain⟨w,nd⟩:=R _ _ J;generalize Ay H4=e at B na nb nc nd;clear e5 R Y ab ac J w4;have eE:Vu.cs.set 5 (.v (.int .i64 9))=wA.cs:=rfl;rw[Wl,D9 B (by rw[BI];decide) rfl rfl rfl,eE];have M:=A4 (q:=true) (e:=Ae) (cs:=wA.cs) B;rw[<-Aj (y:=.cells true Ae wA.cs) na]at j;rw[<-Aj (y:=.cells true Ae wA.cs) nb]at t;rw[<-Aj (y:=.cells true Ae wA.cs) nc]at u;rw[<-Aj (y:=.cells true Ae wA.cs) nd]at w;have w6:=BF (r:=e) (y:=.cells true Ae wA.cs) w5;generalize upd H5 e (c_ Ae wA.cs)=H6 at M j t u w w6;clear B na nb nc nd w5;rw[AR rfl BI.symm w,AR rfl BI.symm u,AR rfl BI.symm t,AR rfl BI.symm j,bf4,cI4,cO,CO,CN,AR rfl BI.symm j,AR rfl BI.symm t,AR rfl BI.symm M,bf3,cF,ix1,IK,ah,CO,CN];obtain⟨H7,e7,N,w7,k7⟩:=DN (e:=Ae) (zs:=BG) (vs:=Xr.cs) w6 BI;rw[AW (cs:=BG) rfl,Bx (cs:=BG) (vs:=Xr.cs) (Av (by simp)) BI rfl IM,<-e7];have Z:=(k7 _ _ j).1;have ad:=(k7 _ _ u).1;have rd7:=(k7 _ _ w).1;generalize Ay H6=g at N;clear e7 k7 j t u w M w6;obtain⟨O,e8, -,w8,V⟩:=DN (e:=Ae) (zs:=BG) (vs:=BG) w7 rfl;rw[ai,CO,CN,AW (cs:=BG) rfl,Bx (cs:=BG) (vs:=BG) (Av (by simp)) rfl rfl rfl,<-e8];have am:=(V _ _ Z).1;have ae:=(V _ _ ad).1;have ao:=(V _ _ rd7).1;have ap:=(V _ _ N).1;generalize Ay H7=h;clear e8 V Z ad rd7 N w7 w8;have dA:∀{K},A9 Ac (.ptr a 0 0) O K=K (.agg Jg.cs):=λ{K}=>AR rfl BI.symm am;have dC:∀{K},A9 Ac (.ptr c 0 0) O K=K (.agg Xr.cs):=λ{K}=>AR rfl BI.symm ae;have dF:∀{K},A9 Ac (.ptr g 0 0) O K=K (.agg Xr.cs):=λ{K}=>AR rfl BI.symm ap;have pC:∀{K},A9 Ad (.ptr c 31 0) O K=K (Gp [lA,lB]):=λ{K}=>AH (p:=31) rfl ae (show 31<68 by decide);have pD:∀{K},A9 Ad (.ptr d 31 0) O K=K (Gp [lC,lM]):=λ{K}=>AH (p:=31) rfl ao (show 31<68 by decide);simp only[Wl,pC,ln2,B9j,gT,BJ,pD,T2,lnp,B9k];rw[B6];simp only[cM,C08,s1,B4,gT,BJ,cH,ix0,ix1,IK,s2,WT,af,B8u,s3,ag,ln3,B9H,B9I,C07,s4,cR1,cR2,ntF,sK,cV,dA,C0a,ak,dF,dC,cS];exact hK _ _ (λb=>⟨false,λK=>by kernel_rfl⟩)
end
section
variable{L n:Nat}
section
variable{gs ls:dn}{s x:Cu}
end
section
variable{H:Hp}{K:KV}{x0:Af}{l:List Ld}
def fU{K:K2}:Bi B5 (jM l) K=K (I l.length):=by
 unfold jM;by_cases h:l=[]
 ·subst h;exact id rfl
 ·rw[Co h];exact id rfl
def sH{i:Nat}(h:i<l.length){K:K2}:Cy B5 (jM l) (I i) K=K (.iptr (Sg l[i])):=by
 unfold jM;rw[Co (λe=>by subst e;simp at h)];exact ZE (f:=Sg) rfl (λ_=>rfl) h
def A6q{p:Ld}{K:K2}:A9 AS (.iptr (Sg p)) H K=K (.agg (Sg p)):=r_ rfl
end
section
variable{gs:dn}{K:KV}{x0:Af}
def A9U{nm:Oe->NK}:∀(l pre:List Oe)(N:Nat),pre.length+l.length<=N->(yH nm pre l).length<=l.length*N:=by
 intro l
 induction l with
 |nil=>intro pre N _;exact xQ _
 |cons x l ih=>
  intro pre N h;rw[yG,E6,WV];have h1:(pP nm pre (nm x)).length<=pre.length:=l2v _ _;have h2:=ih (pre++[x]) N (by simp at h⊢;omega);rw[Kg]at h⊢;rw[B!];omega
def A1C:Ac.bytes<=100000:=by decide
end
end
section
variable{r:Nat}
variable{L n:Nat}
section
variable{gs:dn}{c:Cd}{p:Ld}{d:Int}
def Cd.dy(d:Int):Cd->Cd
 |.re b u=>.re ⟨⟨b.m.lab,b.m.num,b.m.itm,b.m.tim,d⟩,b.c,b.r,b.ts⟩ u
 |.co b p ps t=>.co ⟨⟨b.m.lab,b.m.num,b.m.itm,b.m.tim,d⟩,b.c,b.r,b.ts⟩ p ps t
def B8e(c:Cd)(d:Int):c.cs.set 5 (I d)=(c.dy d).cs:=by
 match c with
 |.re b u=>rfl
 |.co b p ps none=>rfl
 |.co b p ps (some (k,vd))=>rfl
def B8d(c:Cd)(d:Int):Pm (c.dy d)=Pm c:=by cases c<;>rfl
def B8b(c:Cd)(d:Int):(c.dy d).ps=c.ps:=by cases c<;>rfl
def A6B{b:CB}(h:b.Ok)(k:0<=d)(h1:d<=100000):CB.Ok ⟨⟨b.m.lab,b.m.num,b.m.itm,b.m.tim,d⟩,b.c,b.r,b.ts⟩:=by
 obtain⟨⟨a1,a2,a,e,f,g,i,j,_,_⟩,c1,c2,r1,r2,ts⟩:=h;exact⟨⟨a1,a2,a,e,f,g,i,j,k,h1⟩,c1,c2,r1,r2,ts⟩
def B8c(h:c.Ok)(a:0<=d)(h1:d<=100000):(c.dy d).Ok:=by
 match c,h with
 |.re b u,h=>exact⟨A6B h.1 a h1,h.2⟩
 |.co b p ps t,h=>exact⟨A6B h.1 a h1,h.2⟩
def go9(f:GOk gs)(hc:c.Ok)(hn:c.ps.Nodup)(j:c.id∉gs.map Cd.id):GO9 (gs++[c]):=by
 refine⟨λx g=>?_,λx g=>?_,?_,by have:=f.len;simp;omega⟩
 ·rcases VP.1 g with h|h
  ·exact f.ok x h
  ·rw[eX.1 h];exact hc
 ·rcases VP.1 g with h|h
  ·exact f.nd x h
  ·rw[eX.1 h];exact hn
 ·rw[UT];refine l2w.2 ⟨f.ids,by simp,λa i b hb=>?_⟩;rw[List.map_singleton,eX]at hb;subst hb;exact λe=>j (e▸i)
def A?(gs:dn)(c:Cd):Nat:=(gs.filter λd=>Pm d=Pm c).length
def B4E(hn:((gs++[c]).map Cd.id).Nodup)(i:p∈Ee (gs++[c])):p∈Ee gs↔¬(p.1=c.id\/p.2=c.id):=by
 have a:(gs.map Cd.id).Nodup:=by rw[UT]at hn;exact(l2w.1 hn).1
 have hc:c.id∉gs.map Cd.id:=λh=>by
  rw[UT]at hn;exact(l2w.1 hn).2.2 _ h c.id (by simp) rfl
 constructor
 ·intro h;obtain⟨_,x,j,y,k,f,g,_⟩:=(ML a).1 h;rintro(e|e)
  ·exact hc (US.2 ⟨x,j,f.trans e⟩)
  ·exact hc (US.2 ⟨y,k,g.trans e⟩)
 ·intro h;rcases VP.1 ((Va hn).mem_iff.1 i) with h1|h1
  ·exact h1
  ·exfalso;obtain⟨x,_,rfl⟩:=US.1 h1;apply h;unfold mkP;split
   ·exact .inr rfl
   ·exact .inl rfl
def B4G(hn:((gs++[c]).map Cd.id).Nodup):(Ee (gs++[c])).countP (λp=>!decide (p∈Ee gs))=A? gs c:=by
 have i:(gs.map Cd.id).Nodup:=by rw[UT]at hn;exact(l2w.1 hn).1
 have hc:c.id∉gs.map Cd.id:=λh=>by
  rw[UT]at hn;exact(l2w.1 hn).2.2 _ h c.id (by simp) rfl
 rw[(Va hn).countP_eq,List.countP_append];have h1:(Ee gs).countP (λp=>!decide (p∈Ee gs))=0:=by
  rw[List.countP_eq_zero];intro a g;simp[g]
 have h2:((gs.filter λd=>Pm d=Pm c).map λd=>mkP d.id c.id).countP (λp=>!decide (p∈Ee gs))=A? gs c:=by
  rw[List.countP_eq_length.2,WV];rfl;intro a g;obtain⟨x,_,rfl⟩:=US.1 g;have:mkP x.id c.id∉Ee gs:=λh=>by
   obtain⟨_,y,j,z,hz,e,f,_⟩:=(ML i).1 h;unfold mkP at e f;split at e
   ·exact hc (US.2 ⟨z,hz,by rename_i h;rw[CJ h]at f;exact f⟩)
   ·exact hc (US.2 ⟨y,j,e⟩)
  simp[this]
 omega
def B4F(hn:((gs++[c]).map Cd.id).Nodup):(Ee (gs++[c])).length=(Ee gs).length+A? gs c:=by
 rw[(Va hn).length_eq,E6,WV];rfl
def B4I{A:List Ld}(hn:A.Nodup)(g:A.Pairwise Mu){i j:Nat}(a:i<j)(f:j<A.length):A[i].1<A[j].1\/(A[i].1=A[j].1/\A[i].2<A[j].2):=by
 have h1:=l20.1 g i j (by omega) f a;have h2:=l20.1 hn i j (by omega) f a;rcases h1 with h|⟨h,k⟩
 ·exact .inl h
 ·exact .inr ⟨h,Mn k λe=>h2 (Prod.ext h e)⟩
end
section
variable{K:K2}{H:Hp}{p q:Ld}{s u:Cu}
def A0P(a b:Cu):(a==b)=decide (a=b):=by
 by_cases h:a=b<;>simp[h]
def qR:Al Ag .gtr (S s) (S u) K=K (Bo (!(decide (s<u)||decide (s=u)))):=by
 have:Al Ag .gtr (S s) (S u) K=bB (!(ltB s u||yO s u)) K:=rfl;rw[this,kI,LO,bytesLess_eq,JB,A0P]
def B84:Ts Ng .eql (.agg (Sg p)) (.agg (Sg q)) K=K (Bo (decide (p=q))):=by
 have:Ts Ng .eql (.agg (Sg p)) (.agg (Sg q)) K=bB (yO p.1 q.1&&(yO p.2 q.2&&true)) K:=rfl;rw[this,LO,LO,JB]
 congr 3
 obtain⟨a,b⟩:=p;obtain⟨e,f⟩:=q;simp[Prod.mk.injEq,A0P]
def B0B:Cy AS (.iptr (Sg p)) (.v (.int .i64 0)) K=K (.iptr [S p.1]):=id rfl
def B0A:Cy AS (.iptr (Sg p)) (.v (.int .i64 1)) K=K (.iptr [S p.2]):=id rfl
def pL:Cy AS (.ptr r 0 0) (.v (.int .i64 0)) K=K (.ptr r 0 0):=id rfl
def pK:Cy AS (.ptr r 0 0) (.v (.int .i64 1)) K=K (.ptr r 1 0):=id rfl
end
end
section
variable{F:K2}
variable{L n:Nat}
section
variable{x:Af}{R:Rt}{K:KV}{H:Hp}{r M:Nat}{p:Ld}{A B:List Ld}{gs:dn}{c:Cd}{a1 a2 a3 a4 a5 a6 a7 a8 a9 b1 b2 b3 b4 b5 b6 b7:AV}
theorem A5R{k:AV->AV->AV->AV->AV->AV->AV->AV->AV->AV->AV->AV->KV}(a:Ao H r=some (c_ Ct (Sg p)))(e:B.length<1000)(d:k a1 a2 a3 a4 (jM B) a6 a7 a8 (.ptr r 0 0) (Bo (decide (p∈B))) (I B.length) b1 b2 H=x):
 ∀(f i:Nat)(q:Bool),q=decide (p∈B.take i)->B.length<f+i->i<=B.length->HD L R K k f a1 a2 a3 a4 (jM B) a6 a7 a8 (.ptr r 0 0) (Bo q) (I i) b1 b2 H=x
 |0,i,q,hq,h1,h2=>by omega
 |f+1,i,q,hq,h1,h2=>by
  rw[TP];unfold JK EU Aq JR;rw[fU];by_cases h:i<B.length
  ·rw[FZ (by omega),Dg];have j:∀{F:K2},A9 AS (.ptr r 0 0) H F=F (.agg (Sg p)):=λ{F}=>AR rfl rfl a;have g:decide (p∈B.take (i+1))=(q||decide (B[i]=p)):=by
    rw[hq,tE h];simp only[VP,eX];by_cases h1:p∈B.take i
    ·simp[h1]
    ·by_cases h2:B[i]=p
     ·simp[h2]
     ·simp[h1,h2,Ne.symm h2]
   cases q with
   |true=>
    simp only[gFT,BJ,B4,gU,WT];rw[Dc (by omega)];exact A5R a e d f (i+1) true (by rw[g];rfl) (by omega) (by omega)
   |false=>
    simp only[gT,BJ,B4,sH h,A6q,j,B84,T2];rw[Dc (by omega)];exact A5R a e d f (i+1) _ (by rw[g];rfl) (by omega) (by omega)
  ·rw[Ga (by omega),B6];have:i=B.length:=by omega
   subst this;rw[mM]at hq;rw[hq];exact d
def B9M(c:Cd):c.cs.getD 1 .dk=I (Pm c).1:=by
 match c with
 |.re b u=>rfl
 |.co b p ps none=>rfl
 |.co b p ps (some (k,vd))=>rfl
def B9L(c:Cd):c.cs.getD 2 .dk=I (Pm c).2:=by
 match c with
 |.re b u=>rfl
 |.co b p ps none=>rfl
 |.co b p ps (some (k,vd))=>rfl
def B8i(c:Cd):A9 Ab (.iptr (CL 1 c.cs)) H F=F (I (Pm c).1):=by
 match c with
 |.re b u=>exact id rfl
 |.co b p ps none=>exact id rfl
 |.co b p ps (some (k,vd))=>exact id rfl
def B8h(c:Cd):A9 Ab (.iptr (CL 2 c.cs)) H F=F (I (Pm c).2):=by
 match c with
 |.re b u=>exact id rfl
 |.co b p ps none=>exact id rfl
 |.co b p ps (some (k,vd))=>exact id rfl
def A6u{j:Nat}{cs:Is}:CC j (.iptr cs) F=F (.iptr (CL j cs)):=id rfl
def A4k{d:Cd}:A? (gs++[d]) c=A? gs c+(if Pm d=Pm c then 1 else 0):=by
 unfold A?;rw[List.filter_append,E6];by_cases h:Pm d=Pm c<;>simp[h]
def B85{z w:Int}{ty:TI}:Al ty .eql (I z) (I w) F=F (Bo (decide (z=w))):=CP
theorem B0T{a:AV}{k:AV->AV->AV->AV->KV}(j:LA gs a)(s:gs.length<1000)(m:Ao H r=some (c_ Ae c.cs))(q:k a1 a5 a6 a7 (I (A? gs c)) H=x):
 ∀(f i:Nat),gs.length<f+i->i<=gs.length->JJ L R K k f a1 a (.ptr r 0 0) a4 a5 a6 a7 b1 b2 b3 b4 (I (A? (gs.take i) c)) (I i) H=x
 |0,i,h1,h2=>by omega
 |f+1,i,h1,h2=>by
  rw[TR];unfold JM Sb B3 Aq EV;rw[j.len];by_cases h:i<gs.length
  ·rw[FZ (by omega),Dg];have r1:∀{F:K2},A9 Ab (.ptr r 1 0) H F=F (I (Pm c).1):=λ{F}=>by
    rw[AH (p:=1) rfl m (by rw[BI];decide),B9M]
   have r2:∀{F:K2},A9 Ab (.ptr r 2 0) H F=F (I (Pm c).2):=λ{F}=>by
    rw[AH (p:=2) rfl m (by rw[BI];decide),B9L]
   have f1:∀{F:K2},CC 1 (.ptr r 0 0) F=F (.ptr r 1 0):=λ{F}=>fA;have f2:∀{F:K2},CC 2 (.ptr r 0 0) F=F (.ptr r 2 0):=λ{F}=>fA;have t:A? (gs.take (i+1)) c=A? (gs.take i) c+(if Pm gs[i]=Pm c then 1 else 0):=by
    rw[tE h,A4k]
   have hb:A? (gs.take i) c<=i:=by
    unfold A?;exact WW (l2v _ _) (by rw[xS];omega)
   have ih:=B0T j s m q f (i+1) (by omega) (by omega);rw[t]at ih;simp only[Ca,j.ia h,A6u,B4,B8i,f1,r1,B85];by_cases d:(Pm gs[i]).1=(Pm c).1
   ·rw[Iz d];simp only[gT,BJ,j.ia h,A6u,B4,B8h,f2,r2,B85,WT];by_cases g:(Pm gs[i]).2=(Pm c).2
    ·rw[Iz g,Dg,Dc (by omega),Dc (by omega)];rw[CJ (Prod.ext d g)]at ih;exact ih
    ·rw[Iy g,B6,Dc (by omega)];rw[Co (λe=>g (congrArg Prod.snd e))]at ih;exact ih
   ·rw[Iy d];simp only[uU,gU,BJ,B4,T2];rw[B6,Dc (by omega)];rw[Co (λe=>d (congrArg Prod.fst e))]at ih;exact ih
  ·rw[Ga (by omega),B6];have:i=gs.length:=by omega
   subst this;rw[mM];exact q
abbrev nwN(A B:List Ld):Nat:=A.countP λp=>!decide (p∈B)
def A5o:nwN (A++[p]) B=nwN A B+(if p∈B then 0 else 1):=by
 unfold nwN;rw[List.countP_append];by_cases h:p∈B<;>simp[h]
theorem B0S{id0:Cu}{row:Row}{k:AV->AV->AV->AV->AV->AV->AV->AV->AV->AV->KV}(P:A.Nodup)(X:A.Pairwise Mu)(w:∀p∈A,p.1<p.2)(g:∀p∈A,p∈B↔¬(p.1=id0\/p.2=id0))(C:A.length<1000)(t:B.length<1000)(hL:1000<L)(Y:∀w1 O w3 H,Wf H->Ao H r=some row->k a1 a2 a3 (S id0) (jM B) (jM A) (I (nwN A B)) (I A.length) w1 O w3 H=x):
 ∀(f i:Nat)(b1 b2 b3 b4 b5:AV)(H:Hp),A.length<f+i->i<=A.length->Wf H->Ao H r=some row->JI L R K k f a1 a2 a3 (S id0) (jM B) (jM A) (I (nwN (A.take i) B)) (I i) b1 b2 b3 b4 b5 H=x
 |0,i,b1,b2,b3,b4,b5,H,h1,h2,wf,hr=>by omega
 |f+1,i,b1,b2,b3,b4,b5,H,h1,h2,wf,hr=>by
  rw[TQ];unfold JL GI B3 EU Aq JR EV;rw[fU];by_cases h:i<A.length
  ·have V:=Na h;rw[FZ (by omega),Dg,sH h,A6q];rw[AW (cs:=[S [],S []]) rfl,Bx (cs:=[S [],S []]) (vs:=Sg A[i]) (Av (by simp)) rfl rfl rfl];obtain⟨q,e2,j,O,J⟩:=DN (e:=Ct) (zs:=[S [],S []]) (vs:=Sg A[i]) wf rfl;rw[<-e2];have D:=(J _ _ hr).1;generalize Ay H=u at*;have q0:∀{F:K2},A9 Ag (.ptr u 0 0) q F=F (S A[i].1):=λ{F}=>AH (p:=0) rfl j (show 0<2 by decide);have q1:∀{F:K2},A9 Ag (.ptr u 1 0) q F=F (S A[i].2):=λ{F}=>AH (p:=1) rfl j (show 1<2 by decide);have hb:nwN (A.take i) B<=i:=WW List.countP_le_length (by rw[xS];omega);have ht:nwN (A.take (i+1)) B=nwN (A.take i) B+(if A[i]∈B then 0 else 1):=by
    rw[tE h,A5o]
   have ih:=λc1 c2 c3 c4 c5=>B0S P X w g C t hL Y f (i+1) c1 c2 c3 c4 c5 q (by omega) (by omega) O D;have y:=g _ V;rw[ht]at ih;have Z:∀{s:Cu}{F:K2},A9 Ag (.iptr [S s]) q F=F (S s):=λ{s F}=>IK;simp only[pL,pK,q0,q1,B4,qS];rw[Iz (w _ V)];simp only[Bool.not_true,gT,BJ,B4,DE,T2];have N:∀{F:AV->AV->AV->AV->AV->AV->AV->AV->AV->AV->AV->AV->KV},F a1 a2 a3 (S id0) (jM B) (jM A) (I (nwN (A.take i) B)) (I i) (.ptr u 0 0) (Bo (decide (A[i]∈B))) (I B.length) b4 b5 q=x->
    HD L R K F L a1 a2 a3 (S id0) (jM B) (jM A) (I (nwN (A.take i) B)) (I i) (.ptr u 0 0) (.v (.bool false)) (.v (.int .i64 0)) b4 b5 q=x:=λhF=>A5R j t hF L 0 false (by simp) (by omega) (by omega)
   have Q:0<i->i-1<A.length:=λ_=>by omega
   have hc:i=0\/(∃a:0<i,A[i-1].1<A[i].1)\/∃a:0<i,A[i-1].1=A[i].1/\A[i-1].2<A[i].2:=by
    by_cases a:i=0
    ·exact .inl a
    ·rcases B4I P X (show i-1<i by omega) h with d|d
     ·exact .inr (.inl ⟨by omega,d⟩)
     ·exact .inr (.inr ⟨by omega,d⟩)
   rcases hc with a|⟨a,d⟩|⟨a,d,h4⟩
   case' inl=>
    rw[Iy (by omega)];simp only[uU,gT,gU,BJ,B4,T2,B6,Ca]
   case' inr.inl=>
    rw[Iz (by omega)];simp only[uU,gT,gU,BJ,B4,T2,WT,ZQ a (show i<1000000000 by omega),sH (Q a),B0B,B0A,pL,pK,Z,q0,q1,qR,Iz d,Bool.true_or,Bool.not_true,GK,Iy (λe:A[i-1].1=A[i].1=>De _ (e▸d)),B6,Ca]
   case' inr.inr=>
    rw[Iz (by omega)];simp only[uU,gT,gU,BJ,B4,T2,WT,ZQ a (show i<1000000000 by omega),sH (Q a),B0B,B0A,pL,pK,Z,q0,q1,qR,Iz d,Iz h4,Bool.or_true,Bool.not_true,GK,qS,B6,Ca]
   all_goals
    refine N ?_;by_cases hm:A[i]∈B
    ·have hz:=y.1 hm;rw[Iz hm,MQ,Bool.not_true,B6];simp only[pL,pK,q0,q1,GK,Iy (λe=>hz (.inl e)),Iy (λe=>hz (.inr e)),gT,BJ,T2,B4Q];rw[show(true==false)=false from rfl,B6,Dc (by omega)];rw[CJ hm]at ih;exact ih _ _ _ _ _
    ·have hz:A[i].1=id0\/A[i].2=id0:=l2x λe=>hm (y.2 e);rw[Iy hm,MQ,Bool.not_false,Dg,Dc (by omega)];rw[Co hm]at ih;by_cases m:A[i].1=id0
     ·simp only[pL,pK,q0,q1,GK,Iz m,gFT,gU,BJ,WT,B4Q];rw[show(false==true)=false from rfl,B6,Dc (by omega)];exact ih _ _ _ _ _
     ·simp only[pL,pK,q0,q1,GK,Iy m,Iz (hz.resolve_left m),gT,BJ,T2,B4Q];rw[show(false==true)=false from rfl,B6,Dc (by omega)];exact ih _ _ _ _ _
  ·rw[Ga (by omega),B6];have:i=A.length:=by omega
   subst this;rw[mM];exact Y _ _ _ _ wf hr
end
end
section
variable{L n:Nat}
section
variable{H:Hp}{K:K2}{gs:dn}{c:Cd}
def C0b:Qa 68 Ac 1 [(0,68,.agg c.cs)] K=K (.list 1 c.cs):=by
 have d:Qa 68 Ac 1 [(0,68,.agg c.cs)] K=Gy (.agg c.cs) λvs=>HB vs 0 λn=>ck (Nat.beq n 68) (ck (Qb vs) (D8 0 vs BG λa=>ck (a.all (tZ 2)) (K (.list 1 a)))):=rfl;have hc:Br (.agg c.cs)=c.cs:=rfl;rw[d,CH,hc,Cz,BI,FV,IM];show D8 0 c.cs BG _=_;rw[Ii _ _ _ _ (by rw[BI];decide),Mp _ _ (by rw[BI];rfl),B56 (p:=tZ 2) c (λ_=>rfl) (λ_=>rfl) rfl (λ_ _ _ _=>rfl)];rfl
end
def vM{xs:List Y7}{a0:AV}{a day:Int}{K:KV}(hL:200000<L)(hx:XA xs a0)(ah:∀y∈xs,y.Ok)(hf:J8 a)(hd:J8 day)(Z:∀H0,K (Bo true) H0=some (Bo true,[])):(r! L (n+82)).call PQ [a0,I a,I day] [] K=some (Bo true,[]):=by
 rw[UN];unfold KC GI B3 Aq EV;obtain⟨k,N⟩:=A5O xs (min 8 xs.length) (by omega);have aj:Fx true depth a0 a0 [] false:=by
  rcases hx with rfl|⟨_,rfl⟩
  ·exact Qr
  ·exact Er
 rw[AX (B3p (n:=n) (by omega)) Bq,HF (A4U (n:=n+16) (by omega) hx ah) (Az aj Bq)];generalize XA6 xs (min 8 xs.length)=gs at k N;have m:=A19 gs;have h8:=k.len;have M:∀H,Qi true depth [sV gs] [sV gs] H false:=λH=>Az (m.fx H) Bq;have k1:∀{H:Hp}{F:K2},Ak (r! L (n+81)) Ew [sV gs] H F=F (jM (Ee gs)):=λ{H F}=>AX (A0K (n:=n+1) k.o9 (by omega) m) (M H);have X:∀{K:K2},Al Ab .eql (I (gs.length:Int)) (.v (.int .i64 0)) K=K (Bo (decide (gs.length=0))):=λ{K}=>by
  rw[CP]
  congr 3
  simp
 rw[m.len,X];by_cases Y:gs.length=0
 ·have:=tC Y;subst this;have e0:∀{F:K2},Al Ab .eql (I (([]:List Ld).length:Int)) (.v (.int .i64 0)) F=F (Bo true):=λ{F}=>B86;rw[Iz Y,Dg];have ef:Ee []=[]:=rfl;simp only[gT,BJ,k1,fU,ef,e0,WT];exact Z _
 rw[Iy Y,B6,m.len,wW (n:=n+80) hf (by omega) (by omega)];obtain⟨p1,p2⟩:=Ed (c:=a) (n:=(gs.length:Int)) (by omega);generalize pk a gs.length=pz at p1 p2;obtain⟨A,rfl⟩:∃A:Nat,pz=(A:Int):=⟨pz.toNat,by omega⟩
 have hA:A<gs.length:=by omega
 rw[m.ia hA,lR];have s:=Na hA;generalize gs[A]=i at s;rw[AW (cs:=BG) rfl,Bx (cs:=BG) (vs:=i.cs) (Av (by simp)) BI rfl IM];obtain⟨H1,e1,u,w1,_⟩:=DN (e:=Ae) (zs:=BG) (vs:=i.cs) EH BI;rw[<-e1,wW (n:=n+80) hd (by omega) (by omega)];obtain⟨d1,d2⟩:=Ed (c:=day) (n:=100001) (by omega);generalize pk day 100001=d at d1 d2;generalize Ay ([]:Hp)=r0 at*;have f5:∀{F:K2},CC 5 (.ptr r0 0 0) F=F (.ptr r0 5 0):=λ{F}=>fA;rw[f5,D9 (p:=5) u (by rw[BI];decide) rfl rfl rfl,B8e];have g:Ao (upd H1 r0 (c_ Ae (i.dy d).cs)) r0=some (c_ Ae (i.dy d).cs):=A4 u;have w2:=BF (r:=r0) (y:=.cells true Ae (i.dy d).cs) w1;generalize upd H1 r0 (c_ Ae (i.dy d).cs)=f at g w2;have J:(i.dy d).Ok:=B8c (k.ok _ s) d1 (by omega);have C:(i.dy d).ps.Nodup:=by rw[B8b];exact k.nd _ s
 have ap:=B8d i d;generalize i.dy d=c at*;rw[AR rfl BI.symm g,AX (A0o (n:=n+18) (by omega) J C) (Yw f)];rw[AX (A4Z (n:=n+16) (λc hc=>⟨k.ok c hc,k.nd c hc⟩) (by omega) (by omega) m) (M f),k1];have af:∀{F:K2},Ak (r! L (n+81)) To [Gp (gs.map Cd.id),S c.id] f F=F (Bo (decide (c.id∈gs.map Cd.id))):=λ{F}=>AX (B94 (n:=n+79) (QO _) (by rw[WV];omega) (by omega)) (Az A9a (Az (q:=false) Er Bq));rw[af];by_cases hi:c.id∈gs.map Cd.id
 ·rw[Iz hi,Dg];exact Z _
 rw[Iy hi,B6];have t:=go9 k J C hi;rw[C06];simp only[BJ];have ai:AT ((Ay f,Row.cells false Ae [])::f) Ae 68 (.sl 68 (Ay f) 0 0) 0 []:=.inr ⟨Ay f,false,rfl,Av (by simp),rfl⟩;have P:∀K:Nat->Is->Af,TU ((Ay f,Row.cells false Ae [])::f) (sV gs) K=K gs.length (gs.flatMap Cd.cs):=λK=>by
  cases gs<;>exact id rfl
 obtain⟨v1,H3,g1,g2,g3,g4⟩:=apt (ie:=Ac) (i2:=AG) ai P (A9Q (λ_=>BI) gs) (A3b gs) (by decide) rfl (by cases gs<;>rfl)
  (WW (Nat.mul_le_mul (show 0+gs.length<=8 by omega) A1C) (by decide)) (by omega)
 have am:=w2.lt g;have R:=Bw (x:=.cells false Ae []) w2;have w3:=g4.wf R;have j:=AQ (x:=.cells false Ae []) am g;have w:=g4.keep R r0 _ j (λhu=>by
  obtain⟨_,_,_,hh⟩:=hu;injection hh with _ hh
  omega)
 rw[g1];simp only[BJ];rw[Le,l30]at g2;have ld2:∀{F:K2},A9 Ac (.ptr r0 0 0) f F=F (.agg c.cs):=λ{F}=>AR rfl BI.symm g;have Q:∀{F:K2},A9 Ac (.ptr r0 0 0) ((Ay f,Row.cells false Ae [])::f) F=F (.agg c.cs):=λ{F}=>AR rfl BI.symm j;have ak:∀{F:K2},A9 Ac (.ptr r0 0 0) H3 F=F (.agg c.cs):=λ{F}=>AR rfl BI.symm w;have O:∀K:Nat->Is->Af,TU H3 (.list 1 c.cs) K=K 1 c.cs:=λK=>id rfl;obtain⟨v2,V,m1,m2,m3,m4⟩:=apt (ie:=Ac) (i2:=AG) g2 O (by rw[BI]) IM (by decide) rfl rfl
  (WW (Nat.mul_le_mul (show gs.length+1<=9 by omega) A1C) (by decide)) (by omega)
 have w4:=m4.wf w3;have ab:=m4.keep w3 r0 _ w (λhu=>by
  have:=g3 _ hu;have e:Ay ((Ay f,Row.cells false Ae [])::f)=Ay f+1:=rfl;omega)
 rw[ak];simp only[B4,C0b,m1,BJ];have aa:=A19 (gs++[c]);have ao:AT V Ae 68 v2 (gs++[c]).length ((gs++[c]).flatMap Cd.cs):=by
  rw[E6,l2g,List.flatMap_singleton];exact m2
 obtain⟨qb,ae⟩:=A5U (D:=depth-1) ao (λe=>by simp at e);have k9:∀{F:K2},Ak (r! L (n+81)) Ew [v2] V F=F (jM (Ee (gs++[c]))):=λ{F}=>AX (A0K (n:=n+1) t (by omega) aa) (Az ae Bq);simp only[k9,B4,ld2,Q,Pj (v:=.agg c.cs) (B5b c),Ca];have l9:∀{l:dn},l.length<=9->(Ee l).length<1000:=λ{l}hl=>by
  unfold Ee;rw[(HV _).length_eq];have h1:=A9U (nm:=nmX l) (G9 (l.map Cd.id)) [] 9 (by rw[(D0 _).length_eq,WV];simpa using hl);have h2:(G9 (l.map Cd.id)).length<=9:=by rw[(D0 _).length_eq,WV];exact hl
  have:=l22 9 h2;omega
 have la:=l9 t.len;have lb:=l9 (l:=gs) (by omega);have h:=t.ids;refine B0S (L:=L+20) (r:=r0) (row:=.cells true Ae c.cs) (A:=Ee (gs++[c])) (B:=Ee gs) (id0:=c.id) (Zw h) A5V (λp hp=>((ML h).1 hp).1) (λp hp=>B4E h hp) la lb (by omega) (λz1 z2 z3 H' wf hr=>?_) (L+20) 0 _ _ _ _ _ V (by omega) (by omega) w4 ab;refine B0T (L:=L+20) (c:=c) (r:=r0) m (by omega) hr ?_ (L+20) 0 (by omega) (by omega);have aq:A? gs c<=8:=by
  unfold A?;exact WW (l2v _ _) h8
 have ac:nwN (Ee (gs++[c])) (Ee gs)=A? gs c:=B4G h;have ag:=B4F h;have ad:∀{F:K2},Al Ab .add (I ((Ee gs).length:Int)) (I (A? gs c:Int)) F=F (I ((Ee (gs++[c])).length:Int)):=λ{F}=>by
  rw[Ck,BX (by omega) (by omega),ag];exact congrArg (λz=>F (I z)) (by omega)
 simp only[ac,gT,BJ,B86,WT,fU,ad];exact Z _
end
end Go.Abs
end
noncomputable section
namespace Go.Proofs
open Go.Shelf
def Tryz.lays156_ren:Go.Shelf.Ren:=⟨λ|156=>127|165=>195|166=>122|169=>70|240=>193|241=>251|276=>249|277=>302|n=>n,λ|31=>38|9=>9|3=>3|4=>4|0=>0|20=>20|72=>128|76=>191|70=>125|37=>126|75=>190|127=>202|164=>298|5=>5|80=>139|n=>n,λ|n=>n⟩
theorem Tryz.lays156:Go.Proofs.Lays.n156 Tryz.prog Tryz.lays156_ren:={
 mixed:=by kernel_rfl
 f156:=Tryz.func127.trans (congrArg some (by kernel_rfl))
 f165:=Tryz.func195.trans (congrArg some (by kernel_rfl))
 f166:=Tryz.func122.trans (congrArg some (by kernel_rfl))
 f169:=Tryz.func70.trans (congrArg some (by kernel_rfl))
 f240:=Tryz.func193.trans (congrArg some (by kernel_rfl))
 f241:=Tryz.func251.trans (congrArg some (by kernel_rfl))
 f276:=Tryz.func249.trans (congrArg some (by kernel_rfl))
 f277:=Tryz.func302.trans (congrArg some (by kernel_rfl))
 t0:=Tryz.underlying0
 a0:=Tryz.isAgg0
 z0:=Tryz.sizeOf0
 v0:=Tryz.zeroValue0
 t3:=Tryz.underlying3
 a3:=Tryz.isAgg3
 z3:=Tryz.sizeOf3
 v3:=Tryz.zeroValue3
 t4:=Tryz.underlying4
 a4:=Tryz.isAgg4
 z4:=Tryz.sizeOf4
 v4:=Tryz.zeroValue4
 t9:=Tryz.underlying9
 a9:=Tryz.isAgg9
 z9:=Tryz.sizeOf9
 v9:=Tryz.zeroValue9
 t20:=Tryz.underlying20
 a20:=Tryz.isAgg20
 z20:=Tryz.sizeOf20
 v20:=Tryz.zeroValue20
 t31:=Tryz.underlying38
 a31:=Tryz.isAgg38
 z31:=Tryz.sizeOf38
 v31:=Tryz.zeroValue38
 t37:=Tryz.underlying126
 a37:=Tryz.isAgg126
 z37:=Tryz.sizeOf126
 v37:=Tryz.zeroValue126
 t70:=Tryz.underlying125
 a70:=Tryz.isAgg125
 z70:=Tryz.sizeOf125
 v70:=Tryz.zeroValue125
 t72:=Tryz.underlying128
 a72:=Tryz.isAgg128
 z72:=Tryz.sizeOf128
 v72:=Tryz.zeroValue128
 t75:=Tryz.underlying190
 a75:=Tryz.isAgg190
 z75:=Tryz.sizeOf190
 v75:=Tryz.zeroValue190
 t76:=Tryz.underlying191
 a76:=Tryz.isAgg191
 z76:=Tryz.sizeOf191
 v76:=Tryz.zeroValue191
 t127:=Tryz.underlying202
 a127:=Tryz.isAgg202
 z127:=Tryz.sizeOf202
 v127:=Tryz.zeroValue202
 t164:=Tryz.underlying298
 a164:=Tryz.isAgg298
 z164:=Tryz.sizeOf298
 v164:=Tryz.zeroValue298}
theorem Tryz.Builder_Extra_156:Builder.Extra Tryz.prog Tryz.lays156_ren:={
 sizeBuilder:=by kernel_rfl
 liesBuilder:=by kernel_rfl
 t5:=Tryz.underlying5
 a5:=Tryz.isAgg5
 z5:=Tryz.sizeOf5
 v5:=Tryz.zeroValue5
 infoByte:=by kernel_rfl
 cellsByte:=by kernel_rfl
 sizeByte:=by kernel_rfl
 neB5:=by decide}
open Go.RowKit in
theorem Tryz.strings_Join_none(a:Option Addr)(c:Nat)(sep:ByteArray)(w:World):
 Calls Tryz.prog 127 #[.slice a 0 c,.string sep] w λe w'=>e=.returned (.string ⟨#[]⟩)/\w'=w:=Any.strings_Join_none Tryz.lays156 Tryz.Builder_Extra_156 a c sep w
open Go.RowKit in
theorem Tryz.strings_Join(bk o c:Nat)(xs:List ByteArray)(sep:ByteArray)(w:World)(hcells:∀(j:Nat)x,xs[j]?=some x->w.cell? ⟨bk,o+j,none⟩=some (.string x))(hbk:bk<w.heap.size)(hN:xs.length<=140737488355328)(hcap:xs.length<=c)(hlen:(Lib.join (xs.map (·.data.toList)) sep.data.toList).length<=140737488355328):
 Calls Tryz.prog 127 #[.slice (some ⟨bk,o,none⟩) xs.length c,.string sep] w λe w'=>e=.returned (.string ⟨(Lib.join (xs.map (·.data.toList)) sep.data.toList).toArray⟩)/\Below w.heap.size w w':=Any.strings_Join Tryz.lays156 Tryz.Builder_Extra_156 bk o c xs sep w hcells hbk hN hcap hlen
def Tryz.lays190_ren:Go.Shelf.Ren:=⟨λ|190=>99|125=>59|258=>165|128=>109|129=>110|302=>225|303=>226|304=>227|305=>228|306=>229|307=>230|308=>231|309=>232|310=>233|333=>281|329=>167|330=>168|334=>282|335=>283|336=>111|344=>313|n=>n,λ|31=>38|9=>9|3=>3|46=>120|0=>0|51=>140|53=>181|4=>4|183=>173|182=>172|131=>177|5=>5|218=>225|222=>229|228=>284|229=>285|n=>n,λ|n=>n⟩
theorem Tryz.lays190:Go.Proofs.Lays.n190 Tryz.prog Tryz.lays190_ren:={
 mixed:=by kernel_rfl
 f125:=Tryz.func59.trans (congrArg some (by kernel_rfl))
 f128:=Tryz.func109.trans (congrArg some (by kernel_rfl))
 f129:=Tryz.func110.trans (congrArg some (by kernel_rfl))
 f190:=Tryz.func99.trans (congrArg some (by kernel_rfl))
 f258:=Tryz.func165.trans (congrArg some (by kernel_rfl))
 f302:=Tryz.func225.trans (congrArg some (by kernel_rfl))
 f303:=Tryz.func226.trans (congrArg some (by kernel_rfl))
 f304:=Tryz.func227.trans (congrArg some (by kernel_rfl))
 f305:=Tryz.func228.trans (congrArg some (by kernel_rfl))
 f306:=Tryz.func229.trans (congrArg some (by kernel_rfl))
 f307:=Tryz.func230.trans (congrArg some (by kernel_rfl))
 f308:=Tryz.func231.trans (congrArg some (by kernel_rfl))
 f309:=Tryz.func232.trans (congrArg some (by kernel_rfl))
 f310:=Tryz.func233.trans (congrArg some (by kernel_rfl))
 f329:=Tryz.func167.trans (congrArg some (by kernel_rfl))
 f330:=Tryz.func168.trans (congrArg some (by kernel_rfl))
 f333:=Tryz.func281.trans (congrArg some (by kernel_rfl))
 f334:=Tryz.func282.trans (congrArg some (by kernel_rfl))
 f335:=Tryz.func283.trans (congrArg some (by kernel_rfl))
 f336:=Tryz.func111.trans (congrArg some (by kernel_rfl))
 f344:=Tryz.func313.trans (congrArg some (by kernel_rfl))
 t0:=Tryz.underlying0
 a0:=Tryz.isAgg0
 z0:=Tryz.sizeOf0
 v0:=Tryz.zeroValue0
 t3:=Tryz.underlying3
 a3:=Tryz.isAgg3
 z3:=Tryz.sizeOf3
 v3:=Tryz.zeroValue3
 t4:=Tryz.underlying4
 a4:=Tryz.isAgg4
 z4:=Tryz.sizeOf4
 v4:=Tryz.zeroValue4
 t5:=Tryz.underlying5
 a5:=Tryz.isAgg5
 z5:=Tryz.sizeOf5
 v5:=Tryz.zeroValue5
 t9:=Tryz.underlying9
 a9:=Tryz.isAgg9
 z9:=Tryz.sizeOf9
 v9:=Tryz.zeroValue9
 t31:=Tryz.underlying38
 a31:=Tryz.isAgg38
 z31:=Tryz.sizeOf38
 v31:=Tryz.zeroValue38
 t46:=Tryz.underlying120
 a46:=Tryz.isAgg120
 z46:=Tryz.sizeOf120
 v46:=Tryz.zeroValue120
 t51:=Tryz.underlying140
 a51:=Tryz.isAgg140
 z51:=Tryz.sizeOf140
 v51:=Tryz.zeroValue140
 t53:=Tryz.underlying181
 a53:=Tryz.isAgg181
 z53:=Tryz.sizeOf181
 v53:=Tryz.zeroValue181
 t131:=Tryz.underlying177
 a131:=Tryz.isAgg177
 z131:=Tryz.sizeOf177
 v131:=Tryz.zeroValue177
 t182:=Tryz.underlying172
 a182:=Tryz.isAgg172
 z182:=Tryz.sizeOf172
 v182:=Tryz.zeroValue172
 t183:=Tryz.underlying173
 a183:=Tryz.isAgg173
 z183:=Tryz.sizeOf173
 v183:=Tryz.zeroValue173
 t218:=Tryz.underlying225
 a218:=Tryz.isAgg225
 z218:=Tryz.sizeOf225
 v218:=Tryz.zeroValue225
 t222:=Tryz.underlying229
 a222:=Tryz.isAgg229
 z222:=Tryz.sizeOf229
 v222:=Tryz.zeroValue229
 t228:=Tryz.underlying284
 a228:=Tryz.isAgg284
 z228:=Tryz.sizeOf284
 v228:=Tryz.zeroValue284
 t229:=Tryz.underlying285
 a229:=Tryz.isAgg285
 z229:=Tryz.sizeOf285
 v229:=Tryz.zeroValue285}
open Go.Sort Go.RowKit in
theorem Tryz.slices_Sort_string(Ub off cap:Nat)(ss:List (List UInt8))(w:World)(hH:Holds encStr w Ub off ss.toArray)(hblk:Ub<w.heap.size)(hsz:ss.length<4611686018427387904):
 Calls Tryz.prog 99 #[.slice (some ⟨Ub,off,none⟩) ss.length cap] w λe w'=>
  e=.returned (.tuple #[])/\∃n os,w'=grow (putRow encStr (Sort.ahead w n) Ub off (ss.mergeSort λx y=>decide (x<=y)).toArray) os:=Any.slices_Sort_string Tryz.lays190 Ub off cap ss w hH hblk hsz
def Tryz.lays105_ren:Go.Shelf.Ren:=⟨λ|105=>323|212=>359|99=>360|165=>195|166=>122|170=>69|169=>70|263=>377|264=>378|206=>370|240=>193|241=>251|276=>249|277=>302|n=>n,λ|9=>9|3=>3|4=>4|20=>20|0=>0|46=>120|109=>375|5=>5|72=>128|76=>191|51=>140|146=>388|53=>181|148=>390|70=>125|37=>126|75=>190|127=>202|164=>298|80=>139|n=>n,λ|n=>n⟩
theorem Tryz.lays105:Go.Proofs.Lays.n105 Tryz.prog Tryz.lays105_ren:={
 mixed:=by kernel_rfl
 f99:=Tryz.func360.trans (congrArg some (by kernel_rfl))
 f105:=Tryz.func323.trans (congrArg some (by kernel_rfl))
 f165:=Tryz.func195.trans (congrArg some (by kernel_rfl))
 f166:=Tryz.func122.trans (congrArg some (by kernel_rfl))
 f169:=Tryz.func70.trans (congrArg some (by kernel_rfl))
 f170:=Tryz.func69.trans (congrArg some (by kernel_rfl))
 f206:=Tryz.func370.trans (congrArg some (by kernel_rfl))
 f212:=Tryz.func359.trans (congrArg some (by kernel_rfl))
 f240:=Tryz.func193.trans (congrArg some (by kernel_rfl))
 f241:=Tryz.func251.trans (congrArg some (by kernel_rfl))
 f263:=Tryz.func377.trans (congrArg some (by kernel_rfl))
 f264:=Tryz.func378.trans (congrArg some (by kernel_rfl))
 f276:=Tryz.func249.trans (congrArg some (by kernel_rfl))
 f277:=Tryz.func302.trans (congrArg some (by kernel_rfl))
 t0:=Tryz.underlying0
 a0:=Tryz.isAgg0
 z0:=Tryz.sizeOf0
 v0:=Tryz.zeroValue0
 t3:=Tryz.underlying3
 a3:=Tryz.isAgg3
 z3:=Tryz.sizeOf3
 v3:=Tryz.zeroValue3
 t4:=Tryz.underlying4
 a4:=Tryz.isAgg4
 z4:=Tryz.sizeOf4
 v4:=Tryz.zeroValue4
 t5:=Tryz.underlying5
 a5:=Tryz.isAgg5
 z5:=Tryz.sizeOf5
 v5:=Tryz.zeroValue5
 t9:=Tryz.underlying9
 a9:=Tryz.isAgg9
 z9:=Tryz.sizeOf9
 v9:=Tryz.zeroValue9
 t20:=Tryz.underlying20
 a20:=Tryz.isAgg20
 z20:=Tryz.sizeOf20
 v20:=Tryz.zeroValue20
 t37:=Tryz.underlying126
 a37:=Tryz.isAgg126
 z37:=Tryz.sizeOf126
 v37:=Tryz.zeroValue126
 t46:=Tryz.underlying120
 a46:=Tryz.isAgg120
 z46:=Tryz.sizeOf120
 v46:=Tryz.zeroValue120
 t51:=Tryz.underlying140
 a51:=Tryz.isAgg140
 z51:=Tryz.sizeOf140
 v51:=Tryz.zeroValue140
 t53:=Tryz.underlying181
 a53:=Tryz.isAgg181
 z53:=Tryz.sizeOf181
 v53:=Tryz.zeroValue181
 t70:=Tryz.underlying125
 a70:=Tryz.isAgg125
 z70:=Tryz.sizeOf125
 v70:=Tryz.zeroValue125
 t72:=Tryz.underlying128
 a72:=Tryz.isAgg128
 z72:=Tryz.sizeOf128
 v72:=Tryz.zeroValue128
 t75:=Tryz.underlying190
 a75:=Tryz.isAgg190
 z75:=Tryz.sizeOf190
 v75:=Tryz.zeroValue190
 t76:=Tryz.underlying191
 a76:=Tryz.isAgg191
 z76:=Tryz.sizeOf191
 v76:=Tryz.zeroValue191
 t109:=Tryz.underlying375
 a109:=Tryz.isAgg375
 z109:=Tryz.sizeOf375
 v109:=Tryz.zeroValue375
 t127:=Tryz.underlying202
 a127:=Tryz.isAgg202
 z127:=Tryz.sizeOf202
 v127:=Tryz.zeroValue202
 t146:=Tryz.underlying388
 a146:=Tryz.isAgg388
 z146:=Tryz.sizeOf388
 v146:=Tryz.zeroValue388
 t148:=Tryz.underlying390
 a148:=Tryz.isAgg390
 z148:=Tryz.sizeOf390
 v148:=Tryz.zeroValue390
 t164:=Tryz.underlying298
 a164:=Tryz.isAgg298
 z164:=Tryz.sizeOf298
 v164:=Tryz.zeroValue298}
theorem Tryz.Builder_Extra_105:Builder.Extra Tryz.prog Tryz.lays105_ren:={
 sizeBuilder:=by kernel_rfl
 liesBuilder:=by kernel_rfl
 t5:=Tryz.underlying5
 a5:=Tryz.isAgg5
 z5:=Tryz.sizeOf5
 v5:=Tryz.zeroValue5
 infoByte:=by kernel_rfl
 cellsByte:=by kernel_rfl
 sizeByte:=by kernel_rfl
 neB5:=by decide}
open Go.RowKit Go.Lib in
theorem Tryz.strings_Repeat(s:ByteArray)(c:Nat)(w:World)(hc:c<=9223372036854775807)(hlen:s.size*c<=140737488355328):
 Calls Tryz.prog 323 #[.string s,.int .i64 c] w λe w'=>e=.returned (.string ⟨(Lib.repeatL s.data.toList c).toArray⟩)/\Below w.heap.size w w':=Any.strings_Repeat Tryz.lays105 Tryz.Builder_Extra_105 s c w hc hlen
def Tryz.laysSlF06_f29_ren:Go.Shelf.Ren:=⟨λ|6=>29|15=>59|14=>58|28=>109|29=>110|20=>101|21=>102|22=>103|23=>104|24=>105|25=>106|26=>107|27=>108|46=>166|47=>167|48=>168|49=>169|50=>170|57=>234|n=>n,λ|22=>26|24=>53|25=>85|3=>3|39=>120|0=>0|53=>140|55=>181|4=>4|46=>173|45=>172|50=>177|5=>5|9=>9|66=>225|70=>229|76=>284|77=>285|n=>n,λ|n=>n⟩
theorem Tryz.laysSlF06_f29:Go.Proofs.SlLaysF0.n6 Tryz.prog Tryz.laysSlF06_f29_ren:={
 mixed:=by kernel_rfl
 f6:=⟨Tryz.f29.name,by decide,Tryz.func29.trans (congrArg some (by kernel_rfl))⟩
 f14:=⟨Tryz.f58.name,by decide,Tryz.func58.trans (congrArg some (by kernel_rfl))⟩
 f15:=Tryz.func59.trans (congrArg some (by kernel_rfl))
 f20:=⟨Tryz.f101.name,by decide,Tryz.func101.trans (congrArg some (by kernel_rfl))⟩
 f21:=⟨Tryz.f102.name,by decide,Tryz.func102.trans (congrArg some (by kernel_rfl))⟩
 f22:=⟨Tryz.f103.name,by decide,Tryz.func103.trans (congrArg some (by kernel_rfl))⟩
 f23:=⟨Tryz.f104.name,by decide,Tryz.func104.trans (congrArg some (by kernel_rfl))⟩
 f24:=⟨Tryz.f105.name,by decide,Tryz.func105.trans (congrArg some (by kernel_rfl))⟩
 f25:=⟨Tryz.f106.name,by decide,Tryz.func106.trans (congrArg some (by kernel_rfl))⟩
 f26:=⟨Tryz.f107.name,by decide,Tryz.func107.trans (congrArg some (by kernel_rfl))⟩
 f27:=⟨Tryz.f108.name,by decide,Tryz.func108.trans (congrArg some (by kernel_rfl))⟩
 f28:=Tryz.func109.trans (congrArg some (by kernel_rfl))
 f29:=Tryz.func110.trans (congrArg some (by kernel_rfl))
 f46:=⟨Tryz.f166.name,by decide,Tryz.func166.trans (congrArg some (by kernel_rfl))⟩
 f47:=Tryz.func167.trans (congrArg some (by kernel_rfl))
 f48:=Tryz.func168.trans (congrArg some (by kernel_rfl))
 f49:=⟨Tryz.f169.name,by decide,Tryz.func169.trans (congrArg some (by kernel_rfl))⟩
 f50:=⟨Tryz.f170.name,by decide,Tryz.func170.trans (congrArg some (by kernel_rfl))⟩
 f57:=⟨Tryz.f234.name,by decide,Tryz.func234.trans (congrArg some (by kernel_rfl))⟩
 t0:=Tryz.underlying0
 a0:=Tryz.isAgg0
 z0:=Tryz.sizeOf0
 v0:=Tryz.zeroValue0
 t3:=Tryz.underlying3
 a3:=Tryz.isAgg3
 z3:=Tryz.sizeOf3
 v3:=Tryz.zeroValue3
 t4:=Tryz.underlying4
 a4:=Tryz.isAgg4
 z4:=Tryz.sizeOf4
 v4:=Tryz.zeroValue4
 t5:=Tryz.underlying5
 a5:=Tryz.isAgg5
 z5:=Tryz.sizeOf5
 v5:=Tryz.zeroValue5
 t9:=Tryz.underlying9
 a9:=Tryz.isAgg9
 z9:=Tryz.sizeOf9
 v9:=Tryz.zeroValue9
 t22:=Tryz.underlying26
 a22:=Tryz.isAgg26
 z22:=Tryz.sizeOf26
 v22:=Tryz.zeroValue26
 t25:=Tryz.underlying85
 a25:=Tryz.isAgg85
 z25:=Tryz.sizeOf85
 v25:=Tryz.zeroValue85
 t39:=Tryz.underlying120
 a39:=Tryz.isAgg120
 z39:=Tryz.sizeOf120
 v39:=Tryz.zeroValue120
 t45:=Tryz.underlying172
 a45:=Tryz.isAgg172
 z45:=Tryz.sizeOf172
 v45:=Tryz.zeroValue172
 t46:=Tryz.underlying173
 a46:=Tryz.isAgg173
 z46:=Tryz.sizeOf173
 v46:=Tryz.zeroValue173
 t50:=Tryz.underlying177
 a50:=Tryz.isAgg177
 z50:=Tryz.sizeOf177
 v50:=Tryz.zeroValue177
 t53:=Tryz.underlying140
 a53:=Tryz.isAgg140
 z53:=Tryz.sizeOf140
 v53:=Tryz.zeroValue140
 t55:=Tryz.underlying181
 a55:=Tryz.isAgg181
 z55:=Tryz.sizeOf181
 v55:=Tryz.zeroValue181
 t66:=Tryz.underlying225
 a66:=Tryz.isAgg225
 z66:=Tryz.sizeOf225
 v66:=Tryz.zeroValue225
 t70:=Tryz.underlying229
 a70:=Tryz.isAgg229
 z70:=Tryz.sizeOf229
 v70:=Tryz.zeroValue229
 t76:=Tryz.underlying284
 a76:=Tryz.isAgg284
 z76:=Tryz.sizeOf284
 v76:=Tryz.zeroValue284
 t77:=Tryz.underlying285
 a77:=Tryz.isAgg285
 z77:=Tryz.sizeOf285
 v77:=Tryz.zeroValue285}
open Go.RowKit Go.Lib Go.Sort in
theorem Tryz.slices_SortFunc_none{α:Type}[Inhabited α](p:Option Addr)(cap:Nat)(fv:Value)(w:World):
 Calls Tryz.prog 29 #[.slice p 0 cap,fv] w λe w'=>e=.returned (.tuple #[])/\w'=w:=AnyF.slices_SortFunc_none Tryz.laysSlF06_f29 p cap fv w
open Go.RowKit Go.Lib Go.Sort in
theorem Tryz.slices_SortFunc_total{α:Type}[Inhabited α](k:Nat)(aE:∀w,(isAgg 53).run Tryz.prog w=.ok true w)(zE:∀w,(Go.sizeOf 53).run Tryz.prog w=.ok k w)(enc:α->List Value)(hk:∀x,(enc x).length=k)(h1:∀x,∀v∈enc x,v.oneCell'=true)(cf:α->α->Int)(hO:SWO (ltOf cf))(g:Nat)(cb:Array Value)(Ub off cap:Nat)(d:Array α)(w:World)(eg:∀args w,(callFunc g args).run Tryz.prog w=.ok (.enter g args) w)(hcmp:CmpLays Tryz.prog g cb enc k cf Ub off d.size w)(hH:HoldsK enc k w Ub off d)(hblk:Ub<w.heap.size)(hsz:d.size<4611686018427387904)(hT:∀x y,(ltOf cf) x y=false->(ltOf cf) y x=false->x=y):
 Calls Tryz.prog 29 #[.slice (some ⟨Ub,off,none⟩) d.size cap,.func (.func g) #[] cb] w λe w'=>
  e=.returned (.tuple #[])/\∃n os,w'=sortWorldK enc k w Ub off n (d.toList.mergeSort λx y=>!(ltOf cf) y x).toArray os:=AnyQ.slices_SortFunc_total Tryz.laysSlF06_f29 k aE zE enc hk h1 cf hO g cb Ub off cap d w eg hcmp hH hblk hsz hT
def Tryz.growS_ren:Go.Shelf.Ren:=⟨λ|4=>191|n=>n,λ|22=>38|25=>9|3=>3|4=>4|9=>9|20=>20|0=>0|n=>n,λn=>n⟩
theorem Tryz.growS:Go.Proofs.Lays8.n4 Tryz.prog Tryz.growS_ren:={
 mixed:=by kernel_rfl
 f4:=⟨Tryz.f191.name,by kernel_rfl,Tryz.func191.trans (congrArg some (by kernel_rfl))⟩
 t0:=Tryz.underlying0
 a0:=Tryz.isAgg0
 z0:=Tryz.sizeOf0
 v0:=Tryz.zeroValue0
 t3:=Tryz.underlying3
 a3:=Tryz.isAgg3
 z3:=Tryz.sizeOf3
 v3:=Tryz.zeroValue3
 t4:=Tryz.underlying4
 a4:=Tryz.isAgg4
 z4:=Tryz.sizeOf4
 v4:=Tryz.zeroValue4
 t9:=Tryz.underlying9
 a9:=Tryz.isAgg9
 z9:=Tryz.sizeOf9
 v9:=Tryz.zeroValue9
 t20:=Tryz.underlying20
 a20:=Tryz.isAgg20
 z20:=Tryz.sizeOf20
 v20:=Tryz.zeroValue20
 t22:=Tryz.underlying38
 a22:=Tryz.isAgg38
 z22:=Tryz.sizeOf38
 v22:=Tryz.zeroValue38
}
theorem Tryz.slices_Grow_0(w:World):Calls Tryz.prog 191 #[.slice none 0 0,.int .i64 0] w λe w'=>e=.returned (.slice none 0 0)/\w'=w:=
 Any8.slices_Grow_room Tryz.growS none 0 0 0 w (Nat.le_refl _) (by decide) (by decide) (Nat.le_refl _)
theorem Tryz.slices_Grow_n(n:Nat)(w:World)(h0:0<n)(h1:n<=1000000):Calls Tryz.prog 191 #[.slice none 0 0,.int .i64 n] w λe w'=>∃(arr:Array Value)(fz:Nat×Nat)(cap:Nat),cap<=arr.size/\e=.returned (.slice (some ⟨w.heap.size,0,none⟩) 0 cap)/\Go.RowKit.Below w.heap.size w w'/\w'.heap[w.heap.size]?=some (.cells arr 9 fz)/\∀i,i<arr.size->¬(fz.1<=i/\i<fz.2):=by
 have hs:(Tryz.prog.info? 9).isSome=true:=by kernel_rfl
 obtain⟨i0,hi0⟩:=Option.isSome_iff_exists.1 hs
 have hz:(Tryz.prog.info? 9).bind (λi=>i.zero)=some (.string ⟨#[]⟩):=by kernel_rfl
 have hz1:(Tryz.prog.info? 9).map (λi=>i.size)=some 1:=by kernel_rfl
 have hz2:(Tryz.prog.info? 9).map (λi=>i.bytes)=some 16:=by kernel_rfl
 rw[hi0]at hz hz1 hz2
 have hz:i0.zero=some (.string ⟨#[]⟩):=hz
 have hz1:i0.size=1:=Option.some.inj hz1
 have hz2:i0.bytes=16:=Option.some.inj hz2
 refine(Any8.slices_Grow_grow Tryz.growS i0 (.string ⟨#[]⟩) hi0 hz (by rw[hz1];decide) none 0 0 n [] w (Nat.le_refl _) (by omega) (by rw[hz2];omega) (by omega) (by simp) (λ_=>rfl) (λa h=>by cases h)).mono ?_
 rintro e w' ⟨he,hw⟩
 have hzc:∀k,(Builtin.zeroCells (Value.string ⟨#[]⟩).cells k).size=k:=λk=>by
  have e:(Value.string ⟨#[]⟩).cells= #[.string ⟨#[]⟩]:=rfl
  rw[e]
  simp[Builtin.zeroCells]
 have key:∃arr:Array Value,w'=w.drew.alloc (.cells arr 9)/\grownCap w (0+n) 0 (Tryz.growS_ren.t 25)<=arr.size:=⟨_,hw,by
  simp only[Array.size_append,hzc]
  omega⟩
 obtain⟨arr,hw,hsz⟩:=key
 refine⟨arr,(0,0),_,hsz,he,?_,?_,λi _ h=>Nat.not_lt_zero _ h.2⟩
 ·rw[hw]
  exact((Go.RowKit.Below.refl _ _).drew).alloc (Nat.le_refl _) _
 ·rw[hw]
  show(w.heap.push _)[w.heap.size]?=_
  rw[Array.getElem?_push_size]
open Go.Shelf Go.Lib Go.RowKit Go.Sort Go.Abs
theorem A38(x:ByteArray)(w:World):
 Calls Tryz.prog 111 #[.string x] w λe w'=>e=.returned (.bool false)/\w'=w:=by
 go_enter Tryz.func111,Tryz.ntmps111
 go_wp2
 go_ret
 exact⟨by simp,rfl⟩
def cfS(x y:Oe):Int:=if x<y then-1 else if y<x then 1 else 0
theorem dH(x y:Oe)(w:World):
 Calls Tryz.prog 60 #[.string ⟨⟨x⟩⟩,.string ⟨⟨y⟩⟩] w λe w'=>e=.returned (.int .i64 (cfS x y))/\w'=w:=by
 go_enter Tryz.func60,Tryz.ntmps60
 go_wp2_with (go_at_call 111;refine(A38 _ _).mono ?_;rintro e w' ⟨rfl,hw⟩;rw[hw])
 ·go_ret
  refine⟨?_,rfl⟩
  have h:Op.bytesLess x y=true:=by assumption
  rw[bytesLess_eq]at h
  have h:x<y:=l2t h
  unfold cfS
  rw[CJ h];rfl
 ·go_ret
  refine⟨?_,rfl⟩
  have h1:Op.bytesLess x y=false:=by assumption
  have h2:(!x==y)=true:=by assumption
  rw[bytesLess_eq]at h1
  have h1:¬x<y:=of_decide_eq_false h1
  have h3:x≠y:=λe=>by subst e;simp at h2
  unfold cfS
  rw[Co h1,CJ (Mn (MU.1 h1) (Ne.symm h3))];rfl
 ·go_ret
  refine⟨?_,rfl⟩
  have h1:Op.bytesLess x y=false:=by assumption
  have h2:(!x==y)=false:=by assumption
  rw[bytesLess_eq]at h1
  have h1:¬x<y:=of_decide_eq_false h1
  have h3:x=y:=by simpa using h2
  unfold cfS
  rw[Co h1,Co (by rw[h3];exact De _)];rfl
theorem B8g(x y:Ld):cfP x y=if cfS x.1 y.1=0 then cfS x.2 y.2 else cfS x.1 y.1:=by
 unfold cfP cfS
 by_cases h1:x.1<y.1
 ·rw[CJ h1,CJ h1];rfl
 ·rw[Co h1,Co h1]
  by_cases h2:y.1<x.1
  ·rw[CJ h2,CJ h2];rfl
  ·rw[Co h2,Co h2,CJ rfl]
set_option maxHeartbeats 2000000 in
theorem M_(b1 b2:Nat)(x y:Ld)(w:World)(k1:w.cell? ⟨b1,0,none⟩=some (.string ⟨⟨x.1⟩⟩))(k2:w.cell? ⟨b1,1,none⟩=some (.string ⟨⟨x.2⟩⟩))(k3:w.cell? ⟨b2,0,none⟩=some (.string ⟨⟨y.1⟩⟩))(k4:w.cell? ⟨b2,1,none⟩=some (.string ⟨⟨y.2⟩⟩)):
 Calls Tryz.prog 31 #[.slice (some ⟨b1,0,none⟩) 2 2,.slice (some ⟨b2,0,none⟩) 2 2] w λe w'=>e=.returned (.int .i64 (cfP x y))/\∃q,w'=w.drewN q:=by
 have hc1:=λW=>dH x.1 y.1 W
 have hc2:=λW=>dH x.2 y.2 W
 have hR:=B8g x y
 generalize cfP x y=R at hR⊢
 generalize cfS x.1 y.1=c1 at hc1 hR
 generalize cfS x.2 y.2=c2 at hc2 hR
 have HR:Hid (R=if c1=0 then c2 else c1):=hR
 clear hR
 go_enter Tryz.func31,Tryz.ntmps31
 go_wp2
 refine wp_loop_rounds 3 ?_
 rw[rounds_succ]
 go_wp2_with (go_at_call 60;refine(hc1 _).mono ?_;rintro e w' ⟨rfl,hw⟩;rw[hw])
 ·go_ret
  rename_i h
  have h:c1≠0:=by simpa using h
  exact⟨by rw[HR.out,Co h];rfl,0,rfl⟩
 rw[rounds_succ]
 go_wp2_with (go_at_call 60;refine(hc2 _).mono ?_;rintro e w' ⟨rfl,hw⟩;rw[hw])
 ·go_ret
  have h:(c2 !=0)=true:=by assumption
  have h0:(c1 !=0)=false:=by assumption
  have h0:c1=0:=by simpa using h0
  exact⟨by rw[HR.out,CJ h0];rfl,0,rfl⟩
 have h:(c2 !=0)=false:=by assumption
 have h0:(c1 !=0)=false:=by assumption
 have h:c2=0:=by simpa using h
 have h0:c1=0:=by simpa using h0
 have HR:Hid (R=0):=by
  have:=HR.out
  rw[CJ h0,h]at this
  exact this
 rw[rounds_succ]
 go_wp2
 go_ret
 exact⟨by rw[HR.out];rfl,0,rfl⟩
set_option maxHeartbeats 2000000 in
theorem B4H(x y:Ld)(W:World):Calls Tryz.prog 30 #[.agg (VD x).toArray,.agg (VD y).toArray] W λe w'=>e=.returned (.int .i64 (cfP x y))/\∃q os',w'=grow (W.drewN q) os':=by
 have hc:=λb1 b2 w=>M_ b1 b2 x y w
 generalize cfP x y=R at hc⊢
 unfold VD
 go_enter Tryz.func30,Tryz.ntmps30
 go_wp2
 have mixed:Tryz.prog.follows .mixedOrders=true:=by kernel_rfl
 have hs:((W.alloc (Obj.cells #[Value.string {data:={toList:=x.fst} },Value.string {data:={toList:=x.snd} }] 53)).alloc (Obj.cells #[Value.string {data:={toList:=y.fst} },Value.string {data:={toList:=y.snd} }] 53))=grow W #[Obj.cells #[Value.string {data:={toList:=x.fst} },Value.string {data:={toList:=x.snd} }] 53,Obj.cells #[Value.string {data:={toList:=y.fst} },Value.string {data:={toList:=y.snd} }] 53]:=by
  rw[alloc_eq_grow,alloc_eq_grow,grow_grow];rfl
 rw[hs]
 generalize hW0:grow W _=W0
 have hsz:W0.heap.size=W.heap.size+2:=by rw[<-hW0];simp
 have hb1:W0.heap[W.heap.size]?=some (Obj.cells #[Value.string {data:={toList:=x.fst} },Value.string {data:={toList:=x.snd} }] 53):=by
  rw[<-hW0];show(W.heap++_)[W.heap.size]?=_;rw[Array.getElem?_append_right (MZ _)];simp
 have hb2:W0.heap[W.heap.size+1]?=some (Obj.cells #[Value.string {data:={toList:=y.fst} },Value.string {data:={toList:=y.snd} }] 53):=by
  rw[<-hW0];show(W.heap++_)[W.heap.size+1]?=_;rw[Array.getElem?_append_right (by omega)];simp
 have hcc:∀n os,Calls Tryz.prog 31 #[Value.slice (some {block:=W.heap.size,off:=0}) 2 2,Value.slice (some {block:=W.heap.size+1,off:=0}) 2 2] (grow (W0.drewN n) os) λe w''=>e=.returned (Value.int IntKind.i64 R)/\∃p:GrownBy,w''=grow (W0.drewN p.n) p.os:=λn os=>
  Calls.grown_of ((hc _ _ _ (cell_grown (by show W.heap.size<_;omega) (by unfold World.cell?;rw[hb1];rfl) n os) (cell_grown (by show W.heap.size<_;omega) (by unfold World.cell?;rw[hb1];rfl) n os)
   (cell_grown (by show W.heap.size+1<_;omega) (by unfold World.cell?;rw[hb2];rfl) n os) (cell_grown (by show W.heap.size+1<_;omega) (by unfold World.cell?;rw[hb2];rfl) n os)).mono
   λe w' ⟨he,q,hw⟩=>⟨he,q,#[],by rw[hw];show _=grow _ #[];rw[grow_empty]⟩)
 clear hs hc hb1 hb2 hsz
 go_quiet_grown ((go_at_call 31;refine hcc _ _))
 go_wp2
 go_ret
 refine⟨rfl,?_⟩
 rw[<-hW0]
 exact⟨nq,_,by rw[<-grow_grow];rfl⟩
theorem A9T(Ub off size:Nat)(w:World):CmpLays Tryz.prog 30 #[] VD 2 cfP Ub off size w:=λ_ _ _ _ x y=>B4H x y _
theorem A9R(Ub off cap:Nat)(d:List Ld)(w:World)(hH:HoldsK VD 2 w Ub off d.toArray)(hb:Ub<w.heap.size)(hs:d.length<4611686018427387904):
 Calls Tryz.prog 29 #[.slice (some ⟨Ub,off,none⟩) d.length cap,.func (.func 30) #[] #[]] w λe w'=>e=.returned (.tuple #[])/\∃n os,w'=sortWorldK VD 2 w Ub off n (d.mergeSort λx y=>!sI y x).toArray os:=
 Tryz.slices_SortFunc_total 2 Tryz.isAgg53 Tryz.sizeOf53 VD (λ_=>rfl) (λx v hv=>by simp[VD]at hv;rcases hv with rfl|rfl<;>rfl) cfP B9a 30 #[] Ub off cap d.toArray w (enters_of Tryz.func30 (by kernel_rfl) rfl) (A9T Ub off _ w) hH hb (by simpa using hs) B99
end Go.Proofs
end
noncomputable section
namespace Go.Abs
open Go.RowKit Go.Proofs
set_option maxRecDepth 100000
theorem B7V:TY Tryz.prog 127:=⟨Tryz.f127,by kernel_rfl,by kernel_rfl,by kernel_rfl⟩
theorem B9F:TY Tryz.prog 99:=⟨Tryz.f99,by kernel_rfl,by kernel_rfl,by kernel_rfl⟩
theorem B7U:TY Tryz.prog 191:=⟨Tryz.f191,by kernel_rfl,by kernel_rfl,by kernel_rfl⟩
theorem B7T:TY Tryz.prog 323:=⟨Tryz.f323,by kernel_rfl,by kernel_rfl,by kernel_rfl⟩
theorem B9G:TY Tryz.prog 29:=⟨Tryz.f29,by kernel_rfl,by kernel_rfl,by kernel_rfl⟩
theorem B6S(E:XE):oT.All (mH E Tryz.prog):=
 ⟨A5J B7V Tryz.strings_Join_none Tryz.strings_Join,⟨A4j B9F Tryz.slices_Sort_string,⟨A2d B9G (Tryz.slices_SortFunc_none (α:=Ld)) A9R,trivial,trivial⟩,trivial⟩,⟨O? B7T Tryz.strings_Repeat,⟨A5P B7U Tryz.slices_Grow_0 Tryz.slices_Grow_n,trivial,trivial⟩,trivial⟩⟩
theorem A4x(L n:Nat):RSound iX (E L) Tryz.prog (rt L n):=S_ (C0f L) (B6W L) (B6S _) n
def Y7.vs(y:Y7):List Value:=[.int .i64 y.y0,.int .i64 y.y1,.int .i64 y.y2,.int .i64 y.y3,.int .i64 y.y4,.int .i64 y.y5,.int .i64 y.y6]
theorem B5Q(xs:List Y7):xs.flatMap Y7.cs=(xs.flatMap Y7.vs).map λx=>.v x:=by
 induction xs with
 |nil=>rfl
 |cons y xs ih=>rw[kL,kL,UT,ih];rfl
theorem A60{α β:Type}(f:α->List β)(w:Nat)(hf:∀x,(f x).length=w):∀(l:List α)(i j:Nat)(h:i<l.length),j<w->(l.flatMap f)[i*w+j]?=(f l[i])[j]?:=by
 intro l
 induction l with
 |nil=>intro i j h;simp at h
 |cons a l ih=>
  intro i j h hj
  rw[kL]
  cases i with
  |zero=>
   rw[Nat.zero_mul,Le,l0l (by rw[hf];exact hj)];rfl
  |succ i=>
   have e:(i+1)*w+j=(f a).length+(i*w+j):=by rw[hf,B!];omega
   rw[e,l0n (by omega),Nat.add_sub_cancel_left,List.getElem_cons_succ]
   exact ih i j (by simpa using h) hj
theorem pY{α β:Type}(f:α->List β)(w:Nat)(hf:∀x,(f x).length=w):∀l:List α,(l.flatMap f).length=l.length*w:=by
 intro l
 induction l with
 |nil=>simp
 |cons a l ih=>simp[ih,hf,B!,Nat.add_comm]
def A6E(W:World):Ctx:={π:=λ_=>none,F:=λb _=>b<W.heap.size,B:=λ_=>False}
theorem A6O{W:World}{b i:Nat}{v:Value}(h:W.cell? ⟨b,i,none⟩=some v):b<W.heap.size:=by
 unfold World.cell? at h
 split at h
 ·rename_i c t f he
  exact(l1q.1 he).1
 ·cases h
theorem B9b{W:World}{G:Gl}(hG:∀(g:Nat)(cs:List Value),G g=some cs->∀(i:Nat)(v:Value),cs[i]?=some v->W.cell? ⟨g,i,none⟩=some v):Rel G ⟨W,λ_=>False⟩ (A6E W) [] W where
 glob:=λg cs hg i v hv=>⟨A6O (hG g cs hg i v hv),hG g cs hg i v hv⟩
 below:=Keep.refl W _
 lt:=λr x h=>by cases h
 rows:=λr x h=>by cases h
 own:=λr x b o h=>by cases h
 sep:=λr r' x x' b o o' h=>by cases h
 fin:=λb i h=>h
 finB:=λb h=>h.elim
 nx:=λr _=>rfl
theorem A81{W:World}{n cap:Nat}{a:Option Addr}{vs:List Value}(hn:n<=cap)(h0:n=0->vs=[])(h:∀i(hi:i<vs.length),∃b o,a=some ⟨b,o,none⟩/\W.cell? ⟨b,o+i,none⟩=some vs[i])(hne:0<n->0<vs.length):VRel (A6E W) W (.list n (vs.map λx=>.v x)) (.slice a n cap):=by
 by_cases h1:n=0
 ·subst h1
  rw[h0 rfl]
  exact .list0
 ·have h2:=hne (by omega)
  obtain⟨b,o,ha, -⟩:=h 0 h2
  subst ha
  have hc:∀i(hi:i<vs.length),W.cell? ⟨b,o+i,none⟩=some vs[i]:=λi hi=>by
   obtain⟨b',o',e,hc⟩:=h i hi
   cases e
   exact hc
  refine .list hn (λi=>vs.getD i undef) (λi hi=>?_) (λi hi=>?_) (λi hi=>?_)
  ·exact A6O (hc i (by simpa using hi))
  ·have hi':i<vs.length:=by simpa using hi
   rw[hc i hi',Tc,II hi'];rfl
  ·have hi':i<vs.length:=by simpa using hi
   have:(vs.map λx=>AV.v x)[i]=.v (vs.getD i undef):=by
    rw[l2i,Tc,II hi'];rfl
   rw[this]
   exact .v _
end Go.Abs
end
noncomputable section
namespace Go.Proofs.YthffkeagibaidaaGreatDoor
open Go.ChangeShapes Go.WideShapes Go.ChangeAt Go.WideMaps Go.WideElems Go.RowKit Go.Abs
set_option maxRecDepth 100000
theorem own:ownKnob Tryz.prog.godebug=none:=by kernel_rfl
theorem A9o:laidOutB Tryz.prog=true:=by kernel_rfl
theorem u22:Tryz.prog.underlying 22=some (.slice 68):=by kernel_rfl
theorem u90:Tryz.prog.underlying 68=some (.array 7 3):=by kernel_rfl
theorem u3:Tryz.prog.underlying 3=some (.int .i64):=by kernel_rfl
theorem u4:Tryz.prog.underlying 4=some .bool:=by kernel_rfl
theorem c3:Tryz.prog.cellsOf 3=1:=by kernel_rfl
theorem c90:Tryz.prog.cellsOf 68=7:=by kernel_rfl
theorem qZ{H:Type}{enc:TypeId×Value->H}{P:Program}{W:World}{base:Nat}{spare:Nat->Bool}{held:Bool}{fuel:Nat}{t e:TypeId}{k:IntKind}{cs:List Value}{ns:List Int}{pl:List MemPlace}(ht:P.underlying t=some (.array ns.length e))(he:P.underlying e=some (.int k))(ce:P.cellsOf e=1)(ct:P.cellsOf t=ns.length)(h:DataW.trod enc P W base spare held fuel t cs=some (.agg (ns.map λz=>.lit (.int k z)),pl)):cs=ns.map λz=>Value.int k z:=by
 obtain⟨xs,m,_,hx,hlen,hn,hel⟩:=DataW.trod_array ht h
 simp only[Prod.mk.injEq,DataW.agg.injEq]at hx
 obtain⟨hx,_⟩:=hx
 apply List.ext_getElem
 ·rw[hlen,ct,WV]
 ·intro i h1 h2
  have hi:i<ns.length:=by simpa using h2
  have hxi:i<xs.length:=by omega
  have h0:=hel i hi
  rw[ce,l28,II hxi]at h0
  obtain⟨z,e1,e2,_⟩:=DataW.trod_int he h0
  have e3:(cs.drop i).take 1=[cs[i]]:=by rw[l11 h1];rfl
  rw[e3]at e1
  have e4:(ns.map λz=>DataW.lit (H:=H) (.int k z))[i]'(by simpa using hi)=(xs.map (·.1))[i]'(by simpa using hxi):=by simp only[hx]
  rw[l2i,l2i,e2]at e4
  have e5:ns[i]=z:=by simpa using e4
  rw[l2i,e5]
  simpa using e1
def A9k(l:List AV):List Int:=l.map λa=>match a with|.v (.int _ z)=>z|_=>0
theorem B79:Rows.laid_yardstick_digest_round (H:=Unit)=.agg ((A9k gl0).map λz=>.lit (.int .u32 z)):=by kernel_rfl
theorem B78:Rows.laid_internal_strconv_uint64pow10 (H:=Unit)=.agg ((A9k gl1).map λz=>.lit (.int .u64 z)):=by kernel_rfl
theorem B7K:gl0.map unV=(A9k gl0).map λz=>Value.int .u32 z:=by kernel_rfl
theorem B7I:gl1.map unV=(A9k gl1).map λz=>Value.int .u64 z:=by kernel_rfl
theorem gn0:Tryz.prog.globalNamed "yardstick/digest.round" =some 0:=by kernel_rfl
theorem gn1:Tryz.prog.globalNamed "internal/strconv.uint64pow10" =some 1:=by kernel_rfl
theorem A9j{W:World}(h:laidMetH Tryz.prog Rows.graphForksRow.laid W):∀L(g:Nat)(cs:List Value),(E L).G g=some cs->∀(i:Nat)(v:Value),cs[i]?=some v->W.cell? ⟨g,i,none⟩=some v:=by
 rw[MakeChecks.laidMetH_plain _ _ _ (by kernel_rfl)]at h
 obtain⟨ps,hv,_,_⟩:=h
 obtain⟨_,_,_,_,_,_,_,_,_,_,hv,_⟩:=hv
 obtain⟨_,_,_,_,_,_,_,_,_,_,hv,_⟩:=hv
 obtain⟨g1,t1,cs1,f1,p1,q1,hg1,ht1,hv1,hd1,hv,_⟩:=hv
 obtain⟨_,_,_,_,_,_,_,_,_,_,hv,_⟩:=hv
 obtain⟨_,_,_,_,_,_,_,_,_,_,hv,_⟩:=hv
 obtain⟨_,_,_,_,_,_,_,_,_,_,hv,_⟩:=hv
 obtain⟨g0,t0,cs0,f0,p0,q0,hg0,ht0,hv0,hd0, -,_⟩:=hv
 obtain rfl:=l26 (gn0.symm.trans hg0)
 obtain rfl:=l26 (gn1.symm.trans hg1)
 have tt0:(Tryz.prog.globals[0]?).map (·.type)=some 205:=by kernel_rfl
 have tt1:(Tryz.prog.globals[1]?).map (·.type)=some 355:=by kernel_rfl
 obtain rfl:=l26 (tt0.symm.trans ht0)
 obtain rfl:=l26 (tt1.symm.trans ht1)
 rw[show(Rows.laid_yardstick_digest_round (H:=Unit))=_ from B79]at hd0
 rw[show(Rows.laid_internal_strconv_uint64pow10 (H:=Unit))=_ from B78]at hd1
 have k0:=qZ (e:=140) (by kernel_rfl) (by kernel_rfl) (by kernel_rfl) (by kernel_rfl) hd0
 have k1:=qZ (e:=181) (by kernel_rfl) (by kernel_rfl) (by kernel_rfl) (by kernel_rfl) hd1
 intro L g cs hg i v hvv
 match g,hg with
 |0,hg=>
  have e:(E L).G 0=some (gl0.map unV):=rfl
  rw[e]at hg
  obtain rfl:=l26 hg
  rw[World.var?_cell hg0 hv0 i,<-B',k0,<-B7K]
  exact hvv
 |1,hg=>
  have e:(E L).G 1=some (gl1.map unV):=rfl
  rw[e]at hg
  obtain rfl:=l26 hg
  rw[World.var?_cell hg1 hv1 i,<-B',k1,<-B7I]
  exact hvv
 |g+2,hg=>
  exfalso
  have e:(E L).G (g+2)=(glB.get (g+2)).map λcs=>cs.map unV:=rfl
  have e1:Nat.beq (g+2) 1=false:=rfl
  have e2:Nat.blt (g+2) 1=false:=rfl
  have e3:glB.get (g+2)=none:=by
   unfold glB
   simp only[BT.get,e1,e2]
  rw[e,e3]at hg
  cases hg
theorem I'{z:Int}(h:(Lit.int .i64 z).wf=true):J8 z:=by
 have h1: -9223372036854775808<=z/\z<=9223372036854775807:=by simpa [Lit.wf,IntKind.min,IntKind.max,IntKind.signed,IntKind.bits] using h
 exact⟨h1.1,by omega⟩
theorem R?{H:Type}{enc:TypeId×Value->H}{W:World}{base:Nat}{spare:Nat->Bool}{held:Bool}{fuel:Nat}{cs:List Value}{x:DataW H×List MemPlace}(h:DataW.trod enc Tryz.prog W base spare held fuel 22 cs=some x):
 cs=[.slice none 0 0]\/∃(a:Addr)(cap:Nat)(ys:List Y7),cs=[.slice (some a) ys.length cap]/\ys.length<=cap/\(∀y∈ys,y.Ok)/\∀i(hi:i<(ys.flatMap Y7.vs).length),W.cell? (a.add i)=some (ys.flatMap Y7.vs)[i]:=by
 rcases Deep.open_slice u22 h with⟨h0,_⟩|⟨a,len,cap,m,n,D,Pl,rfl,hb,hl,hm,hmm,rfl,hx⟩
 ·exact .inl h0
 right
 have hlm:len<=m:=by rw[hmm];split<;>omega
 have hrow:∀i,i<len->∃y:Y7,y.Ok/\∀j(hj:j<7),W.cell? (a.add (i*7+j))=(Y7.vs y)[j]?:=by
  intro i hi
  obtain⟨cs',hc,ht⟩:=hx i (by omega)
  rw[c90]at hc
  obtain⟨_,hl7,hcell⟩:=World.cells?_some hc
  obtain⟨xs,m',_,_,_,hn,hel⟩:=DataW.trod_array u90 ht
  have hz:∀j,j<7->∃z:Int,cs'[j]?=some (.int .i64 z)/\J8 z:=by
   intro j hj
   have h0:=hel j hj
   rw[c3,l28,II (show j<xs.length by omega)]at h0
   obtain⟨z,e1,_,e3⟩:=DataW.trod_int u3 h0
   have hj':j<cs'.length:=by omega
   refine⟨z,?_,?_⟩
   ·rw[II hj']
    have e4:(cs'.drop j).take 1=[cs'[j]]:=by rw[l11 hj'];rfl
    rw[e4]at e1
    have:cs'[j]=.int .i64 z:=by simpa using e1
    rw[this]
   ·exact I' e3
  obtain⟨Z,hZ⟩:=Deep.choose_lt hz
  refine⟨⟨Z 0,Z 1,Z 2,Z 3,Z 4,Z 5,Z 6⟩,⟨(hZ 0 (by omega)).2,(hZ 1 (by omega)).2,(hZ 2 (by omega)).2,(hZ 3 (by omega)).2,(hZ 4 (by omega)).2,(hZ 5 (by omega)).2,(hZ 6 (by omega)).2⟩,λj hj=>?_⟩
  have hc2:W.cell? ((a.add (i*7)).add j)=cs'[j]?:=hcell j hj
  rw[Addr.add_add]at hc2
  rw[hc2,(hZ j hj).1]
  obtain rfl|rfl|rfl|rfl|rfl|rfl|rfl:j=0\/j=1\/j=2\/j=3\/j=4\/j=5\/j=6:=by omega
  all_goals rfl
 haveI:Inhabited Y7:=⟨⟨0,0,0,0,0,0,0⟩⟩
 obtain⟨V,hV⟩:=Deep.choose_lt hrow
 refine⟨a,cap,(List.range len).map V,by simp,by simpa using hl,λy hy=>?_,λi hi=>?_⟩
 ·obtain⟨k,hk,rfl⟩:=US.1 hy
  exact(hV k (I2.1 hk)).1
 ·have h7:(((List.range len).map V).flatMap Y7.vs).length=len*7:=by rw[pY Y7.vs 7 (λ_=>rfl)];simp
  have hi':i<len*7:=by omega
  have hd:i/7<len:=by omega
  have e:=A60 Y7.vs 7 (λ_=>rfl) ((List.range len).map V) (i/7) (i%7) (by simpa using hd) (by omega)
  rw[show i/7*7+i%7=i by omega,II hi]at e
  have h1:=(hV (i/7) hd).2 (i%7) (by omega)
  rw[show i/7*7+i%7=i by omega]at h1
  rw[h1,e]
  simp
theorem A3o{W:World}{a:Addr}{v:Value}(h:W.cell? a=some v):a=⟨a.block,a.off,none⟩:=by
 obtain⟨b,o,sp⟩:=a
 cases sp with
 |none=>rfl
 |some k=>
  unfold World.cell? at h
  split at h
  ·simp at h
  ·cases h
theorem A72{a:Addr}(i:Nat)(h:a=⟨a.block,a.off,none⟩):a.add i=⟨a.block,a.off+i,none⟩:=by
 rw[h]
 unfold Addr.add
 by_cases hi:i=0
 ·subst hi;rfl
 ·rw[Co hi]
theorem nL{H:Type}{enc:TypeId×Value->H}{P:Program}{f:Func}{s:ChangeSpec}{apart fresh tI again:Bool}{W W':World}{args:Array Value}{v:Value}{ds gs:List (DataW H)}{before pa pv:List MemPlace}(hW:DataW.Whole enc P f.params.toList s.vars apart W args.toList ds gs before)(hres:∀(b:Nat)(sp:Nat->Bool)(hd:Bool),DataW.TrodAll enc P W' b sp hd f.resultTypes.toList (v.resultList f.resultTypes.size) (s.fn H (ds++gs)).results [])(hargs:∀sp:Nat->Bool,(∀p∈before,sp p.block=true)->DataW.TrodAll enc P W' 0 sp true f.params.toList args.toList (s.fn H (ds++gs)).args pa)(hvars:∀sp:Nat->Bool,(∀p∈before,sp p.block=true)->DataW.TrodVars enc P W' sp s.vars (s.fn H (ds++gs)).vars pv)(hps:before=pa++pv)(hb:Below W.heap.size W W')(hok:∀(j:Nat)(t:TypeId)(r:Value),f.resultTypes[j]?=some t->(v.resultList f.resultTypes.size)[j]?=some r->Value.okWide P W' .any 0 t r):
 s.post enc P f apart fresh tI again W args v W':=by
 have hold:∀p∈before,(λb=>decide (b<W.heap.size)) p.block=true:=λp hp=>by simpa using hW.lt p hp
 have hlt:=hW.lt
 refine⟨ds,gs,before,[],pa,pv,hW,hres _ _ _,hargs _ hold,hvars _ hold,World.keptBut_mono (λp hp=>⟨hp,?_⟩) (hb.frame (· ∈before)),λ_=>?_⟩
 ·rw[hps,VP]at hp
  exact Or.inr hp
 ·obtain⟨_,_,_,_,_,hz,hn⟩:=hW
  refine⟨hok,_,_,([]++pa)++pv,⟨[]++pa,pv,trodAll_append (hargs _ (λ_ _=>rfl)) (hres _ _ _),hvars _ (λ_ _=>rfl),rfl,?_,?_⟩,?_⟩
  ·intro b off hp
   have hm:MemPlace.cell b off∈before:=by rw[hps];simpa using hp
   rw[hb.frozen (hlt _ hm)]
   exact hz b off hm
  ·intro ha
   have:=hn ha
   rw[hps]at this
   simpa using this
  ·intro p hp _
   rw[hps]
   simpa using hp
theorem A8D{H:Type}{enc:TypeId×Value->H}{W:World}{base:Nat}{spare:Nat->Bool}{held:Bool}{a0:Option Addr}{n0 k0:Nat}{d:DataW H}{p:List MemPlace}(h0:DataW.Trod enc Tryz.prog W base spare held 22 (.slice a0 n0 k0) d p):
 ∃xs:List Y7,(∀y∈xs,y.Ok)/\VRel (A6E W) W (.list xs.length (xs.flatMap Y7.cs)) (.slice a0 n0 k0):=by
 obtain⟨f,hf⟩:=h0
 rcases R? hf with hc|⟨a,cap,ys,hc,hle,hok,hcell⟩
 ·simp only[Value.cells,List.cons.injEq,Value.slice.injEq,and_true]at hc
  obtain⟨rfl,rfl,rfl⟩:=hc
  exact⟨[],by simp,.list0⟩
 ·simp only[Value.cells,List.cons.injEq,Value.slice.injEq,and_true]at hc
  obtain⟨rfl,rfl,rfl⟩:=hc
  refine⟨ys,hok,?_⟩
  rw[B5Q]
  refine A81 hle (λe=>by rw[tC e];rfl) (λi hi=>?_) (λe=>by rw[pY Y7.vs 7 (λ_=>rfl)];omega)
  have h0:=hcell 0 (by omega)
  have hs:a=⟨a.block,a.off,none⟩:=A3o (v:=(ys.flatMap Y7.vs)[0]'(by omega)) (by simpa [Addr.add] using h0)
  exact⟨a.block,a.off,by rw[<-hs],by rw[<-A72 i hs];exact hcell i hi⟩
end Go.Proofs.YthffkeagibaidaaGreatDoor
end
noncomputable section
namespace Go.Abs
open Go.RowKit Go.Proofs
set_option maxRecDepth 100000
theorem XU{W:World}(hG:∀L(g:Nat)(cs:List Value),(E L).G g=some cs->∀(i:Nat)(v:Value),cs[i]?=some v->W.cell? ⟨g,i,none⟩=some v){xs:List Y7}{v0:Value}{z1:Int}{z2:Int}(h0:VRel (A6E W) W (.list xs.length (xs.flatMap Y7.cs)) v0)(hok:∀y∈xs,y.Ok)(g1:J8 z1)(g2:J8 z2):
 Calls Tryz.prog 3 #[v0,.int .i64 z1,.int .i64 z2] W λe W'=>e=.returned (.bool true)/\Below W.heap.size W W':=by
 obtain⟨L,hL⟩:∃L,200000<L:=⟨200001,by decide⟩
 have h:=vM (L:=L) (n:=0) (xs:=xs) (a0:=.list xs.length (xs.flatMap Y7.cs)) (K:=λv _=>some (v,[])) hL (.inl rfl) hok g1 g2 (λ_=>rfl)
 have ac:=((A4x (L+20) (0+82)).call _ _ _ _ _ h).2 ⟨W,λ_=>False⟩ (A6E W) W [v0,.int .i64 z1,.int .i64 z2] (B9b (hG _)) ?_
 ·refine ac.mono λe W' ⟨v,y,C',H',he,hr,hv,_,hq⟩=>?_
  injection hq with hq
  injection hq with hq _
  subst hq
  have hy:y=.bool true:=A6.1 hv
  subst hy
  have hb:=hr.below
  exact⟨he,hb.os,hb.tape,hb.output,hb.size,λk hk=>hb.block k hk (λhf=>hf)⟩
 ·refine⟨rfl,λi v hv=>?_⟩
  match i,hv with
  |0,hv=>cases hv;exact⟨_,rfl,h0⟩
  |1,hv=>cases hv;exact⟨_,rfl,.v _⟩
  |2,hv=>cases hv;exact⟨_,rfl,.v _⟩
end Go.Abs
namespace Go.Proofs.YthffkeagibaidaaGreatDoor
open Go.ChangeShapes Go.WideShapes Go.ChangeAt Go.WideMaps Go.WideElems Go.RowKit Go.Abs
set_option maxRecDepth 100000
theorem sG:Tryz.f3.params= #[22,3,3]:=by kernel_rfl
theorem XS(os:Os)(started:os.Started)(H:Type)(enc:TypeId×Value->H):
 ReturnsInHanded {} Tryz.checked os 3 .any (λw args=>(Rows.graphForksSpec.pre enc Tryz.prog Tryz.f3 [] false w args/\laidMetH Tryz.prog Rows.graphForksRow.laid w)/\sizedMet enc Tryz.prog Tryz.f3 (OpenSpec.ofChange Rows.graphForksSpec) false w args)
  (Rows.graphForksSpec.post enc Tryz.prog Tryz.f3 false true false false):=by
 refine returnsInHanded_of_change_and (C:=Tryz.checked) (X:=λw _=>laidMetH Tryz.prog Rows.graphForksRow.laid w) (λ_ _ _ hh h=>h.of_heap hh) own started (by kernel_rfl) Tryz.func3
  (ChangeSpec.witness_shaped (enc:=enc) (C:=Tryz.checked) (os:=os) (X:=λw _=>laidMetH Tryz.prog Rows.graphForksRow.laid w) false (World.laidAll Tryz.prog os Rows.graphForksRow.laid) #[.slice none 0 0,.int .i64 0,.int .i64 0] 8 (World.laidAll_os _ _ _)
   (World.shaped_of_ZipB (by kernel_rfl) (by kernel_rfl)) (by kernel_rfl) (by kernel_rfl) (by kernel_rfl)
   (by rw[MakeChecks.laidMetH_plain _ _ _ (by kernel_rfl)];exact laidMet_laidAll _ (by kernel_rfl) (by kernel_rfl))) ?_
 intro W base args ds gs before hval0 hW _ _ hL _
 have hval:∀(j:Nat)t v,Tryz.f3.params[j]?=some t->args[j]?=some v->Value.okWide Tryz.prog W .any base t v:=hval0
 have hW':=hW
 obtain⟨p,q,hA0,hV,rfl,hfz,hnd⟩:=hW
 have hA:DataW.TrodAll enc Tryz.prog W 0 (λ_=>true) true Tryz.f3.params.toList args.toList ds p:=hA0
 rw[sG]at hA hval
 obtain⟨v0,v1,v2,d0,d1,d2,p0,p1,p2,rfl,rfl,rfl,h0,h1,h2⟩:=trodAll_three hA
 obtain⟨rfl,rfl⟩:=trodVars_none hV
 obtain⟨a0,n0,k0,rfl⟩:=okWide_slice u22 (hval 0 22 v0 rfl rfl)
 obtain⟨z1,rfl,rfl,rfl,wz1⟩:=open_int u3 (hval 1 3 v1 rfl rfl) h1
 obtain⟨z2,rfl,rfl,rfl,wz2⟩:=open_int u3 (hval 2 3 v2 rfl rfl) h2
 have hG:=A9j hL
 obtain⟨xs,hok,hx⟩:=A8D h0
 refine(XU hG hx hok (I' wz1) (I' wz2)).mono λe W' ⟨he,hb⟩=>?_
 subst he
 simp only[fV]at hW'
 have hlt:=hW'.lt
 refine⟨_,rfl,nL (pa:=p0) (pv:=[]) hW' (λ_ _ _=>trodAll_mk1 (shut_bool u4 true)) (λsp hsp=>?_) (λ_ _=>rfl) (by simp) hb (ok_one (by kernel_rfl) rfl (okWide_bool_mk u4 true))⟩
 show DataW.TrodAll enc Tryz.prog W' 0 sp true Tryz.f3.params.toList [.slice a0 n0 k0,.int .i64 z1,.int .i64 z2] [d0,.lit (.int .i64 z1),.lit (.int .i64 z2)] (p0)
 rw[sG]
 have h9:=trodAll_mk3 (WideElems.Trod_stays A9o (by kernel_rfl) (l2t (by kernel_rfl)) h0 (λx hx=>hb.same (hlt x (by simp[hx]))) (λx hx=>hsp x (by simp[hx])))
  (shut_int u3 wz1)
  (shut_int u3 wz2)
 simpa using h9
end Go.Proofs.YthffkeagibaidaaGreatDoor
end
noncomputable section
namespace Go.Proofs.YthffkeagibaidaaGreatDoor
open Go.ChangeShapes Go.WideShapes Go.ChangeAt Go.WideMaps Go.WideElems Go.RowKit
set_option maxRecDepth 100000
theorem graphForks_holds:Rows.GraphForksSaid:=
 OpenClaim.holds_of_wide 3 Tryz.f3 rfl rfl rfl rfl rfl rfl rfl ⟨rfl,rfl,rfl,rfl,rfl⟩ rfl rfl rfl rfl rfl Zx Tryz.func3 B0a
  (l2t (by kernel_rfl)) (by unfold Func.isWrapper;first|(rw[CJ (by decide+kernel)];kernel_rfl)|(rw[Co (by decide+kernel)];exact⟨rfl,rfl⟩))
  (λos started H enc _=>XS os started H enc)
theorem B9q:Rows.graphForksRow.wfByText (OpenSpec.ofChange Rows.graphForksSpec)=true:=by kernel_rfl
theorem B4k:Tryz.pinned.checked.prog.mainIs=some (true, "67d32727be4d3cffa3362eb4edb6e9ce26b12cc4bd44217d5b566dcc9989bc26".toList):=by kernel_rfl
theorem A9v:true=Tryz.pinned.checked.prog.looks []:=by kernel_rfl
theorem A15:Tryz.prog.funcs.any Func.goes=false:=by kernel_rfl
theorem B4l:false=Rows.graphForksRow.goesBy Tryz.pinned.checked.prog:=by
 have h1:∀l:List FuncId,(l.any λg=>(Tryz.prog.funcs[g]?).any Func.goes)=false:=by
  intro l
  rw[List.any_eq_false]
  intro g _
  cases hg:Tryz.prog.funcs[g]? with
  |none=>simp
  |some fn=>
   have h2:=Array.any_eq_false.1 A15
   obtain⟨hlt,e⟩:=l1q.1 hg
   have:=h2 g hlt
   rw[e]at this
   simpa using this
 have h3:Tryz.prog.goes 3=false:=by
  unfold Program.goes
  rw[h1,A15,Bool.and_false,Bool.or_false]
 have hs:Rows.graphForksRow.start=.entering:=rfl
 have hp:Tryz.pinned.checked.prog=Tryz.prog:=rfl
 have hn:Tryz.prog.funcNamed Rows.graphForksRow.func=some 3:=Zx
 unfold OpenClaim.goesBy Program.goesAt Program.goesFrom
 rw[hs,hp,hn,Option.any_some,h3]
 rfl
theorem A9u:([22,3,3].all λu=>!Tryz.prog.wantsStandIn u)=true:=by kernel_rfl
theorem graphForks_card:Rows.GraphForksCardSaid:=
 Claim7.holds_tied_plain_at .later [] [.data,.data,.data,.data,.sentinel,.sentinel,.data,.pinned] true (true, "67d32727be4d3cffa3362eb4edb6e9ce26b12cc4bd44217d5b566dcc9989bc26") true
  graphForks_holds (λ_ h=>by cases h) B9q (λ_ h=>by cases h) graphForks_row_tie rfl ⟨rfl,rfl⟩ B4k rfl
  (λf fn hf hfn=>by
   obtain rfl:f=3:=l26 (Zx.symm.trans hf)|>.symm
   obtain rfl:fn=Tryz.f3:=(l26 (Tryz.func3.symm.trans hfn)).symm
   exact⟨A9v,λj t ht=>by
    rw[sG]at ht
    have hm:t∈[22,3,3]:=by simpa using Array.mem_of_getElem? ht
    exact(show Tryz.prog.wantsStandIn t=false by simpa using Gb.1 A9u t hm)⟩)
  B4l
end Go.Proofs.YthffkeagibaidaaGreatDoor
end
