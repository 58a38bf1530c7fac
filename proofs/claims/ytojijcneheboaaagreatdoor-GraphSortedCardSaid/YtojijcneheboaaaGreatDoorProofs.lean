import Derived.Shelf.Strings.OnBuilder
import Derived.Shelf.Strings.Repeat
import Derived.Shelf.Sort.Plain
import Derived.Shelf.Spec.SlicesGrow
import Derived.Shelf.SlSortCmp.NoneTotal
import Derived.Test.YtojijcneheboaaaGreatDoorProg
import Derived.Lib.Small
import Derived.Lib.Walk
import Derived.Sort.Grow
import Derived.Deep.Draws
import Derived.Laws.Cover1
import Derived.ProofKit
import Derived.Deep.Slices
import Derived.OpenShut
import Derived.Test.YtojijcneheboaaaGreatDoorRows
import Derived.LaidMore
import Derived.Stop.Joined
import Derived.MakeChecks
import Derived.FnData
import Derived.DataElems
import Derived.Lay
import Derived.Test.YtojijcneheboaaaGreatDoorTie
import Derived.Test.YtojijcneheboaaaGreatDoorCards
import Derived.SevenTiedAt
import Derived.Test.YtojijcneheboaaaGreatDoorP30
import Derived.Test.YtojijcneheboaaaGreatDoorP31
import Derived.Test.YtojijcneheboaaaGreatDoorP32
set_option linter.all false
set_option maxHeartbeats 0
noncomputable section
namespace Go.Abs
open Go.RowKit Go.Proofs
set_option maxRecDepth 100000
section
variable{a:Ha}
variable{L n:Nat}
def A3L:AV:=.list 2 (K4.cs++Xo.cs)
def W?:LA [K4,Xo] A3L:=.inl (by
 show AV.list 2 _=AV.list 2 ([K4,Xo].flatMap Cd.cs);simp)
section
variable{K:K2}{H:Hp}
def C3J:Tu 68 Ae 2 [(0,68,.agg K4.cs),(68,68,.agg Xo.cs)] K=K A3L:=by kernel_rfl
def C3K:Tu 68 Ae 2 [(0,68,.agg K4.cs),(68,68,.agg K4.cs)] K=K A8k:=by kernel_rfl
def bf4:Tu 68 Ae 4 [(0,68,.agg B_.cs),(68,68,.agg Z8.cs),(136,68,.agg Xo.cs),(204,68,.agg K4.cs)] K=K Oe:=by kernel_rfl
def bf3:Tu 68 Ae 3 [(0,68,.agg K4.cs),(68,68,.agg Xo.cs),(136,68,.agg N?.cs)] K=K A8j:=by kernel_rfl
def C3I:Tu 1 Ag 1 [(0,1,S a)] K=K (Dp [a]):=by kernel_rfl
def C1Q{a b:Ha}:Tu 1 Ag 2 [(0,1,S a),(1,1,S b)] K=K (Dp [a,b]):=by kernel_rfl
def C3H{a b c d:Ha}:Tu 1 Ag 4 [(0,1,S a),(1,1,S b),(2,1,S c),(3,1,S d)] K=K (Dp [a,b,c,d]):=by kernel_rfl
def ix0{l:List Ha}:Dh Ab (Dp (a::l)) (.v (.int .i64 0)) K=K (.iptr [S a]):=by
 have:=(Ng (a::l)).ia (K:=K) (i:=0) (by simp);exact this
def ix1{a b:Ha}{l:List Ha}:Dh Ab (Dp (a::b::l)) (.v (.int .i64 1)) K=K (.iptr [S b]):=by
 have:=(Ng (a::b::l)).ia (K:=K) (i:=1) (by simp);exact this
def mmT:zF true (S lA) (S lB) K=K (S lB):=by kernel_rfl
def mmF:zF false (S lA) (S lB) K=K (S lA):=by kernel_rfl
def ln2{a b:Ha}:Bh Ab (Dp [a,b]) K=K (.v (.int .i64 2)):=id rfl
def ln3{a b c:Ha}:Bh Ab (Dp [a,b,c]) K=K (.v (.int .i64 3)):=id rfl
def lnp{l:Is}:Bh CJ (.list 1 l) K=K (.v (.int .i64 1)):=id rfl
def C2I:Ap Ac .neq (.v (.int .i64 2)) (.v (.int .i64 2)) K=K (Bo false):=by kernel_rfl
def C2J:Ap Ac .neq (.v (.int .i64 1)) (.v (.int .i64 1)) K=K (Bo false):=by kernel_rfl
def C35:Ap Ac .eql (.v (.int .i64 3)) (.v (.int .i64 3)) K=K (Bo true):=by kernel_rfl
def C36:Ap Ac .eql (I 0) (.v (.int .i64 0)) K=K (Bo true):=by kernel_rfl
end
def B6D(f:40000<L):CS (r! L (n+81)) Vv [] (Bo true):=by
 intro K hK;have c1:∀{H K},Aj (r! L (n+80)) EH [(.v (.int .i64 1))] H K=K (.agg K4.cs):=λ{H K}=>En (A3q (n:=n+35) (k:=1) f (by decide) (by decide) A77) (Aq (q:=false) CG AG);have c2:∀{H K},Aj (r! L (n+80)) EH [(.v (.int .i64 2))] H K=K (.agg Xo.cs):=λ{H K}=>En (A3q (n:=n+35) (k:=2) f (by decide) (by decide) A76) (Aq (q:=false) CG AG);have cI2:∀{H K},Aj (r! L (n+80)) MJ [A3L] H K=K (Dp [lA,lB]):=λ{H K}=>by
  have h:=B3M (L:=L) (n:=n+15) (gs:=[K4,Xo]) (a:=A3L) (by
   intro c hc;simp only[Qd,List.not_mem_nil,or_false]at hc;rcases hc with rfl|rfl
   ·exact⟨xF,show([]:List Ha).Nodup by decide⟩
   ·exact⟨xE,show([]:List Ha).Nodup by decide⟩) (by decide) f W?
  rw[show([K4,Xo].map Cd.id)=[lA,lB] by simp[YB,Y9]]at h;exact AE h (Aq (W?.fx H) AG)
 have cI4:∀{H K},Aj (r! L (n+80)) MJ [Oe] H K=K (Dp [lD,lC,lB,lA]):=λ{H K}=>by
  have h:=B3M (L:=L) (n:=n+15) (gs:=gs4) (a:=Oe) (λc hc=>⟨qL.ok c hc,qL.nd c hc⟩) (by decide) f Vj;rw[show(gs4.map Cd.id)=[lD,lC,lB,lA] by simp[gs4,YB,Y9,oF,xG]]at h;exact AE h (Aq (Vj.fx H) AG)
 have cC:∀{H K},Aj (r! L (n+80)) FR [(.v (.int .i64 3)),Dp [lA,lB]] H K=K (.agg Z8.cs):=λ{H K}=>En (A3r (n:=n+35) (k:=3) f (by decide) (by decide) (l:=[lA,lB]) rfl (by simp[lA,lB]) A75) (Aq (q:=false) CG (Aq ((Ng _).fx H) AG));have cD:∀{H K},Aj (r! L (n+80)) FR [(.v (.int .i64 4)),Dp [lC,lM]] H K=K (.agg B_.cs):=λ{H K}=>En (A3r (n:=n+35) (k:=4) f (by decide) (by decide) (l:=[lC,lM]) rfl (by simp[lC,lM]) A74) (Aq (q:=false) CG (Aq ((Ng _).fx H) AG));have cP:∀{H K},Aj (r! L (n+80)) GS [(.v (.int .i64 77))] H K=K (S lM):=λ{H K}=>by
  rw[<-C0x];exact oQ (n:=n+60) f (by decide) (by decide) H K
 have aj:∀{H K},Aj (r! L (n+80)) Hv [.agg Z8.cs] H K=K (S lC):=λ{H K}=>by
  rw[<-oF];exact AE (zQ (n:=n+16) f A72 (show[lA,lB].Nodup by decide)) (eF H)
 have f4:∀{H},Py true depth [Oe] [Oe] H false:=λ{H}=>Aq (Vj.fx H) AG;have i:∀{H}{s:Ha},Py true depth [Oe,S s] [Oe,S s] H false:=λ{H s}=>Aq (Vj.fx H) (Aq (q:=false) CG AG);have m:∀{H}{a b:List Ha},Py true depth [Dp a,Dp b] [Dp a,Dp b] H false:=λ{H a b}=>Aq ((Ng a).fx H) (Aq ((Ng b).fx H) AG);have cO:∀{H K},Aj (r! L (n+80)) Gy [Oe] H K=K (.tup [Dp [lB,lA,lC,lD],I 0]):=λ{H K}=>HB (B1r (n:=n+15) f) f4;have cF:∀{H K},Aj (r! L (n+80)) G6 [A8j] H K=K (.list 1 [S lE,S lB]):=λ{H K}=>HB (B1u (n:=n+15) f) (Aq (yF.fx H) AG);have ah:∀{H K},Aj (r! L (n+80)) Fg [Oe,S lC] H K=K (.tup [.agg Z8.cs,Bo true]):=λ{H K}=>HB (B1w (n:=n+15) f) i;have ai:∀{H K},Aj (r! L (n+80)) Fg [Oe,S lM] H K=K (.tup [.agg Bi,Bo false]):=λ{H K}=>HB (B1v (n:=n+15) f) i;have cM:∀{H K},Aj (r! L (n+80)) Ff [Oe] H K=K (Dp [lM]):=λ{H K}=>HB (A4U (n:=n+15) f) f4;have cH:∀{H K},Aj (r! L (n+80)) Gz [Oe] H K=K (Dp [lD]):=λ{H K}=>HB (B1t (n:=n+15) f) f4;have af:∀{H K},Aj (r! L (n+80)) CL [Oe,S lC] H K=K (Dp [lB,lA]):=λ{H K}=>HB (B9Q (n:=n+15) f) i;have ag:∀{H K},Aj (r! L (n+80)) CL [Oe,S lD] H K=K (Dp [lB,lC,lA]):=λ{H K}=>HB (B9P (n:=n+15) f) i;have cV:∀{H K},Aj (r! L (n+80)) IW [Oe] H K=K (Bo true):=λ{H K}=>HB (B1p (n:=n+15) f) f4;have ak:∀{H K},Aj (r! L (n+80)) IW [A8k] H K=K (Bo false):=λ{H K}=>HB (A78 (n:=n+15) f) (Aq (yG.fx H) AG);have cS:∀{H K},Aj (r! L (n+80)) Ew [.agg Z8.cs,.agg Z8.cs] H K=K (Bo true):=λ{H K}=>HB (B6E (n:=n+15)) (Aq (T3 (D:=depth-3)) (Aq (T3 (D:=depth-3)) AG));have s1:∀{H K},Aj (r! L (n+80)) Bl [Dp [lM],Dp [lM]] H K=K (Bo true):=λ{H K}=>HB (B9O (n:=n+78)) m;have s2:∀{H K},Aj (r! L (n+80)) Bl [Dp [lD],Dp [lD]] H K=K (Bo true):=λ{H K}=>HB (B9N (n:=n+78)) m;have s3:∀{H K},Aj (r! L (n+80)) Bl [Dp [lB,lA],Dp [lB,lA]] H K=K (Bo true):=λ{H K}=>HB (B9M (n:=n+78)) m;have s4:∀{H K},Aj (r! L (n+80)) Bl [Dp [lB,lA,lC,lD],Dp [lB,lA,lC,lD]] H K=K (Bo true):=λ{H K}=>HB (B9L (n:=n+78)) m;have P:gr gs4=[(lD,cE B_),(lC,cE Z8),(lB,cE Xo),(lA,cE K4)]:=by simp[gr,gs4,YB,Y9,oF,xG]
 have Q:∀c∈gs4,c.ps.length<100:=λc hc=>by have:=A9F (qL.ok c hc);omega
 have cR:∀{s:Ha}{H K},Aj (r! L (n+80)) D4 [Oe,S s] H K=K (Bo (rz [(lD,cE B_),(lC,cE Z8),(lB,cE Xo),(lA,cE K4)] 4 s)):=λ{s H K}=>by
  have:=Y5 (L:=L) (n:=n) (s:=s) qL f Q Vj;rw[P]at this;exact AE this i
 have r1:rz [(lD,cE B_),(lC,cE Z8),(lB,cE Xo),(lA,cE K4)] 4 lC=true:=by decide
 have r2:rz [(lD,cE B_),(lC,cE Z8),(lB,cE Xo),(lA,cE K4)] 4 lD=false:=by decide
 have cR1:∀{H K},Aj (r! L (n+80)) D4 [Oe,S lC] H K=K (Bo true):=λ{H K}=>by rw[cR,r1]
 have cR2:∀{H K},Aj (r! L (n+80)) D4 [Oe,S lD] H K=K (Bo false):=λ{H K}=>by rw[cR,r2]
 clear cR r1 r2 P Q f4 i m;rw[pX];unfold Vc E0 Vo BK JD Az MS Fk;obtain⟨H1,e1,C,w1, -⟩:=DY (e:=Ad) (zs:=Bi) (vs:=K4.cs) E1 BC;rw[c1,AP (cs:=Bi) rfl,Bv (cs:=Bi) (vs:=K4.cs) (Av (by simp)) BC rfl Ic,<-e1];generalize Ax []=a at C;obtain⟨H2,e2,x,w2,k2⟩:=DY (e:=Ad) (zs:=Bi) (vs:=Xo.cs) w1 BC;rw[c2,AP (cs:=Bi) rfl,Bv (cs:=Bi) (vs:=Xo.cs) (Av (by simp)) BC rfl Ic,<-e2];have F:=(k2 _ _ C).1;generalize Ax H1=b at x;clear e1 e2 k2 C w1;rw[AX rfl BC.symm F,AX rfl BC.symm x,C3J,cI2];simp only[ix0,ix1,Hy,mmT,mmF,BN];obtain⟨H3,e3,A,w3,k3⟩:=DY (e:=Ad) (zs:=Bi) (vs:=Z8.cs) w2 BC;rw[cC,AP (cs:=Bi) rfl,Bv (cs:=Bi) (vs:=Z8.cs) (Av (by simp)) BC rfl Ic,<-e3];have X:=(k3 _ _ F).1;have aa:=(k3 _ _ x).1;generalize Ax H2=c at A;clear e3 k3 F x w2;rw[cP,AX rfl BC.symm A,aj,C1Q,cD];obtain⟨H4,e4,J,w4,k4⟩:=DY (e:=Ad) (zs:=Bi) (vs:=B_.cs) w3 BC;rw[AP (cs:=Bi) rfl,Bv (cs:=Bi) (vs:=B_.cs) (Av (by simp)) BC rfl Ic,<-e4];have Y:=(k4 _ _ X).1;have ab:=(k4 _ _ aa).1;have ac:=(k4 _ _ A).1;generalize Ax H3=d at J;clear e4 k4 X aa A w3;obtain⟨H5,e5,B,w5,R⟩:=DY (e:=Ad) (zs:=Bi) (vs:=Xo.cs) w4 BC;rw[c2,AP (cs:=Bi) rfl,Bv (cs:=Bi) (vs:=Xo.cs) (Av (by simp)) BC rfl Ic,<-e5];obtain⟨j,na⟩:=R _ _ Y;obtain⟨t,nb⟩:=R _ _ ab;obtain⟨u,nc⟩:=R _ _ ac;obtain⟨w,nd⟩:=R _ _ J;generalize Ax H4=e at B na nb nc nd;clear e5 R Y ab ac J w4;have eE:Xo.cs.set 5 (.v (.int .i64 9))=N?.cs:=rfl;rw[VY,Em B (by rw[BC];decide) rfl rfl rfl,eE];have M:=A5 (q:=true) (e:=Ad) (cs:=N?.cs) B;rw[<-Ah (y:=.cells true Ad N?.cs) na]at j;rw[<-Ah (y:=.cells true Ad N?.cs) nb]at t;rw[<-Ah (y:=.cells true Ad N?.cs) nc]at u;rw[<-Ah (y:=.cells true Ad N?.cs) nd]at w;have w6:=Bs (r:=e) (y:=.cells true Ad N?.cs) w5;generalize upd H5 e (c_ Ad N?.cs)=H6 at M j t u w w6;clear B na nb nc nd w5;rw[AX rfl BC.symm w,AX rfl BC.symm u,AX rfl BC.symm t,AX rfl BC.symm j,bf4,cI4,cO,CI,CH,AX rfl BC.symm j,AX rfl BC.symm t,AX rfl BC.symm M,bf3,cF,ix1,Hy,ah,CI,CH];obtain⟨H7,e7,N,w7,k7⟩:=DY (e:=Ad) (zs:=Bi) (vs:=Z8.cs) w6 BC;rw[AP (cs:=Bi) rfl,Bv (cs:=Bi) (vs:=Z8.cs) (Av (by simp)) BC rfl Ic,<-e7];have Z:=(k7 _ _ j).1;have ad:=(k7 _ _ u).1;have rd7:=(k7 _ _ w).1;generalize Ax H6=g at N;clear e7 k7 j t u w M w6;obtain⟨O,e8, -,w8,V⟩:=DY (e:=Ad) (zs:=Bi) (vs:=Bi) w7 rfl;rw[ai,CI,CH,AP (cs:=Bi) rfl,Bv (cs:=Bi) (vs:=Bi) (Av (by simp)) rfl rfl rfl,<-e8];have am:=(V _ _ Z).1;have ae:=(V _ _ ad).1;have ao:=(V _ _ rd7).1;have ap:=(V _ _ N).1;generalize Ax H7=h;clear e8 V Z ad rd7 N w7 w8;have dA:∀{K},A7 Ae (.ptr a 0 0) O K=K (.agg K4.cs):=λ{K}=>AX rfl BC.symm am;have dC:∀{K},A7 Ae (.ptr c 0 0) O K=K (.agg Z8.cs):=λ{K}=>AX rfl BC.symm ae;have dF:∀{K},A7 Ae (.ptr g 0 0) O K=K (.agg Z8.cs):=λ{K}=>AX rfl BC.symm ap;have pC:∀{K},A7 Ab (.ptr c 31 0) O K=K (Dp [lA,lB]):=λ{K}=>AH (p:=31) rfl ae (show 31<68 by decide);have pD:∀{K},A7 Ab (.ptr d 31 0) O K=K (Dp [lC,lM]):=λ{K}=>AH (p:=31) rfl ao (show 31<68 by decide);simp only[VY,pC,ln2,C2I,gT,Ck,pD,ZG,lnp,C2J];rw[Bm];simp only[cM,C3I,s1,BN,gT,Ck,cH,ix0,ix1,Hy,s2,Xu,af,C1Q,s3,ag,ln3,C35,C36,C3H,s4,cR1,cR2,ntF,xR,cV,dA,C3K,ak,dF,dC,cS];exact hK _ _ (λb=>⟨false,λK=>by kernel_rfl⟩)
end
section
variable{p:OU}
variable{L n:Nat}
section
variable{gs ls:dn}{s x:AQ}
def Anc.perm(hn:(gs.map Cd.id).Nodup)(h:ls.Perm gs)(c:Anc ls s x):Anc gs s x:=by
 have a:(ls.map Cd.id).Perm (gs.map Cd.id):=h.map _
 induction c with
 |one h1 h2=>exact .one (a.mem_iff.1 h1) (by rw[<-gB hn h];exact h2)
 |more _ h1 h2 ih=>exact .more ih (a.mem_iff.1 h1) (by rw[<-gB hn h];exact h2)
def A5W(hn:(gs.map Cd.id).Nodup)(h:ls.Perm gs):iX ls s=iX gs s:=by
 have a:(ls.map Cd.id).Perm (gs.map Cd.id):=h.map _;refine HM ?_ A2Y A2Y;refine(l2x (zX (a.symm.nodup hn)) (zX hn)).2 λx=>?_;rw[eI,eI];exact⟨Anc.perm hn h,Anc.perm (a.symm.nodup hn) h.symm⟩
def A5p(hn:(gs.map Cd.id).Nodup)(h:ls.Perm gs):Jo (gr ls) s=Jo (gr gs) s:=by
 have d:(ls.map Cd.id).Perm (gs.map Cd.id):=h.map _;rw[yT,yT];by_cases a:s∈gs.map Cd.id
 ·obtain⟨c,hc,rfl⟩:=Us.1 a;rw[IQ hn hc,IQ (d.symm.nodup hn) (h.mem_iff.2 hc)]
 ·rw[Pt (b:=gE ls) (by rw[Vp];exact λhc=>a (d.mem_iff.1 hc)),Pt (b:=gE gs) (by rw[Vp];exact a)]
def B1A(hn:(gs.map Cd.id).Nodup)(h:ls.Perm gs):∀(N:Nat)(s:AQ),rz (gr ls) N s=rz (gr gs) N s:=by
 intro N
 induction N with
 |zero=>intro s;rfl
 |succ N ih=>
  intro s;unfold rz;rw[A5p hn h];cases Jo (gr gs) s with
  |none=>rfl
  |some c=>rw[show rz (gr ls) N=rz (gr gs) N from funext ih]
def GOk.permG(a:GOk gs)(h:ls.Perm gs):GOk ls:=⟨λc hc=>a.ok c (h.mem_iff.1 hc),λc hc=>a.nd c (h.mem_iff.1 hc),(h.map Cd.id).symm.nodup a.ids,by rw[h.length_eq];exact a.len⟩
end
section
variable{H:Hp}{K:KV}{x0:Af}{l:List OU}
def C1p{K:K2}:PW Pe .neq (.agg (Yn p)) (.agg (Yn p)) K=K (Bo false):=A2B (ks:=Pe) (xs:=[.string ⟨⟨p.1⟩⟩,.string ⟨⟨p.2⟩⟩]) rfl
def xO{K:K2}:Bh CJ (rQ l) K=K (I l.length):=by
 unfold rQ;by_cases h:l=[]
 ·subst h;exact id rfl
 ·rw[Cr h];exact id rfl
def B7h{i:Nat}(h:i<l.length){K:K2}:Dh CJ (rQ l) (I i) K=K (.iptr (Yn l[i])):=by
 unfold rQ;rw[Cr (λe=>by subst e;simp at h)];exact iM (f:=Yn) rfl (λ_=>rfl) h
def B8h{K:K2}:A7 DP (.iptr (Yn p)) H K=K (.agg (Yn p)):=r_ rfl
theorem B3H{k:Ru}(a:l.length<1000)(hk:k H=x0):
 ∀(fuel i:Nat),l.length<fuel+i->i<=l.length->Mb (L+20) (r! L n) K k fuel (rQ l) (rQ l) (I i) H=x0
 |0,i,h1,h2=>by omega
 |fuel+1,i,h1,h2=>by
  rw[Wr];unfold Me Lo Az Fk;rw[xO];by_cases h:i<l.length
  ·rw[Fo (by omega),CA];simp only[B7h h,B8h,BN,C1p];rw[Bm,Dg (by omega)];exact B3H a hk fuel (i+1) (by omega) (by omega)
  ·rw[XA2 (by omega),Bm];exact hk
def B0J(c:l.length<1000)(d:1000<L):CS (r! L (n+1)) Ko [rQ l,rQ l] (Bo true):=by
 intro K a;rw[XU];unfold Nl Az MS Fk;rw[xO,xO,A8g,Bm];simp only[BJ];exact B3H (n:=n) c (a _ _ λb=>⟨false,CG⟩) (L+20) 0 (by omega) (by omega)
def A84:Fx true depth (rQ l) (rQ l) H false:=by
 unfold rQ;by_cases h:l=[]
 ·rw[CZ h];exact CG
 ·rw[Cr h];exact Pc
end
section
variable{gs:dn}{K:KV}{x0:Af}
def A8a:∀(N:Nat)(out:List AQ),(gC gs N out).length<=out.length+N:=by
 intro N
 induction N with
 |zero=>intro out;exact Oj _
 |succ N ih=>
  intro out;unfold gC;cases FF (sM gs out) with
  |nil=>simp only[];omega
  |cons m t=>
   have:=ih (out++[m]);rw[EJ]at this;simp only[Kj,PQ]at this⊢;omega
def oS(gs:dn):List AQ:=if gs.length<=(YH gs).length then YH gs else[]
def oE(gs:dn):Int:=if gs.length<=(YH gs).length then 0 else 220
def A88(gs:dn):XT gs=.tup [Dp (oS gs),I (oE gs)]:=by
 unfold XT oS oE;by_cases h:gs.length<=(YH gs).length
 ·rw[CZ h,CZ h,CZ h]
 ·rw[Cr h,Cr h,Cr h];rfl
def B7m(h:gs.length<=8):(oS gs).length<1000:=by
 unfold oS;split
 ·have:=A8a (gs:=gs) gs.length [];show(gC gs gs.length []).length<1000;simp at this;omega
 ·decide
def B34{nm:Sg->NK}:∀(l pre:List Sg)(N:Nat),pre.length+l.length<=N->(fkG nm pre l).length<=l.length*N:=by
 intro l
 induction l with
 |nil=>intro pre N _;exact D! _
 |cons x l ih=>
  intro pre N h;rw[A08,EJ,Ub];have h1:(uV nm pre (nm x)).length<=pre.length:=l2v _ _;have h2:=ih (pre++[x]) N (by simp at h⊢;omega);rw[Kj]at h⊢;rw[uY];omega
def B3t:Ae.bytes<=100000:=by decide
def wY{xs:List Y7}{a0 w:AV}{ws:List Int}{g:Int}(hL:200000<L)(hx:XA xs a0)(af:∀y∈xs,y.Ok)(hw:NA ws w)(hf:KO g)(hK:∀m,K (Bo true) m=some (Bo true,[])):(r! L (n+82)).call Qf [a0,w,I g] [] K=some (Bo true,[]):=by
 rw[VO];unfold Lx HN BK Az Fk;obtain⟨f,N⟩:=A8F xs (min 8 xs.length) (by omega);have ai:Fx true depth a0 a0 [] false:=by
  rcases hx with rfl|⟨_,rfl⟩
  ·exact Pc
  ·exact CG
 rw[AE (B6D (n:=n) (by omega)) AG,En (A7B (n:=n+16) (by omega) hx af) (Aq ai AG)];generalize P0 xs (min 8 xs.length)=gs at f N;have k:=B2m gs;have R:=f.len;have j:∀c∈gs,c.ps.length<100:=λc hc=>by have:=A9F (f.ok c hc);omega
 rw[C3G];have ah:AZ ((Ax [],Row.cells false Ad [])::([]:Hp)) Ad 68 (.sl 68 (Ax []) 0 0) 0 []:=.inr ⟨Ax [],false,rfl,Av (by simp),rfl⟩;have O:∀K:Nat->Is->Af,Ui ((Ax [],Row.cells false Ad [])::([]:Hp)) (YQ gs) K=K gs.length (gs.flatMap Cd.cs):=λK=>by
  cases gs<;>exact id rfl
 obtain⟨vm,Z,k1,V,k3,k4⟩:=apt (ie:=Ae) (i2:=A9) ah O (mG (λ_=>BC) gs) (A5O gs) (by decide) rfl (by cases gs<;>rfl)
  (gP (Nat.mul_le_mul (show 0+gs.length<=8 by omega) B3t) (by decide)) (by omega)
 have w6:Wf Z:=k4.wf (AM E1);rw[k1];simp only[BJ];rw[Kk,l35]at V;obtain⟨r,q,rfl,hl⟩:∃r q,vm=.sl 68 r 0 gs.length/\Al Z r=some (.cells q Ad (gs.flatMap Cd.cs)):=by
  rcases V with⟨rfl,Q,_⟩|⟨r,q,rfl,hl,_⟩
  ·exfalso;have ae:=lX Q;subst ae;have e:=k1 λv H=>some (v,H);have P:(match Ed Ad 68 Ae A9 (.sl 68 (Ax []) 0 0) (YQ []) ((Ax [],Row.cells false Ad [])::([]:Hp)) (λv H=>some (v,H)) with
    |some (.sl _ _ _ _,_)=>true
    |_=>false)=true:=by kernel_rfl
   rw[e]at P;cases P
  ·exact⟨r,q,rfl,hl⟩
 refine C0Z (n:=n+80) (ms:=gs) hw R (λms m t w0 ag=>?_) (L+20) 0 gs Z (by omega) (by omega) (.refl _) w6 ⟨q,hl⟩;obtain⟨q0,M⟩:=ag;have aa:∀{K:K2},Ap Ac .eql (I (gs.length:Int)) (.v (.int .i64 0)) K=K (Bo (decide (gs.length=0))):=λ{K}=>by
  rw[Dn]
  congr 3
  simp
 rw[k.len,aa];by_cases Q:gs.length=0
 ·rw[Ki Q,CA];exact hK _
 rw[KD Q,Bm];obtain⟨C,H1,f1,a,flat⟩:=C19 (v:=.sl 68 r 0 gs.length) (H:=m) (A:=ms) (.inr ⟨r,q0,by rw[t.length_eq],M,mG (λ_=>BC) ms⟩);show(A0u (.sl 68 r 0 gs.length) m λao ak=>_)=_;rw[f1];have w0:=flat.wf w0;clear M f1 flat;generalize H1=m at w0;rw[k.len];have i:=f.permG t;have u:∀c∈ms,c.ps.length<100:=λc hc=>j c (t.mem_iff.1 hc);rw[S_ (n:=n+80) hf (by omega) (by omega)];obtain⟨p1,p2⟩:=EM (c:=g) (n:=(gs.length:Int)) (by omega);generalize pk g gs.length=pz at p1 p2;obtain⟨A,rfl⟩:∃A:Nat,pz=(A:Int):=⟨pz.toNat,by omega⟩
 have hA:A<gs.length:=by omega
 rw[k.ia hA,qX];have hc:=Of hA;generalize gs[A]=c at hc;have ad:=t.mem_iff.2 hc;have B:∀H,Py true depth [YQ gs] [YQ gs] H false:=λH=>Aq (k.fx H) AG;rw[AE (zQ (n:=n+17) (by omega) (f.ok c hc) (f.nd c hc)) (eF m)];have o1:∀{F:K2},Aj (r! L (n+81)) Gy [YQ gs] m F=F (XT gs):=λ{F}=>AE (A3f (n:=n+1) f hL j k) (B m);have o2:∀{F:K2},Aj (r! L (n+81)) Gy [C] m F=F (XT gs):=λ{F}=>by
  rw[<-A5a f.ids t];exact AE (A3f (n:=n+1) i hL u a) (Aq (a.fx m) AG)
 have d1:∀{F:K2},Aj (r! L (n+81)) Fg [YQ gs,S c.id] m F=F (.tup [.agg c.cs,Bo true]):=λ{F}=>En (A6L (n:=n+16) f (by omega) k hc) (Aq (k.fx m) (Aq (q:=false) CG AG));rw[o1,A88,CI,CH,o2,A88,CI,CH,d1,CI,CH];rw[AP (cs:=Bi) rfl,Bv (cs:=Bi) (vs:=c.cs) (Av (by simp)) BC rfl Ic];obtain⟨Y,P,ab,w2,am⟩:=DY (e:=Ad) (zs:=Bi) (vs:=c.cs) w0 BC;rw[<-P];have d2:∀{F:K2},Aj (r! L (n+81)) Fg [C,S c.id] Y F=F (.tup [.agg c.cs,Bo true]):=λ{F}=>En (A6L (n:=n+16) i (by omega) a ad) (Aq (a.fx Y) (Aq (q:=false) CG AG));rw[d2,CI,CH];rw[AP (cs:=Bi) rfl,Bv (cs:=Bi) (vs:=c.cs) (Av (by simp)) BC rfl Ic];obtain⟨d,e3,ac,w3,aj⟩:=DY (e:=Ad) (zs:=Bi) (vs:=c.cs) w2 BC;rw[<-e3];have J:=(aj _ _ ab).1;generalize Ax m=r0 at*;generalize Ax Y=r2 at*;have ld1:∀{F:K2},A7 Ae (.ptr r0 0 0) d F=F (.agg c.cs):=λ{F}=>AX rfl BC.symm J;have ld2:∀{F:K2},A7 Ae (.ptr r2 0 0) d F=F (.agg c.cs):=λ{F}=>AX rfl BC.symm ac;have X:∀{l:List AQ}{F:K2},l.length<1000->Aj (r! L (n+81)) Bl [Dp l,Dp l] d F=F (Bo true):=λ{l F}h=>AE (B4H (n:=n+80) h (by omega)) (Aq Xt (Aq Xt AG));have sP:∀{l:List OU}{F:K2},l.length<1000->Aj (r! L (n+81)) Ko [rQ l,rQ l] d F=F (Bo true):=λ{l F}h=>AE (B0J (n:=n+80) h (by omega)) (Aq A84 (Aq A84 AG));have sC:∀{F:K2},Aj (r! L (n+81)) Ew [.agg c.cs,.agg c.cs] d F=F (Bo true):=λ{F}=>AE (q_c (n:=n+40) (f.ok c hc) (by omega)) (Aq (T3 (D:=9)) (Aq (T3 (D:=9)) AG));have z1:∀{F:K2},Aj (r! L (n+81)) D4 [YQ gs,S c.id] d F=F (Bo (rz (gr gs) gs.length c.id)):=λ{F}=>AE (Y5 (n:=n+1) f (by omega) j k) (Aq (k.fx d) (Aq (q:=false) CG AG));have z2:∀{F:K2},Aj (r! L (n+81)) D4 [C,S c.id] d F=F (Bo (rz (gr gs) gs.length c.id)):=λ{F}=>by
  rw[<-B1A f.ids t,<-t.length_eq];exact AE (Y5 (n:=n+1) i (by omega) u a) (Aq (a.fx d) (Aq (q:=false) CG AG))
 have m1:∀{F:K2},Aj (r! L (n+81)) Ff [YQ gs] d F=F (Dp (Qc gs)):=λ{F}=>AE (uF (n:=n+1) f (by omega) j k) (B d);have m2:∀{F:K2},Aj (r! L (n+81)) Ff [C] d F=F (Dp (Qc gs)):=λ{F}=>by
  rw[<-A20 t];exact AE (uF (n:=n+1) i (by omega) u a) (Aq (a.fx d) AG)
 have h1:∀{F:K2},Aj (r! L (n+81)) Gz [YQ gs] d F=F (Dp (Sx gs)):=λ{F}=>AE (A3g (n:=n+1) f (by omega) j k) (B d);have h2:∀{F:K2},Aj (r! L (n+81)) Gz [C] d F=F (Dp (Sx gs)):=λ{F}=>by
  rw[<-A2f f.ids t];exact AE (A3g (n:=n+1) i (by omega) u a) (Aq (a.fx d) AG)
 have k1:∀{F:K2},Aj (r! L (n+81)) G6 [YQ gs] d F=F (rQ (RL gs)):=λ{F}=>AE (A3h (n:=n+1) f (by omega) k) (B d);have V:∀{F:K2},Aj (r! L (n+81)) G6 [C] d F=F (rQ (RL gs)):=λ{F}=>by
  rw[<-A06 f.ids t];exact AE (A3h (n:=n+1) i (by omega) a) (Aq (a.fx d) AG)
 have a1:∀{F:K2},Aj (r! L (n+81)) CL [YQ gs,S c.id] d F=F (Dp (iX gs c.id)):=λ{F}=>AE (jB (n:=n+1) f (by omega) j k) (Aq (k.fx d) (Aq (q:=false) CG AG));have a2:∀{F:K2},Aj (r! L (n+81)) CL [C,S c.id] d F=F (Dp (iX gs c.id)):=λ{F}=>by
  rw[<-A5W f.ids t];exact AE (jB (n:=n+1) i (by omega) u a) (Aq (a.fx d) (Aq (q:=false) CG AG))
 have bb:∀{b:Bool}{F:K2},Ap Uy .eql (Bo b) (Bo b) F=F (Bo true):=λ{b F}=>by cases b<;>exact r_ rfl
 have l1:=B7m R;have l2:=uW f j;have l3:(Sx gs).length<1000:=by have:=vE (gs:=gs);omega
 have l4:(iX gs c.id).length<1000:=by have:=A0K (gs:=gs) (s:=c.id);omega
 have l5:(RL gs).length<1000:=by
  unfold RL;rw[(MG _).length_eq];have h1:=B34 (nm:=nmX gs) (FF (gs.map Cd.id)) [] 8 (by rw[(BF _).length_eq,Ub];simpa using R);have h2:(FF (gs.map Cd.id)).length<=8:=by rw[(BF _).length_eq,Ub];exact R
  have:=l22 8 h2;omega
 simp only[C1q,gT,Ck,X l1,Xu,ld1,ld2,sC,z1,z2,bb,m1,m2,X l2,h1,h2,X l3,k1,V,sP l5,a1,a2,X l4];exact hK _
end
end
end Go.Abs
end
noncomputable section
namespace Go.Proofs
open Go.Shelf
def Tryz.lays156_ren:Go.Shelf.Ren:=⟨λ|156=>197|165=>247|166=>192|169=>154|240=>245|241=>271|276=>269|277=>306|n=>n,λ|31=>38|9=>9|3=>3|4=>4|0=>0|20=>20|72=>203|76=>238|70=>201|37=>120|75=>237|127=>245|164=>312|5=>5|80=>210|n=>n,λ|n=>n⟩
theorem Tryz.lays156:Go.Proofs.Lays.n156 Tryz.prog Tryz.lays156_ren:={
 mixed:=by kernel_rfl
 f156:=Tryz.func197.trans (congrArg some (by kernel_rfl))
 f165:=Tryz.func247.trans (congrArg some (by kernel_rfl))
 f166:=Tryz.func192.trans (congrArg some (by kernel_rfl))
 f169:=Tryz.func154.trans (congrArg some (by kernel_rfl))
 f240:=Tryz.func245.trans (congrArg some (by kernel_rfl))
 f241:=Tryz.func271.trans (congrArg some (by kernel_rfl))
 f276:=Tryz.func269.trans (congrArg some (by kernel_rfl))
 f277:=Tryz.func306.trans (congrArg some (by kernel_rfl))
 t0:=Tryz.underlying0
 a0:=Tryz.isAgg0
 z0:=Tryz.sizeOf0
 v0:=Tryz.zeroValue0
 t3:=Tryz.underlying3
 a3:=Tryz.isAgg3
 z3:=Tryz.sizeOf3
 v3:=Tryz.zeroValue3
 t4:=Tryz.underlying4
 a4:=Tryz.isAgg4
 z4:=Tryz.sizeOf4
 v4:=Tryz.zeroValue4
 t9:=Tryz.underlying9
 a9:=Tryz.isAgg9
 z9:=Tryz.sizeOf9
 v9:=Tryz.zeroValue9
 t20:=Tryz.underlying20
 a20:=Tryz.isAgg20
 z20:=Tryz.sizeOf20
 v20:=Tryz.zeroValue20
 t31:=Tryz.underlying38
 a31:=Tryz.isAgg38
 z31:=Tryz.sizeOf38
 v31:=Tryz.zeroValue38
 t37:=Tryz.underlying120
 a37:=Tryz.isAgg120
 z37:=Tryz.sizeOf120
 v37:=Tryz.zeroValue120
 t70:=Tryz.underlying201
 a70:=Tryz.isAgg201
 z70:=Tryz.sizeOf201
 v70:=Tryz.zeroValue201
 t72:=Tryz.underlying203
 a72:=Tryz.isAgg203
 z72:=Tryz.sizeOf203
 v72:=Tryz.zeroValue203
 t75:=Tryz.underlying237
 a75:=Tryz.isAgg237
 z75:=Tryz.sizeOf237
 v75:=Tryz.zeroValue237
 t76:=Tryz.underlying238
 a76:=Tryz.isAgg238
 z76:=Tryz.sizeOf238
 v76:=Tryz.zeroValue238
 t127:=Tryz.underlying245
 a127:=Tryz.isAgg245
 z127:=Tryz.sizeOf245
 v127:=Tryz.zeroValue245
 t164:=Tryz.underlying312
 a164:=Tryz.isAgg312
 z164:=Tryz.sizeOf312
 v164:=Tryz.zeroValue312}
theorem Tryz.Builder_Extra_156:Builder.Extra Tryz.prog Tryz.lays156_ren:={
 sizeBuilder:=by kernel_rfl
 liesBuilder:=by kernel_rfl
 t5:=Tryz.underlying5
 a5:=Tryz.isAgg5
 z5:=Tryz.sizeOf5
 v5:=Tryz.zeroValue5
 infoByte:=by kernel_rfl
 cellsByte:=by kernel_rfl
 sizeByte:=by kernel_rfl
 neB5:=by decide}
open Go.RowKit in
theorem Tryz.strings_Join_none(a:Option Addr)(c:Nat)(sep:ByteArray)(w:World):
 Calls Tryz.prog 197 #[.slice a 0 c,.string sep] w λe w'=>e=.returned (.string ⟨#[]⟩)/\w'=w:=Any.strings_Join_none Tryz.lays156 Tryz.Builder_Extra_156 a c sep w
open Go.RowKit in
theorem Tryz.strings_Join(bk o c:Nat)(xs:List ByteArray)(sep:ByteArray)(w:World)(hcells:∀(j:Nat)x,xs[j]?=some x->w.cell? ⟨bk,o+j,none⟩=some (.string x))(hbk:bk<w.heap.size)(hN:xs.length<=140737488355328)(hcap:xs.length<=c)(hlen:(Lib.join (xs.map (·.data.toList)) sep.data.toList).length<=140737488355328):
 Calls Tryz.prog 197 #[.slice (some ⟨bk,o,none⟩) xs.length c,.string sep] w λe w'=>e=.returned (.string ⟨(Lib.join (xs.map (·.data.toList)) sep.data.toList).toArray⟩)/\Below w.heap.size w w':=Any.strings_Join Tryz.lays156 Tryz.Builder_Extra_156 bk o c xs sep w hcells hbk hN hcap hlen
def Tryz.lays190_ren:Go.Shelf.Ren:=⟨λ|190=>102|125=>73|258=>159|128=>113|129=>114|302=>203|303=>204|304=>205|305=>206|306=>207|307=>208|308=>209|309=>210|310=>211|333=>251|329=>161|330=>162|334=>252|335=>253|336=>115|344=>287|n=>n,λ|31=>38|9=>9|3=>3|46=>123|0=>0|51=>118|53=>174|4=>4|183=>166|182=>165|131=>170|5=>5|218=>219|222=>223|228=>257|229=>258|n=>n,λ|n=>n⟩
theorem Tryz.lays190:Go.Proofs.Lays.n190 Tryz.prog Tryz.lays190_ren:={
 mixed:=by kernel_rfl
 f125:=Tryz.func73.trans (congrArg some (by kernel_rfl))
 f128:=Tryz.func113.trans (congrArg some (by kernel_rfl))
 f129:=Tryz.func114.trans (congrArg some (by kernel_rfl))
 f190:=Tryz.func102.trans (congrArg some (by kernel_rfl))
 f258:=Tryz.func159.trans (congrArg some (by kernel_rfl))
 f302:=Tryz.func203.trans (congrArg some (by kernel_rfl))
 f303:=Tryz.func204.trans (congrArg some (by kernel_rfl))
 f304:=Tryz.func205.trans (congrArg some (by kernel_rfl))
 f305:=Tryz.func206.trans (congrArg some (by kernel_rfl))
 f306:=Tryz.func207.trans (congrArg some (by kernel_rfl))
 f307:=Tryz.func208.trans (congrArg some (by kernel_rfl))
 f308:=Tryz.func209.trans (congrArg some (by kernel_rfl))
 f309:=Tryz.func210.trans (congrArg some (by kernel_rfl))
 f310:=Tryz.func211.trans (congrArg some (by kernel_rfl))
 f329:=Tryz.func161.trans (congrArg some (by kernel_rfl))
 f330:=Tryz.func162.trans (congrArg some (by kernel_rfl))
 f333:=Tryz.func251.trans (congrArg some (by kernel_rfl))
 f334:=Tryz.func252.trans (congrArg some (by kernel_rfl))
 f335:=Tryz.func253.trans (congrArg some (by kernel_rfl))
 f336:=Tryz.func115.trans (congrArg some (by kernel_rfl))
 f344:=Tryz.func287.trans (congrArg some (by kernel_rfl))
 t0:=Tryz.underlying0
 a0:=Tryz.isAgg0
 z0:=Tryz.sizeOf0
 v0:=Tryz.zeroValue0
 t3:=Tryz.underlying3
 a3:=Tryz.isAgg3
 z3:=Tryz.sizeOf3
 v3:=Tryz.zeroValue3
 t4:=Tryz.underlying4
 a4:=Tryz.isAgg4
 z4:=Tryz.sizeOf4
 v4:=Tryz.zeroValue4
 t5:=Tryz.underlying5
 a5:=Tryz.isAgg5
 z5:=Tryz.sizeOf5
 v5:=Tryz.zeroValue5
 t9:=Tryz.underlying9
 a9:=Tryz.isAgg9
 z9:=Tryz.sizeOf9
 v9:=Tryz.zeroValue9
 t31:=Tryz.underlying38
 a31:=Tryz.isAgg38
 z31:=Tryz.sizeOf38
 v31:=Tryz.zeroValue38
 t46:=Tryz.underlying123
 a46:=Tryz.isAgg123
 z46:=Tryz.sizeOf123
 v46:=Tryz.zeroValue123
 t51:=Tryz.underlying118
 a51:=Tryz.isAgg118
 z51:=Tryz.sizeOf118
 v51:=Tryz.zeroValue118
 t53:=Tryz.underlying174
 a53:=Tryz.isAgg174
 z53:=Tryz.sizeOf174
 v53:=Tryz.zeroValue174
 t131:=Tryz.underlying170
 a131:=Tryz.isAgg170
 z131:=Tryz.sizeOf170
 v131:=Tryz.zeroValue170
 t182:=Tryz.underlying165
 a182:=Tryz.isAgg165
 z182:=Tryz.sizeOf165
 v182:=Tryz.zeroValue165
 t183:=Tryz.underlying166
 a183:=Tryz.isAgg166
 z183:=Tryz.sizeOf166
 v183:=Tryz.zeroValue166
 t218:=Tryz.underlying219
 a218:=Tryz.isAgg219
 z218:=Tryz.sizeOf219
 v218:=Tryz.zeroValue219
 t222:=Tryz.underlying223
 a222:=Tryz.isAgg223
 z222:=Tryz.sizeOf223
 v222:=Tryz.zeroValue223
 t228:=Tryz.underlying257
 a228:=Tryz.isAgg257
 z228:=Tryz.sizeOf257
 v228:=Tryz.zeroValue257
 t229:=Tryz.underlying258
 a229:=Tryz.isAgg258
 z229:=Tryz.sizeOf258
 v229:=Tryz.zeroValue258}
open Go.Sort Go.RowKit in
theorem Tryz.slices_Sort_string(VZ off cap:Nat)(ss:List (List UInt8))(w:World)(hH:Holds encStr w VZ off ss.toArray)(hblk:VZ<w.heap.size)(hsz:ss.length<4611686018427387904):
 Calls Tryz.prog 102 #[.slice (some ⟨VZ,off,none⟩) ss.length cap] w λe w'=>
  e=.returned (.tuple #[])/\∃n os,w'=grow (putRow encStr (Sort.ahead w n) VZ off (ss.mergeSort λx y=>decide (x<=y)).toArray) os:=Any.slices_Sort_string Tryz.lays190 VZ off cap ss w hH hblk hsz
def Tryz.lays105_ren:Go.Shelf.Ren:=⟨λ|105=>323|212=>359|99=>360|165=>247|166=>192|170=>153|169=>154|263=>377|264=>378|206=>370|240=>245|241=>271|276=>269|277=>306|n=>n,λ|9=>9|3=>3|4=>4|20=>20|0=>0|46=>123|109=>375|5=>5|72=>203|76=>238|51=>118|146=>388|53=>174|148=>390|70=>201|37=>120|75=>237|127=>245|164=>312|80=>210|n=>n,λ|n=>n⟩
theorem Tryz.lays105:Go.Proofs.Lays.n105 Tryz.prog Tryz.lays105_ren:={
 mixed:=by kernel_rfl
 f99:=Tryz.func360.trans (congrArg some (by kernel_rfl))
 f105:=Tryz.func323.trans (congrArg some (by kernel_rfl))
 f165:=Tryz.func247.trans (congrArg some (by kernel_rfl))
 f166:=Tryz.func192.trans (congrArg some (by kernel_rfl))
 f169:=Tryz.func154.trans (congrArg some (by kernel_rfl))
 f170:=Tryz.func153.trans (congrArg some (by kernel_rfl))
 f206:=Tryz.func370.trans (congrArg some (by kernel_rfl))
 f212:=Tryz.func359.trans (congrArg some (by kernel_rfl))
 f240:=Tryz.func245.trans (congrArg some (by kernel_rfl))
 f241:=Tryz.func271.trans (congrArg some (by kernel_rfl))
 f263:=Tryz.func377.trans (congrArg some (by kernel_rfl))
 f264:=Tryz.func378.trans (congrArg some (by kernel_rfl))
 f276:=Tryz.func269.trans (congrArg some (by kernel_rfl))
 f277:=Tryz.func306.trans (congrArg some (by kernel_rfl))
 t0:=Tryz.underlying0
 a0:=Tryz.isAgg0
 z0:=Tryz.sizeOf0
 v0:=Tryz.zeroValue0
 t3:=Tryz.underlying3
 a3:=Tryz.isAgg3
 z3:=Tryz.sizeOf3
 v3:=Tryz.zeroValue3
 t4:=Tryz.underlying4
 a4:=Tryz.isAgg4
 z4:=Tryz.sizeOf4
 v4:=Tryz.zeroValue4
 t5:=Tryz.underlying5
 a5:=Tryz.isAgg5
 z5:=Tryz.sizeOf5
 v5:=Tryz.zeroValue5
 t9:=Tryz.underlying9
 a9:=Tryz.isAgg9
 z9:=Tryz.sizeOf9
 v9:=Tryz.zeroValue9
 t20:=Tryz.underlying20
 a20:=Tryz.isAgg20
 z20:=Tryz.sizeOf20
 v20:=Tryz.zeroValue20
 t37:=Tryz.underlying120
 a37:=Tryz.isAgg120
 z37:=Tryz.sizeOf120
 v37:=Tryz.zeroValue120
 t46:=Tryz.underlying123
 a46:=Tryz.isAgg123
 z46:=Tryz.sizeOf123
 v46:=Tryz.zeroValue123
 t51:=Tryz.underlying118
 a51:=Tryz.isAgg118
 z51:=Tryz.sizeOf118
 v51:=Tryz.zeroValue118
 t53:=Tryz.underlying174
 a53:=Tryz.isAgg174
 z53:=Tryz.sizeOf174
 v53:=Tryz.zeroValue174
 t70:=Tryz.underlying201
 a70:=Tryz.isAgg201
 z70:=Tryz.sizeOf201
 v70:=Tryz.zeroValue201
 t72:=Tryz.underlying203
 a72:=Tryz.isAgg203
 z72:=Tryz.sizeOf203
 v72:=Tryz.zeroValue203
 t75:=Tryz.underlying237
 a75:=Tryz.isAgg237
 z75:=Tryz.sizeOf237
 v75:=Tryz.zeroValue237
 t76:=Tryz.underlying238
 a76:=Tryz.isAgg238
 z76:=Tryz.sizeOf238
 v76:=Tryz.zeroValue238
 t109:=Tryz.underlying375
 a109:=Tryz.isAgg375
 z109:=Tryz.sizeOf375
 v109:=Tryz.zeroValue375
 t127:=Tryz.underlying245
 a127:=Tryz.isAgg245
 z127:=Tryz.sizeOf245
 v127:=Tryz.zeroValue245
 t146:=Tryz.underlying388
 a146:=Tryz.isAgg388
 z146:=Tryz.sizeOf388
 v146:=Tryz.zeroValue388
 t148:=Tryz.underlying390
 a148:=Tryz.isAgg390
 z148:=Tryz.sizeOf390
 v148:=Tryz.zeroValue390
 t164:=Tryz.underlying312
 a164:=Tryz.isAgg312
 z164:=Tryz.sizeOf312
 v164:=Tryz.zeroValue312}
theorem Tryz.Builder_Extra_105:Builder.Extra Tryz.prog Tryz.lays105_ren:={
 sizeBuilder:=by kernel_rfl
 liesBuilder:=by kernel_rfl
 t5:=Tryz.underlying5
 a5:=Tryz.isAgg5
 z5:=Tryz.sizeOf5
 v5:=Tryz.zeroValue5
 infoByte:=by kernel_rfl
 cellsByte:=by kernel_rfl
 sizeByte:=by kernel_rfl
 neB5:=by decide}
open Go.RowKit Go.Lib in
theorem Tryz.strings_Repeat(s:ByteArray)(c:Nat)(w:World)(hc:c<=9223372036854775807)(hlen:s.size*c<=140737488355328):
 Calls Tryz.prog 323 #[.string s,.int .i64 c] w λe w'=>e=.returned (.string ⟨(Lib.repeatL s.data.toList c).toArray⟩)/\Below w.heap.size w w':=Any.strings_Repeat Tryz.lays105 Tryz.Builder_Extra_105 s c w hc hlen
def Tryz.laysSlF06_f43_ren:Go.Shelf.Ren:=⟨λ|6=>43|15=>73|14=>72|28=>113|29=>114|20=>105|21=>106|22=>107|23=>108|24=>109|25=>110|26=>111|27=>112|46=>160|47=>161|48=>162|49=>163|50=>164|57=>212|n=>n,λ|22=>60|24=>100|25=>106|3=>3|39=>123|0=>0|53=>118|55=>174|4=>4|46=>166|45=>165|50=>170|5=>5|9=>9|66=>219|70=>223|76=>257|77=>258|n=>n,λ|n=>n⟩
theorem Tryz.laysSlF06_f43:Go.Proofs.SlLaysF0.n6 Tryz.prog Tryz.laysSlF06_f43_ren:={
 mixed:=by kernel_rfl
 f6:=⟨Tryz.f43.name,by decide,Tryz.func43.trans (congrArg some (by kernel_rfl))⟩
 f14:=⟨Tryz.f72.name,by decide,Tryz.func72.trans (congrArg some (by kernel_rfl))⟩
 f15:=Tryz.func73.trans (congrArg some (by kernel_rfl))
 f20:=⟨Tryz.f105.name,by decide,Tryz.func105.trans (congrArg some (by kernel_rfl))⟩
 f21:=⟨Tryz.f106.name,by decide,Tryz.func106.trans (congrArg some (by kernel_rfl))⟩
 f22:=⟨Tryz.f107.name,by decide,Tryz.func107.trans (congrArg some (by kernel_rfl))⟩
 f23:=⟨Tryz.f108.name,by decide,Tryz.func108.trans (congrArg some (by kernel_rfl))⟩
 f24:=⟨Tryz.f109.name,by decide,Tryz.func109.trans (congrArg some (by kernel_rfl))⟩
 f25:=⟨Tryz.f110.name,by decide,Tryz.func110.trans (congrArg some (by kernel_rfl))⟩
 f26:=⟨Tryz.f111.name,by decide,Tryz.func111.trans (congrArg some (by kernel_rfl))⟩
 f27:=⟨Tryz.f112.name,by decide,Tryz.func112.trans (congrArg some (by kernel_rfl))⟩
 f28:=Tryz.func113.trans (congrArg some (by kernel_rfl))
 f29:=Tryz.func114.trans (congrArg some (by kernel_rfl))
 f46:=⟨Tryz.f160.name,by decide,Tryz.func160.trans (congrArg some (by kernel_rfl))⟩
 f47:=Tryz.func161.trans (congrArg some (by kernel_rfl))
 f48:=Tryz.func162.trans (congrArg some (by kernel_rfl))
 f49:=⟨Tryz.f163.name,by decide,Tryz.func163.trans (congrArg some (by kernel_rfl))⟩
 f50:=⟨Tryz.f164.name,by decide,Tryz.func164.trans (congrArg some (by kernel_rfl))⟩
 f57:=⟨Tryz.f212.name,by decide,Tryz.func212.trans (congrArg some (by kernel_rfl))⟩
 t0:=Tryz.underlying0
 a0:=Tryz.isAgg0
 z0:=Tryz.sizeOf0
 v0:=Tryz.zeroValue0
 t3:=Tryz.underlying3
 a3:=Tryz.isAgg3
 z3:=Tryz.sizeOf3
 v3:=Tryz.zeroValue3
 t4:=Tryz.underlying4
 a4:=Tryz.isAgg4
 z4:=Tryz.sizeOf4
 v4:=Tryz.zeroValue4
 t5:=Tryz.underlying5
 a5:=Tryz.isAgg5
 z5:=Tryz.sizeOf5
 v5:=Tryz.zeroValue5
 t9:=Tryz.underlying9
 a9:=Tryz.isAgg9
 z9:=Tryz.sizeOf9
 v9:=Tryz.zeroValue9
 t22:=Tryz.underlying60
 a22:=Tryz.isAgg60
 z22:=Tryz.sizeOf60
 v22:=Tryz.zeroValue60
 t25:=Tryz.underlying106
 a25:=Tryz.isAgg106
 z25:=Tryz.sizeOf106
 v25:=Tryz.zeroValue106
 t39:=Tryz.underlying123
 a39:=Tryz.isAgg123
 z39:=Tryz.sizeOf123
 v39:=Tryz.zeroValue123
 t45:=Tryz.underlying165
 a45:=Tryz.isAgg165
 z45:=Tryz.sizeOf165
 v45:=Tryz.zeroValue165
 t46:=Tryz.underlying166
 a46:=Tryz.isAgg166
 z46:=Tryz.sizeOf166
 v46:=Tryz.zeroValue166
 t50:=Tryz.underlying170
 a50:=Tryz.isAgg170
 z50:=Tryz.sizeOf170
 v50:=Tryz.zeroValue170
 t53:=Tryz.underlying118
 a53:=Tryz.isAgg118
 z53:=Tryz.sizeOf118
 v53:=Tryz.zeroValue118
 t55:=Tryz.underlying174
 a55:=Tryz.isAgg174
 z55:=Tryz.sizeOf174
 v55:=Tryz.zeroValue174
 t66:=Tryz.underlying219
 a66:=Tryz.isAgg219
 z66:=Tryz.sizeOf219
 v66:=Tryz.zeroValue219
 t70:=Tryz.underlying223
 a70:=Tryz.isAgg223
 z70:=Tryz.sizeOf223
 v70:=Tryz.zeroValue223
 t76:=Tryz.underlying257
 a76:=Tryz.isAgg257
 z76:=Tryz.sizeOf257
 v76:=Tryz.zeroValue257
 t77:=Tryz.underlying258
 a77:=Tryz.isAgg258
 z77:=Tryz.sizeOf258
 v77:=Tryz.zeroValue258}
open Go.RowKit Go.Lib Go.Sort in
theorem Tryz.slices_SortFunc_none{α:Type}[Inhabited α](p:Option Addr)(cap:Nat)(fv:Value)(w:World):
 Calls Tryz.prog 43 #[.slice p 0 cap,fv] w λe w'=>e=.returned (.tuple #[])/\w'=w:=AnyF.slices_SortFunc_none Tryz.laysSlF06_f43 p cap fv w
open Go.RowKit Go.Lib Go.Sort in
theorem Tryz.slices_SortFunc_total{α:Type}[Inhabited α](k:Nat)(aE:∀w,(isAgg 100).run Tryz.prog w=.ok true w)(zE:∀w,(Go.sizeOf 100).run Tryz.prog w=.ok k w)(enc:α->List Value)(hk:∀x,(enc x).length=k)(h1:∀x,∀v∈enc x,v.oneCell'=true)(cf:α->α->Int)(hO:SWO (ltOf cf))(g:Nat)(cb:Array Value)(VZ off cap:Nat)(d:Array α)(w:World)(eg:∀args w,(callFunc g args).run Tryz.prog w=.ok (.enter g args) w)(hcmp:CmpLays Tryz.prog g cb enc k cf VZ off d.size w)(hH:HoldsK enc k w VZ off d)(hblk:VZ<w.heap.size)(hsz:d.size<4611686018427387904)(hT:∀x y,(ltOf cf) x y=false->(ltOf cf) y x=false->x=y):
 Calls Tryz.prog 43 #[.slice (some ⟨VZ,off,none⟩) d.size cap,.func (.func g) #[] cb] w λe w'=>
  e=.returned (.tuple #[])/\∃n os,w'=sortWorldK enc k w VZ off n (d.toList.mergeSort λx y=>!(ltOf cf) y x).toArray os:=AnyQ.slices_SortFunc_total Tryz.laysSlF06_f43 k aE zE enc hk h1 cf hO g cb VZ off cap d w eg hcmp hH hblk hsz hT
def Tryz.growS_ren:Go.Shelf.Ren:=⟨λ|4=>243|n=>n,λ|22=>38|25=>9|3=>3|4=>4|9=>9|20=>20|0=>0|n=>n,λn=>n⟩
theorem Tryz.growS:Go.Proofs.Lays8.n4 Tryz.prog Tryz.growS_ren:={
 mixed:=by kernel_rfl
 f4:=⟨Tryz.f243.name,by kernel_rfl,Tryz.func243.trans (congrArg some (by kernel_rfl))⟩
 t0:=Tryz.underlying0
 a0:=Tryz.isAgg0
 z0:=Tryz.sizeOf0
 v0:=Tryz.zeroValue0
 t3:=Tryz.underlying3
 a3:=Tryz.isAgg3
 z3:=Tryz.sizeOf3
 v3:=Tryz.zeroValue3
 t4:=Tryz.underlying4
 a4:=Tryz.isAgg4
 z4:=Tryz.sizeOf4
 v4:=Tryz.zeroValue4
 t9:=Tryz.underlying9
 a9:=Tryz.isAgg9
 z9:=Tryz.sizeOf9
 v9:=Tryz.zeroValue9
 t20:=Tryz.underlying20
 a20:=Tryz.isAgg20
 z20:=Tryz.sizeOf20
 v20:=Tryz.zeroValue20
 t22:=Tryz.underlying38
 a22:=Tryz.isAgg38
 z22:=Tryz.sizeOf38
 v22:=Tryz.zeroValue38
}
theorem Tryz.slices_Grow_0(w:World):Calls Tryz.prog 243 #[.slice none 0 0,.int .i64 0] w λe w'=>e=.returned (.slice none 0 0)/\w'=w:=
 Any8.slices_Grow_room Tryz.growS none 0 0 0 w (Nat.le_refl _) (by decide) (by decide) (Nat.le_refl _)
theorem Tryz.slices_Grow_n(n:Nat)(w:World)(h0:0<n)(h1:n<=1000000):Calls Tryz.prog 243 #[.slice none 0 0,.int .i64 n] w λe w'=>∃(arr:Array Value)(fz:Nat×Nat)(cap:Nat),cap<=arr.size/\e=.returned (.slice (some ⟨w.heap.size,0,none⟩) 0 cap)/\Go.RowKit.Below w.heap.size w w'/\w'.heap[w.heap.size]?=some (.cells arr 9 fz)/\∀i,i<arr.size->¬(fz.1<=i/\i<fz.2):=by
 have hs:(Tryz.prog.info? 9).isSome=true:=by kernel_rfl
 obtain⟨i0,hi0⟩:=Option.isSome_iff_exists.1 hs
 have hz:(Tryz.prog.info? 9).bind (λi=>i.zero)=some (.string ⟨#[]⟩):=by kernel_rfl
 have hz1:(Tryz.prog.info? 9).map (λi=>i.size)=some 1:=by kernel_rfl
 have hz2:(Tryz.prog.info? 9).map (λi=>i.bytes)=some 16:=by kernel_rfl
 rw[hi0]at hz hz1 hz2
 have hz:i0.zero=some (.string ⟨#[]⟩):=hz
 have hz1:i0.size=1:=Option.some.inj hz1
 have hz2:i0.bytes=16:=Option.some.inj hz2
 refine(Any8.slices_Grow_grow Tryz.growS i0 (.string ⟨#[]⟩) hi0 hz (by rw[hz1];decide) none 0 0 n [] w (Nat.le_refl _) (by omega) (by rw[hz2];omega) (by omega) (by simp) (λ_=>rfl) (λa h=>by cases h)).mono ?_
 rintro e w' ⟨he,hw⟩
 have hzc:∀k,(Builtin.zeroCells (Value.string ⟨#[]⟩).cells k).size=k:=λk=>by
  have e:(Value.string ⟨#[]⟩).cells= #[.string ⟨#[]⟩]:=rfl
  rw[e]
  simp[Builtin.zeroCells]
 have key:∃arr:Array Value,w'=w.drew.alloc (.cells arr 9)/\grownCap w (0+n) 0 (Tryz.growS_ren.t 25)<=arr.size:=⟨_,hw,by
  simp only[Array.size_append,hzc]
  omega⟩
 obtain⟨arr,hw,hsz⟩:=key
 refine⟨arr,(0,0),_,hsz,he,?_,?_,λi _ h=>Nat.not_lt_zero _ h.2⟩
 ·rw[hw]
  exact((Go.RowKit.Below.refl _ _).drew).alloc (Nat.le_refl _) _
 ·rw[hw]
  show(w.heap.push _)[w.heap.size]?=_
  rw[Array.getElem?_push_size]
open Go.Shelf Go.Lib Go.RowKit Go.Sort Go.Abs
theorem A5L(x:ByteArray)(w:World):
 Calls Tryz.prog 115 #[.string x] w λe w'=>e=.returned (.bool false)/\w'=w:=by
 go_enter Tryz.func115,Tryz.ntmps115
 go_wp2
 go_ret
 exact⟨by simp,rfl⟩
def cfS(x y:Sg):Int:=if x<y then-1 else if y<x then 1 else 0
theorem jN(x y:Sg)(w:World):
 Calls Tryz.prog 74 #[.string ⟨⟨x⟩⟩,.string ⟨⟨y⟩⟩] w λe w'=>e=.returned (.int .i64 (cfS x y))/\w'=w:=by
 go_enter Tryz.func74,Tryz.ntmps74
 go_wp2_with (go_at_call 115;refine(A5L _ _).mono ?_;rintro e w' ⟨rfl,hw⟩;rw[hw])
 ·go_ret
  refine⟨?_,rfl⟩
  have h:Op.bytesLess x y=true:=by assumption
  rw[bytesLess_eq]at h
  have h:x<y:=l2t h
  unfold cfS
  rw[CZ h];rfl
 ·go_ret
  refine⟨?_,rfl⟩
  have h1:Op.bytesLess x y=false:=by assumption
  have h2:(!x==y)=true:=by assumption
  rw[bytesLess_eq]at h1
  have h1:¬x<y:=of_decide_eq_false h1
  have h3:x≠y:=λe=>by subst e;simp at h2
  unfold cfS
  rw[Cr h1,CZ (Xm (Qj.1 h1) (Ne.symm h3))];rfl
 ·go_ret
  refine⟨?_,rfl⟩
  have h1:Op.bytesLess x y=false:=by assumption
  have h2:(!x==y)=false:=by assumption
  rw[bytesLess_eq]at h1
  have h1:¬x<y:=of_decide_eq_false h1
  have h3:x=y:=by simpa using h2
  unfold cfS
  rw[Cr h1,Cr (by rw[h3];exact JL _)];rfl
theorem C1y(x y:OU):cfP x y=if cfS x.1 y.1=0 then cfS x.2 y.2 else cfS x.1 y.1:=by
 unfold cfP cfS
 by_cases h1:x.1<y.1
 ·rw[CZ h1,CZ h1];rfl
 ·rw[Cr h1,Cr h1]
  by_cases h2:y.1<x.1
  ·rw[CZ h2,CZ h2];rfl
  ·rw[Cr h2,Cr h2,CZ rfl]
set_option maxHeartbeats 2000000 in
theorem A1v(b1 b2:Nat)(x y:OU)(w:World)(k1:w.cell? ⟨b1,0,none⟩=some (.string ⟨⟨x.1⟩⟩))(k2:w.cell? ⟨b1,1,none⟩=some (.string ⟨⟨x.2⟩⟩))(k3:w.cell? ⟨b2,0,none⟩=some (.string ⟨⟨y.1⟩⟩))(k4:w.cell? ⟨b2,1,none⟩=some (.string ⟨⟨y.2⟩⟩)):
 Calls Tryz.prog 45 #[.slice (some ⟨b1,0,none⟩) 2 2,.slice (some ⟨b2,0,none⟩) 2 2] w λe w'=>e=.returned (.int .i64 (cfP x y))/\∃q,w'=w.drewN q:=by
 have hc1:=λW=>jN x.1 y.1 W
 have hc2:=λW=>jN x.2 y.2 W
 have hR:=C1y x y
 generalize cfP x y=R at hR⊢
 generalize cfS x.1 y.1=c1 at hc1 hR
 generalize cfS x.2 y.2=c2 at hc2 hR
 have HR:Hid (R=if c1=0 then c2 else c1):=hR
 clear hR
 go_enter Tryz.func45,Tryz.ntmps45
 go_wp2
 refine wp_loop_rounds 3 ?_
 rw[rounds_succ]
 go_wp2_with (go_at_call 74;refine(hc1 _).mono ?_;rintro e w' ⟨rfl,hw⟩;rw[hw])
 ·go_ret
  rename_i h
  have h:c1≠0:=by simpa using h
  exact⟨by rw[HR.out,Cr h];rfl,0,rfl⟩
 rw[rounds_succ]
 go_wp2_with (go_at_call 74;refine(hc2 _).mono ?_;rintro e w' ⟨rfl,hw⟩;rw[hw])
 ·go_ret
  have h:(c2 !=0)=true:=by assumption
  have h0:(c1 !=0)=false:=by assumption
  have h0:c1=0:=by simpa using h0
  exact⟨by rw[HR.out,CZ h0];rfl,0,rfl⟩
 have h:(c2 !=0)=false:=by assumption
 have h0:(c1 !=0)=false:=by assumption
 have h:c2=0:=by simpa using h
 have h0:c1=0:=by simpa using h0
 have HR:Hid (R=0):=by
  have:=HR.out
  rw[CZ h0,h]at this
  exact this
 rw[rounds_succ]
 go_wp2
 go_ret
 exact⟨by rw[HR.out];rfl,0,rfl⟩
set_option maxHeartbeats 2000000 in
theorem B7Y(x y:OU)(W:World):Calls Tryz.prog 44 #[.agg (XS x).toArray,.agg (XS y).toArray] W λe w'=>e=.returned (.int .i64 (cfP x y))/\∃q os',w'=grow (W.drewN q) os':=by
 have hc:=λb1 b2 w=>A1v b1 b2 x y w
 generalize cfP x y=R at hc⊢
 unfold XS
 go_enter Tryz.func44,Tryz.ntmps44
 go_wp2
 have mixed:Tryz.prog.follows .mixedOrders=true:=by kernel_rfl
 have hs:((W.alloc (Obj.cells #[Value.string {data:={toList:=x.fst} },Value.string {data:={toList:=x.snd} }] 100)).alloc (Obj.cells #[Value.string {data:={toList:=y.fst} },Value.string {data:={toList:=y.snd} }] 100))=grow W #[Obj.cells #[Value.string {data:={toList:=x.fst} },Value.string {data:={toList:=x.snd} }] 100,Obj.cells #[Value.string {data:={toList:=y.fst} },Value.string {data:={toList:=y.snd} }] 100]:=by
  rw[alloc_eq_grow,alloc_eq_grow,grow_grow];rfl
 rw[hs]
 generalize hW0:grow W _=W0
 have hsz:W0.heap.size=W.heap.size+2:=by rw[<-hW0];simp
 have hb1:W0.heap[W.heap.size]?=some (Obj.cells #[Value.string {data:={toList:=x.fst} },Value.string {data:={toList:=x.snd} }] 100):=by
  rw[<-hW0];show(W.heap++_)[W.heap.size]?=_;rw[Array.getElem?_append_right (Oj _)];simp
 have hb2:W0.heap[W.heap.size+1]?=some (Obj.cells #[Value.string {data:={toList:=y.fst} },Value.string {data:={toList:=y.snd} }] 100):=by
  rw[<-hW0];show(W.heap++_)[W.heap.size+1]?=_;rw[Array.getElem?_append_right (by omega)];simp
 have hcc:∀n os,Calls Tryz.prog 45 #[Value.slice (some {block:=W.heap.size,off:=0}) 2 2,Value.slice (some {block:=W.heap.size+1,off:=0}) 2 2] (grow (W0.drewN n) os) λe w''=>e=.returned (Value.int IntKind.i64 R)/\∃p:GrownBy,w''=grow (W0.drewN p.n) p.os:=λn os=>
  Calls.grown_of ((hc _ _ _ (cell_grown (by show W.heap.size<_;omega) (by unfold World.cell?;rw[hb1];rfl) n os) (cell_grown (by show W.heap.size<_;omega) (by unfold World.cell?;rw[hb1];rfl) n os)
   (cell_grown (by show W.heap.size+1<_;omega) (by unfold World.cell?;rw[hb2];rfl) n os) (cell_grown (by show W.heap.size+1<_;omega) (by unfold World.cell?;rw[hb2];rfl) n os)).mono
   λe w' ⟨he,q,hw⟩=>⟨he,q,#[],by rw[hw];show _=grow _ #[];rw[grow_empty]⟩)
 clear hs hc hb1 hb2 hsz
 go_quiet_grown ((go_at_call 45;refine hcc _ _))
 go_wp2
 go_ret
 refine⟨rfl,?_⟩
 rw[<-hW0]
 exact⟨nq,_,by rw[<-grow_grow];rfl⟩
theorem B33(VZ off size:Nat)(w:World):CmpLays Tryz.prog 44 #[] XS 2 cfP VZ off size w:=λ_ _ _ _ x y=>B7Y x y _
theorem B31(VZ off cap:Nat)(d:List OU)(w:World)(hH:HoldsK XS 2 w VZ off d.toArray)(hb:VZ<w.heap.size)(hs:d.length<4611686018427387904):
 Calls Tryz.prog 43 #[.slice (some ⟨VZ,off,none⟩) d.length cap,.func (.func 44) #[] #[]] w λe w'=>e=.returned (.tuple #[])/\∃n os,w'=sortWorldK XS 2 w VZ off n (d.mergeSort λx y=>!xP y x).toArray os:=
 Tryz.slices_SortFunc_total 2 Tryz.isAgg100 Tryz.sizeOf100 XS (λ_=>rfl) (λx v hv=>by simp[XS]at hv;rcases hv with rfl|rfl<;>rfl) cfP C2v 44 #[] VZ off cap d.toArray w (enters_of Tryz.func44 (by kernel_rfl) rfl) (B33 VZ off _ w) hH hb (by simpa using hs) C2u
end Go.Proofs
end
noncomputable section
namespace Go.Abs
open Go.RowKit Go.Proofs
set_option maxRecDepth 100000
theorem C1e:VX Tryz.prog 197:=⟨Tryz.f197,by kernel_rfl,by kernel_rfl,by kernel_rfl⟩
theorem C1f:VX Tryz.prog 102:=⟨Tryz.f102,by kernel_rfl,by kernel_rfl,by kernel_rfl⟩
theorem C1d:VX Tryz.prog 243:=⟨Tryz.f243,by kernel_rfl,by kernel_rfl,by kernel_rfl⟩
theorem C1c:VX Tryz.prog 323:=⟨Tryz.f323,by kernel_rfl,by kernel_rfl,by kernel_rfl⟩
theorem C34:VX Tryz.prog 43:=⟨Tryz.f43,by kernel_rfl,by kernel_rfl,by kernel_rfl⟩
theorem C0c(E:XE):oT.All (rM E Tryz.prog):=
 ⟨A8z C1e Tryz.strings_Join_none Tryz.strings_Join,⟨A6Z C1f Tryz.slices_Sort_string,⟨A4R C34 (Tryz.slices_SortFunc_none (α:=OU)) B31,trivial,trivial⟩,trivial⟩,⟨A1B C1c Tryz.strings_Repeat,⟨A8G C1d Tryz.slices_Grow_0 Tryz.slices_Grow_n,trivial,trivial⟩,trivial⟩⟩
theorem A7c(L n:Nat):RSound oJ (E L) Tryz.prog (rt L n):=A1U (C3O L) (C0g L) (C0c _) n
def Y7.vs(y:Y7):List Value:=[.int .i64 y.y0,.int .i64 y.y1,.int .i64 y.y2,.int .i64 y.y3,.int .i64 y.y4,.int .i64 y.y5,.int .i64 y.y6]
theorem B9c(xs:List Y7):xs.flatMap Y7.cs=(xs.flatMap Y7.vs).map λx=>.v x:=by
 induction xs with
 |nil=>rfl
 |cons y xs ih=>rw[jH,jH,Yr,ih];rfl
theorem A8N{α β:Type}(f:α->List β)(w:Nat)(hf:∀x,(f x).length=w):∀(l:List α)(i j:Nat)(h:i<l.length),j<w->(l.flatMap f)[i*w+j]?=(f l[i])[j]?:=by
 intro l
 induction l with
 |nil=>intro i j h;simp at h
 |cons a l ih=>
  intro i j h hj
  rw[jH]
  cases i with
  |zero=>
   rw[Nat.zero_mul,Kk,l0l (by rw[hf];exact hj)];rfl
  |succ i=>
   have e:(i+1)*w+j=(f a).length+(i*w+j):=by rw[hf,uY];omega
   rw[e,l0n (by omega),Nat.add_sub_cancel_left,List.getElem_cons_succ]
   exact ih i j (by simpa using h) hj
theorem vH{α β:Type}(f:α->List β)(w:Nat)(hf:∀x,(f x).length=w):∀l:List α,(l.flatMap f).length=l.length*w:=by
 intro l
 induction l with
 |nil=>simp
 |cons a l ih=>simp[ih,hf,uY,Nat.add_comm]
def A2L(W:World):Ctx:={π:=λ_=>none,F:=λb _=>b<W.heap.size,B:=λ_=>False}
theorem A9M{W:World}{b i:Nat}{v:Value}(h:W.cell? ⟨b,i,none⟩=some v):b<W.heap.size:=by
 unfold World.cell? at h
 split at h
 ·rename_i c t f he
  exact(l1q.1 he).1
 ·cases h
theorem C2w{W:World}{G:Gl}(hG:∀(g:Nat)(cs:List Value),G g=some cs->∀(i:Nat)(v:Value),cs[i]?=some v->W.cell? ⟨g,i,none⟩=some v):Rel G ⟨W,λ_=>False⟩ (A2L W) [] W where
 glob:=λg cs hg i v hv=>⟨A9M (hG g cs hg i v hv),hG g cs hg i v hv⟩
 below:=Keep.refl W _
 lt:=λr x h=>by cases h
 rows:=λr x h=>by cases h
 own:=λr x b o h=>by cases h
 sep:=λr r' x x' b o o' h=>by cases h
 fin:=λb i h=>h
 finB:=λb h=>h.elim
 nx:=λr _=>rfl
theorem A3k{W:World}{n cap:Nat}{a:Option Addr}{vs:List Value}(hn:n<=cap)(h0:n=0->vs=[])(h:∀i(hi:i<vs.length),∃b o,a=some ⟨b,o,none⟩/\W.cell? ⟨b,o+i,none⟩=some vs[i])(hne:0<n->0<vs.length):VRel (A2L W) W (.list n (vs.map λx=>.v x)) (.slice a n cap):=by
 by_cases h1:n=0
 ·subst h1
  rw[h0 rfl]
  exact .list0
 ·have h2:=hne (by omega)
  obtain⟨b,o,ha, -⟩:=h 0 h2
  subst ha
  have hc:∀i(hi:i<vs.length),W.cell? ⟨b,o+i,none⟩=some vs[i]:=λi hi=>by
   obtain⟨b',o',e,hc⟩:=h i hi
   cases e
   exact hc
  refine .list hn (λi=>vs.getD i undef) (λi hi=>?_) (λi hi=>?_) (λi hi=>?_)
  ·exact A9M (hc i (by simpa using hi))
  ·have hi':i<vs.length:=by simpa using hi
   rw[hc i hi',T9,JC hi'];rfl
  ·have hi':i<vs.length:=by simpa using hi
   have:(vs.map λx=>AV.v x)[i]=.v (vs.getD i undef):=by
    rw[l2i,T9,JC hi'];rfl
   rw[this]
   exact .v _
end Go.Abs
end
noncomputable section
namespace Go.Proofs.YtojijcneheboaaaGreatDoor
open Go.ChangeShapes Go.WideShapes Go.ChangeAt Go.WideMaps Go.WideElems Go.RowKit Go.Abs
set_option maxRecDepth 100000
theorem own:ownKnob Tryz.prog.godebug=none:=by kernel_rfl
theorem A3N:laidOutB Tryz.prog=true:=by kernel_rfl
theorem u22:Tryz.prog.underlying 22=some (.slice 68):=by kernel_rfl
theorem u90:Tryz.prog.underlying 68=some (.array 7 3):=by kernel_rfl
theorem u23:Tryz.prog.underlying 23=some (.slice 3):=by kernel_rfl
theorem u3:Tryz.prog.underlying 3=some (.int .i64):=by kernel_rfl
theorem u4:Tryz.prog.underlying 4=some .bool:=by kernel_rfl
theorem c3:Tryz.prog.cellsOf 3=1:=by kernel_rfl
theorem c90:Tryz.prog.cellsOf 68=7:=by kernel_rfl
theorem wE{H:Type}{enc:TypeId×Value->H}{P:Program}{W:World}{base:Nat}{spare:Nat->Bool}{held:Bool}{fuel:Nat}{t e:TypeId}{k:IntKind}{cs:List Value}{ns:List Int}{pl:List MemPlace}(ht:P.underlying t=some (.array ns.length e))(he:P.underlying e=some (.int k))(ce:P.cellsOf e=1)(ct:P.cellsOf t=ns.length)(h:DataW.trod enc P W base spare held fuel t cs=some (.agg (ns.map λz=>.lit (.int k z)),pl)):cs=ns.map λz=>Value.int k z:=by
 obtain⟨xs,m,_,hx,hlen,hn,hel⟩:=DataW.trod_array ht h
 simp only[Prod.mk.injEq,DataW.agg.injEq]at hx
 obtain⟨hx,_⟩:=hx
 apply List.ext_getElem
 ·rw[hlen,ct,Ub]
 ·intro i h1 h2
  have hi:i<ns.length:=by simpa using h2
  have hxi:i<xs.length:=by omega
  have h0:=hel i hi
  rw[ce,D',JC hxi]at h0
  obtain⟨z,e1,e2,_⟩:=DataW.trod_int he h0
  have e3:(cs.drop i).take 1=[cs[i]]:=by rw[tK h1];rfl
  rw[e3]at e1
  have e4:(ns.map λz=>DataW.lit (H:=H) (.int k z))[i]'(by simpa using hi)=(xs.map (·.1))[i]'(by simpa using hxi):=by simp only[hx]
  rw[l2i,l2i,e2]at e4
  have e5:ns[i]=z:=by simpa using e4
  rw[l2i,e5]
  simpa using e1
def B2k(l:List AV):List Int:=l.map λa=>match a with|.v (.int _ z)=>z|_=>0
theorem C0v:Rows.laid_yardstick_digest_round (H:=Unit)=.agg ((B2k gl0).map λz=>.lit (.int .u32 z)):=by kernel_rfl
theorem C0u:Rows.laid_internal_strconv_uint64pow10 (H:=Unit)=.agg ((B2k gl1).map λz=>.lit (.int .u64 z)):=by kernel_rfl
theorem C13:gl0.map unV=(B2k gl0).map λz=>Value.int .u32 z:=by kernel_rfl
theorem C12:gl1.map unV=(B2k gl1).map λz=>Value.int .u64 z:=by kernel_rfl
theorem gn0:Tryz.prog.globalNamed "yardstick/digest.round" =some 0:=by kernel_rfl
theorem gn1:Tryz.prog.globalNamed "internal/strconv.uint64pow10" =some 1:=by kernel_rfl
theorem B2j{W:World}(h:laidMetH Tryz.prog Rows.graphSortedRow.laid W):∀L(g:Nat)(cs:List Value),(E L).G g=some cs->∀(i:Nat)(v:Value),cs[i]?=some v->W.cell? ⟨g,i,none⟩=some v:=by
 rw[MakeChecks.laidMetH_plain _ _ _ (by kernel_rfl)]at h
 obtain⟨ps,hv,_,_⟩:=h
 obtain⟨_,_,_,_,_,_,_,_,_,_,hv,_⟩:=hv
 obtain⟨_,_,_,_,_,_,_,_,_,_,hv,_⟩:=hv
 obtain⟨g1,t1,cs1,f1,p1,q1,hg1,ht1,hv1,hd1,hv,_⟩:=hv
 obtain⟨_,_,_,_,_,_,_,_,_,_,hv,_⟩:=hv
 obtain⟨_,_,_,_,_,_,_,_,_,_,hv,_⟩:=hv
 obtain⟨_,_,_,_,_,_,_,_,_,_,hv,_⟩:=hv
 obtain⟨g0,t0,cs0,f0,p0,q0,hg0,ht0,hv0,hd0, -,_⟩:=hv
 obtain rfl:=l26 (gn0.symm.trans hg0)
 obtain rfl:=l26 (gn1.symm.trans hg1)
 have tt0:(Tryz.prog.globals[0]?).map (·.type)=some 248:=by kernel_rfl
 have tt1:(Tryz.prog.globals[1]?).map (·.type)=some 355:=by kernel_rfl
 obtain rfl:=l26 (tt0.symm.trans ht0)
 obtain rfl:=l26 (tt1.symm.trans ht1)
 rw[show(Rows.laid_yardstick_digest_round (H:=Unit))=_ from C0v]at hd0
 rw[show(Rows.laid_internal_strconv_uint64pow10 (H:=Unit))=_ from C0u]at hd1
 have k0:=wE (e:=118) (by kernel_rfl) (by kernel_rfl) (by kernel_rfl) (by kernel_rfl) hd0
 have k1:=wE (e:=174) (by kernel_rfl) (by kernel_rfl) (by kernel_rfl) (by kernel_rfl) hd1
 intro L g cs hg i v hvv
 match g,hg with
 |0,hg=>
  have e:(E L).G 0=some (gl0.map unV):=rfl
  rw[e]at hg
  obtain rfl:=l26 hg
  rw[World.var?_cell hg0 hv0 i,<-l21,k0,<-C13]
  exact hvv
 |1,hg=>
  have e:(E L).G 1=some (gl1.map unV):=rfl
  rw[e]at hg
  obtain rfl:=l26 hg
  rw[World.var?_cell hg1 hv1 i,<-l21,k1,<-C12]
  exact hvv
 |g+2,hg=>
  exfalso
  have e:(E L).G (g+2)=(glB.get (g+2)).map λcs=>cs.map unV:=rfl
  have e1:Nat.beq (g+2) 1=false:=rfl
  have e2:Nat.blt (g+2) 1=false:=rfl
  have e3:glB.get (g+2)=none:=by
   unfold glB
   simp only[BT.get,e1,e2]
  rw[e,e3]at hg
  cases hg
theorem A1b{z:Int}(h:(Lit.int .i64 z).wf=true):KO z:=by
 have h1: -9223372036854775808<=z/\z<=9223372036854775807:=by simpa [Lit.wf,IntKind.min,IntKind.max,IntKind.signed,IntKind.bits] using h
 exact⟨h1.1,by omega⟩
theorem A1O{H:Type}{enc:TypeId×Value->H}{W:World}{base:Nat}{spare:Nat->Bool}{held:Bool}{fuel:Nat}{cs:List Value}{x:DataW H×List MemPlace}(h:DataW.trod enc Tryz.prog W base spare held fuel 22 cs=some x):
 cs=[.slice none 0 0]\/∃(a:Addr)(cap:Nat)(ys:List Y7),cs=[.slice (some a) ys.length cap]/\ys.length<=cap/\(∀y∈ys,y.Ok)/\∀i(hi:i<(ys.flatMap Y7.vs).length),W.cell? (a.add i)=some (ys.flatMap Y7.vs)[i]:=by
 rcases Deep.open_slice u22 h with⟨h0,_⟩|⟨a,len,cap,m,n,D,Pl,rfl,hb,hl,hm,hmm,rfl,hx⟩
 ·exact .inl h0
 right
 have hlm:len<=m:=by rw[hmm];split<;>omega
 have hrow:∀i,i<len->∃y:Y7,y.Ok/\∀j(hj:j<7),W.cell? (a.add (i*7+j))=(Y7.vs y)[j]?:=by
  intro i hi
  obtain⟨cs',hc,ht⟩:=hx i (by omega)
  rw[c90]at hc
  obtain⟨_,hl7,hcell⟩:=World.cells?_some hc
  obtain⟨xs,m',_,_,_,hn,hel⟩:=DataW.trod_array u90 ht
  have hz:∀j,j<7->∃z:Int,cs'[j]?=some (.int .i64 z)/\KO z:=by
   intro j hj
   have h0:=hel j hj
   rw[c3,D',JC (show j<xs.length by omega)]at h0
   obtain⟨z,e1,_,e3⟩:=DataW.trod_int u3 h0
   have hj':j<cs'.length:=by omega
   refine⟨z,?_,?_⟩
   ·rw[JC hj']
    have e4:(cs'.drop j).take 1=[cs'[j]]:=by rw[tK hj'];rfl
    rw[e4]at e1
    have:cs'[j]=.int .i64 z:=by simpa using e1
    rw[this]
   ·exact A1b e3
  obtain⟨Z,hZ⟩:=Deep.choose_lt hz
  refine⟨⟨Z 0,Z 1,Z 2,Z 3,Z 4,Z 5,Z 6⟩,⟨(hZ 0 (by omega)).2,(hZ 1 (by omega)).2,(hZ 2 (by omega)).2,(hZ 3 (by omega)).2,(hZ 4 (by omega)).2,(hZ 5 (by omega)).2,(hZ 6 (by omega)).2⟩,λj hj=>?_⟩
  have hc2:W.cell? ((a.add (i*7)).add j)=cs'[j]?:=hcell j hj
  rw[Addr.add_add]at hc2
  rw[hc2,(hZ j hj).1]
  obtain rfl|rfl|rfl|rfl|rfl|rfl|rfl:j=0\/j=1\/j=2\/j=3\/j=4\/j=5\/j=6:=by omega
  all_goals rfl
 haveI:Inhabited Y7:=⟨⟨0,0,0,0,0,0,0⟩⟩
 obtain⟨V,hV⟩:=Deep.choose_lt hrow
 refine⟨a,cap,(List.range len).map V,by simp,by simpa using hl,λy hy=>?_,λi hi=>?_⟩
 ·obtain⟨k,hk,rfl⟩:=Us.1 hy
  exact(hV k (JM.1 hk)).1
 ·have h7:(((List.range len).map V).flatMap Y7.vs).length=len*7:=by rw[vH Y7.vs 7 (λ_=>rfl)];simp
  have hi':i<len*7:=by omega
  have hd:i/7<len:=by omega
  have e:=A8N Y7.vs 7 (λ_=>rfl) ((List.range len).map V) (i/7) (i%7) (by simpa using hd) (by omega)
  rw[show i/7*7+i%7=i by omega,JC hi]at e
  have h1:=(hV (i/7) hd).2 (i%7) (by omega)
  rw[show i/7*7+i%7=i by omega]at h1
  rw[h1,e]
  simp
theorem wG{W:World}{a:Addr}{v:Value}(h:W.cell? a=some v):a=⟨a.block,a.off,none⟩:=by
 obtain⟨b,o,sp⟩:=a
 cases sp with
 |none=>rfl
 |some k=>
  unfold World.cell? at h
  split at h
  ·simp at h
  ·cases h
theorem A0M{a:Addr}(i:Nat)(h:a=⟨a.block,a.off,none⟩):a.add i=⟨a.block,a.off+i,none⟩:=by
 rw[h]
 unfold Addr.add
 by_cases hi:i=0
 ·subst hi;rfl
 ·rw[Cr hi]
theorem sN{H:Type}{enc:TypeId×Value->H}{P:Program}{f:Func}{s:ChangeSpec}{apart fresh yP again:Bool}{W W':World}{args:Array Value}{v:Value}{ds gs:List (DataW H)}{before pa pv:List MemPlace}(hW:DataW.Whole enc P f.params.toList s.vars apart W args.toList ds gs before)(hres:∀(b:Nat)(sp:Nat->Bool)(hd:Bool),DataW.TrodAll enc P W' b sp hd f.resultTypes.toList (v.resultList f.resultTypes.size) (s.fn H (ds++gs)).results [])(hargs:∀sp:Nat->Bool,(∀p∈before,sp p.block=true)->DataW.TrodAll enc P W' 0 sp true f.params.toList args.toList (s.fn H (ds++gs)).args pa)(hvars:∀sp:Nat->Bool,(∀p∈before,sp p.block=true)->DataW.TrodVars enc P W' sp s.vars (s.fn H (ds++gs)).vars pv)(hps:before=pa++pv)(hb:Below W.heap.size W W')(hok:∀(j:Nat)(t:TypeId)(r:Value),f.resultTypes[j]?=some t->(v.resultList f.resultTypes.size)[j]?=some r->Value.okWide P W' .any 0 t r):
 s.post enc P f apart fresh yP again W args v W':=by
 have hold:∀p∈before,(λb=>decide (b<W.heap.size)) p.block=true:=λp hp=>by simpa using hW.lt p hp
 have hlt:=hW.lt
 refine⟨ds,gs,before,[],pa,pv,hW,hres _ _ _,hargs _ hold,hvars _ hold,World.keptBut_mono (λp hp=>⟨hp,?_⟩) (hb.frame (· ∈before)),λ_=>?_⟩
 ·rw[hps,Yp]at hp
  exact Or.inr hp
 ·obtain⟨_,_,_,_,_,hz,hn⟩:=hW
  refine⟨hok,_,_,([]++pa)++pv,⟨[]++pa,pv,trodAll_append (hargs _ (λ_ _=>rfl)) (hres _ _ _),hvars _ (λ_ _=>rfl),rfl,?_,?_⟩,?_⟩
  ·intro b off hp
   have hm:MemPlace.cell b off∈before:=by rw[hps];simpa using hp
   rw[hb.frozen (hlt _ hm)]
   exact hz b off hm
  ·intro ha
   have:=hn ha
   rw[hps]at this
   simpa using this
  ·intro p hp _
   rw[hps]
   simpa using hp
theorem B1C{H:Type}{enc:TypeId×Value->H}{W:World}{base:Nat}{spare:Nat->Bool}{held:Bool}{a0:Option Addr}{n0 k0:Nat}{d:DataW H}{p:List MemPlace}(h0:DataW.Trod enc Tryz.prog W base spare held 22 (.slice a0 n0 k0) d p):
 ∃xs:List Y7,(∀y∈xs,y.Ok)/\VRel (A2L W) W (.list xs.length (xs.flatMap Y7.cs)) (.slice a0 n0 k0):=by
 obtain⟨f,hf⟩:=h0
 rcases A1O hf with hc|⟨a,cap,ys,hc,hle,hok,hcell⟩
 ·simp only[Value.cells,List.cons.injEq,Value.slice.injEq,and_true]at hc
  obtain⟨rfl,rfl,rfl⟩:=hc
  exact⟨[],by simp,.list0⟩
 ·simp only[Value.cells,List.cons.injEq,Value.slice.injEq,and_true]at hc
  obtain⟨rfl,rfl,rfl⟩:=hc
  refine⟨ys,hok,?_⟩
  rw[B9c]
  refine A3k hle (λe=>by rw[lX e];rfl) (λi hi=>?_) (λe=>by rw[vH Y7.vs 7 (λ_=>rfl)];omega)
  have h0:=hcell 0 (by omega)
  have hs:a=⟨a.block,a.off,none⟩:=wG (v:=(ys.flatMap Y7.vs)[0]'(by omega)) (by simpa [Addr.add] using h0)
  exact⟨a.block,a.off,by rw[<-hs],by rw[<-A0M i hs];exact hcell i hi⟩
theorem B2C{H:Type}{enc:TypeId×Value->H}{W:World}{base:Nat}{spare:Nat->Bool}{held:Bool}{a2:Option Addr}{n2 k2:Nat}{d:DataW H}{p:List MemPlace}(h2:DataW.Trod enc Tryz.prog W base spare held 23 (.slice a2 n2 k2) d p):
 ∃ws:List Int,(∀z∈ws,KO z)/\ws.length<9223372036854775808/\VRel (A2L W) W (.list ws.length (EB ws)) (.slice a2 n2 k2):=by
 obtain⟨f,hf⟩:=h2
 rcases open_ints u23 u3 c3 hf with⟨hc,_⟩|⟨a,len,cap,zs,hc,_,hle,hmx,hzl,_,hcell,hwf⟩
 ·simp only[Value.cells,List.cons.injEq,Value.slice.injEq,and_true]at hc
  obtain⟨rfl,rfl,rfl⟩:=hc
  exact⟨[],by simp,by decide,.list0⟩
 ·simp only[Value.cells,List.cons.injEq,Value.slice.injEq,and_true]at hc
  obtain⟨rfl,rfl,rfl⟩:=hc
  have hlz:n2<=zs.length:=by rw[hzl];split<;>omega
  have e:EB (zs.take n2)=((zs.take n2).map λz=>Value.int .i64 z).map λx=>.v x:=by simp only[EB,List.map_map,List.map_take];rfl
  have el:(zs.take n2).length=n2:=by rw[E'];omega
  refine⟨zs.take n2,λz hz=>A1b (hwf z (l24 hz)),?_,?_⟩
  ·rw[el]
   unfold maxLen at hmx
   omega
  ·rw[el,e]
   refine A3k hle (λe=>by subst e;rfl) (λi hi=>?_) (λe=>by rw[Ub,el];exact e)
   have hi2:i<n2:=by rw[Ub,el]at hi;exact hi
   have h0:=hcell 0 (by omega)
   have hs:a=⟨a.block,a.off,none⟩:=wG (v:=.int .i64 (zs.getD 0 0)) (by simpa [Addr.add] using h0)
   refine⟨a.block,a.off,by rw[<-hs],?_⟩
   rw[<-A0M i hs,hcell i (by omega),l2i,List.getElem_take,T9,JC (by omega)];rfl
end Go.Proofs.YtojijcneheboaaaGreatDoor
end
noncomputable section
namespace Go.Abs
open Go.RowKit Go.Proofs
set_option maxRecDepth 100000
theorem YU{W:World}(hG:∀L(g:Nat)(cs:List Value),(E L).G g=some cs->∀(i:Nat)(v:Value),cs[i]?=some v->W.cell? ⟨g,i,none⟩=some v){xs:List Y7}{v0:Value}{ws1:List Int}{u1:Value}{z2:Int}(h0:VRel (A2L W) W (.list xs.length (xs.flatMap Y7.cs)) v0)(hok:∀y∈xs,y.Ok)(g1:VRel (A2L W) W (.list ws1.length (EB ws1)) u1)(gi1:∀z∈ws1,KO z)(gl1:ws1.length<9223372036854775808)(g2:KO z2):
 Calls Tryz.prog 3 #[v0,u1,.int .i64 z2] W λe W'=>e=.returned (.bool true)/\Below W.heap.size W W':=by
 obtain⟨L,hL⟩:∃L,200000<L:=⟨200001,by decide⟩
 have h:=wY (L:=L) (n:=0) (xs:=xs) (a0:=.list xs.length (xs.flatMap Y7.cs)) (K:=λv _=>some (v,[])) hL (.inl rfl) hok ⟨.inl rfl,gl1,gi1⟩ g2 (λ_=>rfl)
 have ac:=((A7c (L+20) (0+82)).call _ _ _ _ _ h).2 ⟨W,λ_=>False⟩ (A2L W) W [v0,u1,.int .i64 z2] (C2w (hG _)) ?_
 ·refine ac.mono λe W' ⟨v,y,C',H',he,hr,hv,_,hq⟩=>?_
  injection hq with hq
  injection hq with hq _
  subst hq
  have hy:y=.bool true:=AA.1 hv
  subst hy
  have hb:=hr.below
  exact⟨he,hb.os,hb.tape,hb.output,hb.size,λk hk=>hb.block k hk (λhf=>hf)⟩
 ·refine⟨rfl,λi v hv=>?_⟩
  match i,hv with
  |0,hv=>cases hv;exact⟨_,rfl,h0⟩
  |1,hv=>cases hv;exact⟨_,rfl,g1⟩
  |2,hv=>cases hv;exact⟨_,rfl,.v _⟩
end Go.Abs
namespace Go.Proofs.YtojijcneheboaaaGreatDoor
open Go.ChangeShapes Go.WideShapes Go.ChangeAt Go.WideMaps Go.WideElems Go.RowKit Go.Abs
set_option maxRecDepth 100000
theorem xN:Tryz.f3.params= #[22,23,3]:=by kernel_rfl
theorem YS(os:Os)(started:os.Started)(H:Type)(enc:TypeId×Value->H):
 ReturnsInHanded {} Tryz.checked os 3 .any (λw args=>(Rows.graphSortedSpec.pre enc Tryz.prog Tryz.f3 [] false w args/\laidMetH Tryz.prog Rows.graphSortedRow.laid w)/\sizedMet enc Tryz.prog Tryz.f3 (OpenSpec.ofChange Rows.graphSortedSpec) false w args)
  (Rows.graphSortedSpec.post enc Tryz.prog Tryz.f3 false true false false):=by
 refine returnsInHanded_of_change_and (C:=Tryz.checked) (X:=λw _=>laidMetH Tryz.prog Rows.graphSortedRow.laid w) (λ_ _ _ hh h=>h.of_heap hh) own started (by kernel_rfl) Tryz.func3
  (ChangeSpec.witness_shaped (enc:=enc) (C:=Tryz.checked) (os:=os) (X:=λw _=>laidMetH Tryz.prog Rows.graphSortedRow.laid w) false (World.laidAll Tryz.prog os Rows.graphSortedRow.laid) #[.slice none 0 0,.slice none 0 0,.int .i64 0] 8 (World.laidAll_os _ _ _)
   (World.shaped_of_ZipB (by kernel_rfl) (by kernel_rfl)) (by kernel_rfl) (by kernel_rfl) (by kernel_rfl)
   (by rw[MakeChecks.laidMetH_plain _ _ _ (by kernel_rfl)];exact laidMet_laidAll _ (by kernel_rfl) (by kernel_rfl))) ?_
 intro W base args ds gs before hval0 hW _ _ hL _
 have hval:∀(j:Nat)t v,Tryz.f3.params[j]?=some t->args[j]?=some v->Value.okWide Tryz.prog W .any base t v:=hval0
 have hW':=hW
 obtain⟨p,q,hA0,hV,rfl,hfz,hnd⟩:=hW
 have hA:DataW.TrodAll enc Tryz.prog W 0 (λ_=>true) true Tryz.f3.params.toList args.toList ds p:=hA0
 rw[xN]at hA hval
 obtain⟨v0,v1,v2,d0,d1,d2,p0,p1,p2,rfl,rfl,rfl,h0,h1,h2⟩:=trodAll_three hA
 obtain⟨rfl,rfl⟩:=trodVars_none hV
 obtain⟨a0,n0,k0,rfl⟩:=okWide_slice u22 (hval 0 22 v0 rfl rfl)
 obtain⟨a1,n1,k1,rfl⟩:=okWide_slice u23 (hval 1 23 v1 rfl rfl)
 obtain⟨z2,rfl,rfl,rfl,wz2⟩:=open_int u3 (hval 2 3 v2 rfl rfl) h2
 have hG:=B2j hL
 obtain⟨xs,hok,hx⟩:=B1C h0
 obtain⟨ws1,hws1,hwl1,hw1⟩:=B2C h1
 refine(YU hG hx hok hw1 hws1 hwl1 (A1b wz2)).mono λe W' ⟨he,hb⟩=>?_
 subst he
 simp only[YV]at hW'
 have hlt:=hW'.lt
 refine⟨_,rfl,sN (pa:=p0++p1) (pv:=[]) hW' (λ_ _ _=>trodAll_mk1 (shut_bool u4 true)) (λsp hsp=>?_) (λ_ _=>rfl) (by simp) hb (ok_one (by kernel_rfl) rfl (okWide_bool_mk u4 true))⟩
 show DataW.TrodAll enc Tryz.prog W' 0 sp true Tryz.f3.params.toList [.slice a0 n0 k0,.slice a1 n1 k1,.int .i64 z2] [d0,d1,.lit (.int .i64 z2)] (p0++p1)
 rw[xN]
 have h9:=trodAll_mk3 (WideElems.Trod_stays A3N (by kernel_rfl) (l2t (by kernel_rfl)) h0 (λx hx=>hb.same (hlt x (by simp[hx]))) (λx hx=>hsp x (by simp[hx])))
  (WideElems.Trod_stays A3N (by kernel_rfl) (l2t (by kernel_rfl)) h1 (λx hx=>hb.same (hlt x (by simp[hx]))) (λx hx=>hsp x (by simp[hx])))
  (shut_int u3 wz2)
 simpa using h9
end Go.Proofs.YtojijcneheboaaaGreatDoor
end
noncomputable section
namespace Go.Proofs.YtojijcneheboaaaGreatDoor
open Go.ChangeShapes Go.WideShapes Go.ChangeAt Go.WideMaps Go.WideElems Go.RowKit
set_option maxRecDepth 100000
theorem graphSorted_holds:Rows.GraphSortedSaid:=
 OpenClaim.holds_of_wide 3 Tryz.f3 rfl rfl rfl rfl rfl rfl rfl ⟨rfl,rfl,rfl,rfl,rfl⟩ rfl rfl rfl rfl rfl iC Tryz.func3 B3q
  (l2t (by kernel_rfl)) (by unfold Func.isWrapper;first|(rw[CZ (by decide+kernel)];kernel_rfl)|(rw[Cr (by decide+kernel)];exact⟨rfl,rfl⟩))
  (λos started H enc _=>YS os started H enc)
theorem C2O:Rows.graphSortedRow.wfByText (OpenSpec.ofChange Rows.graphSortedSpec)=true:=by kernel_rfl
theorem B7D:Tryz.pinned.checked.prog.mainIs=some (true, "c586b31e678324d8fff34d65b9b452594cb6ed91a21fc8a24214d3f4b0622971".toList):=by kernel_rfl
theorem B2A:true=Tryz.pinned.checked.prog.looks []:=by kernel_rfl
theorem A3H:Tryz.prog.funcs.any Func.goes=false:=by kernel_rfl
theorem B7E:false=Rows.graphSortedRow.goesBy Tryz.pinned.checked.prog:=by
 have h1:∀l:List FuncId,(l.any λg=>(Tryz.prog.funcs[g]?).any Func.goes)=false:=by
  intro l
  rw[List.any_eq_false]
  intro g _
  cases hg:Tryz.prog.funcs[g]? with
  |none=>simp
  |some fn=>
   have h2:=Array.any_eq_false.1 A3H
   obtain⟨hlt,e⟩:=l1q.1 hg
   have:=h2 g hlt
   rw[e]at this
   simpa using this
 have h3:Tryz.prog.goes 3=false:=by
  unfold Program.goes
  rw[h1,A3H,Bool.and_false,Bool.or_false]
 have hs:Rows.graphSortedRow.start=.entering:=rfl
 have hp:Tryz.pinned.checked.prog=Tryz.prog:=rfl
 have hn:Tryz.prog.funcNamed Rows.graphSortedRow.func=some 3:=iC
 unfold OpenClaim.goesBy Program.goesAt Program.goesFrom
 rw[hs,hp,hn,Option.any_some,h3]
 rfl
theorem B2z:([22,23,3].all λu=>!Tryz.prog.wantsStandIn u)=true:=by kernel_rfl
theorem graphSorted_card:Rows.GraphSortedCardSaid:=
 Claim7.holds_tied_plain_at .later [] [.data,.data,.data,.data,.sentinel,.sentinel,.data,.pinned] true (true, "c586b31e678324d8fff34d65b9b452594cb6ed91a21fc8a24214d3f4b0622971") true
  graphSorted_holds (λ_ h=>by cases h) C2O (λ_ h=>by cases h) graphSorted_row_tie rfl ⟨rfl,rfl⟩ B7D rfl
  (λf fn hf hfn=>by
   obtain rfl:f=3:=l26 (iC.symm.trans hf)|>.symm
   obtain rfl:fn=Tryz.f3:=(l26 (Tryz.func3.symm.trans hfn)).symm
   exact⟨B2A,λj t ht=>by
    rw[xN]at ht
    have hm:t∈[22,23,3]:=by simpa using Array.mem_of_getElem? ht
    exact(show Tryz.prog.wantsStandIn t=false by simpa using G8.1 B2z t hm)⟩)
  B7E
end Go.Proofs.YtojijcneheboaaaGreatDoor
end
