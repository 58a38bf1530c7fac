import Derived.Test.YtojijcneheboaaaGreatDoorP15
import Derived.Test.YtojijcneheboaaaGreatDoorP16
import Derived.Test.YtojijcneheboaaaGreatDoorP17
import Derived.Test.YtojijcneheboaaaGreatDoorP18
import Derived.Test.YtojijcneheboaaaGreatDoorP19
import Derived.Test.YtojijcneheboaaaGreatDoorP20
import Derived.Test.YtojijcneheboaaaGreatDoorP21
import Derived.Test.YtojijcneheboaaaGreatDoorP22
import Derived.Test.YtojijcneheboaaaGreatDoorP23
import Derived.Test.YtojijcneheboaaaGreatDoorP24
import Derived.Test.YtojijcneheboaaaGreatDoorP25
set_option linter.all false
set_option maxHeartbeats 0
noncomputable section
namespace Go.Abs
open Go.RowKit Go.Proofs
set_option maxRecDepth 100000
section
variable{L n:Nat}
def RV.ls{R:Rt}{f:Nat}{args':Is}{v:AV}(h:RV R f args' v):LS R f args' v:=λq args H a K=>by rw[<-zO];exact mM h a
def rV(op l r:Nat):Nd:=⟨op,[],[],u0,0,l,r⟩
def poN(l e:Nat):Nd:=⟨7,[],[],u0,iI e,l,0⟩
def A1m:Option Nat->AV
 |some k=>.tup [.agg (BX (uu k)),I 0]
 |none=>.tup [.agg F5,I 90]
section
variable{id:Int}{o:UD}{xs:List Nd}{ks:Hb}{l r e i k:Nat}{q:Option Nat}{I1:AV}
inductive Kl:Hb->Nat->Prop
 |a {x:Nat}:Kl [x] 0
 |b {x y:Nat}:Kl [x,y] 0
 |c {x y:Nat}:Kl [x,y] 1
 |d {x y z:Nat}:Kl [x,y,z] 0
 |e {x y z:Nat}:Kl [x,y,z] 1
 |f {x y z:Nat}:Kl [x,y,z] 2
def kl(h1:1<=ks.length)(g:ks.length<=3)(h:l<ks.length):Kl ks l:=by
 match ks,h1,g,l,h with
 |[_],_,_,0,_=>exact .a
 |[_,_],_,_,0,_=>exact .b
 |[_,_],_,_,1,_=>exact .c
 |[_,_,_],_,_,0,_=>exact .d
 |[_,_,_],_,_,1,_=>exact .e
 |[_,_,_],_,_,2,_=>exact .f
def lt5(h:e<5):e=0\/e=1\/e=2\/e=3\/e=4:=by omega
def A7p(h1:1<=ks.length)(a:ks.length<=3)(c:l<ks.length)(hr:r<ks.length):RV (rt (L+20) (n+2)) EW [.agg (Bp id (B0 ks) (BL xs) o),.agg (rV 3 l r).cs,I ks.length] (.tup [Bo true,Bo true]):=by
 cases kl h1 a c<;>cases kl h1 a hr<;>(exact λb=>by kernel_rfl)
attribute [local irreducible] jQ rt in
def A7j(h1:1<=ks.length)(d:ks.length<=3)(f:l<ks.length)(hr:r<ks.length)(c:PO (rt (L+20) (n+41)) S0 [.agg (uu (ks.getD l 0)).cs,.agg (uu (ks.getD r 0)).cs] (Jp q)):CS (rt (L+20) (n+42)) Ct [.agg (Bp id (B0 ks) (BL xs) o),.agg (rV 3 l r).cs,I ks.length,QD ks] (A1m q):=by
 intro K g;have a:=(A7p (L:=L) (n:=n+39) (id:=id) (o:=o) (xs:=xs) h1 d f hr).ls;rewrite[GG];unfold Gv q4N;rewrite[zO];generalize rt (L+20) (n+41)=R at*
 revert c a
 cases kl h1 d f<;>cases kl h1 d hr<;>(intro c a;simp only[C_,C?]at c;(conv=>lhs;whnf);rewrite[a false _ _ ?hq];(case hq=>exact λK=>by kernel_rfl);(conv=>lhs;whnf);rewrite[c];cases q<;>(conv=>lhs;whnf)<;>exact g _ _ (λb=>⟨false,λK=>by kernel_rfl⟩))
def A7t(h1:1<=ks.length)(a:ks.length<=3)(c:l<ks.length)(hr:r<ks.length):RV (rt (L+20) (n+2)) EW [.agg (Bp id (B0 ks) (BL xs) o),.agg (rV 4 l r).cs,I ks.length] (.tup [Bo true,Bo true]):=by
 cases kl h1 a c<;>cases kl h1 a hr<;>(exact λb=>by kernel_rfl)
attribute [local irreducible] jQ rt in
def A7n(h1:1<=ks.length)(d:ks.length<=3)(f:l<ks.length)(hr:r<ks.length)(c:PO (rt (L+20) (n+41)) J4 [.agg (uu (ks.getD l 0)).cs,.agg (uu (ks.getD r 0)).cs] (Jp q)):CS (rt (L+20) (n+42)) Ct [.agg (Bp id (B0 ks) (BL xs) o),.agg (rV 4 l r).cs,I ks.length,QD ks] (A1m q):=by
 intro K g;have a:=(A7t (L:=L) (n:=n+39) (id:=id) (o:=o) (xs:=xs) h1 d f hr).ls;rewrite[GG];unfold Gv q4N;rewrite[zO];generalize rt (L+20) (n+41)=R at*
 revert c a
 cases kl h1 d f<;>cases kl h1 d hr<;>(intro c a;simp only[C_,C?]at c;(conv=>lhs;whnf);rewrite[a false _ _ ?hq];(case hq=>exact λK=>by kernel_rfl);(conv=>lhs;whnf);rewrite[c];cases q<;>(conv=>lhs;whnf)<;>exact g _ _ (λb=>⟨false,λK=>by kernel_rfl⟩))
def A7r(h1:1<=ks.length)(a:ks.length<=3)(c:l<ks.length)(hr:r<ks.length):RV (rt (L+20) (n+2)) EW [.agg (Bp id (B0 ks) (BL xs) o),.agg (rV 5 l r).cs,I ks.length] (.tup [Bo true,Bo true]):=by
 cases kl h1 a c<;>cases kl h1 a hr<;>(exact λb=>by kernel_rfl)
attribute [local irreducible] jQ rt in
def A7l(h1:1<=ks.length)(d:ks.length<=3)(f:l<ks.length)(hr:r<ks.length)(c:PO (rt (L+20) (n+41)) SB [.agg (uu (ks.getD l 0)).cs,.agg (uu (ks.getD r 0)).cs] (Jp q)):CS (rt (L+20) (n+42)) Ct [.agg (Bp id (B0 ks) (BL xs) o),.agg (rV 5 l r).cs,I ks.length,QD ks] (A1m q):=by
 intro K g;have a:=(A7r (L:=L) (n:=n+39) (id:=id) (o:=o) (xs:=xs) h1 d f hr).ls;rewrite[GG];unfold Gv q4N;rewrite[zO];generalize rt (L+20) (n+41)=R at*
 revert c a
 cases kl h1 d f<;>cases kl h1 d hr<;>(intro c a;simp only[C_,C?]at c;(conv=>lhs;whnf);rewrite[a false _ _ ?hq];(case hq=>exact λK=>by kernel_rfl);(conv=>lhs;whnf);rewrite[c];cases q<;>(conv=>lhs;whnf)<;>exact g _ _ (λb=>⟨false,λK=>by kernel_rfl⟩))
def A7s(h1:1<=ks.length)(a:ks.length<=3)(c:l<ks.length)(hr:r<ks.length):RV (rt (L+20) (n+2)) EW [.agg (Bp id (B0 ks) (BL xs) o),.agg (rV 6 l r).cs,I ks.length] (.tup [Bo true,Bo true]):=by
 cases kl h1 a c<;>cases kl h1 a hr<;>(exact λb=>by kernel_rfl)
attribute [local irreducible] jQ rt in
def A7m(h1:1<=ks.length)(d:ks.length<=3)(f:l<ks.length)(hr:r<ks.length)(c:PO (rt (L+20) (n+41)) SC [.agg (uu (ks.getD l 0)).cs,.agg (uu (ks.getD r 0)).cs] (Jp q)):CS (rt (L+20) (n+42)) Ct [.agg (Bp id (B0 ks) (BL xs) o),.agg (rV 6 l r).cs,I ks.length,QD ks] (A1m q):=by
 intro K g;have a:=(A7s (L:=L) (n:=n+39) (id:=id) (o:=o) (xs:=xs) h1 d f hr).ls;rewrite[GG];unfold Gv q4N;rewrite[zO];generalize rt (L+20) (n+41)=R at*
 revert c a
 cases kl h1 d f<;>cases kl h1 d hr<;>(intro c a;simp only[C_,C?]at c;(conv=>lhs;whnf);rewrite[a false _ _ ?hq];(case hq=>exact λK=>by kernel_rfl);(conv=>lhs;whnf);rewrite[c];cases q<;>(conv=>lhs;whnf)<;>exact g _ _ (λb=>⟨false,λK=>by kernel_rfl⟩))
def A7q(h1:1<=ks.length)(a:ks.length<=3)(c:l<ks.length)(he:e<5):RV (rt (L+20) (n+2)) EW [.agg (Bp id (B0 ks) (BL xs) o),.agg (poN l e).cs,I ks.length] (.tup [Bo true,Bo true]):=by
 cases kl h1 a c<;>rcases lt5 he with rfl|rfl|rfl|rfl|rfl<;>(exact λb=>by kernel_rfl)
attribute [local irreducible] jQ rt in
def A7k(h1:1<=ks.length)(d:ks.length<=3)(f:l<ks.length)(he:e<5)(c:PO (rt (L+20) (n+41)) KH [.agg (uu (ks.getD l 0)).cs,.agg [I (iI e),I 1]] (Jp q)):CS (rt (L+20) (n+42)) Ct [.agg (Bp id (B0 ks) (BL xs) o),.agg (poN l e).cs,I ks.length,QD ks] (A1m q):=by
 intro K g;have a:=(A7q (L:=L) (n:=n+39) (id:=id) (o:=o) (xs:=xs) h1 d f he).ls;rewrite[GG];unfold Gv q4N;rewrite[zO];generalize rt (L+20) (n+41)=R at*
 revert c a
 cases kl h1 d f<;>rcases lt5 he with rfl|rfl|rfl|rfl|rfl<;>(intro c a;simp only[C_,C?]at c;(conv=>lhs;whnf);rewrite[a false _ _ ?hq];(case hq=>exact λK=>by kernel_rfl);(conv=>lhs;whnf);refine l2d (c _ _) ?_;cases q<;>(conv=>lhs;whnf)<;>exact g _ _ (λb=>⟨false,λK=>by kernel_rfl⟩))
def A4C(h1:1<=ks.length)(a:ks.length<=3)(c:l<ks.length)(hr:r<ks.length):RV (rt (L+20) (n+2)) BE [VU I1 (QD ks),Zj (FZ.getD 3 []) jS EC,.agg (rV 3 l r).cs] (Bo true):=by
 cases kl h1 a c<;>cases kl h1 a hr<;>(exact λb=>by kernel_rfl)
attribute [local irreducible] jQ rt in
def A6v(h1:1<=ks.length)(c:ks.length<=3)(f:l<ks.length)(hr:r<ks.length)(a:PO (rt (L+20) (n+40)) Vr [.agg (uu (ks.getD l 0)).cs,.agg (uu (ks.getD r 0)).cs] (Jp (some k))):CS (rt (L+20) (n+41)) EC [VU I1 (QD ks),.agg (rV 3 l r).cs] (.tup [.agg (BX (uu k)),I 0]):=by
 intro K d;rewrite[Qn];unfold Ip NW;rewrite[zO];generalize rt (L+20) (n+40)=R at*
 revert a
 cases kl h1 c f<;>cases kl h1 c hr<;>(intro a;simp only[C_,C?]at a;(conv=>lhs;whnf);rewrite[a];(conv=>lhs;whnf);exact d _ _ (λb=>⟨false,λK=>by kernel_rfl⟩))
def A4G(h1:1<=ks.length)(a:ks.length<=3)(c:l<ks.length)(hr:r<ks.length):RV (rt (L+20) (n+2)) BE [VU I1 (QD ks),Zj (FZ.getD 4 []) jS De,.agg (rV 4 l r).cs] (Bo true):=by
 cases kl h1 a c<;>cases kl h1 a hr<;>(exact λb=>by kernel_rfl)
attribute [local irreducible] jQ rt in
def A6z(h1:1<=ks.length)(c:ks.length<=3)(f:l<ks.length)(hr:r<ks.length)(a:PO (rt (L+20) (n+40)) Km [.agg (uu (ks.getD l 0)).cs,.agg (uu (ks.getD r 0)).cs] (Jp (some k))):CS (rt (L+20) (n+41)) De [VU I1 (QD ks),.agg (rV 4 l r).cs] (.tup [.agg (BX (uu k)),I 0]):=by
 intro K d;rewrite[Mn];unfold FC NW;rewrite[zO];generalize rt (L+20) (n+40)=R at*
 revert a
 cases kl h1 c f<;>cases kl h1 c hr<;>(intro a;simp only[C_,C?]at a;(conv=>lhs;whnf);rewrite[a];(conv=>lhs;whnf);exact d _ _ (λb=>⟨false,λK=>by kernel_rfl⟩))
def A4E(h1:1<=ks.length)(a:ks.length<=3)(c:l<ks.length)(hr:r<ks.length):RV (rt (L+20) (n+2)) BE [VU I1 (QD ks),Zj (FZ.getD 5 []) jS DA,.agg (rV 5 l r).cs] (Bo true):=by
 cases kl h1 a c<;>cases kl h1 a hr<;>(exact λb=>by kernel_rfl)
attribute [local irreducible] jQ rt in
def A6x(h1:1<=ks.length)(c:ks.length<=3)(f:l<ks.length)(hr:r<ks.length)(a:PO (rt (L+20) (n+40)) Vs [.agg (uu (ks.getD l 0)).cs,.agg (uu (ks.getD r 0)).cs] (Jp (some k))):CS (rt (L+20) (n+41)) DA [VU I1 (QD ks),.agg (rV 5 l r).cs] (.tup [.agg (BX (uu k)),I 0]):=by
 intro K d;rewrite[Oa];unfold GI NW;rewrite[zO];generalize rt (L+20) (n+40)=R at*
 revert a
 cases kl h1 c f<;>cases kl h1 c hr<;>(intro a;simp only[C_,C?]at a;(conv=>lhs;whnf);rewrite[a];(conv=>lhs;whnf);exact d _ _ (λb=>⟨false,λK=>by kernel_rfl⟩))
def A4F(h1:1<=ks.length)(a:ks.length<=3)(c:l<ks.length)(hr:r<ks.length):RV (rt (L+20) (n+2)) BE [VU I1 (QD ks),Zj (FZ.getD 6 []) jS D2,.agg (rV 6 l r).cs] (Bo true):=by
 cases kl h1 a c<;>cases kl h1 a hr<;>(exact λb=>by kernel_rfl)
attribute [local irreducible] jQ rt in
def A6y(h1:1<=ks.length)(c:ks.length<=3)(f:l<ks.length)(hr:r<ks.length)(a:PO (rt (L+20) (n+40)) Vt [.agg (uu (ks.getD l 0)).cs,.agg (uu (ks.getD r 0)).cs] (Jp (some k))):CS (rt (L+20) (n+41)) D2 [VU I1 (QD ks),.agg (rV 6 l r).cs] (.tup [.agg (BX (uu k)),I 0]):=by
 intro K d;rewrite[Nt];unfold Gi NW;rewrite[zO];generalize rt (L+20) (n+40)=R at*
 revert a
 cases kl h1 c f<;>cases kl h1 c hr<;>(intro a;simp only[C_,C?]at a;(conv=>lhs;whnf);rewrite[a];(conv=>lhs;whnf);exact d _ _ (λb=>⟨false,λK=>by kernel_rfl⟩))
def A4D(h1:1<=ks.length)(a:ks.length<=3)(c:l<ks.length)(he:e<5):RV (rt (L+20) (n+2)) BE [VU I1 (QD ks),Zj (FZ.getD 7 []) B79 Eg,.agg (poN l e).cs] (Bo true):=by
 cases kl h1 a c<;>rcases lt5 he with rfl|rfl|rfl|rfl|rfl<;>(exact λb=>by kernel_rfl)
attribute [local irreducible] jQ rt in
def A6w(h1:1<=ks.length)(c:ks.length<=3)(f:l<ks.length)(he:e<5)(a:PO (rt (L+20) (n+40)) RN [.agg (uu (ks.getD l 0)).cs,.agg [I (iI e),I 1]] (Jp (some k))):CS (rt (L+20) (n+41)) Eg [VU I1 (QD ks),.agg (poN l e).cs] (.tup [.agg (BX (uu k)),I 0]):=by
 intro K d;rewrite[Pm];unfold HH E0 VH Vo Lo JD Az MS;rewrite[zO];generalize rt (L+20) (n+40)=R at*
 revert a
 cases kl h1 c f<;>rcases lt5 he with rfl|rfl|rfl|rfl|rfl<;>(intro a;simp only[C_,C?]at a;(conv=>lhs;whnf);dsimp only[poN];rewrite[a];(conv=>lhs;whnf);exact d _ _ (λb=>⟨false,λK=>by kernel_rfl⟩))
end
end
section
variable(L n:Nat)
def K?:((List.range 11).all λk=>(λi=>Jc (AS (CU (r! L (n+40)) DQ [.agg (Zl i)]) (Bo true))) (k+0))=true:=by kernel_rfl
def K! :((List.range 11).all λk=>(λi=>Jc (AS (CU (r! L (n+40)) DQ [.agg (Zl i)]) (Bo true))) (k+11))=true:=by kernel_rfl
def J_:((List.range 11).all λk=>(λi=>Jc (AS (CU (r! L (n+40)) DQ [.agg (Zl i)]) (Bo true))) (k+22))=true:=by kernel_rfl
def A4I(i:Nat)(h:i<33):PS (r! L (n+40)) DQ [.agg (Zl i)] (Bo true):=by
 refine B3 (λH=>by first|exact λK=>by kernel_rfl) ?_;by_cases a:i<11
 ·have:=G8.1 (K? L n) (i-0) (JM.2 (by omega));have e:i-0+0=i:=by omega
  simp only[e]at this;exact this
 by_cases h1:i<22
 ·have:=G8.1 (K! L n) (i-11) (JM.2 (by omega));have e:i-11+11=i:=by omega
  simp only[e]at this;exact this
 by_cases h2:i<33
 ·have:=G8.1 (J_ L n) (i-22) (JM.2 (by omega));have e:i-22+22=i:=by omega
  simp only[e]at this;exact this
 ·omega
def L! :((List.range 11).all λk=>(λi=>Jc (AS (CU (r! L (n+40)) HT [.agg (Zl i)]) (S (frt i)))) (k+0))=true:=by kernel_rfl
def L':((List.range 11).all λk=>(λi=>Jc (AS (CU (r! L (n+40)) HT [.agg (Zl i)]) (S (frt i)))) (k+11))=true:=by kernel_rfl
def K_:((List.range 11).all λk=>(λi=>Jc (AS (CU (r! L (n+40)) HT [.agg (Zl i)]) (S (frt i)))) (k+22))=true:=by kernel_rfl
def A4J(i:Nat)(h:i<33):PS (r! L (n+40)) HT [.agg (Zl i)] (S (frt i)):=by
 refine B3 (λH=>by first|exact λK=>by kernel_rfl) ?_;by_cases a:i<11
 ·have:=G8.1 (L! L n) (i-0) (JM.2 (by omega));have e:i-0+0=i:=by omega
  simp only[e]at this;exact this
 by_cases h1:i<22
 ·have:=G8.1 (L' L n) (i-11) (JM.2 (by omega));have e:i-11+11=i:=by omega
  simp only[e]at this;exact this
 by_cases h2:i<33
 ·have:=G8.1 (K_ L n) (i-22) (JM.2 (by omega));have e:i-22+22=i:=by omega
  simp only[e]at this;exact this
 ·omega
end
section
variable{at_:Int}
variable{L n:Nat}
section
variable{id:Int}{o:UD}{xs:List Nd}{ks:Hb}{i j k:Nat}{I1:AV}
def A6J(d:ks.length<=3):RV (rt (L+20) (n+2)) BE [VU I1 (QD ks),Zj (FZ.getD 2 []) B7o Fw,.agg (Yh i).cs] (Bo true):=by
 match ks,d with
 |[],_=>exact λb=>by kernel_rfl
 |[a],_=>exact λb=>by kernel_rfl
 |[a,b],_=>exact λb=>by kernel_rfl
 |[a,b,c],_=>exact λb=>by kernel_rfl
def A6K(d:ks.length<=3):RV (rt (L+20) (n+2)) BE [VU I1 (QD ks),Zj (FZ.getD 1 []) A1 D3,.agg (cnN i k).cs] (Bo true):=by
 match ks,d with
 |[],_=>exact λb=>by kernel_rfl
 |[a],_=>exact λb=>by kernel_rfl
 |[a,b],_=>exact λb=>by kernel_rfl
 |[a,b,c],_=>exact λb=>by kernel_rfl
def B0F{U:AV}(h1:1<=ks.length)(a:ks.length<=3)(c:j<ks.length):RV (rt (L+20) (n+2)) Fw [VU (B0 ks) U,.agg (Yh j).cs] (.tup [.agg (BX (uu (ks.getD j 0))),I 0]):=by
 cases kl h1 a c<;>exact λb=>by kernel_rfl
attribute [local irreducible] jQ rt in
def B0G{C:Is}(hv:PO (rt (L+20) (n+40)) DQ [.agg (Zl i)] (Bo true))(c:PO (rt (L+20) (n+40)) Li [.agg (uu k).cs] (Bo true)):CS (rt (L+20) (n+41)) D3 [.iptr C,.agg (cnN i k).cs] (.tup [.agg (BX (uu k)),I 0]):=by
 intro K a;rewrite[Nu];unfold Gj NW;rewrite[zO];generalize rt (L+20) (n+40)=R at*
 conv=>lhs;whnf
 refine l2d (hv _ _) ?_
 conv=>lhs;whnf
 simp only[CP]
 dsimp only[cnN]
 rewrite[c]
 conv=>lhs;whnf
 exact a _ _ (λb=>⟨false,λK=>by kernel_rfl⟩)
attribute [local irreducible] jQ rt PW in
def B1U(hv:PO (rt (L+20) (n+40)) EY [.agg (Zl i)] (Bo true))(c:PO (rt (L+20) (n+40)) EX [.agg (uu k).cs] (Bo true)):CS (rt (L+20) (n+41)) EW [.agg (Bp id (B0 ks) (BL xs) o),.agg (cnN i k).cs,I at_] (.tup [Bo true,Bo false]):=by
 intro K a;rewrite[TU];unfold Nm E0 Sm BK Az MS Fk;rewrite[zO];generalize rt (L+20) (n+40)=R at*
 conv=>lhs;whnf
 refine l2d (hv _ _) ?_
 conv=>lhs;whnf
 refine l2d (c _ _) ?_
 conv=>lhs;whnf
 refine l2d (C1v (x:=cnN i k)) ?_
 conv=>lhs;whnf
 exact a _ _ (λb=>⟨false,λK=>by kernel_rfl⟩)
attribute [local irreducible] jQ rt in
def B1S(hv:PO (rt (L+20) (n+40)) EY [.agg (Zl i)] (Bo true))(c:PO (rt (L+20) (n+40)) EX [.agg (uu k).cs] (Bo true)){w:AV}:CS (rt (L+20) (n+42)) Ct [.agg (Bp id (B0 ks) (BL xs) o),.agg (cnN i k).cs,I at_,w] (.tup [.agg (BX (uu k)),I 0]):=by
 intro K d;have a:=(B1U (id:=id) (o:=o) (xs:=xs) (ks:=ks) (at_:=at_) hv c).ls;clear hv c;rewrite[GG];unfold Gv q4N;rewrite[zO];generalize rt (L+20) (n+41)=R at*
 conv=>lhs;whnf
 rewrite[a false _ _ ?hq]
 case hq=>exact λK=>by kernel_rfl
 conv=>lhs;whnf
 exact d _ _ (λb=>⟨false,λK=>by kernel_rfl⟩)
end
end
section
section
variable(L n:Nat)
def C2s:List (UD×Int):=[(⟨1,2,0,1,0,1,0,1,0,1,0,1,0,1,[49],[49],[48],[49],0,1⟩,0),(⟨0,1,0,1,1,2,0,1,0,1,0,1,0,1,[49],[49],[48],[49],0,1⟩,0),(u0,70),(⟨0,1,0,1,0,1,0,1,0,1,0,1,0,1,[49],[49],[48],[49],0,2⟩,0),
 (u0,70),(⟨0,1,0,1,0,1,0,1,1,2,0,1,0,1,[49],[49],[48],[49],0,1⟩,0),(⟨1,1,0,1,0,1,0,1,0,1,0,1,0,1,[49],[49],[48],[49],0,1⟩,0)]
def usq(k:Nat):UD×Int:=C2s.getD k (u0,0)
def B1M:((List.range 7).all λi=>Jc (AS (CU (rt (L+20) (n+40)) KH [.agg (uu i).cs,.agg [I 1,I 2]]) (.tup [.agg (usq i).1.cs,I (usq i).2])))=true:=by kernel_rfl
def B9Y(i:Nat)(h:i<7):PS (rt (L+20) (n+40)) KH [.agg (uu i).cs,.agg [I 1,I 2]] (.tup [.agg (usq i).1.cs,I (usq i).2]):=by
 refine B3 (λH=>by first|exact λK=>by kernel_rfl) ?_;exact G8.1 (B1M L n) i (JM.2 h)
end
variable{L n:Nat}
section
variable{id:Int}{o:UD}{xs:List Nd}{ks:Hb}{i j k l:Nat}{I1:AV}
def sqN(l:Nat):Nd:=⟨8,[],[],u0,0,l,0⟩
def B1T(h1:1<=ks.length)(a:ks.length<=3)(c:l<ks.length):RV (rt (L+20) (n+2)) EW [.agg (Bp id (B0 ks) (BL xs) o),.agg (sqN l).cs,I ks.length] (.tup [Bo true,Bo true]):=by
 cases kl h1 a c<;>exact λb=>by kernel_rfl
attribute [local irreducible] jQ rt in
def B1R{u:UD}{e:Int}(he:e=0\/e=70)(h1:1<=ks.length)(d:ks.length<=3)(f:l<ks.length)(c:PO (rt (L+20) (n+41)) KH [.agg (uu (ks.getD l 0)).cs,.agg [I 1,I 2]] (.tup [.agg u.cs,I e])):CS (rt (L+20) (n+42)) Ct [.agg (Bp id (B0 ks) (BL xs) o),.agg (sqN l).cs,I ks.length,QD ks] (if e=0 then .tup [.agg u.cs,I 0] else .tup [.agg F5,I 90]):=by
 intro K g;have a:=(B1T (L:=L) (n:=n+39) (id:=id) (o:=o) (xs:=xs) h1 d f).ls;rewrite[GG];unfold Gv q4N;rewrite[zO];generalize rt (L+20) (n+41)=R at*
 revert c a
 cases kl h1 d f<;>(intro c a;simp only[C_,C?]at c;(conv=>lhs;whnf);rewrite[a false _ _ ?hq];(case hq=>exact λK=>by kernel_rfl);(conv=>lhs;whnf);refine l2d (c _ _) ?_;rcases he with rfl|rfl<;>(conv=>lhs;whnf)<;>exact g _ _ (λb=>⟨false,λK=>by kernel_rfl⟩))
end
section
variable{i k:Nat}
def yS(h:i<33):(frt i).length<10:=by
 have:=G8.1 (show((List.range 33).all λi=>decide ((frt i).length<10))=true by kernel_rfl) i (JM.2 h);simpa using this
def B1K:PS (rt (L+20) (n+1)) Yx [] (.list 9 (FZ.map λw=>S w)):=B3 (λH K=>by kernel_rfl) (by kernel_rfl)
attribute [local irreducible] jQ rt Ap in
def A7E(e:i<33)(h:PO (rt (L+20) (n+40)) Dd [I 1,I 1,I 8] (Bo true))(c:PO (rt (L+20) (n+40)) Yx [] (.list 9 (FZ.map λw=>S w)))(g:PO (rt (L+20) (n+40)) IV [.agg (uu k).cs] (.tup [S (Kx k),I 0]))(f:PO (rt (L+20) (n+40)) LL [.agg (Zl i)] (S (frt i))):CS (rt (L+20) (n+41)) I9 [.agg (cnN i k).cs] (S (cnT i k)):=by
 intro K d;rewrite[pP];unfold UY XA3;rewrite[zO];generalize rt (L+20) (n+40)=R at*
 conv=>lhs;whnf
 refine l2d (h _ _) ?_
 conv=>lhs;whnf
 rewrite[c]
 conv=>lhs;whnf
 refine l2d vL ?_
 conv=>lhs;whnf
 refine l2d (g _ _) ?_
 conv=>lhs;whnf
 have h1:=yS e;have h2:=FP k;refine l2d (Bw (a:=FZ.getD 1 []) (by decide)) ?_
 conv=>lhs;whnf
 refine l2d (f _ _) ?_
 conv=>lhs;whnf
 rewrite[Bw (by simp only[EJ,FZ,C?,C_,Kj,PQ];omega)];rewrite[Bw (by simp only[EJ,FZ,C?,C_,Kj,PQ];omega)];rewrite[Bw (by simp only[EJ,FZ,C?,C_,Kj,PQ];omega)];exact d _ _ (λb=>⟨false,λK=>by kernel_rfl⟩)
attribute [local irreducible] jQ rt Ap in
def A6H(e:i<33)(c:PO (rt (L+20) (n+40)) HJ [] WB)(g:PO (rt (L+20) (n+40)) I7 [.agg (uu k).cs] (.tup [S (Kx k),I 0]))(f:PO (rt (L+20) (n+40)) HT [.agg (Zl i)] (S (frt i))):CS (rt (L+20) (n+41)) Ft [.agg (cnN i k).cs] (S (cnT i k)):=by
 intro K d;rewrite[YK];unfold O0 E0 Az;rewrite[zO];generalize rt (L+20) (n+40)=R at*
 conv=>lhs;whnf
 rewrite[c]
 conv=>lhs;whnf
 rewrite[c]
 conv=>lhs;whnf
 refine l2d (vL (a:=1)) ?_
 conv=>lhs;whnf
 refine l2d (g _ _) ?_
 conv=>lhs;whnf
 have h1:=yS e;have h2:=FP k;refine l2d (Bw (a:=FZ.getD 1 []) (by decide)) ?_
 conv=>lhs;whnf
 refine l2d (f _ _) ?_
 conv=>lhs;whnf
 rewrite[Bw (by simp only[EJ,FZ,C?,C_,Kj,PQ];omega)];rewrite[Bw (by simp only[EJ,FZ,C?,C_,Kj,PQ];omega)];rewrite[Bw (by simp only[EJ,FZ,C?,C_,Kj,PQ];omega)];exact d _ _ (λb=>⟨false,λK=>by kernel_rfl⟩)
end
end
section
variable{L n:Nat}
inductive Ex where
 |no
 |cn (i k:Nat)
 |inp (j:Nat)
 |bi (op l r k:Nat)
 |po (l e k:Nat)
def Ex.nd:Ex->List Nd
 |.no=>[]
 |.cn i k=>[cnN i k]
 |.inp j=>[Yh j]
 |.bi op l r _=>[rV op l r]
 |.po l e _=>[poN l e]
def Ex.ty(ks:Hb):Ex->Hb
 |.no=>[]
 |.cn _ k=>[k]
 |.inp j=>[ks.getD j 0]
 |.bi _ _ _ k=>[k]
 |.po _ _ k=>[k]
def Ex.tx:Ex->List Ha
 |.no=>[]
 |.cn i k=>[cnT i k]
 |.inp j=>[exT j]
 |.bi op l r _=>[exT (3+9*(op-3)+3*l+r)]
 |.po l e _=>[exT (39+5*l+e)]
def Ex.Ok(ks:Hb):Ex->Prop
 |.no=>True
 |.cn i k=>i<33/\k<7
 |.inp j=>j<ks.length
 |.bi op l r k=>3<=op/\op<7/\l<ks.length/\r<ks.length/\Ur (op-3) (ks.getD l 0) (ks.getD r 0)=some k
 |.po l e k=>l<ks.length/\e<5/\Wi (ks.getD l 0) e=some k
structure Pr where
 id:Nat
 ks:Hb
 x:Ex
structure Pr.Ok(p:Pr):Prop where
 i1:1<=p.id
 i2:p.id<950
 k1:1<=p.ks.length
 k3:p.ks.length<=3
 k7:∀k∈p.ks,k<7
 x:p.x.Ok p.ks
def Pr.xs(p:Pr):List Nd:=Kd p.ks++p.x.nd
def Pr.ty(p:Pr):Hb:=p.ks++p.x.ty p.ks
def Pr.ts(p:Pr):List Ha:=(List.range p.ks.length).map exT++p.x.tx
def Pr.out(p:Pr):Nat:=p.ty.getD (p.xs.length-1) 0
section
variable{a b l r e i j k op:Nat}{ks:Hb}{xs:List Nd}{id:Int}{o:UD}
def LQ{N:Nat}(h:∀k∈ks,k<N)(c:l<ks.length):ks.getD l 0<N:=by
 have e:ks.getD l 0=ks[l]:=by simp[List.getD,JC c]
 rw[e];exact h _ (Of c)
def B1L(c:a<7)(hb:b<7):PO (r! L (n+41)) S0 [.agg (uu a).cs,.agg (uu b).cs] (Jp (Ur 0 a b)):=by
 have:=(B6N L (n+1) (7*a+b) (by omega)).o;rwa[show(7*a+b)/7=a by omega,show(7*a+b)%7=b by omega]at this
def B1Q(c:a<7)(hb:b<7):PO (r! L (n+41)) J4 [.agg (uu a).cs,.agg (uu b).cs] (Jp (Ur 1 a b)):=by
 have:=(B6R L (n+1) (7*a+b) (by omega)).o;rwa[show(7*a+b)/7=a by omega,show(7*a+b)%7=b by omega]at this
def B1O(c:a<7)(hb:b<7):PO (r! L (n+41)) SB [.agg (uu a).cs,.agg (uu b).cs] (Jp (Ur 2 a b)):=by
 have:=(B6P L (n+1) (7*a+b) (by omega)).o;rwa[show(7*a+b)/7=a by omega,show(7*a+b)%7=b by omega]at this
def B1P(c:a<7)(hb:b<7):PO (r! L (n+41)) SC [.agg (uu a).cs,.agg (uu b).cs] (Jp (Ur 3 a b)):=by
 have:=(B6Q L (n+1) (7*a+b) (by omega)).o;rwa[show(7*a+b)/7=a by omega,show(7*a+b)%7=b by omega]at this
def B1N(c:a<7)(hb:e<5):PO (r! L (n+41)) KH [.agg (uu a).cs,.agg [I (iI e),I 1]] (Jp (Wi a e)):=by
 have:=(B6O L (n+1) (5*a+e) (by omega)).o;rwa[show(5*a+e)/5=a by omega,show(5*a+e)%5=e by omega]at this
def B0A(f:a<7)(hb:b<7)(h:Ur 0 a b=some k):PO (r! L (n+40)) Vr [.agg (uu a).cs,.agg (uu b).cs] (Jp (some k)):=by
 have c:(7*a+b)/7=a:=by omega
 have d:(7*a+b)%7=b:=by omega
 have:=(B4A L n (7*a+b) (by omega) (by rw[c,d,h];rfl)).o;rwa[c,d,h]at this
def B0E(f:a<7)(hb:b<7)(h:Ur 1 a b=some k):PO (r! L (n+40)) Km [.agg (uu a).cs,.agg (uu b).cs] (Jp (some k)):=by
 have c:(7*a+b)/7=a:=by omega
 have d:(7*a+b)%7=b:=by omega
 have:=(B4E L n (7*a+b) (by omega) (by rw[c,d,h];rfl)).o;rwa[c,d,h]at this
def B0C(f:a<7)(hb:b<7)(h:Ur 2 a b=some k):PO (r! L (n+40)) Vs [.agg (uu a).cs,.agg (uu b).cs] (Jp (some k)):=by
 have c:(7*a+b)/7=a:=by omega
 have d:(7*a+b)%7=b:=by omega
 have:=(B4C L n (7*a+b) (by omega) (by rw[c,d,h];rfl)).o;rwa[c,d,h]at this
def B0D(f:a<7)(hb:b<7)(h:Ur 3 a b=some k):PO (r! L (n+40)) Vt [.agg (uu a).cs,.agg (uu b).cs] (Jp (some k)):=by
 have c:(7*a+b)/7=a:=by omega
 have d:(7*a+b)%7=b:=by omega
 have:=(B4D L n (7*a+b) (by omega) (by rw[c,d,h];rfl)).o;rwa[c,d,h]at this
def B0B(f:a<7)(hb:e<5)(h:Wi a e=some k):PO (r! L (n+40)) RN [.agg (uu a).cs,.agg [I (iI e),I 1]] (Jp (some k)):=by
 have c:(5*a+e)/5=a:=by omega
 have d:(5*a+e)%5=e:=by omega
 have:=(B4B L n (5*a+e) (by omega) (by rw[c,d,h];rfl)).o;rwa[c,d,h]at this
def A3w(h1:1<=ks.length)(d:ks.length<=3)(hk:∀k∈ks,k<7)(c:l<ks.length)(hr:r<ks.length)(h:3<=op)(g:op<7):
 CS (r! L (n+42)) Ct [.agg (Bp id (B0 ks) (BL xs) o),.agg (rV op l r).cs,I ks.length,QD ks] (A1m (Ur (op-3) (ks.getD l 0) (ks.getD r 0))):=by
 have f:=LQ hk c;have hb:=LQ hk hr;obtain rfl|rfl|rfl|rfl:op=3\/op=4\/op=5\/op=6:=by omega
 ·exact A7j h1 d c hr (B1L f hb)
 ·exact A7n h1 d c hr (B1Q f hb)
 ·exact A7l h1 d c hr (B1O f hb)
 ·exact A7m h1 d c hr (B1P f hb)
def A3v(h1:1<=ks.length)(d:ks.length<=3)(hk:∀k∈ks,k<7)(c:l<ks.length)(he:e<5):
 CS (r! L (n+42)) Ct [.agg (Bp id (B0 ks) (BL xs) o),.agg (poN l e).cs,I ks.length,QD ks] (A1m (Wi (ks.getD l 0) e)):=
 A7k h1 d c he (B1N (LQ hk c) he)
def P?{at_:Int}{w:AV}(c:i<33)(hk:k<7):CS (r! L (n+42)) Ct [.agg (Bp id (B0 ks) (BL xs) o),.agg (cnN i k).cs,I at_,w] (.tup [.agg (BX (uu k)),I 0]):=
 B1S (A51 L n i c).o (Rg L n k (by omega)).o
end
section
variable{p:Pr}{o:UD}
def B78(h:p.Ok):RTy L n p.id p.ks p.xs o p.ty:=by
 obtain⟨pid,ks,x⟩:=p;obtain⟨i1,i2,k1,k3,k7,c⟩:=h;unfold Pr.xs Pr.ty;cases x with
 |no=>
  simp only[Ex.nd,Ex.ty,YV];exact B6G (gP k3 (by decide))
 |cn i k=>exact lR (gP k3 (by decide)) (P? c.1 c.2)
 |inp j=>
  refine lR (gP k3 (by decide)) ?_;have f:j<ks.length:=c;have e:ks.getD j 0=ks[j]:=by simp[List.getD,JC f]
  rw[e];exact Xr (n:=n+39) (gP k3 (by decide)) f
 |bi op l r k=>
  obtain⟨h1,h2,d,g,m⟩:=c;refine lR (gP k3 (by decide)) ?_;have:=A3w (L:=L) (n:=n) (id:=pid) (xs:=Kd ks++[rV op l r]) (o:=o) k1 k3 k7 d g h1 h2;rw[m]at this;exact this
 |po l e k=>
  obtain⟨h1,h2,d⟩:=c;refine lR (gP k3 (by decide)) ?_;have:=A3v (L:=L) (n:=n) (id:=pid) (xs:=Kd ks++[poN l e]) (o:=o) k1 k3 k7 h1 h2;rw[d]at this;exact this
def A6u{ks:Hb}{i:Nat}(k1:1<=ks.length)(k3:ks.length<=3){l:Hb}(d:l.length<=3)(c:i<ks.length):WNd L n (B0 ks) l (Yh i) (ks.getD i 0):=
 ⟨FZ.getD 2 [],B7o,Fw,.inr ⟨_,_,rfl⟩,λH K=>by kernel_rfl,by kernel_rfl,rfl,rfl,A6J (n:=n+39) d,B0F (n:=n+39) k1 k3 c⟩
def B77(h:p.Ok):WTy L n p.ks p.xs p.ty:=by
 obtain⟨pid,ks,x⟩:=p;obtain⟨i1,i2,k1,k3,k7,q⟩:=h;simp only at k1 k3 k7 q;intro i u;simp only[Pr.xs,Pr.ty]at u⊢;by_cases f:i<ks.length
 ·have g:(Kd ks++x.nd)[i]=Yh i:=by
   rw[List.getElem_append_left (by rw[Dz];exact f)];exact dD _
  have m:(ks++x.ty ks).getD i 0=ks.getD i 0:=by simp[List.getD,l0l f]
  rw[g,m];exact A6u k1 k3 (by rw[E'];omega) f
 ·have A:x.nd.length<=1:=by cases x<;>simp[Ex.nd]
  rw[EJ,Dz]at u;obtain rfl:i=ks.length:=by omega
  have g:∀y,x.nd=[y]->(Kd ks++x.nd)[ks.length]'(by rw[EJ,Dz];exact u)=y:=λy w=>by
   rw[List.getElem_append_right (by rw[Dz];omega)];simp[w,Dz]
  have m:∀k,x.ty ks=[k]->(ks++x.ty ks).getD ks.length 0=k:=λk hk=>by simp[List.getD,hk]
  have v:(ks++x.ty ks).take ks.length=ks:=List.take_left' rfl;rw[v];cases x with
  |no=>simp[Ex.nd]at u
  |cn i k=>
   rw[g _ rfl,m _ rfl];exact⟨FZ.getD 1 [],A1,D3,.inl rfl,λH K=>by kernel_rfl,by kernel_rfl,rfl,rfl,A6K (n:=n+39) k3,(B0G (A4I L n i q.1).o (Wg L n k (by have:=q.2;omega)).o).rv⟩
  |inp j=>
   rw[g _ rfl,m _ rfl];exact A6u k1 k3 k3 q
  |bi op l r k=>
   obtain⟨h1,h2,c,d,s⟩:=q;have t:=LQ k7 c;have hb:=LQ k7 d;rw[g _ rfl,m _ rfl];obtain rfl|rfl|rfl|rfl:op=3\/op=4\/op=5\/op=6:=by omega
   ·exact⟨FZ.getD 3 [],jS,EC,.inr ⟨_,_,rfl⟩,λH K=>by kernel_rfl,by kernel_rfl,rfl,rfl,A4C (n:=n+39) k1 k3 c d,(A6v k1 k3 c d (B0A t hb s)).rv⟩
   ·exact⟨FZ.getD 4 [],jS,De,.inr ⟨_,_,rfl⟩,λH K=>by kernel_rfl,by kernel_rfl,rfl,rfl,A4G (n:=n+39) k1 k3 c d,(A6z k1 k3 c d (B0E t hb s)).rv⟩
   ·exact⟨FZ.getD 5 [],jS,DA,.inr ⟨_,_,rfl⟩,λH K=>by kernel_rfl,by kernel_rfl,rfl,rfl,A4E (n:=n+39) k1 k3 c d,(A6x k1 k3 c d (B0C t hb s)).rv⟩
   ·exact⟨FZ.getD 6 [],jS,D2,.inr ⟨_,_,rfl⟩,λH K=>by kernel_rfl,by kernel_rfl,rfl,rfl,A4F (n:=n+39) k1 k3 c d,(A6y k1 k3 c d (B0D t hb s)).rv⟩
  |po l e k=>
   obtain⟨h1,h2,c⟩:=q;rw[g _ rfl,m _ rfl];exact⟨FZ.getD 7 [],B79,Eg,.inr ⟨_,_,rfl⟩,λH K=>by kernel_rfl,by kernel_rfl,rfl,rfl,A4D (n:=n+39) k1 k3 h1 h2,(A6w k1 k3 h1 h2 (B0B (LQ k7 h1) h2 c)).rv⟩
def B6T{j:Nat}(h:j<54):PS (r! L (n+41)) I9 [.agg (exN j).cs] (S (exT j)):=
 B3 (λH=>by first|exact λK=>by kernel_rfl) (G8.1 (A7F L n) j (JM.2 h))
def B4J{j:Nat}(h:j<54):PS (r! L (n+41)) Ft [.agg (exN j).cs] (S (exT j)):=
 B3 (λH=>by first|exact λK=>by kernel_rfl) (G8.1 (A6I L n) j (JM.2 h))
def B4f{j:Nat}(h:j<3):Yh j=exN j:=by unfold exN;rw[CZ h]
def C1n{op l r:Nat}(h1:3<=op)(h2:op<7)(c:l<3)(d:r<3):rV op l r=exN (3+9*(op-3)+3*l+r):=by
 obtain rfl|rfl|rfl|rfl:op=3\/op=4\/op=5\/op=6:=by omega
 all_goals obtain rfl|rfl|rfl:l=0\/l=1\/l=2:=by omega
 all_goals obtain rfl|rfl|rfl:r=0\/r=1\/r=2:=by omega
 all_goals rfl
def C1m{l e:Nat}(d:l<3)(c:e<5):poN l e=exN (39+5*l+e):=by
 obtain rfl|rfl|rfl:l=0\/l=1\/l=2:=by omega
 all_goals obtain rfl|rfl|rfl|rfl|rfl:=lt5 c
 all_goals rfl
def NdT(L n:Nat)(y:Nd)(t:Ha):Prop:=PS (r! L (n+41)) I9 [.agg y.cs] (S t)/\PS (r! L (n+41)) Ft [.agg y.cs] (S t)
def xS{j:Nat}(h:j<54):NdT L n (exN j) (exT j):=⟨B6T h,B4J h⟩
def B3U{y:Nd}(H:Hp):Py true depth [.agg y.cs] [.agg y.cs] H false:=λK=>by kernel_rfl
def B7p{i k:Nat}(c:i<33)(hk:k<7):NdT L n (cnN i k) (cnT i k):=
 ⟨(A7E c (Xs (n:=n+39) (by decide) (by decide)).o (B1K (n:=n+39)).o (TQ L n k (by omega)).o (A52 L n i c).o).ps B3U,
  (A6H c (B3F (n:=n+39)).o (TA L n k (by omega)).o (A4J L n i c).o).ps B3U⟩
def A7V(h:p.Ok):p.ts.length=p.xs.length/\∀i(m:i<p.xs.length),NdT L n p.xs[i] (p.ts.getD i []):=by
 obtain⟨pid,ks,x⟩:=p;obtain⟨i1,i2,k1,k3,k7,g⟩:=h;simp only at k1 k3 k7 g;have q:x.tx.length=x.nd.length:=by cases x<;>rfl
 refine⟨by simp[Pr.ts,Pr.xs,Dz,q],λi m=>?_⟩;simp only[Pr.xs,Pr.ts]at m⊢;by_cases c:i<ks.length
 ·have d:(Kd ks++x.nd)[i]=Yh i:=by
   rw[List.getElem_append_left (by rw[Dz];exact c)];exact dD _
  have f:((List.range ks.length).map exT++x.tx).getD i []=exT i:=by
   rw[List.getD,l0l (by simpa using c)];simp[List.getElem?_range c]
  rw[d,f,B4f (by omega)];exact xS (by omega)
 ·have w:x.nd.length<=1:=by cases x<;>simp[Ex.nd]
  rw[EJ,Dz]at m;obtain rfl:i=ks.length:=by omega
  have d:∀y,x.nd=[y]->(Kd ks++x.nd)[ks.length]'(by rw[EJ,Dz];exact m)=y:=λy v=>by
   rw[List.getElem_append_right (by rw[Dz];omega)];simp[v,Dz]
  have f:∀t,x.tx=[t]->((List.range ks.length).map exT++x.tx).getD ks.length []=t:=λt u=>by simp[List.getD,u]
  cases x with
  |no=>simp[Ex.nd]at m
  |cn i k=>rw[d _ rfl,f _ rfl];exact B7p g.1 g.2
  |inp j=>
   have C:j<ks.length:=g;rw[d _ rfl,f _ rfl,B4f (by omega)];exact xS (by omega)
  |bi op l r k=>
   obtain⟨h1,h2,s,A,B⟩:=g;rw[d _ rfl,f _ rfl,C1n h1 h2 (by omega) (by omega)];exact xS (by omega)
  |po l e k=>
   obtain⟨h1,h2,s⟩:=g;rw[d _ rfl,f _ rfl,C1m (by omega) h2];exact xS (by omega)
end
end
section
variable{k:Nat}
variable{L n:Nat}
def nN(h:k<7):(Kx k).length<=44:=by
 have:=G8.1 (show((List.range 7).all λk=>decide ((Kx k).length<=44))=true by kernel_rfl) k (JM.2 h);simpa using this
def L_(h:k<52):(Kx k).length<=50:=by
 have:=G8.1 (show((List.range 52).all λk=>decide ((Kx k).length<=50))=true by kernel_rfl) k (JM.2 h);simpa using this
def mH{j:Nat}(h:j<54):(exT j).length<=10:=by
 have:=G8.1 (show((List.range 54).all λk=>decide ((exT k).length<=10))=true by kernel_rfl) j (JM.2 h);simpa using this
def B3p{i k:Nat}(a:i<33)(hk:k<7):(cnT i k).length<=60:=by
 have h1:=yS a;have h2:=nN hk;simp only[cnT,FZ,C?,C_,EJ,Kj,PQ];omega
def B2I(ks:Hb)(h:∀k∈ks,k<7):(ks.flatMap mB).length<=51*ks.length:=by
 induction ks with
 |nil=>simp
 |cons k ks ih=>
  have h1:=nN (h k (by simp));have h2:=ih λx a=>h x (by simp[a]);simp only[jH,EJ,Kj,mB,pA,PQ]at h2⊢;omega
def A8m{ts:List Ha}(h:∀t∈ts,t.length<=10):(ts.flatMap rS).length<=11*ts.length:=by
 induction ts with
 |nil=>simp
 |cons t ts ih=>
  have h1:=h t (by simp);have h2:=ih λu a=>h u (by simp[a]);simp only[jH,EJ,Kj,rS,PQ]at h2⊢;omega
def B4X{o a b k:Nat}(d:o<4)(c:a<7)(hb:b<7)(h:Ur o a b=some k):k<52:=by
 have:=G8.1 (show((List.range 196).all λj=>(match Ur (j/49) (j/7%7) (j%7) with|some k=>decide (k<52)|none=>true))=true by kernel_rfl) (49*o+7*a+b) (JM.2 (by omega));rw[show(49*o+7*a+b)/49=o by omega,show(49*o+7*a+b)/7%7=a by omega,show(49*o+7*a+b)%7=b by omega,h]at this;simpa using this
def B0X{a e k:Nat}(c:a<7)(he:e<5)(h:Wi a e=some k):k<52:=by
 have:=G8.1 (show((List.range 35).all λj=>(match Wi (j/5) (j%5) with|some k=>decide (k<52)|none=>true))=true by kernel_rfl) (5*a+e) (JM.2 (by omega));rw[show(5*a+e)/5=a by omega,show(5*a+e)%5=e by omega,h]at this;simpa using this
section
variable{p:Pr}
def fZ(h:p.Ok):p.ty.length=p.xs.length/\1<=p.xs.length/\p.xs.length<=4:=by
 have h1:=h.k1;have c:=h.k3;have e:(p.x.ty p.ks).length=p.x.nd.length:=by cases p.x<;>rfl
 have a:p.x.nd.length<=1:=by cases p.x<;>simp[Ex.nd]
 simp only[Pr.ty,Pr.xs,EJ,Dz];omega
def B2a(h:p.Ok):∀k∈p.ty,k<52:=by
 intro k hk;rcases Yp.1 hk with hk|hk
 ·have:=h.k7 k hk;omega
 ·have a:=h.x;cases hq:p.x with
  |no=>rw[hq]at hk;simp[Ex.ty]at hk
  |cn i j=>rw[hq]at hk a;simp[Ex.ty]at hk;have:=a.2;omega
  |inp j=>rw[hq]at hk a;simp only[Ex.ty,ZW]at hk;have:=LQ h.k7 a;omega
  |bi op l r j=>rw[hq]at hk a;simp[Ex.ty]at hk;subst hk;exact B4X (by have:=a.1;have:=a.2.1;omega) (LQ h.k7 a.2.2.1) (LQ h.k7 a.2.2.2.1) a.2.2.2.2
  |po l e j=>rw[hq]at hk a;simp[Ex.ty]at hk;subst hk;exact B0X (LQ h.k7 a.1) a.2.1 a.2.2
def Jg(h:p.Ok):p.out<52:=by
 obtain⟨h1,h2,a⟩:=fZ h;exact LQ (B2a h) (by omega)
def A7U(h:p.Ok):(∀t∈p.ts,t.length<100)/\(p.ts.flatMap rS).length<=11*p.ks.length+61:=by
 have k3:=h.k3;have a:=h.x;have a1:∀t∈(List.range p.ks.length).map exT,t.length<=10:=λt c=>by
  obtain⟨j,d,rfl⟩:=Us.1 c;exact mH (by have:=JM.1 d;omega)
 have a2:(∀t∈p.x.tx,t.length<=60)/\p.x.tx.length<=1:=by
  cases hq:p.x with
  |no=>simp[Ex.tx]
  |cn i j=>rw[hq]at a;simp[Ex.tx];exact B3p a.1 a.2
  |inp j=>rw[hq]at a;have d:j<p.ks.length:=a;simp[Ex.tx];exact gP (mH (by omega)) (by decide)
  |bi op l r j=>rw[hq]at a;have h1:=a.1;have h2:=a.2.1;have g:=a.2.2.1;have m:=a.2.2.2.1;simp[Ex.tx];exact gP (mH (by omega)) (by decide)
  |po l e j=>rw[hq]at a;have h1:=a.1;have h2:=a.2.1;simp[Ex.tx];exact gP (mH (by omega)) (by decide)
 have f:(p.x.tx.flatMap rS).length<=61:=by
  match hq:p.x.tx with
  |[]=>simp
  |[t]=>have:=a2.1 t (by rw[hq];simp);simp[rS];omega
  |t::u::l=>rw[hq]at a2;simp at a2
 refine⟨λt c=>?_,?_⟩
 ·rcases Yp.1 c with c|c
  ·have:=a1 t c;omega
  ·have:=a2.1 t c;omega
 ·have:=A8m a1;simp only[Pr.ts,l2g,EJ,Ub,List.length_range]at this⊢;omega
def Pr.txt(p:Pr):Ha:=oV p.id p.ks p.ts p.out
def fY(h:p.Ok):p.txt.length<390:=by
 have k3:=h.k3;have h1:=B2I p.ks h.k7;have h2:=(A7U h).2;have a:=L_ (Jg h);have c:=A2K p.id;simp only[Pr.txt,oV,EJ,Kj,PQ,Rh,B7f];omega
abbrev Pr.cs(p:Pr):Is:=Bp p.id (B0 p.ks) (BL p.xs) (uu p.out)
def S!(a:100<L)(h:p.Ok):CS (r! L (n+44)) F4 [.agg p.cs] (Bo true):=by
 obtain⟨h1,h2,c⟩:=fZ h;have:=h.k3;have:=h.i1;have:=h.i2;exact A7x a (B78 h) h1 (λk hk=>by have:=h.k7 k hk;omega) (by omega) h2 (by omega) (by omega) (by omega)
def A7T(a:100<L)(h:p.Ok):CS (r! L (n+46)) FM [.agg p.cs] (Bo true):=by
 obtain⟨h1,h2,c⟩:=fZ h;have:=h.k3;have:=h.i1;have:=h.i2;exact A6F a (B77 h) rfl h1 (λk hk=>by have:=h.k7 k hk;omega) (by omega) h2 (by omega) (by omega) (by omega)
def B3O(a:100<L)(h:p.Ok):CS (r! L (n+45)) IS [.agg p.cs] (.tup [S p.txt,I 0]):=by
 obtain⟨h1,h2,f⟩:=fZ h;obtain⟨d,e⟩:=A7V (L:=L) (n:=n+3) h;have:=h.k3;exact A7y a h.i2 (S! a h) (λi c=>(e i c).1) (A7U h).1 d (λk hk=>by have:=h.k7 k hk;omega) (by omega) (by omega) (Jg h)
def B3N(a:100<L)(h:p.Ok):CS (r! L (n+47)) FN [.agg p.cs] (.tup [S p.txt,I 0]):=by
 obtain⟨h1,h2,f⟩:=fZ h;obtain⟨d,e⟩:=A7V (L:=L) (n:=n+5) h;have:=h.k3;exact A6G a h.i2 (A7T a h) (λi c=>(e i c).2) (A7U h).1 d (λk hk=>by have:=h.k7 k hk;omega) (by omega) (by omega) (Jg h)
end
end
section
variable{L n:Nat}{K:KV}
def B1q{a b:Ha}(k:10<L)(m:a.length<390)(hb:b.length<390):CS (r! L (n+7)) EV [.agg [S a,S b]] (S (HE [a,b])):=by
 intro K g;rw[kH];unfold Tc XA3;rw[Fb (by rfl)];have hr:Al [(Ax [],c_ Bf [S a,S b])] (Ax [])=some (c_ Bf [S a,S b]):=Av (H:=[]) (by simp);have f:∀K:K2,Cl 0 (.ptr (Ax []) 0 0) K=K (.ptr (Ax []) 0 0):=λK=>id rfl;have f1:∀K:K2,Cl 1 (.ptr (Ax []) 0 0) K=K (.ptr (Ax []) 1 0):=λK=>id rfl;have i:∀K:K2,A7 Ag (.ptr (Ax []) 0 0) [(Ax [],c_ Bf [S a,S b])] K=K (S a):=λK=>id rfl;have j:∀K:K2,A7 Ag (.ptr (Ax []) 1 0) [(Ax [],c_ Bf [S a,S b])] K=K (S b):=λK=>id rfl;have d:∀K:KV,Gt Ao 1 Ag 2 [(0,1,S a),(1,1,S b)] [(Ax [],c_ Bf [S a,S b])] K=K (.sl 1 1 0 2) ((1,.cells false Ao (AJ [a,b]))::[(Ax [],c_ Bf [S a,S b])]):=λK=>id rfl;rw[f,i,f1,j,d];have h:Py true depth [.sl 1 1 0 2] [.list 2 (AJ [a,b])] ((1,.cells false Ao (AJ [a,b]))::[(Ax [],c_ Bf [S a,S b])]) (true||false):=Aq (qM (e:=Ao) (.inr ⟨1,false,rfl,rfl,rfl⟩) (by decide) (λs:Ha=>Value.string ⟨⟨s⟩⟩) [a,b] rfl) AG;rw[AE (A3p (L:=L) (n:=n) (l:=[a,b]) (by simp) (by simp;omega) (λs c=>by simp at c;rcases c with rfl|rfl<;>assumption)) h];exact g _ _ (λb=>⟨false,CG⟩)
end
section
variable{K:K2}{H:Hp}
variable{L n:Nat}
def A7A{zs:List Int}(c:100<L)(a:zs.length<100)(hz:∀z∈zs, -10<=z/\z<1090):Aj (r! L (n+7)) Ez [.list zs.length (EB zs)] H K=K (S (Iv zs)):=
 AE (uN (n:=n+2) a (by omega) hz) (Aq (q:=false) (q':=false) Pc AG)
def A7o{zs:List Ha}(c:100<L)(a:zs.length<100)(hz:∀z∈zs,z.length<390):Aj (r! L (n+7)) Gw [.list zs.length (AJ zs)] H K=K (S (HE zs)):=
 AE (A3p (n:=n+1) a (by omega) hz) (Aq (q:=false) (q':=false) Pc AG)
def B3L{a b:Ha}(d:100<L)(c:a.length<390)(hb:b.length<390):Aj (r! L (n+7)) EV [.agg [S a,S b]] H K=K (S (HE [a,b])):=
 AE (q:=false) (B1q (n:=n) (by omega) c hb) (λK=>by kernel_rfl)
def mJ{z:Int}:Tu 1 Ac 1 [(0,1,I z)] K=K (.list ([z]:List Int).length (EB [z])):=id rfl
def B3w{a b c d e f:Int}:Tu 1 Ac 6 [(0,1,I a),(1,1,I b),(2,1,I c),(3,1,I d),(4,1,I e),(5,1,I f)] K=K (.list ([a,b,c,d,e,f]:List Int).length (EB [a,b,c,d,e,f])):=id rfl
def A4d{z:Ha}:Tu 1 Ag 1 [(0,1,S z)] K=K (.list ([z]:List Ha).length (AJ [z])):=id rfl
def B4h(a b:Ha):Qu [(a,b)]=HE [a,b]:=by simp[Qu]
def B9X{K:KV}{x:Af}{c:Nat}{R0:Row}{cs:Is}{ts:Yj}{d:AV->KV}(v:TmsOk ts)(A:100<L)(Q:R0=.cells true Ad cs)(g:∀H,Al H c=some R0->∀K,A7 Ay (.ptr c 28 0) H K=K (DD ts)){l:Ha}(hb:l.length<100000000)(P:∀s,Al s c=some R0->Wf s->d (.ptr c 0 0) (S (l++Qi ts)) s=x):∀(f i:Nat)(H:Hp),i<=ts.length->ts.length-i<f->Al H c=some R0->Wf H->
 SP (L+20) (r! L (n+7)) K d f (.ptr c 0 0) (S (l++Qi (ts.take i))) (I i) H=x:=by
 have B:=v.len;intro f
 induction f with
 |zero=>intro i H _ h;omega
 |succ f ih=>
  intro i H V R hc w;rw[jX];unfold SQ E0 VH HN Az;have f26:∀K:K2,Cl 26 (.ptr c 0 0) K=K (.ptr c 26 0):=λK=>id rfl;have f2:∀K:K2,Cl 2 (.ptr c 26 0) K=K (.ptr c 28 0):=λK=>id rfl;rw[f26,f2,g H hc,NR];by_cases h:i<ts.length
  ·have hr:=v.rng _ (Of h);have N:=Wt (z:=ts[i].2) (by omega) (by omega);have O:=Wu ts[i].2;rw[Fo (by omega),CA,f26,f2,g H hc,SG h,lTm,AP (cs:=[zI,zS,zS]) rfl];have m:=Av (H:=H) (x:=.cells true AT [zI,zS,zS]) (by simp);rw[Bv (vs:=MC ts[i]) m rfl rfl rfl];have a:=A5 (q:=true) (e:=AT) (cs:=MC ts[i]) m;have k:=w.lt hc;have j:Al (upd ((Ax H,c_ AT [zI,zS,zS])::H) (Ax H) (c_ AT (MC ts[i]))) c=some R0:=by
    rw[Ah (by omega)];exact AK k hc
   have w1:=Bs (r:=Ax H) (y:=.cells true AT (MC ts[i])) (AM (x:=.cells true AT [zI,zS,zS]) w);generalize upd ((Ax H,c_ AT [zI,zS,zS])::H) (Ax H) (c_ AT (MC ts[i]))=u at a j w1;generalize Ax H=t at a;have J:∀K:K2,Cl 0 (.ptr t 0 0) K=K (.ptr t 0 0):=λK=>id rfl;have M:∀K:K2,Cl 1 (.ptr t 0 0) K=K (.ptr t 1 0):=λK=>id rfl;have m0:∀K,A7 Ac (.ptr t 0 0) u K=K (I ts[i].1):=λK=>AH (p:=0) rfl a (show 0<3 by decide);have m1:∀K,A7 Aw (.ptr t 1 0) u K=K (.agg (qa ts[i].2)):=λK=>Dl (p:=1) rfl a (show 3<=3 from Oj _);have a1:=Zy (ts.take i) (λt h=>by have h1:=v.rng t (l24 h);have:=Wt (z:=t.2) (by omega) (by omega);have:=Wu t.2;omega);have a2:(ts.take i).length<=6:=by simp;omega
   have C:=Fa [ts[i].1];have D:=EZ [qn ts[i].2,qd ts[i].2] (by simp;omega);simp only[Kj,PQ]at C D;rw[J,BN,m0,BN,mJ,BN,A7A A (by simp) (by simp;omega),BN,Bw (by rw[EJ];omega),BN,M,BN,m1,BN,B3L A (by omega) (by omega),BN,Bw (by simp only[EJ];omega),BN,Dg (by omega)];have F:l++Qi (ts.take i)++Iv [ts[i].1]++HE [qn ts[i].2,qd ts[i].2]=l++Qi (ts.take (i+1)):=by
    rw[uH ts h];simp[tmB,B4h]
   rw[F];exact ih (i+1) u (by omega) (by omega) j w1
  ·rw[XA2 (by omega),Bm];have:i=ts.length:=by omega
   subst this;rw[tN];exact P H hc w
end
section
variable{L n:Nat}
section
variable{m:ND}{u o:UD}{ca cb ra rb un pt:Ha}{ts:Yj}{ps:List Ha}{ins nds:AV}{kd id vd pe:Int}{r:RD}
def B9Z{H:Hp}{K:K2}(d:100<L)(e:ps.length<100)(hz:∀z∈ps,z.length<390):Aj (r! L (n+7)) Gw [Dp ps] H K=K (S (HE ps)):=by
 cases ps with
 |nil=>
  refine AE (q:=false) (args':=[A1]) ?_ (λK=>by kernel_rfl);exact λK c=>by
   rw[V6];unfold OW Az;simp only[BJ];rw[TP];unfold MX HN Az;have a:∀K,Bh Ab A1 K=K (I 0):=λK=>r_ rfl;rw[a,XA2 (by decide),Bm];exact c _ _ (λb=>⟨false,λK=>by kernel_rfl⟩)
 |cons p l=>exact A7o d e hz
set_option maxHeartbeats 2000000 in
def A1F(C:100<L)(hm:m.ok)(ae:kd=1\/kd=2\/kd=3)(ht:TmsOk ts)(hI:Sl ins)(hN:Sl nds)(hp:ps.length<=6)(M:∀s∈ps,s.length<390)(X:un.length<390)(O:pt.length<390)(hr:r.k=0\/r.k=1\/r.k=2\/r.k=3)(A:∀q∈[(r.a1,r.a2),(r.b1,r.b2),(r.c1,r.c2),(r.d1,r.d2)],q.1.length<390/\q.2.length<390)(hv:0<=vd/\vd<=3)(ad:ca.length<10/\cb.length<10/\ra.length<10/\rb.length<10)(ab:PS (r! L (n+61)) IV [.agg (BX u)] (.tup [S un,I 0]))(aa:LS (r! L (n+61)) IS [.agg (Bp id ins nds o)] (.tup [S pt,I pe])):
 CS (r! L (n+62)) Qp [.agg (C6 kd m u ca cb (DD ts) ra rb (Dp ps) id ins nds o r vd)] (S (ML kd m un ca cb ts ra rb ps pt (if kd=3 then TN r vd else[]))):=by
 intro K hK;obtain⟨q1,q2,q3,q4,q5,q6,q7,q8,q9,ag⟩:=hm;have hT:=G9 ts;have hP:Sl (Dp ps):=by cases ps with|nil=>exact .inl rfl|cons p l=>exact .inr ⟨_,_,rfl⟩
 have af:=ht.len;have a1:=Fa [kd,m.lab,m.num,m.itm,m.tim,m.day];have a2:=EZ [un] (by simpa using X);have a3:=EZ [ca,cb] (by simp;omega);have a4:=Fa [(ts.length:Int)];have a5:=Zy ts (λt h=>by have:=ht.rng t h;have:=Wt (z:=t.2) (by omega) (by omega);have:=Wu t.2;omega);have a6:=EZ [ra,rb] (by simp;omega);have a7:=Fa [(ps.length:Int)];have a8:=EZ ps M;have a9:=EZ [pt] (by simpa using O);simp only[Kj,PQ]at a1 a2 a3 a4 a6 a7 a9;rw[pK];unfold UR E0 VH Az;rw[Fb (RZ hT hP hI hN)];have d:=Av (H:=[]) (x:=Ke kd m u ca cb (DD ts) ra rb (Dp ps) id ins nds o r vd) (by simp);have w0:=AM (x:=Ke kd m u ca cb (DD ts) ra rb (Dp ps) id ins nds o r vd) E1;generalize ((Ax [],Ke kd m u ca cb (DD ts) ra rb (Dp ps) id ins nds o r vd)::([]:Hp))=H0 at d w0;generalize Ax []=c at d;have Y:∀{j:Nat}{K:K2},Cl j (.ptr c 0 0) K=K (.ptr c j 0):=λ{j K}=>by rw[fA,Kk]
 have g0:∀{K:K2},Cl 0 (.ptr c 26 0) K=K (.ptr c 26 0):=r_ rfl;have g2:∀{K:K2},Cl 2 (.ptr c 26 0) K=K (.ptr c 28 0):=r_ rfl;have g3:∀{K:K2},Cl 3 (.ptr c 26 0) K=K (.ptr c 29 0):=r_ rfl;have nm:∀{y:List Int}{H:Hp}{K:K2},y.length<100->(∀z∈y, -10<=z/\z<1090)->Aj (r! L (n+61)) Ez [.list y.length (EB y)] H K=K (S (Iv y)):=λh1 h2=>A7A (n:=n+54) C h1 h2;have tx:∀{y:List Ha}{H:Hp}{K:K2},y.length<100->(∀z∈y,z.length<390)->Aj (r! L (n+61)) Gw [.list y.length (AJ y)] H K=K (S (HE y)):=λh1 h2=>A7o (n:=n+54) C h1 h2;have i:∀{a b:Ha}{H:Hp}{K:K2},a.length<390->b.length<390->Aj (r! L (n+61)) EV [.agg [S a,S b]] H K=K (S (HE [a,b])):=λh1 h2=>B3L (n:=n+54) C h1 h2;simp only[BJ];rw[Y,cU d,ab,CI,CH];simp only[Y,BN,cI0 d,cI1 d,cI2 d,cI3 d,cI4 d,cI5 d,B3w,A4d,g0,g2,cC d,cT d,NR,mJ];rw[nm (by simp) (by simp only[Qd,List.mem_nil_iff,or_false];rintro z (rfl|rfl|rfl|rfl|rfl|rfl)<;>omega),BN,tx (by simp) (by simpa using X),BN,Bw (by omega),BN,i (by omega) (by omega),BN,Bw (by simp only[EJ];omega),BN,nm (by simp) (by simp;omega),BN,Bw (by simp only[EJ];omega),BN];have e0:(AV.v (.int .i64 0))=I ((0:Nat):Int):=rfl;have et:∀(l:Ha),S l=S (l++Qi (ts.take 0)):=λl=>by rw[show Qi (ts.take 0)=[] from rfl,YV]
 rw[e0,et];refine B9X (n:=n+54) ht C (R0:=Ke kd m u ca cb (DD ts) ra rb (Dp ps) id ins nds o r vd) rfl (λH h K=>cT h) (by simp only[EJ];omega) ?_ (L+20) 0 H0 (by omega) (by omega) d w0;intro w f w1;have N:∀K,Aj (r! L (n+61)) IS [.agg (Bp id ins nds o)] w K=K (.tup [S pt,I pe]):=λK=>by rw[zO];exact aa false _ _ (UN hI hN) K
 have ac:∀{H:Hp}{K:K2},Aj (r! L (n+61)) Gw [Dp ps] H K=K (S (HE ps)):=B9Z (n:=n+54) C (by omega) M;simp only[Y,g3,BN,cR f,cP f,RU,mJ,cPr f,N,CI,CH,A4d,ac];rw[i (by omega) (by omega),BN,Bw (by simp only[EJ];omega),BN,nm (by simp) (by simp;omega),BN,Bw (by simp only[EJ];omega),BN,Bw (by simp only[EJ];omega),BN,tx (by simp) (by simpa using O),Bw (by simp only[EJ];omega),cI0 f,Dn];by_cases Z:kd=3
 ·rw[Ki Z,CA];have jv:∀{j:Nat}{K:K2},Cl j (.ptr (Ax w) 0 0) K=K (.ptr (Ax w) j 0):=λ{j K}=>by rw[fA,Kk]
  have J:=Av (H:=w) (x:=.cells true Ju [zI,zS,zS,zS,zS,zS,zS,zS,zS]) (by simp);have eR:∀{K:K2},A7 Da (.ptr c 55 0) w K=K (.agg r.cs):=λ{K}=>Dl (p:=55) rfl f (show 64<=68 by decide);rw[eR,AP (cs:=[zI,zS,zS,zS,zS,zS,zS,zS,zS]) rfl,Bv (vs:=r.cs) J rfl rfl rfl];have g:=A5 (q:=true) (e:=Ju) (cs:=r.cs) J;have F:=w1.lt f;have D:Al (upd ((Ax w,c_ Ju [zI,zS,zS,zS,zS,zS,zS,zS,zS])::w) (Ax w) (c_ Ju r.cs)) c=some (Ke kd m u ca cb (DD ts) ra rb (Dp ps) id ins nds o r vd):=by
   rw[Ah (by omega)];exact AK F f
  generalize upd ((Ax w,c_ Ju [zI,zS,zS,zS,zS,zS,zS,zS,zS])::w) (Ax w) (c_ Ju r.cs)=B at g D;generalize Ax w=rv at g jv;have l0:∀{K:K2},A7 Ac (.ptr rv 0 0) B K=K (I r.k):=λ{K}=>AH (p:=0) rfl g (show 0<9 by decide);have l1:∀{K:K2},A7 Aw (.ptr rv 1 0) B K=K (.agg [S r.a1,S r.a2]):=λ{K}=>Dl (p:=1) rfl g (show 3<=9 by decide);have l3:∀{K:K2},A7 Aw (.ptr rv 3 0) B K=K (.agg [S r.b1,S r.b2]):=λ{K}=>Dl (p:=3) rfl g (show 5<=9 by decide);have l5:∀{K:K2},A7 Aw (.ptr rv 5 0) B K=K (.agg [S r.c1,S r.c2]):=λ{K}=>Dl (p:=5) rfl g (show 7<=9 by decide);have l7:∀{K:K2},A7 Aw (.ptr rv 7 0) B K=K (.agg [S r.d1,S r.d2]):=λ{K}=>Dl (p:=7) rfl g (show 9<=9 by decide);have b1:=Fa [r.k];have P:r.a1.length<390/\r.a2.length<390:=A (r.a1,r.a2) (by simp);have Q:r.b1.length<390/\r.b2.length<390:=A (r.b1,r.b2) (by simp);have R:r.c1.length<390/\r.c2.length<390:=A (r.c1,r.c2) (by simp);have V:r.d1.length<390/\r.d2.length<390:=A (r.d1,r.d2) (by simp);have b2:=EZ [r.a1,r.a2] (by simp;omega);have b3:=EZ [r.b1,r.b2] (by simp;omega);have b4:=EZ [r.c1,r.c2] (by simp;omega);have b5:=EZ [r.d1,r.d2] (by simp;omega);have b6:=Fa [vd];simp only[Kj,PQ]at b1 b2 b3 b4 b5 b6;simp only[jv,Y,BN,l0,l1,l3,l5,l7,cV D,mJ];rw[nm (by simp) (by simp;omega),BN,Bw (by simp only[EJ];omega),BN,i P.1 P.2,BN,Bw (by simp only[EJ];omega),BN,i Q.1 Q.2,BN,Bw (by simp only[EJ];omega),BN,i R.1 R.2,BN,Bw (by simp only[EJ];omega),BN,i V.1 V.2,BN,Bw (by simp only[EJ];omega),BN,nm (by simp) (by simp;omega),BN,Bw (by simp only[EJ];omega),BN];rw[CZ Z]at hK⊢;have e:ML kd m un ca cb ts ra rb ps pt (TN r vd)=Iv [kd,m.lab,m.num,m.itm,m.tim,m.day]++HE [un]++HE [ca,cb]++Iv [(ts.length:Int)]++Qi ts++HE [ra,rb]++Iv [(ps.length:Int)]++HE ps++HE [pt]++Iv [r.k]++HE [r.a1,r.a2]++HE [r.b1,r.b2]++HE [r.c1,r.c2]++HE [r.d1,r.d2]++Iv [vd]:=by
   unfold ML TN;simp[Qu]
  rw[<-e];exact hK _ _ (λb=>⟨false,λK=>by kernel_rfl⟩)
 ·rw[KD Z,Bm];rw[Cr Z]at hK⊢;have e:ML kd m un ca cb ts ra rb ps pt []=Iv [kd,m.lab,m.num,m.itm,m.tim,m.day]++HE [un]++HE [ca,cb]++Iv [(ts.length:Int)]++Qi ts++HE [ra,rb]++Iv [(ps.length:Int)]++HE ps++HE [pt]:=by
   unfold ML;simp only[B4h,YV,l35]
  rw[<-e];exact hK _ _ (λb=>⟨false,λK=>by kernel_rfl⟩)
end
end
section
variable{L n:Nat}
def B1V:PS (r! L (n+40)) qP [.agg [I 0,A1,A1]] (.tup [S [],I 200]):=B3 (λH K=>by kernel_rfl) (by kernel_rfl)
def B1W:PS (r! L (n+40)) yV [.agg [I 0,A1,A1]] (.tup [Bo true,Bo false]):=B3 (λH K=>by kernel_rfl) (by kernel_rfl)
section
variable{m:ND}{u o:UD}{ca cb ra rb:Ha}{T P ins nds:AV}{kd id vd:Int}{r:RD}{b:Ha}{q:Bool}
def A1G(h:Sl T)(g:Sl P)(e:Sl ins)(f:Sl nds)(hb:b.length<=32768)(v:CS (r! L (n+61)) EU [.agg (C6 kd m u ca cb T ra rb P id ins nds o r vd)] (.tup [Bo true,Bo q]))(s:CS (r! L (n+61)) Qp [.agg (C6 kd m u ca cb T ra rb P id ins nds o r vd)] (S b)):
 CS (r! L (n+62)) NG [.agg (C6 kd m u ca cb T ra rb P id ins nds o r vd)] (.tup [S b,I 0]):=by
 intro K t;rw[XA9];unfold Qm XA3;rw[Fb (RZ h g e f)];have a:=Av (H:=[]) (x:=Ke kd m u ca cb T ra rb P id ins nds o r vd) (by simp);generalize ((Ax [],Ke kd m u ca cb T ra rb P id ins nds o r vd)::([]:Hp))=k at a;generalize Ax []=c at a;have p:∀{j:Nat}{K:K2},Cl j (.ptr c 0 0) K=K (.ptr c j 0):=λ{j K}=>by rw[fA,Kk]
 have i:∀K,Aj (r! L (n+61)) EU [.agg (C6 kd m u ca cb T ra rb P id ins nds o r vd)] k K=K (.tup [Bo true,Bo q]):=λK=>AE v (Vz h g e f);have d:∀K,Aj (r! L (n+61)) Qp [.agg (C6 kd m u ca cb T ra rb P id ins nds o r vd)] k K=K (S b):=λK=>AE s (Vz h g e f);have w:∀{K:K2},Bh Ag (S b) K=K (I b.length):=λ{K}=>OP rfl;rw[cA a,i,CI,CH,xR,Bm,cA a,d,p,cS a,B1W (n:=n+21),CI,CH,p,cS a,B1V (n:=n+21),CI,CH,w,DB,KD (by omega)];simp only[Z_,gT,Ck,xR,ZG];rw[Bm];exact t _ _ (λb=>⟨false,λK=>by kernel_rfl⟩)
def C2x{cs:Is}(h:40000<L)(h1:cs.all AV.one=true)(hz:cs.length=68)(c:∀H,Py true depth [.agg cs] [.agg cs] H false)(hb:b.length<=32768)(e:CS (r! L (n+62)) NG [.agg cs] (.tup [S b,I 0])):CS (r! L (n+63)) Hv [.agg cs] (S (sha b)):=by
 intro K f;rw[ZM];unfold UU XA3;rw[Fb h1];have a:=Av (H:=[]) (x:=.cells true Ad cs) (by simp);generalize ((Ax [],c_ Ad cs)::([]:Hp))=d at a;rw[AX rfl hz.symm a,AE e (c d),CI,CH,HF];show A2 (.v (.bool false)) _ _=_;rw[Bm];have g:∀K,Aj (r! L (n+62)) WY [S b] d K=K (S (sha b)):=λK=>AE (B3I (L:=L+20) (n:=n+59) (by omega) (by omega)) (Aq (q:=false) (q':=false) CG AG);rw[g];exact f _ _ (λb=>⟨false,λK=>by kernel_rfl⟩)
end
end
section
variable{k:Nat}
variable{L n:Nat}
def B9S(hk:k=1\/k=2\/k=3):∀K,eEq GU BinOp.eql (AV.agg (rr k).cs) (AV.agg [zI,zS,zS,zS,zS,zS,zS,zS,zS]) K=K (Bo false):=λK=>by rw[<-qO];rcases hk with rfl|rfl|rfl<;>kernel_rfl
def B4I(hk:k=1\/k=2\/k=3):PS (r! L (n+40)) WZ [.agg (rr k).cs] (Bo true):=by
 rcases hk with rfl|rfl|rfl<;>exact B3 (λH K=>by kernel_rfl) (by as_aux_lemma=>kernel_rfl)
def A7w(hk:k=1\/k=2\/k=3):PS (r! L (n+40)) IR [.agg (rr k).cs] (Bo true):=by
 rcases hk with rfl|rfl|rfl<;>exact B3 (λH K=>by kernel_rfl) (by as_aux_lemma=>kernel_rfl)
def xI:PS (r! L (n+40)) IR [.agg r0.cs] (Bo false):=B3 (λH K=>by kernel_rfl) (by kernel_rfl)
end
section
variable{k:Nat}
variable{L n:Nat}
structure CB where
 m:ND
 c:Int
 r:Int
 ts:Yj
structure CB.Ok(b:CB):Prop where
 m:b.m.ok
 c1: -80<=b.c
 c2:b.c<=80
 r1:0<=b.r
 r2:b.r<=8
 ts:TmsOk b.ts
inductive Cd where
 |re (b:CB) (u:Nat)
 |co (b:CB) (p:Pr) (ps:List Ha) (t:Option (Nat×Int))
abbrev dn:=List Cd
def Cd.kd:Cd->Int
 |.re _ _=>1
 |.co _ _ _ none=>2
 |.co _ _ _ (some _)=>3
def Cd.ps:Cd->List Ha
 |.re _ _=>[]
 |.co _ _ ps _=>ps
abbrev cdC(kd:Int)(b:CB)(u:UD)(ps:List Ha)(id:Int)(ins a:AV)(o:UD)(r:RD)(vd:Int):Is:=C6 kd b.m u (qn b.c) (qd b.c) (DD b.ts) (qn b.r) (qd b.r) (Dp ps) id ins a o r vd
def Cd.cs:Cd->Is
 |.re b u=>cdC 1 b (uu u) [] 0 A1 A1 u0 r0 0
 |.co b p ps none=>cdC 2 b (uu p.out) ps p.id (B0 p.ks) (BL p.xs) (uu p.out) r0 0
 |.co b p ps (some (k,vd))=>cdC 3 b (uu p.out) ps p.id (B0 p.ks) (BL p.xs) (uu p.out) (rr k) vd
def Cd.body:Cd->Ha
 |.re b u=>ML 1 b.m (Kx u) (qn b.c) (qd b.c) b.ts (qn b.r) (qd b.r) [] [] []
 |.co b p ps none=>ML 2 b.m (Kx p.out) (qn b.c) (qd b.c) b.ts (qn b.r) (qd b.r) ps p.txt []
 |.co b p ps (some (k,vd))=>ML 3 b.m (Kx p.out) (qn b.c) (qd b.c) b.ts (qn b.r) (qd b.r) ps p.txt (TN (rr k) vd)
def Cd.Ok:Cd->Prop
 |.re b u=>b.Ok/\u<7
 |.co b p ps t=>b.Ok/\p.Ok/\ps.length=p.ks.length/\(∀s∈ps,s.length=32)/\(match t with|none=>True|some (k,vd)=>(k=1\/k=2\/k=3)/\1<=vd/\vd<=3)
def Cd.id(c:Cd):Ha:=sha c.body
def Nf(ps:List Ha):Sl (Dp ps):=by cases ps with|nil=>exact .inl rfl|cons p l=>exact .inr ⟨_,_,rfl⟩
def Wv{ps:List Ha}(h:1<=ps.length):Dp ps=Ls ps:=by cases ps with|nil=>simp at h|cons p l=>rfl
def B9T(h:k=1\/k=2\/k=3):(rr k).k=0\/(rr k).k=1\/(rr k).k=2\/(rr k).k=3:=by rcases h with rfl|rfl|rfl<;>decide
def A1A(h:k=1\/k=2\/k=3):∀q∈[((rr k).a1,(rr k).a2),((rr k).b1,(rr k).b2),((rr k).c1,(rr k).c2),((rr k).d1,(rr k).d2)],q.1.length<390/\q.2.length<390:=by
 rcases h with rfl|rfl|rfl<;>decide
def xK:∀q∈[(r0.a1,r0.a2),(r0.b1,r0.b2),(r0.c1,r0.c2),(r0.d1,r0.d2)],q.1.length<390/\q.2.length<390:=by decide
section
variable{b:CB}{p:Pr}{ps:List Ha}{kd:Int}{tail:Ha}{un pt:Ha}
def CB.Ok.cl(h:b.Ok):(qn b.c).length<10/\(qd b.c).length<10/\(qn b.r).length<10/\(qd b.r).length<10:=by
 have h1:=Wt h.c1 (show b.c<81 by have:=h.c2;omega);have h2:=Wt (z:=b.r) (by have:=h.r1;omega) (by have:=h.r2;omega);have a:=Wu b.c;have d:=Wu b.r;omega
def rH(h:b.Ok)(f:un.length<390)(A:ps.length<=6)(a:∀s∈ps,s.length<390)(d:pt.length<390)(e:tail.length<=4000):(ML kd b.m un (qn b.c) (qd b.c) b.ts (qn b.r) (qd b.r) ps pt tail).length<=32768:=by
 obtain⟨q1,q2,q3,q4⟩:=h.cl;have g:=Fa [kd,b.m.lab,b.m.num,b.m.itm,b.m.tim,b.m.day];have i:=EZ [un] (by simpa using f);have j:=NP [(qn b.c,qd b.c)] (by simp;omega);have q:=Fa [(b.ts.length:Int)];have u:=Zy b.ts (λt e=>by
  have:=h.ts.rng t e;have:=Wt (z:=t.2) (by omega) (by omega);have:=Wu t.2;omega)
 have v:=NP [(qn b.r,qd b.r)] (by simp;omega);have w:=Fa [(ps.length:Int)];have x:=EZ ps a;have y:=EZ [pt] (by simpa using d);have B:=h.ts.len;simp only[ML,EJ,Kj,PQ]at g i j q u v w x y⊢;omega
def A7b{vd:Int}(h:k=1\/k=2\/k=3):(TN (rr k) vd).length<=4000:=by
 have a:=Fa [(rr k).k];have d:=NP _ (A1A h);have e:=Fa [vd];simp only[TN,EJ,Kj,PQ]at a d e⊢;omega
end
section
variable{c:Cd}
def Ic:c.cs.all AV.one=true:=by
 match c with
 |.re b u=>exact RZ (G9 _) (Nf _) (.inl rfl) (.inl rfl)
 |.co b p ps none=>exact RZ (G9 _) (Nf _) (.inr ⟨_,_,rfl⟩) (.inr ⟨_,_,rfl⟩)
 |.co b p ps (some (k,vd))=>exact RZ (G9 _) (Nf _) (.inr ⟨_,_,rfl⟩) (.inr ⟨_,_,rfl⟩)
def BC:c.cs.length=68:=by
 match c with
 |.re b u=>rfl
 |.co b p ps none=>rfl
 |.co b p ps (some (k,vd))=>rfl
def eF(H:Hp):Py true depth [.agg c.cs] [.agg c.cs] H false:=by
 match c with
 |.re b u=>exact Vz (G9 _) (Nf _) (.inl rfl) (.inl rfl)
 |.co b p ps none=>exact Vz (G9 _) (Nf _) (.inr ⟨_,_,rfl⟩) (.inr ⟨_,_,rfl⟩)
 |.co b p ps (some (k,vd))=>exact Vz (G9 _) (Nf _) (.inr ⟨_,_,rfl⟩) (.inr ⟨_,_,rfl⟩)
def eG(h:c.Ok):c.body.length<=32768:=by
 match c,h with
 |.re b u,⟨hb,f⟩=>exact rH hb (by have:=FP u;omega) (by simp) (by simp) (by simp) (by simp)
 |.co b p ps none,⟨hb,a,h1,h2,_⟩=>exact rH hb (by have:=FP p.out;omega) (by have:=a.k3;omega) (λs d=>by rw[h2 s d];decide) (fY a) (by simp)
 |.co b p ps (some (k,vd)),⟨hb,a,h1,h2,e⟩=>exact rH hb (by have:=FP p.out;omega) (by have:=a.k3;omega) (λs d=>by rw[h2 s d];decide) (fY a) (A7b e.1)
def B9h:RV (r! L (n+40)) FN [.agg (Bp 0 A1 A1 u0)] (.tup [S [],I 90]):=λb=>by kernel_rfl
def C00:RV (r! L (n+40)) IS [.agg (Bp 0 A1 A1 u0)] (.tup [S [],I 90]):=λb=>by kernel_rfl
def A9E(t:40000<L)(h:c.Ok)(hn:c.ps.Nodup):CS (r! L (n+63)) Lm [.agg c.cs] (S c.id):=by
 refine C2q t Ic BC eF (eG h) ?_
 match c,h,hn with
 |.re b u,⟨hb,v⟩,_=>
  have st:=A4z (L:=L) (n:=n) (o:=u0) hb.m (G9 b.ts) (A6D (L:=L) (n:=n+20)).o (Wg L (n+20) u (by omega)).o (A1g (L:=L) (n:=n+16) hb.c1 hb.c2 hb.r1 hb.r2 hb.ts).ls;exact A1j (n:=n) (ps:=[]) (vd:=0) (kd:=1) (by omega) hb.m (.inl rfl) hb.ts (.inl rfl) (.inl rfl) (by simp) (by simp) (by have:=FP u;omega) (by simp) (.inl rfl) xK (by decide) hb.cl st.ls (TA L (n+21) u (by omega)) (B9h (L:=L) (n:=n+21)).ls
 |.co b p ps none,⟨hb,a,h1,h2,_⟩,hn=>
  have k1:=a.k1;have k3:=a.k3;have e:Dp ps=.list p.ks.length (AJ ps):=by rw[Wv (by omega),Ls,h1]
  have d:=(uE (L:=L) (n:=n+53) (ps:=ps) hn (by omega) (by omega) (by omega) h2).ls;rw[Ls,h1]at d;have g:=nL (L:=L) (n:=n) (kd:=2) (m:=b.m) (ca:=qn b.c) (cb:=qd b.c) (ra:=qn b.r) (rb:=qd b.r) (r:=r0) (vd:=0) (G9 b.ts) ⟨_,_,rfl⟩ d (A7T (L:=L) (n:=n+13) (by omega) a).ls;have st:=A4y (L:=L) (n:=n) hb.m (G9 b.ts) ⟨_,_,rfl⟩ ⟨_,_,rfl⟩ ⟨_,_,rfl⟩ g.ls (Wg L (n+20) p.out (Jg a)).o (A1g (L:=L) (n:=n+16) hb.c1 hb.c2 hb.r1 hb.r2 hb.ts).ls;rw[<-e]at st;exact A1j (n:=n) (ps:=ps) (vd:=0) (kd:=2) (by omega) hb.m (.inr (.inl rfl)) hb.ts (.inr ⟨_,_,rfl⟩) (.inr ⟨_,_,rfl⟩) (by omega) (λs i=>by rw[h2 s i];decide) (by have:=FP p.out;omega) (fY a) (.inl rfl) xK (by decide) hb.cl st.ls (TA L (n+21) _ (Jg a)) (B3N (L:=L) (n:=n+14) (by omega) a).ls
 |.co b p ps (some (k,vd)),⟨hb,a,h1,h2,f,j,q⟩,hn=>
  have k1:=a.k1;have k3:=a.k3;have e:Dp ps=.list p.ks.length (AJ ps):=by rw[Wv (by omega),Ls,h1]
  have d:=(uE (L:=L) (n:=n+53) (ps:=ps) hn (by omega) (by omega) (by omega) h2).ls;rw[Ls,h1]at d;have g:=nL (L:=L) (n:=n) (kd:=3) (m:=b.m) (ca:=qn b.c) (cb:=qd b.c) (ra:=qn b.r) (rb:=qd b.r) (r:=rr k) (vd:=vd) (G9 b.ts) ⟨_,_,rfl⟩ d (A7T (L:=L) (n:=n+13) (by omega) a).ls;have st:=A4x (L:=L) (n:=n) hb.m (G9 b.ts) ⟨_,_,rfl⟩ ⟨_,_,rfl⟩ ⟨_,_,rfl⟩ (B9S f) (B4I (L:=L) (n:=n+20) f).o j q (Wg L (n+20) p.out (Jg a)).o (A1g (L:=L) (n:=n+16) hb.c1 hb.c2 hb.r1 hb.r2 hb.ts).ls g.ls;rw[<-e]at st;exact A1j (n:=n) (ps:=ps) (vd:=vd) (kd:=3) (by omega) hb.m (.inr (.inr rfl)) hb.ts (.inr ⟨_,_,rfl⟩) (.inr ⟨_,_,rfl⟩) (by omega) (λs i=>by rw[h2 s i];decide) (by have:=FP p.out;omega) (fY a) (B9T f) (A1A f) (by omega) hb.cl st.ls (TA L (n+21) _ (Jg a)) (B3N (L:=L) (n:=n+14) (by omega) a).ls
end
end
section
variable{c2:Is}{n2:Nat}
variable{L n:Nat}
section
variable{R:Rt}{K:KV}{ps:List Ha}{H:Hp}{y:Af}
def B2e{c:AV->AV->KV}{i:Nat}(k:i<ps.length)(hb:ps.length<100)(p:K (.tup [Bo false,I ps.length]) H=y)(hk:c (Ls ps) (I i) (I i) H=y\/∃m,∃h:m<i,ps[m]'(by omega)=ps[i]):∀(f j:Nat),j<=i->i-j<f->(∀m(_:m<j)(s:m<ps.length),ps[m]≠ps[i])->
 KS (L+20) R K c f (Ls ps) (I i) (I j) H=y:=by
 intro f
 induction f with
 |zero=>intro j _ h;omega
 |succ f ih=>
  intro j v t a;rw[QM];unfold KU Lo Az Fk;by_cases h:j<i
  ·rw[Fo (by omega),CA,OS (by omega),BN,Hy,BN,OS k,BN,Hy,BN,MK];by_cases he:ps[j]=ps[i]
   ·rw[Ki he,BN,CA,LU];exact p
   ·rw[KD he,BN,Bm,Dg (by omega)];exact ih (j+1) (by omega) (by omega) λm hm d=>by
     by_cases g:m=j
     ·subst g;exact he
     ·exact a m (by omega) d
  ·rw[XA2 (by omega),Bm];obtain rfl:j=i:=by omega
   rcases hk with hk|⟨m,hm,e⟩
   ·exact hk
   ·exact absurd e (a m hm (by omega))
def B2f{c:KV}(hb:ps.length<100)(w:ps.length<L+20)(k:∀s∈ps,s.length=32)(p:K (.tup [Bo false,I ps.length]) H=y):∀(f i:Nat)(v:AV),i<=ps.length->ps.length-i<f->
 (∃t m,i<=t/\∃(h:t<ps.length)(hm:m<t),ps[m]'(by omega)=ps[t])->KT (L+20) R K c f (Ls ps) (I i) v H=y:=by
 intro f
 induction f with
 |zero=>intro i v _ h;omega
 |succ f ih=>
  intro i v A x a;obtain⟨t,m,h1,h2,d,e⟩:=a;rw[QN];unfold KW HN Az Fk;rw[LU];have h:i<ps.length:=by omega
  rw[Fo (by omega),CA];simp only[BJ];rw[OS h,Hy,OP rfl,k _ (Of h),HF];rw[show(!decide (((32:Nat):Int)=32))=false from rfl,Bm];have g:(AV.v (.int .i64 0))=I ((0:Nat):Int):=rfl;rw[g];refine B2e h hb p ?_ _ 0 (by omega) (by omega) (λm hm _=>by omega);by_cases j:t=i
  ·subst j;exact .inr ⟨m,d,e⟩
  ·left;rw[Dg (by omega)];exact ih (i+1) _ (by omega) (by omega) ⟨t,m,by omega,h2,d,e⟩
def A5d(h:¬ps.Nodup):∃t m,0<=t/\∃(h:t<ps.length)(hm:m<t),ps[m]'(by omega)=ps[t]:=l2z λhc=>h (by
 rw[List.nodup_iff_pairwise_ne,l20];intro i j d c a e;exact hc ⟨j,i,D! _,c,a,e⟩)
def oP(hn:¬ps.Nodup)(hb:ps.length<=6)(d:∀s∈ps,s.length=32):CS (rt (L+20) (n+1)) Hu [Ls ps] (.tup [Bo false,I ps.length]):=by
 intro K c;rw[Ss];unfold LN BK Az Fk;simp only[BJ];have a:(AV.v (.int .i64 0))=I ((0:Nat):Int):=rfl;rw[a];exact B2f (by omega) (by omega) d (c _ _ (λb=>⟨false,λK=>by kernel_rfl⟩)) _ 0 _ (by omega) (by omega) (A5d hn)
end
section
variable{m:ND}{u o:UD}{ca cb ra rb:Ha}{T P ins nds:AV}{id vd kd:Int}{r:RD}{q:Bool}
def A3x(h:Sl T)(g:Sl P)(e:Sl ins)(f:Sl nds)(k:CS (rt (L+20) (n+61)) EU [.agg (C6 kd m u ca cb T ra rb P id ins nds o r vd)] (.tup [Bo false,Bo q])):
 CS (rt (L+20) (n+62)) NG [.agg (C6 kd m u ca cb T ra rb P id ins nds o r vd)] (.tup [S [],I 210]):=by
 intro K j;rw[XA9];unfold Qm XA3;rw[Fb (RZ h g e f)];have a:=Av (H:=[]) (x:=Ke kd m u ca cb T ra rb P id ins nds o r vd) (by simp);generalize ((Ax [],Ke kd m u ca cb T ra rb P id ins nds o r vd)::([]:Hp))=i at a;generalize Ax []=c at a;have d:∀K,Aj (rt (L+20) (n+61)) EU [.agg (C6 kd m u ca cb T ra rb P id ins nds o r vd)] i K=K (.tup [Bo false,Bo q]):=λK=>AE k (Vz h g e f);rw[cA a,d,CI,CH,ntF,CA];exact j _ _ (λb=>⟨false,λK=>by kernel_rfl⟩)
def C01{cs:Is}(h1:cs.all AV.one=true)(hz:cs.length=68)(c:∀H,Py true depth [.agg cs] [.agg cs] H false)(e:CS (rt (L+20) (n+62)) NG [.agg cs] (.tup [S [],I 210])):CS (rt (L+20) (n+63)) Hv [.agg cs] (S []):=by
 intro K f;rw[ZM];unfold UU XA3;rw[Fb h1];have a:=Av (H:=[]) (x:=.cells true Ad cs) (by simp);generalize ((Ax [],c_ Ad cs)::([]:Hp))=d at a;rw[AX rfl hz.symm a,AE e (c d),CI,CH,HF];show A2 (.v (.bool true)) _ _=_;rw[CA];exact f _ _ (λb=>⟨false,λK=>by kernel_rfl⟩)
end
attribute [local irreducible] Aj rt jQ eBi eEq cnd Ap PW A2
section
variable{m:ND}{u o:UD}{ca cb ra rb:Ha}{T P ins nds:AV}{id vd:Int}{r:RD}
def A1E(hm:m.ok)(t:Sl T)(hr:PO (rt (L+20) (n+60)) IR [.agg r0.cs] (Bo false))(s:∃n cs,P=.list n cs)(p:∃n cs,nds=.list n cs)(w:LS (rt (L+20) (n+60)) Hu [P] (.tup [Bo false,I n2]))(hv:LS (rt (L+20) (n+60)) F4 [.agg (Bp id (.list n2 c2) nds u)] (Bo true))(x:PO (rt (L+20) (n+60)) EX [.agg (BX u)] (Bo true))(v:LS (rt (L+20) (n+60)) IU [.agg (Lp ca cb T ra rb)] (Bo true)):
 CS (rt (L+20) (n+61)) EU [.agg (C6 2 m u ca cb T ra rb P id (.list n2 c2) nds u r0 0)] (.tup [Bo false,Bo false]):=by
 intro K j;obtain⟨h1,h2,f,A,g,B,h,C,i,e⟩:=hm;obtain⟨n1,c1,rfl⟩:=s;obtain⟨D,c3,rfl⟩:=p;have hb:∀{z d c:Int},d<=z->z<=c->PO (rt (L+20) (n+60)) Ia [I z,I d,I c] (Bo true):=λa b=>(Ws a b).o;rcases t with rfl|⟨F,c4,rfl⟩
 all_goals
  rewrite[Jk];unfold HW XA3
  try rewrite[zO]
  try rewrite[bO]
  try rewrite[qO]
  try rewrite[cO]
  generalize rt (L+20) (n+60)=R at*
  conv=>lhs;whnf
  rewrite[VF ?hc]
  case hc=>decide
  conv=>lhs;whnf
  rewrite[x]
  conv=>lhs;whnf
  rewrite[(v) false _ _ ?hq]
  case hq=>exact λK=>by kernel_rfl
  conv=>lhs;whnf
  rewrite[hb h1 (by omega)]
  conv=>lhs;whnf
  rewrite[hb f (by omega)]
  conv=>lhs;whnf
  rewrite[hb g (by omega)]
  conv=>lhs;whnf
  rewrite[hb h (by omega)]
  conv=>lhs;whnf
  rewrite[hb i (by omega)]
  conv=>lhs;whnf
  rewrite[FY]
  conv=>lhs;whnf
  rewrite[hr]
  conv=>lhs;whnf
  rewrite[show∀K,eEq GU BinOp.neq (AV.agg [I r0.k,S r0.a1,S r0.a2,S r0.b1,S r0.b2,S r0.c1,S r0.c2,S r0.d1,S r0.d2]) (AV.agg [zI,zS,zS,zS,zS,zS,zS,zS,zS]) K=K (Bo false) from λK=>by rw[<-qO];kernel_rfl]
  conv=>lhs;whnf
  rewrite[A8f ?hc]
  case hc=>decide
  conv=>lhs;whnf
  rewrite[FY]
  conv=>lhs;whnf
  rewrite[VF ?hc]
  case hc=>decide
  conv=>lhs;whnf
  rewrite[FY]
  conv=>lhs;whnf
  rewrite[Pw ?hc]
  case hc=>decide
  conv=>lhs;whnf
  rewrite[Pg]
  conv=>lhs;whnf
  rewrite[Pg]
  conv=>lhs;whnf
  rewrite[(w) false _ _ ?hq]
  case hq=>exact λK=>by kernel_rfl
  conv=>lhs;whnf
  rewrite[(hv) false _ _ ?hq]
  case hq=>exact λK=>by kernel_rfl
  conv=>lhs;whnf
  exact j _ _ (λb=>⟨false,λK=>by kernel_rfl⟩)
def A1D(hm:m.ok)(v:Sl T)(hr:PO (rt (L+20) (n+60)) IR [.agg r.cs] (Bo true))(c:1<=vd)(d:vd<=3)(t:∃n cs,P=.list n cs)(s:∃n cs,nds=.list n cs)(x:LS (rt (L+20) (n+60)) Hu [P] (.tup [Bo false,I n2]))(hv:LS (rt (L+20) (n+60)) F4 [.agg (Bp id (.list n2 c2) nds u)] (Bo true))(A:PO (rt (L+20) (n+60)) EX [.agg (BX u)] (Bo true))(w:LS (rt (L+20) (n+60)) IU [.agg (Lp ca cb T ra rb)] (Bo true)):
 CS (rt (L+20) (n+61)) EU [.agg (C6 3 m u ca cb T ra rb P id (.list n2 c2) nds u r vd)] (.tup [Bo false,Bo true]):=by
 intro K p;obtain⟨h1,h2,h,B,i,C,j,D,k,g⟩:=hm;obtain⟨n1,c1,rfl⟩:=t;obtain⟨F,c3,rfl⟩:=s;have hb:∀{z f e:Int},f<=z->z<=e->PO (rt (L+20) (n+60)) Ia [I z,I f,I e] (Bo true):=λa b=>(Ws a b).o;rcases v with rfl|⟨J,c4,rfl⟩
 all_goals
  rewrite[Jk];unfold HW XA3
  try rewrite[zO]
  try rewrite[bO]
  try rewrite[qO]
  try rewrite[cO]
  generalize rt (L+20) (n+60)=R at*
  conv=>lhs;whnf
  rewrite[Pw ?hc]
  case hc=>decide
  conv=>lhs;whnf
  rewrite[A]
  conv=>lhs;whnf
  rewrite[(w) false _ _ ?hq]
  case hq=>exact λK=>by kernel_rfl
  conv=>lhs;whnf
  rewrite[hb h1 (by omega)]
  conv=>lhs;whnf
  rewrite[hb h (by omega)]
  conv=>lhs;whnf
  rewrite[hb i (by omega)]
  conv=>lhs;whnf
  rewrite[hb j (by omega)]
  conv=>lhs;whnf
  rewrite[hb k (by omega)]
  conv=>lhs;whnf
  rewrite[FY]
  conv=>lhs;whnf
  rewrite[hr]
  conv=>lhs;whnf
  rewrite[hb c d]
  conv=>lhs;whnf
  rewrite[FY]
  conv=>lhs;whnf
  rewrite[VF ?hc]
  case hc=>decide
  conv=>lhs;whnf
  rewrite[FY]
  conv=>lhs;whnf
  rewrite[VF ?hc]
  case hc=>decide
  conv=>lhs;whnf
  rewrite[FY]
  conv=>lhs;whnf
  rewrite[Pw ?hc]
  case hc=>decide
  conv=>lhs;whnf
  rewrite[Pg]
  conv=>lhs;whnf
  rewrite[(x) false _ _ ?hq]
  case hq=>exact λK=>by kernel_rfl
  conv=>lhs;whnf
  rewrite[(hv) false _ _ ?hq]
  case hq=>exact λK=>by kernel_rfl
  conv=>lhs;whnf
  exact p _ _ (λb=>⟨false,λK=>by kernel_rfl⟩)
end
end
section
variable{L n:Nat}
section
variable{c:Cd}
def zQ(q:40000<L)(h:c.Ok)(hn:c.ps.Nodup):CS (r! L (n+64)) Hv [.agg c.cs] (S c.id):=by
 refine C2x (n:=n+1) q Ic BC eF (eG h) ?_
 match c,h,hn with
 |.re b u,⟨hb,r⟩,_=>
  have st:=A50 (L:=L) (n:=n+1) (o:=u0) hb.m (G9 b.ts) (xI (L:=L) (n:=n+21)).o (A7u (L:=L) (n:=n+21)).o (Rg L (n+21) u (by omega)).o (oU (L:=L) (n:=n+19) hb.c1 hb.c2 hb.r1 hb.r2 (by omega) hb.ts).ls;exact A1G (n:=n+1) (G9 _) (Nf []) (.inl rfl) (.inl rfl) (eG (c:=.re b u) ⟨hb,r⟩) st (A1F (n:=n) (ps:=[]) (vd:=0) (kd:=1) (by omega) hb.m (.inl rfl) hb.ts (.inl rfl) (.inl rfl) (by simp) (by simp) (by have:=FP u;omega) (by simp) (.inl rfl) xK (by decide) hb.cl (TQ L (n+21) u (by omega)) (C00 (L:=L) (n:=n+21)).ls)
 |.co b p ps none,⟨hb,a,h1,h2,f⟩,hn=>
  have k1:=a.k1;have k3:=a.k3;have e:Dp ps=Ls ps:=Wv (by omega);have d:=(uP (L:=L) (n:=n+60) (ps:=ps) hn (by omega) (by omega) h2).ls;rw[<-e,h1]at d;have st:=A4Z (L:=L) (n:=n+1) hb.m (G9 b.ts) (xI (L:=L) (n:=n+21)).o ⟨_,_,e⟩ ⟨_,_,rfl⟩ d (S! (L:=L) (n:=n+17) (by omega) a).ls (Rg L (n+21) p.out (Jg a)).o (oU (L:=L) (n:=n+19) hb.c1 hb.c2 hb.r1 hb.r2 (by omega) hb.ts).ls;exact A1G (n:=n+1) (G9 _) (Nf ps) (.inr ⟨_,_,rfl⟩) (.inr ⟨_,_,rfl⟩) (eG (c:=.co b p ps none) ⟨hb,a,h1,h2,f⟩) st (A1F (n:=n) (ps:=ps) (vd:=0) (kd:=2) (by omega) hb.m (.inr (.inl rfl)) hb.ts (.inr ⟨_,_,rfl⟩) (.inr ⟨_,_,rfl⟩) (by omega) (λs g=>by rw[h2 s g];decide) (by have:=FP p.out;omega) (fY a) (.inl rfl) xK (by decide) hb.cl (TQ L (n+21) _ (Jg a)) (B3O (L:=L) (n:=n+16) (by omega) a).ls)
 |.co b p ps (some (k,vd)),⟨hb,a,h1,h2,f,i,j⟩,hn=>
  have k1:=a.k1;have k3:=a.k3;have e:Dp ps=Ls ps:=Wv (by omega);have d:=(uP (L:=L) (n:=n+60) (ps:=ps) hn (by omega) (by omega) h2).ls;rw[<-e,h1]at d;have st:=A4Y (L:=L) (n:=n+1) hb.m (G9 b.ts) (A7w (L:=L) (n:=n+21) f).o i j ⟨_,_,e⟩ ⟨_,_,rfl⟩ d (S! (L:=L) (n:=n+17) (by omega) a).ls (Rg L (n+21) p.out (Jg a)).o (oU (L:=L) (n:=n+19) hb.c1 hb.c2 hb.r1 hb.r2 (by omega) hb.ts).ls;exact A1G (n:=n+1) (G9 _) (Nf ps) (.inr ⟨_,_,rfl⟩) (.inr ⟨_,_,rfl⟩) (eG (c:=.co b p ps (some (k,vd))) ⟨hb,a,h1,h2,f,i,j⟩) st (A1F (n:=n) (ps:=ps) (vd:=vd) (kd:=3) (by omega) hb.m (.inr (.inr rfl)) hb.ts (.inr ⟨_,_,rfl⟩) (.inr ⟨_,_,rfl⟩) (by omega) (λs g=>by rw[h2 s g];decide) (by have:=FP p.out;omega) (fY a) (B9T f) (A1A f) (by omega) hb.cl (TQ L (n+21) _ (Jg a)) (B3O (L:=L) (n:=n+16) (by omega) a).ls)
def B3r(j:40000<L)(h:c.Ok)(hn:¬c.ps.Nodup):CS (r! L (n+64)) Hv [.agg c.cs] (S []):=by
 refine C01 (n:=n+1) Ic BC eF ?_
 match c,h,hn with
 |.re b u,_,hn=>exact absurd List.nodup_nil hn
 |.co b p ps none,⟨hb,e,h1,h2,f⟩,hn=>
  have k1:=e.k1;have k3:=e.k3;have d:Dp ps=Ls ps:=Wv (by omega);have a:=(oP (L:=L) (n:=n+60) (ps:=ps) hn (by omega) h2).ls;rw[<-d,h1]at a;have st:=A1E (L:=L) (n:=n+1) hb.m (G9 b.ts) (xI (L:=L) (n:=n+21)).o ⟨_,_,d⟩ ⟨_,_,rfl⟩ a (S! (L:=L) (n:=n+17) (by omega) e).ls (Rg L (n+21) p.out (Jg e)).o (oU (L:=L) (n:=n+19) hb.c1 hb.c2 hb.r1 hb.r2 (by omega) hb.ts).ls;exact A3x (n:=n+1) (G9 _) (Nf ps) (.inr ⟨_,_,rfl⟩) (.inr ⟨_,_,rfl⟩) st
 |.co b p ps (some (k,vd)),⟨hb,e,h1,h2,f,g,i⟩,hn=>
  have k1:=e.k1;have k3:=e.k3;have d:Dp ps=Ls ps:=Wv (by omega);have a:=(oP (L:=L) (n:=n+60) (ps:=ps) hn (by omega) h2).ls;rw[<-d,h1]at a;have st:=A1D (L:=L) (n:=n+1) hb.m (G9 b.ts) (A7w (L:=L) (n:=n+21) f).o g i ⟨_,_,d⟩ ⟨_,_,rfl⟩ a (S! (L:=L) (n:=n+17) (by omega) e).ls (Rg L (n+21) p.out (Jg e)).o (oU (L:=L) (n:=n+19) hb.c1 hb.c2 hb.r1 hb.r2 (by omega) hb.ts).ls;exact A3x (n:=n+1) (G9 _) (Nf ps) (.inr ⟨_,_,rfl⟩) (.inr ⟨_,_,rfl⟩) st
end
end
section
variable{D r:Nat}{α:Type}
variable{L n:Nat}
def B1n(s:Ha):(sha s).length=32:=W8 _ 8
def A2P(c:Cd):c.id.length=32:=B1n _
def rF(c:Cd):c.id≠[]:=λh=>by have:=A2P c;rw[h]at this;cases this
def LA(gs:dn)(a:AV):Prop:=a=.list gs.length (gs.flatMap Cd.cs)\/(gs=[]/\a=A1)
section
variable{gs:dn}{a:AV}{c:Cd}{K:K2}{i:Nat}{H:Hp}
def LA.len(h:LA gs a):Bh A9 a K=K (I gs.length):=by
 rcases h with rfl|⟨rfl,rfl⟩<;>exact id rfl
def LA.ia(h:LA gs a)(d:i<gs.length):Dh A9 a (I i) K=K (.iptr gs[i].cs):=by
 rcases h with rfl|⟨rfl,rfl⟩
 ·exact iM (f:=Cd.cs) rfl (λ_=>BC) d
 ·simp at d
def qX:A7 Ae (.iptr c.cs) H K=K (.agg c.cs):=by
 match c with
 |.re b u=>exact id rfl
 |.co b p ps none=>exact id rfl
 |.co b p ps (some (k,vd))=>exact id rfl
abbrev Bi:Is:=C6 0 ⟨0,0,0,0,0⟩ u0 [] [] A1 [] [] A1 0 A1 A1 u0 r0 0
abbrev B4j(c:Cd):Row:=.cells true Ad c.cs
def gE(gs:dn):List (Ha×Cd):=gs.map λc=>(c.id,c)
def Pt{b:List (Ha×α)}{x:Ha}(h:x∉b.map (·.1)):Jo b x=none:=by
 induction b with
 |nil=>rfl
 |cons e b ih=>
  simp only[VC,Qd,not_or]at h;unfold Jo;rw[Cr (Ne.symm h.1)];exact ih h.2
def uQ{b:List (Ha×α)}{x:Ha}{v:α}(h:x∉b.map (·.1)):F1 b x v=b++[(x,v)]:=by
 induction b with
 |nil=>rfl
 |cons e b ih=>
  simp only[VC,Qd,not_or]at h;unfold F1;rw[Cr (Ne.symm h.1),ih h.2];rfl
def Vp(gs:dn):(gE gs).map (·.1)=gs.map Cd.id:=by simp[gE]
end
structure GOk(gs:dn):Prop where
 ok:∀c∈gs,c.Ok
 nd:∀c∈gs,c.ps.Nodup
 ids:(gs.map Cd.id).Nodup
 len:gs.length<=8
section
variable{K:KV}{x:Af}{gs:dn}{a:AV}
abbrev JA(c:Cd):AV:=.agg c.cs
def C0a{k12:AV->KV}{w:AV}(m:GOk gs)(M:40000<L)(N:LA gs a)(Q:∀H,Al H r=some (.map false (Fc JA (gE gs)) none)->k12 w (.mp r) H=x):∀(f i:Nat)(H:Hp),i<=gs.length->gs.length-i<f->Al H r=some (.map false (Fc JA (gE (gs.take i))) none)->Wf H->
 Sy (L+20) (r! L (n+63)) K k12 f w (.mp r) a (I gs.length) (I i) H=x:=by
 intro f
 induction f with
 |zero=>intro i H _ h;omega
 |succ f ih=>
  intro i H Y X s wf;rw[Tp];unfold Pq HN JD Az MS Fk;by_cases h:i<gs.length
  ·have hm:=Of h;have q:=A9E (L:=L) (n:=n) M (m.ok _ hm) (m.nd _ hm);have d:gs[i].id∉(gE (gs.take i)).map (·.1):=λhc=>by
    rw[Vp]at hc;have u:=m.ids;rw[<-l30 i gs,Yr,l2y]at u;have P:gs[i].id∈(gs.drop i).map Cd.id:=Us.2 ⟨_,by rw[tK h];exact List.mem_cons_self,rfl⟩;exact u.2.2 _ hc _ P rfl
   rw[Fo (by omega),CA,N.ia h,qX,AP (cs:=Bi) rfl,Bv (cs:=Bi) (vs:=gs[i].cs) (Av (by simp)) BC rfl Ic];obtain⟨A,B,g,w1,k1⟩:=DY (e:=Ad) (zs:=Bi) (vs:=gs[i].cs) wf BC;rw[<-B,AX rfl BC.symm g,AE q (eF A)];have j:=(k1 _ _ s).1;have t:∀(F:Value->Af),It (S gs[i].id) F=F (SV gs[i].id):=λF=>id rfl;rw[t,RS (f:=JA) (b:=gE (gs.take i)) (λK=>Qt j),Pt d];simp only[];rw[CI,CH,AP (cs:=Bi) rfl]
   erw[Bv (cs:=Bi) (vs:=Bi) (Av (by simp)) rfl rfl rfl]
   obtain⟨V,C,O,R,y⟩:=DY (e:=Ad) (zs:=Bi) (vs:=Bi) w1 rfl;rw[<-C];have k:=(y _ _ j).1;have p:=(y _ _ g).1;have q1:∀{K},Ap Ag .eql (S gs[i].id) (S []) K=K (Bo false):=λ{K}=>by rw[MK,KD (rF _)]
   simp only[gT,Ck,q1,ZG];rw[Bm,AX rfl BC.symm p,t,SF (f:=JA) (v:=gs[i]) k,uQ d,Dg (by have:=m.len;omega)];have J:gE (gs.take i)++[(gs[i].id,gs[i])]=gE (gs.take (i+1)):=by
    rw[tO h,gE,gE,Yr];rfl
   rw[J];exact ih (i+1) _ (by omega) (by omega) ((Dk k).trans rfl) (Bs R)
  ·rw[XA2 (by omega),Bm];have:i=gs.length:=by omega
   subst this;rw[tN]at s;exact Q H s
abbrev gV(gs:dn):AV:=.imap (Fc JA (gE gs))
def rC{m:ND}{u o:UD}{ca cb ra rb:Ha}{T P ins d:AV}{kd id vd:Int}{r:RD}{H:Hp}(h:Sl T)(g:Sl P)(e:Sl ins)(f:Sl d):Fx true (D+3) (.agg (C6 kd m u ca cb T ra rb P id ins d o r vd)) (.agg (C6 kd m u ca cb T ra rb P id ins d o r vd)) H false:=by
 rcases h with rfl|⟨_,_,rfl⟩<;>rcases g with rfl|⟨_,_,rfl⟩<;>rcases e with rfl|⟨_,_,rfl⟩<;>rcases f with rfl|⟨_,_,rfl⟩<;>exact λK=>by kernel_rfl
def T3{c:Cd}{H:Hp}:Fx true (D+3) (.agg c.cs) (.agg c.cs) H false:=by
 match c with
 |.re b u=>exact rC (G9 _) (Nf _) (.inl rfl) (.inl rfl)
 |.co b p ps none=>exact rC (G9 _) (Nf _) (.inr ⟨_,_,rfl⟩) (.inr ⟨_,_,rfl⟩)
 |.co b p ps (some (k,vd))=>exact rC (G9 _) (Nf _) (.inr ⟨_,_,rfl⟩) (.inr ⟨_,_,rfl⟩)
def B49{H:Hp}{es:List (Ha×Cd)}(h:Al H r=some (.map false (Fc JA es) none)):Fx true (D+4) (.mp r) (.imap (Fc JA es)) H true:=by
 intro K;show IN H r (λx=>A22 x λes=>VB (I5 true H (D+3)) es λ_ d=>K true (.imap d))=_;rw[Bq h];show VB (I5 true H (D+3)) (Fc JA es) _=_;have e:∀(es:List (Ha×Cd))(F:Bool->IH->Af),VB (I5 true H (D+3)) (Fc JA es) F=F false (Fc JA es):=by
  intro es
  induction es with
  |nil=>intro F;rfl
  |cons a es ih=>
   intro F;show I5 true H (D+3) (.agg a.2.cs) (λq f=>VB (I5 true H (D+3)) (Fc JA es) λj g=>F (@Bool.rec (λ_=>Bool) j true q) ((SV a.1,f)::g))=_;rw[T3,ih];rfl
 rw[e]
def wX(f:GOk gs)(m:40000<L)(e:LA gs a)(K:KV)(k:∀h g,(∃q,Fx true depth h (.tup [gV gs,Bo true]) g q)->K h g=some (.tup [gV gs,Bo true],[])):(r! L (n+64)).call Eb [a] [] K=some (.tup [gV gs,Bo true],[]):=by
 rw[ZR];unfold Vf Az MS Fk;have em:∀(H:Hp)(K:KV),JK Ae H K=K (.mp (Ax H)) ((Ax H,.map false [] none)::H):=λH K=>by
  show HV H (λs=>K (.mp s) ((s,.map false [] (xX Ae.d))::H))=_;rw[BW];rfl
 rw[em];simp only[BJ];have j:(AV.v (.int .i64 0))=I ((0:Nat):Int):=rfl;rw[e.len,j];refine C0a f m e (λH p=>?_) (L+20) 0 _ (by omega) (by have:=f.len;omega) (Av (by simp)) (AM E1);rw[e.len,DB,KD (by have:=f.len;omega),Bm];exact k _ _ ⟨_,Vq (D:=depth-1) (Aq (B49 (D:=depth-5) p) (Aq (q:=false) CG AG))⟩
end
end
section
variable{c:Cd}{s:Ha}{r:Nat}
variable{L n:Nat}
def cE(c:Cd):Ce Ha:=⟨decide (c.kd=1),c.ps⟩
def gr(gs:dn):List (Ha×Ce Ha):=gs.map λc=>(c.id,cE c)
def yT{gs:dn}:Jo (gr gs) s=(Jo (gE gs) s).map cE:=by
 unfold gr gE
 induction gs with
 |nil=>rfl
 |cons c gs ih=>
  simp only[VC];unfold Jo;by_cases h:c.id=s
  ·simp[h]
  ·simp[h,ih]
def gU{q:Bool}{y:Bool->Af}:VS q (.v undef) y=y false:=by cases q<;>exact id rfl
section
variable{gs:dn}{y m x z:Nat}{b:List (Ha×Bool)}{H H':Hp}{K:KV}
def C1A(h:Al H r=some (B4j c)){K:K2}:A7 Ac (.ptr r 0 0) H K=K (I c.kd):=by
 match c with
 |.re b u=>exact AH (p:=0) rfl h (show 0<68 by decide)
 |.co b p ps none=>exact AH (p:=0) rfl h (show 0<68 by decide)
 |.co b p ps (some (k,vd))=>exact AH (p:=0) rfl h (show 0<68 by decide)
def A9J(h:Al H r=some (B4j c)){K:K2}:A7 Ab (.ptr r 31 0) H K=K (Dp c.ps):=by
 match c with
 |.re b u=>exact AH (p:=31) rfl h (show 31<68 by decide)
 |.co b p ps none=>exact AH (p:=31) rfl h (show 31<68 by decide)
 |.co b p ps (some (k,vd))=>exact AH (p:=31) rfl h (show 31<68 by decide)
def A8K(h:Jo (gE gs) s=some c):c∈gs/\c.id=s:=by
 have:=dH h;obtain⟨a,h1,h2⟩:=Us.1 this;cases h2
 exact⟨h1,rfl⟩
end
end
end Go.Abs
end
noncomputable section
end
noncomputable section
namespace Go.Abs
open Go.RowKit Go.Proofs
set_option maxRecDepth 100000
section
variable{L n:Nat}
def SA(l:List Ha)(a:AV):Prop:=a=Ls l\/(l=[]/\a=A1)
def Ng(l:List Ha):SA l (Dp l):=by cases l with|nil=>exact .inr ⟨rfl,rfl⟩|cons p l=>exact .inl rfl
section
variable{l:List Ha}{a:AV}{i:Nat}{K:K2}{s:Ha}
def SA.len(h:SA l a):Bh Ab a K=K (I l.length):=by
 rcases h with rfl|⟨rfl,rfl⟩
 ·exact LU
 ·exact id rfl
def SA.ia(h:SA l a)(c:i<l.length):Dh Ab a (I i) K=K (.iptr [S l[i]]):=by
 rcases h with rfl|⟨rfl,rfl⟩
 ·exact OS c
 ·simp at c
def SA.fx(h:SA l a)(H:Hp):Fx true depth a a H false:=by
 rcases h with rfl|⟨rfl,rfl⟩<;>exact λK=>by kernel_rfl
def gY(s:Ha):List Ha->Nat->AV
 |[],_=>.tup [Bo false,I (-1)]
 |a::l,i=>if a=s then .tup [Bo true,I i] else gY s l (i+1)
def mA:∀(l:List Ha)(i:Nat),s∉l->gY s l i=.tup [Bo false,I (-1)]:=by
 intro l
 induction l with
 |nil=>intro i _;rfl
 |cons a l ih=>
  intro i h;simp only[Qd,not_or]at h;unfold gY;rw[Cr (Ne.symm h.1)];exact ih _ h.2
def qK:∀(l:List Ha)(i:Nat),s∈l->∃k,∃h:k<l.length,l[k]=s/\(∀m(hm:m<k),l[m]≠s)/\gY s l i=.tup [Bo true,I ((i+k:Nat):Int)]:=by
 intro l
 induction l with
 |nil=>intro i h;cases h
 |cons a l ih=>
  intro i h;unfold gY;by_cases e:a=s
  ·exact⟨0,by simp,e,λm hm=>by omega,by rw[CZ e];rfl⟩
  ·obtain⟨k,hk,h1,h2,c⟩:=ih (i+1) ((Qd.1 h).resolve_left (Ne.symm e));refine⟨k+1,by simp;omega,by simpa using h1,λm hm=>?_,by rw[Cr e,c];congr 4;omega⟩;cases m with
   |zero=>exact e
   |succ m=>exact h2 m (by omega)
end
section
variable{K:KV}{x:Af}{l:List Ha}{a:AV}{s:Ha}{gs:dn}
def B7K{k3:Ru}{H:Hp}(d:SA l a)(hb:l.length<1000){v:AV}(hv:K v H=x)(hk:v=.tup [Bo false,I (-1)]->k3 H=x):∀(f i:Nat),i<=l.length->l.length-i<f->gY s (l.drop i) i=v->
 UH (L+20) (r! L n) K k3 f a (S s) (I i) H=x:=by
 intro f
 induction f with
 |zero=>intro i _ h;omega
 |succ f ih=>
  intro i j g c;rw[oL];unfold UI HN Az MS;rw[d.len];by_cases h:i<l.length
  ·rw[tK h]at c;unfold gY at c;rw[Fo (by omega),CA,d.ia h,Hy,MK];by_cases e:l[i]=s
   ·rw[CZ e]at c;rw[Ki e,CA,c];exact hv
   ·rw[Cr e]at c;rw[KD e,Bm,Dg (by omega)];exact ih (i+1) (by omega) (by omega) c
  ·rw[XA2 (by omega),Bm];have:i=l.length:=by omega
   subst this;rw[List.drop_length]at c;exact hk c.symm
def C02(f:SA l a)(hb:l.length<1000)(g:2000<L):CS (r! L (n+1)) Sz [a,S s] (gY s l 0):=by
 intro K d;have fin:∀H,K (gY s l 0) H=some (gY s l 0,[]):=λH=>d _ _ (λb=>⟨false,by
  by_cases h:s∈l
  ·obtain⟨k,_,_,_,e⟩:=qK l 0 h;rw[e];exact λK=>by kernel_rfl
  ·rw[mA l 0 h];exact λK=>by kernel_rfl⟩)
 rw[sW];unfold WD Az Fk;simp only[BJ];have c:(AV.v (.int .i64 0))=I ((0:Nat):Int):=rfl;rw[c];refine B7K f hb (fin []) (λe=>?_) (L+20) 0 (by omega) (by omega) (by rw[tJ]);have:=fin [];rw[e]at this;rw[e];exact this
def B7H{m:KV}(A:∀c∈gs,c.Ok/\c.ps.Nodup)(hb:gs.length<100)(y:40000<L)(k:LA gs a)(B:∀v H,AZ H Ao 1 v gs.length (AJ (gs.map Cd.id))->(gs=[]->v=A1)->m v H=x):∀(f i:Nat)(v:AV)(H:Hp),i<=gs.length->gs.length-i<f->AZ H Ao 1 v (gs.take i).length (AJ ((gs.take i).map Cd.id))->(gs.take i=[]->v=A1)->Wf H->
 UF (L+20) (r! L (n+64)) K m f a v (I i) H=x:=by
 intro f
 induction f with
 |zero=>intro i v H _ h;omega
 |succ f ih=>
  intro i v H J F d j w;rw[oK];unfold UG HN Az;rw[k.len];by_cases h:i<gs.length
  ·obtain⟨h1,h2⟩:=A _ (Of h);have q:(gs.take i).length=((gs.take i).map Cd.id).length:=by simp
   rw[q]at d;obtain⟨C,p,t,g,u,D, -⟩:=A4g gs[i].id d w (by simp;omega);rw[Fo (by omega),CA,k.ia h,qX,AE (zQ (n:=n) y h1 h2) (eF H),t,Dg (by omega)];have r:(gs.take i).map Cd.id++[gs[i].id]=(gs.take (i+1)).map Cd.id:=by rw[tO h,Yr];rfl
   rw[r]at g;exact ih (i+1) C p (by omega) (by omega) (by rw[Ub]at g;exact g) (λe=>by have:=congrArg List.length e;rw[E',PQ]at this;omega) u
  ·rw[XA2 (by omega),Bm];have:i=gs.length:=by omega
   subst this;rw[tN]at d j;exact B v H d j
def B3M(k:∀c∈gs,c.Ok/\c.ps.Nodup)(hb:gs.length<100)(h:40000<L)(j:LA gs a):CS (r! L (n+65)) MJ [a] (Dp (gs.map Cd.id)):=by
 intro K g;rw[sV];unfold WC Az;simp only[BJ];have d:(AV.v (.int .i64 0))=I ((0:Nat):Int):=rfl;rw[d];refine B7H k hb h j (λv H p f=>?_) (L+20) 0 _ [] (by omega) (by omega) (.inl ⟨rfl,rfl,rfl⟩) (λ_=>rfl) E1;refine g _ _ (λb=>?_);by_cases hn:gs=[]
 ·subst hn;rw[f rfl];exact⟨false,CG⟩
 ·have m:(gs.map Cd.id)≠[]:=by simpa using hn
  have e:Dp (gs.map Cd.id)=.list gs.length (AJ (gs.map Cd.id)):=by rw[Wv (by cases hq:gs.map Cd.id with|nil=>exact absurd hq m|cons _ _=>simp),Ls];simp
  rw[e];exact⟨true,qM p (by cases gs with|nil=>exact absurd rfl hn|cons _ _=>simp) (λs=>Value.string ⟨⟨s⟩⟩) (gs.map Cd.id) rfl⟩
end
end
section
variable{w:AV}{ws:List Int}
variable{L n:Nat}
def CT(R:Rt)(f:Nat)(args:Is)(v:AV):Prop:=∀K:KV,(∀e d,(∃q,Fx true depth e v d q)->K e d=some (v,[]))->R.call f args [] K=some (v,[])
def CT.z{R:Rt}{f:Nat}{args args':Is}{v:AV}{H:Hp}{K:K2}(hc:CT R f args' v)(d:Py true depth args args' H false):Aj R f args H K=K v:=En hc d
def pk(c n:Int):Int:=(if c<0 then-(c+1) else c)%n
def EM{c n:Int}(h:0<n):0<=pk c n/\pk c n<n:=⟨Int.emod_nonneg _ (by omega),Int.emod_lt_of_pos _ h⟩
section
variable{K:KV}{x:Af}{a b:AV}{s:Ha}{gs:dn}{H:Hp}
def LA.fx(h:LA gs a)(H:Hp):Fx true depth a a H false:=by rcases h with rfl|⟨_,rfl⟩<;>exact λK=>by kernel_rfl
def B2W:(∃h:s∈gs.map Cd.id,∃k,∃hk:k<gs.length,Jo (gE gs) s=some gs[k]/\gY s (gs.map Cd.id) 0=.tup [Bo true,I (k:Int)])\/(s∉gs.map Cd.id/\Jo (gE gs) s=none/\gY s (gs.map Cd.id) 0=.tup [Bo false,I (-1)]):=by
 by_cases h:s∈gs.map Cd.id
 ·left;obtain⟨k,hk,h1,h2,e⟩:=qK _ 0 h;refine⟨h,k,by simpa using hk,?_,by rw[e,Kk]⟩;clear h e
  induction gs generalizing k with
  |nil=>simp at hk
  |cons c gs ih=>
   show Jo ((c.id,c)::gE gs) s=_;unfold Jo;cases k with
   |zero=>simp at h1;rw[CZ h1];rfl
   |succ k=>
    have d:=h2 0 (by omega);simp at d;rw[Cr d];exact ih k (by simpa using hk) (by simpa using h1) (λm hm=>by simpa using h2 (m+1) (by omega))
 ·exact .inr ⟨h,Pt (by rw[Vp];exact h),mA _ 0 h⟩
def A5u{z:Int}{K:K2}(h1: -9223372036854775808<z)(h2:z<9223372036854775808):PA .neg (I z) K=K (I (-z)):=by
 have e:PA .neg (I z) K=N9 .i64 (0-z) λz=>K (.v (.int .i64 z)):=rfl;rw[e,HZ,Int.zero_sub,Cz (by omega) (by omega)]
end
def KO(z:Int):Prop:= -9223372036854775808<=z/\z<9223372036854775808
section
variable{c m:Int}
def oW{K:K2}(hc:KO c)(hm:0<m)(d:m<9223372036854775808){k1:K2}(hk:k1= λv=>Ap Ac .rem v (I m) K):
 (Ap Ac .lss (I c) (.v (.int .i64 0)) λe=>A2 e (Ap Ac .add (I c) (.v (.int .i64 1)) λf=>PA .neg f λg=>k1 g) (k1 (I c)))=K (I (pk c m)):=by
 subst hk;obtain⟨h1,h2⟩:=hc;rw[Eh];by_cases h:c<0
 ·rw[Ki h,CA,CO,Cz (by omega) (by omega),A5u (by omega) (by omega)];show Ap Ac .rem (I (-(c+1))) (I m) K=_;rw[Xb (by omega),Int.tmod_eq_emod_of_nonneg (by omega)];unfold pk;rw[CZ h]
 ·rw[KD h,Bm];show Ap Ac .rem (I c) (I m) K=_;rw[Xb (by omega),Int.tmod_eq_emod_of_nonneg (by omega)];unfold pk;rw[Cr h]
def S?(hc:KO c)(hm:0<m)(d:m<9223372036854775808):PS (r! L (n+1)) Lj [I c,I m] (I (pk c m)):=by
 refine CS.ps (λK e=>?_) (λH=>λK=>by kernel_rfl);rw[pG];unfold UO Az;simp only[BJ];exact(oW (K:=λv=>K v []) hc hm d rfl).trans (e _ _ (λb=>⟨false,λK=>by kernel_rfl⟩))
def LF(hc:KO c)(hm:0<m)(d:m<9223372036854775808):PS (r! L (n+1)) BA [I c,I m] (I (pk c m)):=by
 refine CS.ps (λK e=>?_) (λH=>λK=>by kernel_rfl);rw[pJ];unfold UQ Az;simp only[BJ];exact(oW (K:=λv=>K v []) hc hm d rfl).trans (e _ _ (λb=>⟨false,λK=>by kernel_rfl⟩))
def oX(hc:KO c)(hm:0<m)(d:m<9223372036854775808):PS (r! L (n+1)) IA [I c,I m] (I (pk c m)):=by
 refine CS.ps (λK e=>?_) (λH=>λK=>by kernel_rfl);rw[pQ];unfold UZ Az;simp only[BJ];exact(oW (K:=λv=>K v []) hc hm d rfl).trans (e _ _ (λb=>⟨false,λK=>by kernel_rfl⟩))
def LG(hc:KO c)(hm:0<m)(d:m<9223372036854775808):PS (r! L (n+1)) BY [I c,I m] (I (pk c m)):=by
 refine CS.ps (λK e=>?_) (λH=>λK=>by kernel_rfl);rw[pM];unfold UV Az;simp only[BJ];exact(oW (K:=λv=>K v []) hc hm d rfl).trans (e _ _ (λb=>⟨false,λK=>by kernel_rfl⟩))
end
section
variable{K:KV}{x:Af}{a:AV}{s:Ha}{gs:dn}{H:Hp}
def NA(ws:List Int)(w:AV):Prop:=(w=.list ws.length (EB ws)\/(ws=[]/\w=A1))/\ws.length<9223372036854775808/\∀z∈ws,KO z
def NA.len{K:K2}(h:NA ws w):Bh AO w K=K (I ws.length):=by
 rcases h.1 with rfl|⟨rfl,rfl⟩<;>exact id rfl
def NA.ia{K:K2}{i:Nat}(h:NA ws w)(d:i<ws.length)(hb:i<1000000):(Dh AO w (I i) λp=>A7 Ac p H K)=K (I ws[i]):=by
 rcases h.1 with rfl|⟨rfl,rfl⟩
 ·have e:(EB ws).length=ws.length:=by simp[EB]
  rw[Xa rfl e (by omega) (by omega),eS,OQ rfl,R9 d]
 ·simp at d
end
end
section
variable{L n:Nat}
section
variable{c:Int}
def B3P{k m:Int}(a:0<=k)(h1:k<m):pk k m=k:=by
 unfold pk;rw[Cr (by omega),Int.emod_eq_of_lt a h1]
def A7i:((List.range 7).all λi=>Jc (AS (CU (r! L (n+42)) FK [I (i:Nat)]) (.agg (uu i).cs)))=true:=by kernel_rfl
def A1C(hc:KO c):PS (r! L (n+42)) FK [I c] (.agg (BX (uu (pk c 7).toNat))):=by
 have pr:=EM (c:=c) (n:=7) (by decide);obtain⟨k,hk⟩:∃k:Nat,pk c 7=k:=⟨(pk c 7).toNat,by omega⟩
 have a:k<7:=by omega
 refine B3 (λH K=>by kernel_rfl) ?_;have e:CU (r! L (n+42)) FK [I c]=CU (r! L (n+42)) FK [I (k:Nat)]:=by
  unfold CU;rw[WG,WG];unfold UW XA3;have h1:∀H K,Aj (r! L (n+41)) BY [I c,.v (.int .i64 7)] H K=K (I (pk c 7)):=LG (n:=n+40) hc (by decide) (by decide);have h2:∀H K,Aj (r! L (n+41)) BY [I (k:Int),.v (.int .i64 7)] H K=K (I (pk k 7)):=LG (n:=n+40) (by unfold KO;omega) (by decide) (by decide);simp only[h1,h2,hk,B3P (k:=(k:Int)) (m:=7) (by omega) (by omega)]
 rw[e,hk,eS];exact G8.1 A7i k (JM.2 a)
def A7v:((List.range 3).all λi=>Jc (AS (CU (r! L (n+2)) J3 [I (i:Nat)]) (.agg (rr (1+i)).cs)))=true:=by kernel_rfl
def B1X(hc:KO c):PS (r! L (n+2)) J3 [I c] (.agg (rr (1+(pk c 3).toNat)).cs):=by
 have pr:=EM (c:=c) (n:=3) (by decide);obtain⟨k,hk⟩:∃k:Nat,pk c 3=k:=⟨(pk c 3).toNat,by omega⟩
 have a:k<3:=by omega
 refine B3 (λH K=>by kernel_rfl) ?_;have e:CU (r! L (n+2)) J3 [I c]=CU (r! L (n+2)) J3 [I (k:Nat)]:=by
  unfold CU;rw[WE,WE];unfold US E0 Az;have h1:∀H K,Aj (r! L (n+1)) BA [I c,.v (.int .i64 3)] H K=K (I (pk c 3)):=LF (n:=n) hc (by decide) (by decide);have h2:∀H K,Aj (r! L (n+1)) BA [I (k:Int),.v (.int .i64 3)] H K=K (I (pk k 3)):=LF (n:=n) (by unfold KO;omega) (by decide) (by decide);simp only[h1,h2,hk,B3P (k:=(k:Int)) (m:=3) (by omega) (by omega)]
 rw[e,hk,eS];exact G8.1 A7v k (JM.2 a)
def sO(c:Int):Ha:=sha (Iv [c])
def oQ(e:40000<L)(h1: -10<=c)(h2:c<1090):PS (r! L (n+20)) GS [I c] (S (sO c)):=by
 refine CS.ps (λK d=>?_) (λH=>λK=>by kernel_rfl);rw[gF];unfold Rn XA3;have a:=Fa [c];have fx:Py true depth [.sl 1 (Ax []) 0 1] [.list 1 (EB [c])] ((Ax [],.cells false Gq (EB [c]))::[]) true:=
  Aq (q:=true) (q':=false) (WS (D:=depth-1) (q':=false) (Av (by simp)) rfl (KF (λz:Int=>Value.int .i64 z) [c])) AG
 rw[XL,AE (uN (L:=L) (n:=n+14) (l:=[c]) (by simp) (by simp;omega) (by simp;omega)) fx,AE (B3I (L:=L+20) (n:=n+16) (s:=Iv [c]) (by simp only[Kj,PQ]at a;omega) (by simp only[Kj,PQ]at a;omega)) (q:=false) (λK=>by kernel_rfl)];exact d _ _ (λb=>⟨false,λK=>by kernel_rfl⟩)
end
end
section
variable{v:AV}{H:Hp}{i2 ie:TI}
variable{L n:Nat}
def zW{e sz n:Nat}{cs ys:Is}(h:AZ H e sz v n cs)(w:Wf H)(u:ys.length=sz)(h1:ys.all AV.one=true)(hsz:sz≠0)(hz:(B2 ie.zero).length=sz)(t:∀s,(jC i2.d&&V3 sz (.sl sz s 0 1))=true)(hb:(n+1)*ie.bytes<=70368744177664)(j:n+1<=70368744177664):
 ∃g a,(∀K:KV,Ed e sz ie i2 v (.sl sz (Ax H) 0 1) ((Ax H,.cells false e ys)::H) K=K g a)/\AZ a e sz g (n+1) (cs++ys)/\Wf a/\Ax H<=Ax a/\(∀s x,Al H s=some x->¬A6 v s->Al a s=some x)/\(∀s,A6 g s->Ax H<=s):=by
 have m:AZ ((Ax H,.cells false e ys)::H) e sz v n cs:=h.lat w (Lat.cons H _ (λ_=>False)) (λ_ _ h=>h);have f:AZ ((Ax H,.cells false e ys)::H) e sz (.sl sz (Ax H) 0 1) 1 ys:=.inr ⟨Ax H,false,rfl,Av (by simp),by omega⟩;obtain⟨g,a,h1,h2,p,q⟩:=apt (ie:=ie) (i2:=i2) m (λK=>NQ (K:=K) f) (by omega) h1 hsz hz (t _) hb j;have i:=(Lat.cons H (.cells false e ys) (A6 v)).trans q (R:=A6 v) (λ_ _ h=>h) (λ_ _ h=>h);refine⟨g,a,h1,h2,i.wf w,i.nx,λs x k hn=>i.keep w s x k hn,λs k=>?_⟩;rw[p s k];exact l1p _
def C3L{e sz n:Nat}{v x:AV}{cs ys:Is}(i:∀K:KV,Gt e sz ie 1 [(0,sz,x)] H K=K (.sl sz (Ax H) 0 1) ((Ax H,.cells false e ys)::H))(h:AZ H e sz v n cs)(w:Wf H)(k:ys.length=sz)(h1:ys.all AV.one=true)(hsz:sz≠0)(hz:(B2 ie.zero).length=sz)(m:∀s,(jC i2.d&&V3 sz (.sl sz s 0 1))=true)(hb:(n+1)*ie.bytes<=70368744177664)(g:n+1<=70368744177664):
 ∃f a,(∀K:KV,(Gt e sz ie 1 [(0,sz,x)] H λv1 j=>Ed e sz ie i2 v v1 j K)=K f a)/\AZ a e sz f (n+1) (cs++ys)/\Wf a/\Ax H<=Ax a/\(∀s x,Al H s=some x->¬A6 v s->Al a s=some x)/\(∀s,A6 f s->Ax H<=s):=by
 obtain⟨f,a,a1,a2⟩:=zW (ie:=ie) (i2:=i2) h w k h1 hsz hz m hb g;exact⟨f,a,λK=>by rw[i];exact a1 K,a2⟩
def iK{i:TI}{s p e:Nat}{q:Bool}{cs vs:Is}{K:Ru}(f:Al H s=some (.cells q e cs))(g:p+vs.length<=cs.length)(hz:i.size=vs.length)(h1:vs.all AV.one=true):Dr i (.ptr s p 0) (.agg vs) H K=K (upd H s (.cells q e (splice cs p vs))):=by
 have d:Dr i (.ptr s p 0) (.agg vs) H K=IN H s λx=>fJ x λq e cs=>Hz (.agg vs) λvs=>HD vs 0 λn=>ck (Nat.beq n i.size) (ck (PI vs) (DN (Nat.add p 0) vs cs λa=>JI H s (.cells q e a) K)):=rfl;rw[d,Bq f];show(Hz (.agg vs) λvs=>HD vs 0 λn=>ck (Nat.beq n i.size) (ck (PI vs) (DN p vs cs λa=>JI H s (.cells q e a) K)))=_;have hc:B2 (.agg vs)=vs:=rfl;rw[CQ,hc,Cs,hz,Gu,h1,Kk,ZX];show DN p vs cs _=_;rw[IP _ _ _ _ (by omega),C5]
theorem AZ.one{e sz n:Nat}{cs:Is}(h:AZ H e sz v n cs):AV.one v=true:=by
 rcases h with⟨rfl,_⟩|⟨r,q,rfl,_⟩<;>rfl
def AZ.cell{e sz n:Nat}{cs:Is}(h:AZ H e sz v n cs):B2 v=[v]:=by
 rcases h with⟨rfl,_⟩|⟨r,q,rfl,_⟩<;>rfl
def tmV(t:Int×Int):Hx:=[.int .i64 t.1,.string ⟨⟨qn t.2⟩⟩,.string ⟨⟨qd t.2⟩⟩]
def B9t(l:Yj):l.flatMap MC=(l.flatMap tmV).map λx=>.v x:=by
 induction l with
 |nil=>rfl
 |cons k l ih=>rw[jH,jH,Yr,ih];rfl
def B7R{D:Nat}{b:Bool}{l:Yj}(h:AZ H AT 3 v l.length (l.flatMap MC))(f:l=[]->v=A1):∃q,Fx b (D+1) v (DD l) H q:=by
 rcases h with⟨rfl,h2,_⟩|⟨r,q,rfl,h2,d⟩
 ·cases l with
  |nil=>exact⟨false,CG⟩
  |cons a l=>simp at h2
 ·cases l with
  |nil=>have:=f rfl;cases this
  |cons a l=>
   refine⟨true,?_⟩;show Fx b (D+1) _ (.list (a::l).length ((a::l).flatMap MC)) H true;rw[B9t]at h2 d⊢;exact WS (q':=false) h2 d (KF _root_.id _)
def Kz(x:List Int):Nat->Yj
 |0=>[]
 |i+1=>if pk (x.getD i 0) 17-8≠0/\(Kz x i).length<5 then Kz x i++[(1+(i:Int),pk (x.getD i 0) 17-8)] else Kz x i
def A3o(x:List Int):∀i,i<=6->TmsOk (Kz x i)/\(Kz x i).length<=5/\∀t∈Kz x i,t.1<=i:=by
 intro i
 induction i with
 |zero=>intro _;exact⟨⟨by simp[Kz],by simp[Kz],by simp[Kz]⟩,by simp[Kz],by simp[Kz]⟩
 |succ i ih=>
  intro j;obtain⟨h1,h2,f⟩:=ih (by omega);have pr:=EM (c:=x.getD i 0) (n:=17) (by decide);unfold Kz;by_cases h:pk (x.getD i 0) 17-8≠0/\(Kz x i).length<5
  ·rw[CZ h];refine⟨⟨by simp;omega,λt d=>?_,?_⟩,by simp;omega,λt d=>?_⟩
   ·rcases Yp.1 d with d|d
    ·exact h1.rng t d
    ·rw[ZW]at d;subst d;simp only;omega
   ·rw[List.pairwise_append];refine⟨h1.asc,by simp,λa g b hb=>?_⟩;rw[ZW]at hb;subst hb;have:=f a g;simp only;omega
   ·rcases Yp.1 d with d|d
    ·have:=f t d;omega
    ·rw[ZW]at d;subst d;simp only;omega
  ·rw[Cr h];exact⟨h1,h2,λt d=>by have:=f t d;omega⟩
def C3D{t:Int×Int}{K:KV}:Gt AT 3 B1 1 [(0,3,.agg (MC t))] H K=K (.sl 3 (Ax H) 0 1) ((Ax H,.cells false AT (MC t))::H):=by
 have e:Gt AT 3 B1 1 [(0,3,.agg (MC t))] H K=HV H (λs=>K (.sl 3 s 0 1) ((s,.cells false AT (MC t))::H)):=r_ rfl;rw[e,BW]
section
variable{K:KV}{x:Af}{xs:List Int}{ca cb ra rb:Ha}{b r z:Nat}{c e:Int}
abbrev C1h(ca cb ra rb:Ha)(v:AV):Row:=.cells true DF [S ca,S cb,v,S ra,S rb]
structure FmH(b r z:Nat)(xs:List Int)(ca cb ra rb:Ha)(ts:Yj)(v:AV)(H:Hp):Prop where
 hb:Al H b=some (c_ Ix (EB xs))
 hr:Al H r=some (C1h ca cb ra rb v)
 hz:∃cs,cs.length=5/\Al H z=some (c_ DF cs)
 sl:AZ H AT 3 v ts.length (ts.flatMap MC)
 nl:ts=[]->v=A1
 nb:¬A6 v b
 nr:¬A6 v r
 nz:¬A6 v z
 wf:Wf H
def A9l{t:TI}{e sz n:Nat}{cs:Is}{K:K2}(a:t.d=.slice e sz)(h:AZ H e sz v n cs):Bh t v K=K (I n):=Kr a h
def C1g{C:AV->KV}(hL:100<L)(P:b≠r)(Z:z≠r)(hx:xs.length=6)(w:∀c∈xs,KO c)(u:∀v H,FmH b r z xs ca cb ra rb (Kz xs 6) v H->C (.ptr z 0 0) (.ptr r 0 0) H=x):
 ∀(f i:Nat)(v:AV)(H:Hp),i<=6->6-i<f->FmH b r z xs ca cb ra rb (Kz xs i) v H->
 Ta (L+20) (r! L (n+40)) K C f (.ptr b 0 0) (.ptr z 0 0) (.ptr r 0 0) (I i) H=x:=by
 intro f
 induction f with
 |zero=>intro i v H _ h;omega
 |succ f ih=>
  intro i v H hi hf a;rw[kD];unfold Tb E0 Sm HN BK Az Fk;have e6:(AV.v (.int .i64 6))=I ((6:Nat):Int):=rfl;rw[e6];by_cases h:i<6
  ·have g:i<xs.length:=by omega
   have R:(EB xs).getD i .dk=I (xs.getD i 0):=by rw[R9 g];simp[List.getD,JC g]
   have hc:KO (xs.getD i 0):=by simp only[List.getD,JC g,l1l];exact w _ (Of g)
   have pr:=EM (c:=xs.getD i 0) (n:=17) (by decide);have ld:∀{K},A7 Ac (.ptr b i 0) H K=K (I (xs.getD i 0)):=λ{K}=>by rw[AH (p:=i) rfl a.hb (by simp[EB];omega),R]
   have Y:∀H K,Aj (r! L (n+40)) IA [I (xs.getD i 0),.v (.int .i64 17)] H K=K (I (pk (xs.getD i 0) 17)):=oX (n:=n+39) hc (by decide) (by decide);have ia:∀{K:K2},Dh Bt (.ptr b 0 0) (I i) K=K (.ptr b i 0):=λ{K}=>Ey i rfl rfl h;rw[Fo (by omega),CA];simp only[BJ];rw[ia,ld,Y,IE,Cz (by omega) (by omega)];have V:∀{K:K2},Ap Ac .neq (I (pk (xs.getD i 0) 17-8)) (.v (.int .i64 0)) K=K (Bo (decide (pk (xs.getD i 0) 17-8≠0))):=λ{K}=>by rw[HF];simp
   rw[V];have d:Kz xs (i+1)=if pk (xs.getD i 0) 17-8≠0/\(Kz xs i).length<5 then Kz xs i++[(1+(i:Int),pk (xs.getD i 0) 17-8)] else Kz xs i:=rfl
   have add:∀{K:K2},Ap Ac .add (I i) (.v (.int .i64 1)) K=K (I ((i+1:Nat):Int)):=λ{K}=>Dg (by omega);by_cases F:pk (xs.getD i 0) 17-8=0
   ·rw[KD (by simpa using F)];simp only[Z_,Ck,ZG];rw[Bm,add];rw[Cr λa=>a.1 F]at d;exact ih (i+1) v H (by omega) (by omega) (by rw[d];exact a)
   ·have ab:=(A3o xs i (by omega)).2.1;have f2:∀K:K2,Cl 2 (.ptr r 0 0) K=K (.ptr r 2 0):=λK=>id rfl;have l2:∀K,A7 Ay (.ptr r 2 0) H K=K v:=λK=>AH (p:=2) rfl a.hr (by simp);rw[Ki (by simpa using F)];simp only[gT,Ck,Xu,f2,l2,A9l (t:=Ay) rfl a.sl];have e5:(AV.v (.int .i64 5))=I ((5:Nat):Int):=rfl;rw[e5];by_cases h5:(Kz xs i).length<5
    ·rw[Fo (by omega),Ck,CA];rw[CZ ⟨F,h5⟩]at d;have X:∀H K,Aj (r! L (n+40)) FL [I (pk (xs.getD i 0) 17-8),.v (.int .i64 4)] H K=K (.tup [.agg (qa (pk (xs.getD i 0) 17-8)),I 0]):=A7z (by omega) (by omega);rw[X,CI,CH,AP (cs:=[zS,zS]) rfl];have A:=Av (H:=H) (x:=.cells true Bf [zS,zS]) (by simp);have w1:=AM (x:=.cells true Bf [zS,zS]) a.wf;rw[Bv (vs:=qa (pk (xs.getD i 0) 17-8)) A rfl rfl rfl];have k:=A5 (q:=true) (e:=Bf) (cs:=qa (pk (xs.getD i 0) 17-8)) A;have kp:∀s x,Al H s=some x->Al (upd ((Ax H,c_ Bf [zS,zS])::H) (Ax H) (c_ Bf (qa (pk (xs.getD i 0) 17-8)))) s=some x:=λs x j=>by
      have:=a.wf.lt j;rw[Ah (by omega)];exact AK this j
     have w2:=Bs (r:=Ax H) (y:=.cells true Bf (qa (pk (xs.getD i 0) 17-8))) w1;generalize upd ((Ax H,c_ Bf [zS,zS])::H) (Ax H) (c_ Bf (qa (pk (xs.getD i 0) 17-8)))=D at k kp w2;generalize Ax H=r1 at k;have l3:∀K,A7 Ay (.ptr r 2 0) D K=K v:=λK=>AH (p:=2) rfl (kp _ _ a.hr) (by simp);have l4:∀K,A7 Aw (.ptr r1 0 0) D K=K (.agg (qa (pk (xs.getD i 0) 17-8))):=λK=>AX rfl rfl k;have M:∀{K:K2},Ap Ac .add (.v (.int .i64 1)) (I i) K=K (I (1+(i:Int))):=λ{K}=>by rw[CO,Cz (by omega) (by omega)]
     have bd:∀{K:K2},BZ B1 [(0,1,I (1+(i:Int))),(1,2,.agg (qa (pk (xs.getD i 0) 17-8)))] K=K (.agg (MC (1+(i:Int),pk (xs.getD i 0) 17-8))):=λ{K}=>id rfl;rw[l3,M,l4,bd];have aa:AZ D AT 3 v (Kz xs i).length ((Kz xs i).flatMap MC):=by
      rcases a.sl with j|⟨r2,q,h2,N,O⟩
      ·exact .inl j
      ·exact .inr ⟨r2,q,h2,kp _ _ N,O⟩
     obtain⟨v',H',a1,a2,a3,a4,J,a6⟩:=C3L (ie:=B1) (i2:=Ay) (λK=>C3D (t:=(1+(i:Int),pk (xs.getD i 0) 17-8)) (H:=D) (K:=K)) aa w2 rfl rfl (by decide) rfl (λ_=>rfl) (by show _*40<=_;omega) (by omega);have B:Al H' r=some (C1h ca cb ra rb v):=J _ _ (kp _ _ a.hr) a.nr;rw[a1,Em B (by simp) rfl (AZ.cell a2) (AZ.one a2),add];obtain⟨cs,Q,m⟩:=a.hz;have new:∀{s x},Al H s=some x->¬A6 v' s:=λ{s x}j hv=>by
      have h1:=w2.lt (kp _ _ j);have h2:=a6 _ hv;omega
     refine ih (i+1) v' _ (by omega) (by omega) ⟨?_,A5 B,⟨cs,Q,?_⟩,?_,?_,new a.hb,new a.hr,new m,Bs a3⟩
     ·rw[Ah P];exact J _ _ (kp _ _ a.hb) a.nb
     ·rw[Ah Z];exact J _ _ (kp _ _ m) a.nz
     ·rw[d,EJ,l2g];have:(List.flatMap MC [(1+(i:Int),pk (xs.getD i 0) 17-8)])=MC (1+(i:Int),pk (xs.getD i 0) 17-8):=by simp
      rw[this];rcases a2 with j|⟨r2,q,h2,N,O⟩
      ·exact .inl j
      ·refine .inr ⟨r2,q,h2,?_,O⟩;rw[Ah (λe=>new a.hr (by rw[h2,<-e];exact⟨_,_,_,rfl⟩))];exact N
     ·rw[d];intro hc;simp at hc
    ·rw[XA2 (by omega),Ck,Bm,add];rw[Cr λa=>h5 a.2]at d;exact ih (i+1) v H (by omega) (by omega) (by rw[d];exact a)
  ·have:i=6:=by omega
   subst this;rw[XA2 (by omega),Bm];exact u v H a
def vD(l:List Int):(EB l).all AV.one=true:=by
 rw[G8];intro a d;obtain⟨z,_,rfl⟩:=Us.1 d;rfl
def A7D(N:100<L)(hc:KO c)(hr:KO e)(Q:xs.length=6)(O:∀c∈xs,KO c):CS (r! L (n+41)) Qr [I c,I e,.agg (EB xs)] (.agg [S (qn (pk c 161-80)),S (qd (pk c 161-80)),DD (Kz xs 6),S (qn (pk e 9)),S (qd (pk e 9))]):=by
 intro K M;rw[pR];unfold Va Az;have p1:=EM (c:=c) (n:=161) (by decide);have p2:=EM (c:=e) (n:=9) (by decide);have k1:∀H K,Aj (r! L (n+40)) IA [I c,.v (.int .i64 161)] H K=K (I (pk c 161)):=oX (n:=n+39) hc (by decide) (by decide);have R:∀H K,Aj (r! L (n+40)) IA [I e,.v (.int .i64 9)] H K=K (I (pk e 9)):=oX (n:=n+39) hr (by decide) (by decide);have V:∀H K,Aj (r! L (n+40)) FL [I (pk c 161-80),.v (.int .i64 4)] H K=K (.tup [.agg (qa (pk c 161-80)),I 0]):=A7z (by omega) (by omega);have X:∀H K,Aj (r! L (n+40)) FL [I (pk e 9),.v (.int .i64 4)] H K=K (.tup [.agg (qa (pk e 9)),I 0]):=A7z (by omega) (by omega);rw[Fb (vD xs)];have hb:=Av (H:=[]) (x:=.cells true Ix (EB xs)) (by simp);have w0:=AM (x:=.cells true Ix (EB xs)) E1;generalize ((Ax [],c_ Ix (EB xs))::([]:Hp))=j at hb w0;generalize Ax []=b at hb;rw[AP (cs:=[zS,zS,A1,zS,zS]) rfl];have hz:=Av (H:=j) (x:=.cells true DF [zS,zS,A1,zS,zS]) (by simp);have b1:=AK (x:=.cells true DF [zS,zS,A1,zS,zS]) (w0.lt hb) hb;have nb:=w0.lt hb;have w1:=AM (x:=.cells true DF [zS,zS,A1,zS,zS]) w0;generalize ((Ax j,c_ DF [zS,zS,A1,zS,zS])::j)=w at hz w1 b1;generalize Ax j=z at hz nb;have A:∀{K:K2},BZ DR [] K=K (.agg [zS,zS,A1,zS,zS]):=λ{K}=>id rfl;rw[A,AP (cs:=[zS,zS,A1,zS,zS]) rfl];obtain⟨k,B,r2,Y,kp⟩:=DY (e:=DF) (zs:=[zS,zS,A1,zS,zS]) (vs:=[zS,zS,A1,zS,zS]) w1 rfl;rw[Bv (vs:=[zS,zS,A1,zS,zS]) (Av (by simp)) rfl rfl rfl,<-B];obtain⟨b2,a⟩:=kp _ _ b1;obtain⟨Z,d⟩:=kp _ _ hz;generalize Ax w=r at r2 a d;have C:∀K:K2,Cl 0 (.ptr r 0 0) K=K (.ptr r 0 0):=λK=>id rfl;have f3:∀K:K2,Cl 3 (.ptr r 0 0) K=K (.ptr r 3 0):=λK=>id rfl;rw[k1,IE,Cz (by omega) (by omega),V,CI,CH,C,iK (vs:=qa (pk c 161-80)) r2 (show 0+2<=5 by decide) rfl rfl];have p:=A5 (q:=true) (e:=DF) (cs:=splice [zS,zS,A1,zS,zS] 0 (qa (pk c 161-80))) r2;have m:=b2;have t:=Z;rw[<-Ah (H:=k) (r:=r) (y:=.cells true DF (splice [zS,zS,A1,zS,zS] 0 (qa (pk c 161-80)))) a]at m;rw[<-Ah (H:=k) (r:=r) (y:=.cells true DF (splice [zS,zS,A1,zS,zS] 0 (qa (pk c 161-80)))) d]at t;have u:=Bs (r:=r) (y:=.cells true DF (splice [zS,zS,A1,zS,zS] 0 (qa (pk c 161-80)))) Y;generalize upd k r (c_ DF (splice [zS,zS,A1,zS,zS] 0 (qa (pk c 161-80))))=H3 at p m t u;rw[R,X,CI,CH,f3,iK (vs:=qa (pk e 9)) p (show 3+2<=5 by decide) rfl rfl];simp only[BJ];refine C1g (n:=n) (b:=b) (r:=r) (z:=z) (ca:=qn (pk c 161-80)) (cb:=qd (pk c 161-80)) (ra:=qn (pk e 9)) (rb:=qd (pk e 9)) N a d Q O ?_ (L+20) 0 A1 _ (by omega) (by omega) ⟨?_,A5 p,⟨[zS,zS,A1,zS,zS],rfl,?_⟩,.inl ⟨rfl,rfl,rfl⟩,λ_=>rfl,?_,?_,?_,Bs u⟩
 ·intro v H f;obtain⟨cs,g,i⟩:=f.hz;have o:[S (qn (pk c 161-80)),S (qd (pk c 161-80)),v,S (qn (pk e 9)),S (qd (pk e 9))].all AV.one=true:=by
   show(true&&(true&&(AV.one v&&(true&&(true&&true)))))=true;rw[AZ.one f.sl];rfl
  rw[AX rfl rfl f.hr,Bv i (by exact g.symm) (by exact g.symm) o,AX rfl rfl (A5 i)];refine M _ _ (λq=>?_);have s:AZ (upd H z (c_ DF [S (qn (pk c 161-80)),S (qd (pk c 161-80)),v,S (qn (pk e 9)),S (qd (pk e 9))])) AT 3 v (Kz xs 6).length ((Kz xs 6).flatMap MC):=by
   rcases f.sl with P|⟨r2,q,h2,F,J⟩
   ·exact .inl P
   ·refine .inr ⟨r2,q,h2,?_,J⟩;rw[Ah (λe=>f.nz (by rw[h2,<-e];exact⟨_,_,_,rfl⟩))];exact F
  obtain⟨q',hq⟩:=B7R (D:=depth-2) (b:=q) s f.nl;exact⟨_,PR (D:=depth-1) (Aq (q:=false) CG (Aq (q:=false) CG (Aq hq (Aq (q:=false) CG (Aq (q:=false) CG AG)))))⟩
 ·rw[Ah a];exact m
 ·rw[Ah d];exact t
 all_goals (rintro⟨_,_,_,h⟩;cases h)
end
end
end Go.Abs
end
