import Derived.Test.YtjbpmepbnkbmfaaGreatDoorP14
import Derived.Test.YtjbpmepbnkbmfaaGreatDoorP15
import Derived.Test.YtjbpmepbnkbmfaaGreatDoorP16
import Derived.Test.YtjbpmepbnkbmfaaGreatDoorP17
import Derived.Test.YtjbpmepbnkbmfaaGreatDoorP18
import Derived.Test.YtjbpmepbnkbmfaaGreatDoorP19
import Derived.Test.YtjbpmepbnkbmfaaGreatDoorP20
import Derived.Test.YtjbpmepbnkbmfaaGreatDoorP21
import Derived.Test.YtjbpmepbnkbmfaaGreatDoorP22
import Derived.Test.YtjbpmepbnkbmfaaGreatDoorP23
import Derived.Test.YtjbpmepbnkbmfaaGreatDoorP24
set_option linter.all false
set_option maxHeartbeats 0
noncomputable section
namespace Go.Abs
open Go.RowKit Go.Proofs
set_option maxRecDepth 100000
section
variable{L n:Nat}
def RV.ls{R:Rt}{f:Nat}{args':Is}{v:AV}(h:RV R f args' v):LS R f args' v:=λq args H a K=>by rw[<-zO];exact sH h a
def xJ(op l r:Nat):Nd:=⟨op,[],[],u0,0,l,r⟩
def poN(l e:Nat):Nd:=⟨7,[],[],u0,oC e,l,0⟩
def A3N:Option Nat->AV
 |some k=>.tup [.agg (Cz (uu k)),I 0]
 |none=>.tup [.agg Gc,I 90]
section
variable{id:Int}{o:UD}{xs:List Nd}{ks:Hb}{l r e k:Nat}{q:Option Nat}{I1:AV}
inductive Kl:Hb->Nat->Prop
 |a {x:Nat}:Kl [x] 0
 |b {x y:Nat}:Kl [x,y] 0
 |c {x y:Nat}:Kl [x,y] 1
 |d {x y z:Nat}:Kl [x,y,z] 0
 |e {x y z:Nat}:Kl [x,y,z] 1
 |f {x y z:Nat}:Kl [x,y,z] 2
def kl(h1:1<=ks.length)(g:ks.length<=3)(h:l<ks.length):Kl ks l:=by
 match ks,h1,g,l,h with
 |[_],_,_,0,_=>exact .a
 |[_,_],_,_,0,_=>exact .b
 |[_,_],_,_,1,_=>exact .c
 |[_,_,_],_,_,0,_=>exact .d
 |[_,_,_],_,_,1,_=>exact .e
 |[_,_,_],_,_,2,_=>exact .f
def lt5(h:e<5):e=0\/e=1\/e=2\/e=3\/e=4:=by omega
def B0u(h1:1<=ks.length)(a:ks.length<=3)(c:l<ks.length)(hr:r<ks.length):RV (rt (L+20) (n+2)) F4 [.agg (B0 id (BE ks) (Ck xs) o),.agg (xJ 3 l r).cs,I ks.length] (.tup [Bo true,Bo true]):=by
 cases kl h1 a c<;>cases kl h1 a hr<;>(exact λb=>by kernel_rfl)
attribute [local irreducible] pE rt in
def B0o(h1:1<=ks.length)(d:ks.length<=3)(f:l<ks.length)(hr:r<ks.length)(c:PO (rt (L+20) (n+41)) TZ [.agg (uu (ks.getD l 0)).cs,.agg (uu (ks.getD r 0)).cs] (Kt q)):CS (rt (L+20) (n+42)) CN [.agg (B0 id (BE ks) (Ck xs) o),.agg (xJ 3 l r).cs,I ks.length,Sd ks] (A3N q):=by
 intro K g;have a:=(B0u (L:=L) (n:=n+39) (id:=id) (o:=o) (xs:=xs) h1 d f hr).ls;rewrite[HG];unfold Hn q4N;rewrite[zO];generalize rt (L+20) (n+41)=R at*
 revert c a
 cases kl h1 d f<;>cases kl h1 d hr<;>(intro c a;simp only[l2g,l2h]at c;(conv=>lhs;whnf);rewrite[a false _ _ ?hq];(case hq=>exact λK=>by kernel_rfl);(conv=>lhs;whnf);rewrite[c];cases q<;>(conv=>lhs;whnf)<;>exact g _ _ (λb=>⟨false,λK=>by kernel_rfl⟩))
def B0y(h1:1<=ks.length)(a:ks.length<=3)(c:l<ks.length)(hr:r<ks.length):RV (rt (L+20) (n+2)) F4 [.agg (B0 id (BE ks) (Ck xs) o),.agg (xJ 4 l r).cs,I ks.length] (.tup [Bo true,Bo true]):=by
 cases kl h1 a c<;>cases kl h1 a hr<;>(exact λb=>by kernel_rfl)
attribute [local irreducible] pE rt in
def B0s(h1:1<=ks.length)(d:ks.length<=3)(f:l<ks.length)(hr:r<ks.length)(c:PO (rt (L+20) (n+41)) KM [.agg (uu (ks.getD l 0)).cs,.agg (uu (ks.getD r 0)).cs] (Kt q)):CS (rt (L+20) (n+42)) CN [.agg (B0 id (BE ks) (Ck xs) o),.agg (xJ 4 l r).cs,I ks.length,Sd ks] (A3N q):=by
 intro K g;have a:=(B0y (L:=L) (n:=n+39) (id:=id) (o:=o) (xs:=xs) h1 d f hr).ls;rewrite[HG];unfold Hn q4N;rewrite[zO];generalize rt (L+20) (n+41)=R at*
 revert c a
 cases kl h1 d f<;>cases kl h1 d hr<;>(intro c a;simp only[l2g,l2h]at c;(conv=>lhs;whnf);rewrite[a false _ _ ?hq];(case hq=>exact λK=>by kernel_rfl);(conv=>lhs;whnf);rewrite[c];cases q<;>(conv=>lhs;whnf)<;>exact g _ _ (λb=>⟨false,λK=>by kernel_rfl⟩))
def B0w(h1:1<=ks.length)(a:ks.length<=3)(c:l<ks.length)(hr:r<ks.length):RV (rt (L+20) (n+2)) F4 [.agg (B0 id (BE ks) (Ck xs) o),.agg (xJ 5 l r).cs,I ks.length] (.tup [Bo true,Bo true]):=by
 cases kl h1 a c<;>cases kl h1 a hr<;>(exact λb=>by kernel_rfl)
attribute [local irreducible] pE rt in
def B0q(h1:1<=ks.length)(d:ks.length<=3)(f:l<ks.length)(hr:r<ks.length)(c:PO (rt (L+20) (n+41)) Ua [.agg (uu (ks.getD l 0)).cs,.agg (uu (ks.getD r 0)).cs] (Kt q)):CS (rt (L+20) (n+42)) CN [.agg (B0 id (BE ks) (Ck xs) o),.agg (xJ 5 l r).cs,I ks.length,Sd ks] (A3N q):=by
 intro K g;have a:=(B0w (L:=L) (n:=n+39) (id:=id) (o:=o) (xs:=xs) h1 d f hr).ls;rewrite[HG];unfold Hn q4N;rewrite[zO];generalize rt (L+20) (n+41)=R at*
 revert c a
 cases kl h1 d f<;>cases kl h1 d hr<;>(intro c a;simp only[l2g,l2h]at c;(conv=>lhs;whnf);rewrite[a false _ _ ?hq];(case hq=>exact λK=>by kernel_rfl);(conv=>lhs;whnf);rewrite[c];cases q<;>(conv=>lhs;whnf)<;>exact g _ _ (λb=>⟨false,λK=>by kernel_rfl⟩))
def B0x(h1:1<=ks.length)(a:ks.length<=3)(c:l<ks.length)(hr:r<ks.length):RV (rt (L+20) (n+2)) F4 [.agg (B0 id (BE ks) (Ck xs) o),.agg (xJ 6 l r).cs,I ks.length] (.tup [Bo true,Bo true]):=by
 cases kl h1 a c<;>cases kl h1 a hr<;>(exact λb=>by kernel_rfl)
attribute [local irreducible] pE rt in
def B0r(h1:1<=ks.length)(d:ks.length<=3)(f:l<ks.length)(hr:r<ks.length)(c:PO (rt (L+20) (n+41)) Ub [.agg (uu (ks.getD l 0)).cs,.agg (uu (ks.getD r 0)).cs] (Kt q)):CS (rt (L+20) (n+42)) CN [.agg (B0 id (BE ks) (Ck xs) o),.agg (xJ 6 l r).cs,I ks.length,Sd ks] (A3N q):=by
 intro K g;have a:=(B0x (L:=L) (n:=n+39) (id:=id) (o:=o) (xs:=xs) h1 d f hr).ls;rewrite[HG];unfold Hn q4N;rewrite[zO];generalize rt (L+20) (n+41)=R at*
 revert c a
 cases kl h1 d f<;>cases kl h1 d hr<;>(intro c a;simp only[l2g,l2h]at c;(conv=>lhs;whnf);rewrite[a false _ _ ?hq];(case hq=>exact λK=>by kernel_rfl);(conv=>lhs;whnf);rewrite[c];cases q<;>(conv=>lhs;whnf)<;>exact g _ _ (λb=>⟨false,λK=>by kernel_rfl⟩))
def B0v(h1:1<=ks.length)(a:ks.length<=3)(c:l<ks.length)(he:e<5):RV (rt (L+20) (n+2)) F4 [.agg (B0 id (BE ks) (Ck xs) o),.agg (poN l e).cs,I ks.length] (.tup [Bo true,Bo true]):=by
 cases kl h1 a c<;>rcases lt5 he with rfl|rfl|rfl|rfl|rfl<;>(exact λb=>by kernel_rfl)
attribute [local irreducible] pE rt in
def B0p(h1:1<=ks.length)(d:ks.length<=3)(f:l<ks.length)(he:e<5)(c:PO (rt (L+20) (n+41)) Mb [.agg (uu (ks.getD l 0)).cs,.agg [I (oC e),I 1]] (Kt q)):CS (rt (L+20) (n+42)) CN [.agg (B0 id (BE ks) (Ck xs) o),.agg (poN l e).cs,I ks.length,Sd ks] (A3N q):=by
 intro K g;have a:=(B0v (L:=L) (n:=n+39) (id:=id) (o:=o) (xs:=xs) h1 d f he).ls;rewrite[HG];unfold Hn q4N;rewrite[zO];generalize rt (L+20) (n+41)=R at*
 revert c a
 cases kl h1 d f<;>rcases lt5 he with rfl|rfl|rfl|rfl|rfl<;>(intro c a;simp only[l2g,l2h]at c;(conv=>lhs;whnf);rewrite[a false _ _ ?hq];(case hq=>exact λK=>by kernel_rfl);(conv=>lhs;whnf);refine l2i (c _ _) ?_;cases q<;>(conv=>lhs;whnf)<;>exact g _ _ (λb=>⟨false,λK=>by kernel_rfl⟩))
def A7f(h1:1<=ks.length)(a:ks.length<=3)(c:l<ks.length)(hr:r<ks.length):RV (rt (L+20) (n+2)) Ca [Yq I1 (Sd ks),gL (GJ.getD 3 []) pF Fh,.agg (xJ 3 l r).cs] (Bo true):=by
 cases kl h1 a c<;>cases kl h1 a hr<;>(exact λb=>by kernel_rfl)
attribute [local irreducible] pE rt in
def A9j(h1:1<=ks.length)(c:ks.length<=3)(f:l<ks.length)(hr:r<ks.length)(a:PO (rt (L+20) (n+40)) XH [.agg (uu (ks.getD l 0)).cs,.agg (uu (ks.getD r 0)).cs] (Kt (some k))):CS (rt (L+20) (n+41)) Fh [Yq I1 (Sd ks),.agg (xJ 3 l r).cs] (.tup [.agg (Cz (uu k)),I 0]):=by
 intro K d;rewrite[R7];unfold Jn LF;rewrite[zO];generalize rt (L+20) (n+40)=R at*
 revert a
 cases kl h1 c f<;>cases kl h1 c hr<;>(intro a;simp only[l2g,l2h]at a;(conv=>lhs;whnf);rewrite[a];(conv=>lhs;whnf);exact d _ _ (λb=>⟨false,λK=>by kernel_rfl⟩))
def A7j(h1:1<=ks.length)(a:ks.length<=3)(c:l<ks.length)(hr:r<ks.length):RV (rt (L+20) (n+2)) Ca [Yq I1 (Sd ks),gL (GJ.getD 4 []) pF DC,.agg (xJ 4 l r).cs] (Bo true):=by
 cases kl h1 a c<;>cases kl h1 a hr<;>(exact λb=>by kernel_rfl)
attribute [local irreducible] pE rt in
def A9n(h1:1<=ks.length)(c:ks.length<=3)(f:l<ks.length)(hr:r<ks.length)(a:PO (rt (L+20) (n+40)) L7 [.agg (uu (ks.getD l 0)).cs,.agg (uu (ks.getD r 0)).cs] (Kt (some k))):CS (rt (L+20) (n+41)) DC [Yq I1 (Sd ks),.agg (xJ 4 l r).cs] (.tup [.agg (Cz (uu k)),I 0]):=by
 intro K d;rewrite[N9];unfold Gj LF;rewrite[zO];generalize rt (L+20) (n+40)=R at*
 revert a
 cases kl h1 c f<;>cases kl h1 c hr<;>(intro a;simp only[l2g,l2h]at a;(conv=>lhs;whnf);rewrite[a];(conv=>lhs;whnf);exact d _ _ (λb=>⟨false,λK=>by kernel_rfl⟩))
def A7h(h1:1<=ks.length)(a:ks.length<=3)(c:l<ks.length)(hr:r<ks.length):RV (rt (L+20) (n+2)) Ca [Yq I1 (Sd ks),gL (GJ.getD 5 []) pF Eg,.agg (xJ 5 l r).cs] (Bo true):=by
 cases kl h1 a c<;>cases kl h1 a hr<;>(exact λb=>by kernel_rfl)
attribute [local irreducible] pE rt in
def A9l(h1:1<=ks.length)(c:ks.length<=3)(f:l<ks.length)(hr:r<ks.length)(a:PO (rt (L+20) (n+40)) XI [.agg (uu (ks.getD l 0)).cs,.agg (uu (ks.getD r 0)).cs] (Kt (some k))):CS (rt (L+20) (n+41)) Eg [Yq I1 (Sd ks),.agg (xJ 5 l r).cs] (.tup [.agg (Cz (uu k)),I 0]):=by
 intro K d;rewrite[P0];unfold HI LF;rewrite[zO];generalize rt (L+20) (n+40)=R at*
 revert a
 cases kl h1 c f<;>cases kl h1 c hr<;>(intro a;simp only[l2g,l2h]at a;(conv=>lhs;whnf);rewrite[a];(conv=>lhs;whnf);exact d _ _ (λb=>⟨false,λK=>by kernel_rfl⟩))
def A7i(h1:1<=ks.length)(a:ks.length<=3)(c:l<ks.length)(hr:r<ks.length):RV (rt (L+20) (n+2)) Ca [Yq I1 (Sd ks),gL (GJ.getD 6 []) pF DX,.agg (xJ 6 l r).cs] (Bo true):=by
 cases kl h1 a c<;>cases kl h1 a hr<;>(exact λb=>by kernel_rfl)
attribute [local irreducible] pE rt in
def A9m(h1:1<=ks.length)(c:ks.length<=3)(f:l<ks.length)(hr:r<ks.length)(a:PO (rt (L+20) (n+40)) XJ [.agg (uu (ks.getD l 0)).cs,.agg (uu (ks.getD r 0)).cs] (Kt (some k))):CS (rt (L+20) (n+41)) DX [Yq I1 (Sd ks),.agg (xJ 6 l r).cs] (.tup [.agg (Cz (uu k)),I 0]):=by
 intro K d;rewrite[OJ];unfold GT LF;rewrite[zO];generalize rt (L+20) (n+40)=R at*
 revert a
 cases kl h1 c f<;>cases kl h1 c hr<;>(intro a;simp only[l2g,l2h]at a;(conv=>lhs;whnf);rewrite[a];(conv=>lhs;whnf);exact d _ _ (λb=>⟨false,λK=>by kernel_rfl⟩))
def A7g(h1:1<=ks.length)(a:ks.length<=3)(c:l<ks.length)(he:e<5):RV (rt (L+20) (n+2)) Ca [Yq I1 (Sd ks),gL (GJ.getD 7 []) C0j EE,.agg (poN l e).cs] (Bo true):=by
 cases kl h1 a c<;>rcases lt5 he with rfl|rfl|rfl|rfl|rfl<;>(exact λb=>by kernel_rfl)
attribute [local irreducible] pE rt in
def A9k(h1:1<=ks.length)(c:ks.length<=3)(f:l<ks.length)(he:e<5)(a:PO (rt (L+20) (n+40)) Tr [.agg (uu (ks.getD l 0)).cs,.agg [I (oC e),I 1]] (Kt (some k))):CS (rt (L+20) (n+41)) EE [Yq I1 (Sd ks),.agg (poN l e).cs] (.tup [.agg (Cz (uu k)),I 0]):=by
 intro K d;rewrite[QE];unfold I5 DN T6 OV Kx Fg A4 Ks;rewrite[zO];generalize rt (L+20) (n+40)=R at*
 revert a
 cases kl h1 c f<;>rcases lt5 he with rfl|rfl|rfl|rfl|rfl<;>(intro a;simp only[l2g,l2h]at a;(conv=>lhs;whnf);dsimp only[poN];rewrite[a];(conv=>lhs;whnf);exact d _ _ (λb=>⟨false,λK=>by kernel_rfl⟩))
end
end
section
variable(L n:Nat)
def A1e:((List.range 11).all λk=>(λi=>JY (Bj (Dz (r! L (n+40)) Ez [.agg (gP i)]) (Bo true))) (k+0))=true:=by kernel_rfl
def A1d:((List.range 11).all λk=>(λi=>JY (Bj (Dz (r! L (n+40)) Ez [.agg (gP i)]) (Bo true))) (k+11))=true:=by kernel_rfl
def A1c:((List.range 11).all λk=>(λi=>JY (Bj (Dz (r! L (n+40)) Ez [.agg (gP i)]) (Bo true))) (k+22))=true:=by kernel_rfl
def A7l(i:Nat)(h:i<33):PS (r! L (n+40)) Ez [.agg (gP i)] (Bo true):=by
 refine BM (λH=>by first|exact λK=>by kernel_rfl) ?_;by_cases a:i<11
 ·have:=G9.1 (A1e L n) (i-0) (Lf.2 (by omega));have e:i-0+0=i:=by omega
  simp only[e]at this;exact this
 by_cases h1:i<22
 ·have:=G9.1 (A1d L n) (i-11) (Lf.2 (by omega));have e:i-11+11=i:=by omega
  simp only[e]at this;exact this
 by_cases h2:i<33
 ·have:=G9.1 (A1c L n) (i-22) (Lf.2 (by omega));have e:i-22+22=i:=by omega
  simp only[e]at this;exact this
 ·omega
def A1h:((List.range 11).all λk=>(λi=>JY (Bj (Dz (r! L (n+40)) IQ [.agg (gP i)]) (S (frt i)))) (k+0))=true:=by kernel_rfl
def A1g:((List.range 11).all λk=>(λi=>JY (Bj (Dz (r! L (n+40)) IQ [.agg (gP i)]) (S (frt i)))) (k+11))=true:=by kernel_rfl
def A1f:((List.range 11).all λk=>(λi=>JY (Bj (Dz (r! L (n+40)) IQ [.agg (gP i)]) (S (frt i)))) (k+22))=true:=by kernel_rfl
def A7m(i:Nat)(h:i<33):PS (r! L (n+40)) IQ [.agg (gP i)] (S (frt i)):=by
 refine BM (λH=>by first|exact λK=>by kernel_rfl) ?_;by_cases a:i<11
 ·have:=G9.1 (A1h L n) (i-0) (Lf.2 (by omega));have e:i-0+0=i:=by omega
  simp only[e]at this;exact this
 by_cases h1:i<22
 ·have:=G9.1 (A1g L n) (i-11) (Lf.2 (by omega));have e:i-11+11=i:=by omega
  simp only[e]at this;exact this
 by_cases h2:i<33
 ·have:=G9.1 (A1f L n) (i-22) (Lf.2 (by omega));have e:i-22+22=i:=by omega
  simp only[e]at this;exact this
 ·omega
end
section
variable{at_:Int}
variable{L n:Nat}
section
variable{id:Int}{o:UD}{xs:List Nd}{ks:Hb}{i j k:Nat}{I1:AV}
def A9C(d:ks.length<=3):RV (rt (L+20) (n+2)) Ca [Yq I1 (Sd ks),gL (GJ.getD 2 []) C0u FN,.agg (dX i).cs] (Bo true):=by
 match ks,d with
 |[],_=>exact λb=>by kernel_rfl
 |[a],_=>exact λb=>by kernel_rfl
 |[a,b],_=>exact λb=>by kernel_rfl
 |[a,b,c],_=>exact λb=>by kernel_rfl
def A9D(d:ks.length<=3):RV (rt (L+20) (n+2)) Ca [Yq I1 (Sd ks),gL (GJ.getD 1 []) Aw DY,.agg (cnN i k).cs] (Bo true):=by
 match ks,d with
 |[],_=>exact λb=>by kernel_rfl
 |[a],_=>exact λb=>by kernel_rfl
 |[a,b],_=>exact λb=>by kernel_rfl
 |[a,b,c],_=>exact λb=>by kernel_rfl
def B3H{U:AV}(h1:1<=ks.length)(a:ks.length<=3)(c:j<ks.length):RV (rt (L+20) (n+2)) FN [Yq (BE ks) U,.agg (dX j).cs] (.tup [.agg (Cz (uu (ks.getD j 0))),I 0]):=by
 cases kl h1 a c<;>exact λb=>by kernel_rfl
attribute [local irreducible] pE rt in
def B3I{C:Is}(hv:PO (rt (L+20) (n+40)) Ez [.agg (gP i)] (Bo true))(c:PO (rt (L+20) (n+40)) My [.agg (uu k).cs] (Bo true)):CS (rt (L+20) (n+41)) DY [.iptr C,.agg (cnN i k).cs] (.tup [.agg (Cz (uu k)),I 0]):=by
 intro K a;rewrite[OK];unfold GU LF;rewrite[zO];generalize rt (L+20) (n+40)=R at*
 conv=>lhs;whnf
 refine l2i (hv _ _) ?_
 conv=>lhs;whnf
 simp only[Ei]
 dsimp only[cnN]
 rewrite[c]
 conv=>lhs;whnf
 exact a _ _ (λb=>⟨false,λK=>by kernel_rfl⟩)
attribute [local irreducible] pE rt Vg in
def B4P(hv:PO (rt (L+20) (n+40)) F6 [.agg (gP i)] (Bo true))(c:PO (rt (L+20) (n+40)) F5 [.agg (uu k).cs] (Bo true)):CS (rt (L+20) (n+41)) F4 [.agg (B0 id (BE ks) (Ck xs) o),.agg (cnN i k).cs,I at_] (.tup [Bo true,Bo false]):=by
 intro K a;rewrite[VJ];unfold OB DN Yo D5 A4 Ks FW;rewrite[zO];generalize rt (L+20) (n+40)=R at*
 conv=>lhs;whnf
 refine l2i (hv _ _) ?_
 conv=>lhs;whnf
 refine l2i (c _ _) ?_
 conv=>lhs;whnf
 refine l2i (C4F (x:=cnN i k)) ?_
 conv=>lhs;whnf
 exact a _ _ (λb=>⟨false,λK=>by kernel_rfl⟩)
attribute [local irreducible] pE rt in
def B4N(hv:PO (rt (L+20) (n+40)) F6 [.agg (gP i)] (Bo true))(c:PO (rt (L+20) (n+40)) F5 [.agg (uu k).cs] (Bo true)){w:AV}:CS (rt (L+20) (n+42)) CN [.agg (B0 id (BE ks) (Ck xs) o),.agg (cnN i k).cs,I at_,w] (.tup [.agg (Cz (uu k)),I 0]):=by
 intro K d;have a:=(B4P (id:=id) (o:=o) (xs:=xs) (ks:=ks) (at_:=at_) hv c).ls;clear hv c;rewrite[HG];unfold Hn q4N;rewrite[zO];generalize rt (L+20) (n+41)=R at*
 conv=>lhs;whnf
 rewrite[a false _ _ ?hq]
 case hq=>exact λK=>by kernel_rfl
 conv=>lhs;whnf
 exact d _ _ (λb=>⟨false,λK=>by kernel_rfl⟩)
end
end
section
section
variable(L n:Nat)
def C5z:List (UD×Int):=[(⟨1,2,0,1,0,1,0,1,0,1,0,1,0,1,[49],[49],[48],[49],0,1⟩,0),(⟨0,1,0,1,1,2,0,1,0,1,0,1,0,1,[49],[49],[48],[49],0,1⟩,0),(u0,70),(⟨0,1,0,1,0,1,0,1,0,1,0,1,0,1,[49],[49],[48],[49],0,2⟩,0),
 (u0,70),(⟨0,1,0,1,0,1,0,1,1,2,0,1,0,1,[49],[49],[48],[49],0,1⟩,0),(⟨1,1,0,1,0,1,0,1,0,1,0,1,0,1,[49],[49],[48],[49],0,1⟩,0)]
def usq(k:Nat):UD×Int:=C5z.getD k (u0,0)
def B4H:((List.range 7).all λi=>JY (Bj (Dz (rt (L+20) (n+40)) Mb [.agg (uu i).cs,.agg [I 1,I 2]]) (.tup [.agg (usq i).1.cs,I (usq i).2])))=true:=by kernel_rfl
def C36(i:Nat)(h:i<7):PS (rt (L+20) (n+40)) Mb [.agg (uu i).cs,.agg [I 1,I 2]] (.tup [.agg (usq i).1.cs,I (usq i).2]):=by
 refine BM (λH=>by first|exact λK=>by kernel_rfl) ?_;exact G9.1 (B4H L n) i (Lf.2 h)
end
variable{L n:Nat}
section
variable{id:Int}{o:UD}{xs:List Nd}{ks:Hb}{l:Nat}
def sqN(l:Nat):Nd:=⟨8,[],[],u0,0,l,0⟩
def B4O(h1:1<=ks.length)(a:ks.length<=3)(c:l<ks.length):RV (rt (L+20) (n+2)) F4 [.agg (B0 id (BE ks) (Ck xs) o),.agg (sqN l).cs,I ks.length] (.tup [Bo true,Bo true]):=by
 cases kl h1 a c<;>exact λb=>by kernel_rfl
attribute [local irreducible] pE rt in
def B4M{u:UD}{e:Int}(he:e=0\/e=70)(h1:1<=ks.length)(d:ks.length<=3)(f:l<ks.length)(c:PO (rt (L+20) (n+41)) Mb [.agg (uu (ks.getD l 0)).cs,.agg [I 1,I 2]] (.tup [.agg u.cs,I e])):CS (rt (L+20) (n+42)) CN [.agg (B0 id (BE ks) (Ck xs) o),.agg (sqN l).cs,I ks.length,Sd ks] (if e=0 then .tup [.agg u.cs,I 0] else .tup [.agg Gc,I 90]):=by
 intro K g;have a:=(B4O (L:=L) (n:=n+39) (id:=id) (o:=o) (xs:=xs) h1 d f).ls;rewrite[HG];unfold Hn q4N;rewrite[zO];generalize rt (L+20) (n+41)=R at*
 revert c a
 cases kl h1 d f<;>(intro c a;simp only[l2g,l2h]at c;(conv=>lhs;whnf);rewrite[a false _ _ ?hq];(case hq=>exact λK=>by kernel_rfl);(conv=>lhs;whnf);refine l2i (c _ _) ?_;rcases he with rfl|rfl<;>(conv=>lhs;whnf)<;>exact g _ _ (λb=>⟨false,λK=>by kernel_rfl⟩))
end
section
variable{i k:Nat}
def A07(h:i<33):(frt i).length<10:=by
 have:=G9.1 (show((List.range 33).all λi=>decide ((frt i).length<10))=true by kernel_rfl) i (Lf.2 h);simpa using this
def B4F:PS (rt (L+20) (n+1)) eN [] (.list 9 (GJ.map λw=>S w)):=BM (λH K=>by kernel_rfl) (by kernel_rfl)
attribute [local irreducible] pE rt Aq in
def B0I(hi:i<33)(g:PO (rt (L+20) (n+40)) DB [I 1,I 1,I 8] (Bo true))(c:PO (rt (L+20) (n+40)) eN [] (.list 9 (GJ.map λw=>S w)))(f:PO (rt (L+20) (n+40)) JQ [.agg (uu k).cs] (.tup [S (LM k),I 0]))(e:PO (rt (L+20) (n+40)) MY [.agg (gP i)] (S (frt i))):CS (rt (L+20) (n+41)) J5 [.agg (cnN i k).cs] (S (cnT i k)):=by
 intro K d;rewrite[uV];unfold Xk Ih;rewrite[zO];generalize rt (L+20) (n+40)=R at*
 conv=>lhs;whnf
 refine l2i (g _ _) ?_
 conv=>lhs;whnf
 rewrite[c]
 conv=>lhs;whnf
 refine l2i H_ ?_
 conv=>lhs;whnf
 refine l2i (f _ _) ?_
 conv=>lhs;whnf
 have h1:=A07 hi;have h2:=G7 k;refine l2i (BA (a:=GJ.getD 1 []) (by decide)) ?_
 conv=>lhs;whnf
 refine l2i (e _ _) ?_
 conv=>lhs;whnf
 rewrite[BA (by simp only[EN,GJ,l2h,l2g,LI,Rv];omega)];rewrite[BA (by simp only[EN,GJ,l2h,l2g,LI,Rv];omega)];rewrite[BA (by simp only[EN,GJ,l2h,l2g,LI,Rv];omega)];exact d _ _ (λb=>⟨false,λK=>by kernel_rfl⟩)
attribute [local irreducible] pE rt Aq in
def A9y(hi:i<33)(c:PO (rt (L+20) (n+40)) IB [] YT)(f:PO (rt (L+20) (n+40)) J3 [.agg (uu k).cs] (.tup [S (LM k),I 0]))(e:PO (rt (L+20) (n+40)) IQ [.agg (gP i)] (S (frt i))):CS (rt (L+20) (n+41)) FI [.agg (cnN i k).cs] (S (cnT i k)):=by
 intro K d;rewrite[fG];unfold Qa DN A4;rewrite[zO];generalize rt (L+20) (n+40)=R at*
 conv=>lhs;whnf
 rewrite[c]
 conv=>lhs;whnf
 rewrite[c]
 conv=>lhs;whnf
 refine l2i (H_ (a:=1)) ?_
 conv=>lhs;whnf
 refine l2i (f _ _) ?_
 conv=>lhs;whnf
 have h1:=A07 hi;have h2:=G7 k;refine l2i (BA (a:=GJ.getD 1 []) (by decide)) ?_
 conv=>lhs;whnf
 refine l2i (e _ _) ?_
 conv=>lhs;whnf
 rewrite[BA (by simp only[EN,GJ,l2h,l2g,LI,Rv];omega)];rewrite[BA (by simp only[EN,GJ,l2h,l2g,LI,Rv];omega)];rewrite[BA (by simp only[EN,GJ,l2h,l2g,LI,Rv];omega)];exact d _ _ (λb=>⟨false,λK=>by kernel_rfl⟩)
end
end
section
variable{L n:Nat}
inductive Ex where
 |no
 |cn (i k:Nat)
 |inp (j:Nat)
 |bi (op l r k:Nat)
 |po (l e k:Nat)
def Ex.nd:Ex->List Nd
 |.no=>[]
 |.cn i k=>[cnN i k]
 |.inp j=>[dX j]
 |.bi op l r _=>[xJ op l r]
 |.po l e _=>[poN l e]
def Ex.ty(ks:Hb):Ex->Hb
 |.no=>[]
 |.cn _ k=>[k]
 |.inp j=>[ks.getD j 0]
 |.bi _ _ _ k=>[k]
 |.po _ _ k=>[k]
def Ex.tx:Ex->List Ha
 |.no=>[]
 |.cn i k=>[cnT i k]
 |.inp j=>[exT j]
 |.bi op l r _=>[exT (3+9*(op-3)+3*l+r)]
 |.po l e _=>[exT (39+5*l+e)]
def Ex.Ok(ks:Hb):Ex->Prop
 |.no=>True
 |.cn i k=>i<33/\k<7
 |.inp j=>j<ks.length
 |.bi op l r k=>3<=op/\op<7/\l<ks.length/\r<ks.length/\We (op-3) (ks.getD l 0) (ks.getD r 0)=some k
 |.po l e k=>l<ks.length/\e<5/\Yz (ks.getD l 0) e=some k
structure Pr where
 id:Nat
 ks:Hb
 x:Ex
structure Pr.Ok(p:Pr):Prop where
 i1:1<=p.id
 i2:p.id<950
 k1:1<=p.ks.length
 k3:p.ks.length<=3
 k7:∀k∈p.ks,k<7
 x:p.x.Ok p.ks
def Pr.xs(p:Pr):List Nd:=Ly p.ks++p.x.nd
def Pr.ty(p:Pr):Hb:=p.ks++p.x.ty p.ks
def Pr.ts(p:Pr):List Ha:=(List.range p.ks.length).map exT++p.x.tx
def Pr.out(p:Pr):Nat:=p.ty.getD (p.xs.length-1) 0
section
variable{a b l r e i k op:Nat}{ks:Hb}{xs:List Nd}{id:Int}{o:UD}
def Nh{N:Nat}(h:∀k∈ks,k<N)(c:l<ks.length):ks.getD l 0<N:=by
 have e:ks.getD l 0=ks[l]:=by simp[List.getD,KJ c]
 rw[e];exact h _ (Ql c)
def B4G(c:a<7)(hb:b<7):PO (r! L (n+41)) TZ [.agg (uu a).cs,.agg (uu b).cs] (Kt (We 0 a b)):=by
 have:=(B9X L (n+1) (7*a+b) (by omega)).o;rwa[show(7*a+b)/7=a by omega,show(7*a+b)%7=b by omega]at this
def B4L(c:a<7)(hb:b<7):PO (r! L (n+41)) KM [.agg (uu a).cs,.agg (uu b).cs] (Kt (We 1 a b)):=by
 have:=(C01 L (n+1) (7*a+b) (by omega)).o;rwa[show(7*a+b)/7=a by omega,show(7*a+b)%7=b by omega]at this
def B4J(c:a<7)(hb:b<7):PO (r! L (n+41)) Ua [.agg (uu a).cs,.agg (uu b).cs] (Kt (We 2 a b)):=by
 have:=(B9Z L (n+1) (7*a+b) (by omega)).o;rwa[show(7*a+b)/7=a by omega,show(7*a+b)%7=b by omega]at this
def B4K(c:a<7)(hb:b<7):PO (r! L (n+41)) Ub [.agg (uu a).cs,.agg (uu b).cs] (Kt (We 3 a b)):=by
 have:=(C00 L (n+1) (7*a+b) (by omega)).o;rwa[show(7*a+b)/7=a by omega,show(7*a+b)%7=b by omega]at this
def B4I(c:a<7)(hb:e<5):PO (r! L (n+41)) Mb [.agg (uu a).cs,.agg [I (oC e),I 1]] (Kt (Yz a e)):=by
 have:=(B9Y L (n+1) (5*a+e) (by omega)).o;rwa[show(5*a+e)/5=a by omega,show(5*a+e)%5=e by omega]at this
def B3C(f:a<7)(hb:b<7)(h:We 0 a b=some k):PO (r! L (n+40)) XH [.agg (uu a).cs,.agg (uu b).cs] (Kt (some k)):=by
 have c:(7*a+b)/7=a:=by omega
 have d:(7*a+b)%7=b:=by omega
 have:=(B7N L n (7*a+b) (by omega) (by rw[c,d,h];rfl)).o;rwa[c,d,h]at this
def B3G(f:a<7)(hb:b<7)(h:We 1 a b=some k):PO (r! L (n+40)) L7 [.agg (uu a).cs,.agg (uu b).cs] (Kt (some k)):=by
 have c:(7*a+b)/7=a:=by omega
 have d:(7*a+b)%7=b:=by omega
 have:=(B7R L n (7*a+b) (by omega) (by rw[c,d,h];rfl)).o;rwa[c,d,h]at this
def B3E(f:a<7)(hb:b<7)(h:We 2 a b=some k):PO (r! L (n+40)) XI [.agg (uu a).cs,.agg (uu b).cs] (Kt (some k)):=by
 have c:(7*a+b)/7=a:=by omega
 have d:(7*a+b)%7=b:=by omega
 have:=(B7P L n (7*a+b) (by omega) (by rw[c,d,h];rfl)).o;rwa[c,d,h]at this
def B3F(f:a<7)(hb:b<7)(h:We 3 a b=some k):PO (r! L (n+40)) XJ [.agg (uu a).cs,.agg (uu b).cs] (Kt (some k)):=by
 have c:(7*a+b)/7=a:=by omega
 have d:(7*a+b)%7=b:=by omega
 have:=(B7Q L n (7*a+b) (by omega) (by rw[c,d,h];rfl)).o;rwa[c,d,h]at this
def B3D(f:a<7)(hb:e<5)(h:Yz a e=some k):PO (r! L (n+40)) Tr [.agg (uu a).cs,.agg [I (oC e),I 1]] (Kt (some k)):=by
 have c:(5*a+e)/5=a:=by omega
 have d:(5*a+e)%5=e:=by omega
 have:=(B7O L n (5*a+e) (by omega) (by rw[c,d,h];rfl)).o;rwa[c,d,h]at this
def A5Z(h1:1<=ks.length)(d:ks.length<=3)(g:∀k∈ks,k<7)(c:l<ks.length)(hr:r<ks.length)(m:3<=op)(h:op<7):
 CS (r! L (n+42)) CN [.agg (B0 id (BE ks) (Ck xs) o),.agg (xJ op l r).cs,I ks.length,Sd ks] (A3N (We (op-3) (ks.getD l 0) (ks.getD r 0))):=by
 have f:=Nh g c;have hb:=Nh g hr;obtain rfl|rfl|rfl|rfl:op=3\/op=4\/op=5\/op=6:=by omega
 ·exact B0o h1 d c hr (B4G f hb)
 ·exact B0s h1 d c hr (B4L f hb)
 ·exact B0q h1 d c hr (B4J f hb)
 ·exact B0r h1 d c hr (B4K f hb)
def A5Y(h1:1<=ks.length)(d:ks.length<=3)(f:∀k∈ks,k<7)(c:l<ks.length)(he:e<5):
 CS (r! L (n+42)) CN [.agg (B0 id (BE ks) (Ck xs) o),.agg (poN l e).cs,I ks.length,Sd ks] (A3N (Yz (ks.getD l 0) e)):=
 B0p h1 d c he (B4I (Nh f c) he)
def A1C{at_:Int}{w:AV}(hi:i<33)(c:k<7):CS (r! L (n+42)) CN [.agg (B0 id (BE ks) (Ck xs) o),.agg (cnN i k).cs,I at_,w] (.tup [.agg (Cz (uu k)),I 0]):=
 B4N (A7D L n i hi).o (SI L n k (by omega)).o
end
section
variable{p:Pr}{o:UD}
def C0i(h:p.Ok):RTy L n p.id p.ks p.xs o p.ty:=by
 have⟨pid,ks,x⟩:=p;have⟨i1,i2,k1,k3,k7,c⟩:=h;unfold Pr.xs Pr.ty;cases x with
 |no=>
  simp only[Ex.nd,Ex.ty,Vq];exact B9Q (fR k3 (by decide))
 |cn i k=>exact rN (fR k3 (by decide)) (A1C c.1 c.2)
 |inp j=>
  refine rN (fR k3 (by decide)) ?_;have f:j<ks.length:=c;have e:ks.getD j 0=ks[j]:=by simp[List.getD,KJ f]
  rw[e];exact ZK (n:=n+39) (fR k3 (by decide)) f
 |bi op l r k=>
  have⟨h1,h2,d,g,m⟩:=c;refine rN (fR k3 (by decide)) ?_;have:=A5Z (L:=L) (n:=n) (id:=pid) (xs:=Ly ks++[xJ op l r]) (o:=o) k1 k3 k7 d g h1 h2;rw[m]at this;exact this
 |po l e k=>
  have⟨h1,h2,d⟩:=c;refine rN (fR k3 (by decide)) ?_;have:=A5Y (L:=L) (n:=n) (id:=pid) (xs:=Ly ks++[poN l e]) (o:=o) k1 k3 k7 h1 h2;rw[d]at this;exact this
def A9e{ks:Hb}{i:Nat}(k1:1<=ks.length)(k3:ks.length<=3){l:Hb}(c:l.length<=3)(hi:i<ks.length):WNd L n (BE ks) l (dX i) (ks.getD i 0):=
 ⟨GJ.getD 2 [],C0u,FN,.inr ⟨_,_,rfl⟩,λH K=>by kernel_rfl,by kernel_rfl,rfl,rfl,A9C (n:=n+39) c,B3H (n:=n+39) k1 k3 hi⟩
def C0h(h:p.Ok):WTy L n p.ks p.xs p.ty:=by
 have⟨pid,ks,x⟩:=p;have⟨i1,i2,k1,k3,k7,q⟩:=h;simp only at k1 k3 k7 q;intro i hi;simp only[Pr.xs,Pr.ty]at hi⊢;by_cases f:i<ks.length
 ·have g:(Ly ks++x.nd)[i]=dX i:=by
   rw[List.getElem_append_left (by rw[DW];exact f)];exact jN _
  have m:(ks++x.ty ks).getD i 0=ks.getD i 0:=by simp[List.getD,l0m f]
  rw[g,m];exact A9e k1 k3 (by rw[E!];omega) f
 ·have A:x.nd.length<=1:=by cases x<;>simp[Ex.nd]
  rw[EN,DW]at hi;obtain rfl:i=ks.length:=by omega
  have g:∀y,x.nd=[y]->(Ly ks++x.nd)[ks.length]'(by rw[EN,DW];exact hi)=y:=λy w=>by
   rw[List.getElem_append_right (by rw[DW];omega)];simp[w,DW]
  have m:∀k,x.ty ks=[k]->(ks++x.ty ks).getD ks.length 0=k:=λk v=>by simp[List.getD,v]
  have u:(ks++x.ty ks).take ks.length=ks:=List.take_left' rfl;rw[u];cases x with
  |no=>simp[Ex.nd]at hi
  |cn i k=>
   rw[g _ rfl,m _ rfl];exact⟨GJ.getD 1 [],Aw,DY,.inl rfl,λH K=>by kernel_rfl,by kernel_rfl,rfl,rfl,A9D (n:=n+39) k3,(B3I (A7l L n i q.1).o (Yy L n k (by have:=q.2;omega)).o).rv⟩
  |inp j=>
   rw[g _ rfl,m _ rfl];exact A9e k1 k3 k3 q
  |bi op l r k=>
   have⟨h1,h2,c,d,s⟩:=q;have t:=Nh k7 c;have hb:=Nh k7 d;rw[g _ rfl,m _ rfl];obtain rfl|rfl|rfl|rfl:op=3\/op=4\/op=5\/op=6:=by omega
   ·exact⟨GJ.getD 3 [],pF,Fh,.inr ⟨_,_,rfl⟩,λH K=>by kernel_rfl,by kernel_rfl,rfl,rfl,A7f (n:=n+39) k1 k3 c d,(A9j k1 k3 c d (B3C t hb s)).rv⟩
   ·exact⟨GJ.getD 4 [],pF,DC,.inr ⟨_,_,rfl⟩,λH K=>by kernel_rfl,by kernel_rfl,rfl,rfl,A7j (n:=n+39) k1 k3 c d,(A9n k1 k3 c d (B3G t hb s)).rv⟩
   ·exact⟨GJ.getD 5 [],pF,Eg,.inr ⟨_,_,rfl⟩,λH K=>by kernel_rfl,by kernel_rfl,rfl,rfl,A7h (n:=n+39) k1 k3 c d,(A9l k1 k3 c d (B3E t hb s)).rv⟩
   ·exact⟨GJ.getD 6 [],pF,DX,.inr ⟨_,_,rfl⟩,λH K=>by kernel_rfl,by kernel_rfl,rfl,rfl,A7i (n:=n+39) k1 k3 c d,(A9m k1 k3 c d (B3F t hb s)).rv⟩
  |po l e k=>
   have⟨h1,h2,c⟩:=q;rw[g _ rfl,m _ rfl];exact⟨GJ.getD 7 [],C0j,EE,.inr ⟨_,_,rfl⟩,λH K=>by kernel_rfl,by kernel_rfl,rfl,rfl,A7g (n:=n+39) k1 k3 h1 h2,(A9k k1 k3 h1 h2 (B3D (Nh k7 h1) h2 c)).rv⟩
def C03{j:Nat}(h:j<54):PS (r! L (n+41)) J5 [.agg (exN j).cs] (S (exT j)):=
 BM (λH=>by first|exact λK=>by kernel_rfl) (G9.1 (B0J L n) j (Lf.2 h))
def B7V{j:Nat}(h:j<54):PS (r! L (n+41)) FI [.agg (exN j).cs] (S (exT j)):=
 BM (λH=>by first|exact λK=>by kernel_rfl) (G9.1 (A9z L n) j (Lf.2 h))
def B7p{j:Nat}(h:j<3):dX j=exN j:=by unfold exN;rw[Dv h]
def C4u{op l r:Nat}(h1:3<=op)(h2:op<7)(c:l<3)(d:r<3):xJ op l r=exN (3+9*(op-3)+3*l+r):=by
 obtain rfl|rfl|rfl|rfl:op=3\/op=4\/op=5\/op=6:=by omega
 all_goals obtain rfl|rfl|rfl:l=0\/l=1\/l=2:=by omega
 all_goals obtain rfl|rfl|rfl:r=0\/r=1\/r=2:=by omega
 all_goals rfl
def C4t{l e:Nat}(d:l<3)(c:e<5):poN l e=exN (39+5*l+e):=by
 obtain rfl|rfl|rfl:l=0\/l=1\/l=2:=by omega
 all_goals obtain rfl|rfl|rfl|rfl|rfl:=lt5 c
 all_goals rfl
def NdT(L n:Nat)(y:Nd)(t:Ha):Prop:=PS (r! L (n+41)) J5 [.agg y.cs] (S t)/\PS (r! L (n+41)) FI [.agg y.cs] (S t)
def W_{j:Nat}(h:j<54):NdT L n (exN j) (exT j):=⟨C03 h,B7V h⟩
def B75{y:Nd}(H:Hp):RZ true depth [.agg y.cs] [.agg y.cs] H false:=λK=>by kernel_rfl
def C0v{i k:Nat}(hi:i<33)(c:k<7):NdT L n (cnN i k) (cnT i k):=
 ⟨(B0I hi (ZL (n:=n+39) (by decide) (by decide)).o (B4F (n:=n+39)).o (VD L n k (by omega)).o (A7E L n i hi).o).ps B75,
  (A9y hi (B6K (n:=n+39)).o (Vr L n k (by omega)).o (A7m L n i hi).o).ps B75⟩
def B0X(h:p.Ok):p.ts.length=p.xs.length/\∀i(hi:i<p.xs.length),NdT L n p.xs[i] (p.ts.getD i []):=by
 have⟨pid,ks,x⟩:=p;have⟨i1,i2,k1,k3,k7,g⟩:=h;simp only at k1 k3 k7 g;have m:x.tx.length=x.nd.length:=by cases x<;>rfl
 refine⟨by simp[Pr.ts,Pr.xs,DW,m],λi hi=>?_⟩;simp only[Pr.xs,Pr.ts]at hi⊢;by_cases c:i<ks.length
 ·have d:(Ly ks++x.nd)[i]=dX i:=by
   rw[List.getElem_append_left (by rw[DW];exact c)];exact jN _
  have f:((List.range ks.length).map exT++x.tx).getD i []=exT i:=by
   rw[List.getD,l0m (by simpa using c)];simp[List.getElem?_range c]
  rw[d,f,B7p (by omega)];exact W_ (by omega)
 ·have v:x.nd.length<=1:=by cases x<;>simp[Ex.nd]
  rw[EN,DW]at hi;obtain rfl:i=ks.length:=by omega
  have d:∀y,x.nd=[y]->(Ly ks++x.nd)[ks.length]'(by rw[EN,DW];exact hi)=y:=λy u=>by
   rw[List.getElem_append_right (by rw[DW];omega)];simp[u,DW]
  have f:∀t,x.tx=[t]->((List.range ks.length).map exT++x.tx).getD ks.length []=t:=λt s=>by simp[List.getD,s]
  cases x with
  |no=>simp[Ex.nd]at hi
  |cn i k=>rw[d _ rfl,f _ rfl];exact C0v g.1 g.2
  |inp j=>
   have B:j<ks.length:=g;rw[d _ rfl,f _ rfl,B7p (by omega)];exact W_ (by omega)
  |bi op l r k=>
   have⟨h1,h2,q,w,A⟩:=g;rw[d _ rfl,f _ rfl,C4u h1 h2 (by omega) (by omega)];exact W_ (by omega)
  |po l e k=>
   have⟨h1,h2,q⟩:=g;rw[d _ rfl,f _ rfl,C4t (by omega) h2];exact W_ (by omega)
end
end
section
variable{k:Nat}
variable{L n:Nat}
def tE(h:k<7):(LM k).length<=44:=by
 have:=G9.1 (show((List.range 7).all λk=>decide ((LM k).length<=44))=true by kernel_rfl) k (Lf.2 h);simpa using this
def A1l(h:k<52):(LM k).length<=50:=by
 have:=G9.1 (show((List.range 52).all λk=>decide ((LM k).length<=50))=true by kernel_rfl) k (Lf.2 h);simpa using this
def sC{j:Nat}(h:j<54):(exT j).length<=10:=by
 have:=G9.1 (show((List.range 54).all λk=>decide ((exT k).length<=10))=true by kernel_rfl) j (Lf.2 h);simpa using this
def B6g{i k:Nat}(hi:i<33)(a:k<7):(cnT i k).length<=60:=by
 have h1:=A07 hi;have h2:=tE a;simp only[cnT,GJ,l2h,l2g,EN,LI,Rv];omega
def B5H(ks:Hb)(h:∀k∈ks,k<7):(ks.flatMap rY).length<=51*ks.length:=by
 induction ks with
 |nil=>simp
 |cons k ks ih=>
  have h1:=tE (h k (by simp));have h2:=ih λx a=>h x (by simp[a]);simp only[nM,EN,LI,rY,uI,Rv]at h2⊢;omega
def B1h{ts:List Ha}(h:∀t∈ts,t.length<=10):(ts.flatMap xH).length<=11*ts.length:=by
 induction ts with
 |nil=>simp
 |cons t ts ih=>
  have h1:=h t (by simp);have h2:=ih λu a=>h u (by simp[a]);simp only[nM,EN,LI,xH,Rv]at h2⊢;omega
def B8b{o a b k:Nat}(d:o<4)(c:a<7)(hb:b<7)(h:We o a b=some k):k<52:=by
 have:=G9.1 (show((List.range 196).all λj=>(match We (j/49) (j/7%7) (j%7) with|some k=>decide (k<52)|none=>true))=true by kernel_rfl) (49*o+7*a+b) (Lf.2 (by omega));rw[show(49*o+7*a+b)/49=o by omega,show(49*o+7*a+b)/7%7=a by omega,show(49*o+7*a+b)%7=b by omega,h]at this;simpa using this
def B42{a e k:Nat}(b:a<7)(he:e<5)(h:Yz a e=some k):k<52:=by
 have:=G9.1 (show((List.range 35).all λj=>(match Yz (j/5) (j%5) with|some k=>decide (k<52)|none=>true))=true by kernel_rfl) (5*a+e) (Lf.2 (by omega));rw[show(5*a+e)/5=a by omega,show(5*a+e)%5=e by omega,h]at this;simpa using this
section
variable{p:Pr}
def mM(h:p.Ok):p.ty.length=p.xs.length/\1<=p.xs.length/\p.xs.length<=4:=by
 have h1:=h.k1;have b:=h.k3;have e:(p.x.ty p.ks).length=p.x.nd.length:=by cases p.x<;>rfl
 have a:p.x.nd.length<=1:=by cases p.x<;>simp[Ex.nd]
 simp only[Pr.ty,Pr.xs,EN,DW];omega
def B59(h:p.Ok):∀k∈p.ty,k<52:=by
 intro k a;rcases dV.1 a with a|a
 ·have:=h.k7 k a;omega
 ·have b:=h.x;cases hq:p.x with
  |no=>rw[hq]at a;simp[Ex.ty]at a
  |cn i j=>rw[hq]at a b;simp[Ex.ty]at a;have:=b.2;omega
  |inp j=>rw[hq]at a b;simp only[Ex.ty,XY]at a;have:=Nh h.k7 b;omega
  |bi op l r j=>rw[hq]at a b;simp[Ex.ty]at a;subst a;exact B8b (by have:=b.1;have:=b.2.1;omega) (Nh h.k7 b.2.2.1) (Nh h.k7 b.2.2.2.1) b.2.2.2.2
  |po l e j=>rw[hq]at a b;simp[Ex.ty]at a;subst a;exact B42 (Nh h.k7 b.1) b.2.1 b.2.2
def Kd(h:p.Ok):p.out<52:=by
 have⟨h1,h2,a⟩:=mM h;exact Nh (B59 h) (by omega)
def B0W(h:p.Ok):(∀t∈p.ts,t.length<100)/\(p.ts.flatMap xH).length<=11*p.ks.length+61:=by
 have k3:=h.k3;have a:=h.x;have a1:∀t∈(List.range p.ks.length).map exT,t.length<=10:=λt b=>by
  obtain⟨j,c,rfl⟩:=Pu.1 b;exact sC (by have:=Lf.1 c;omega)
 have a2:(∀t∈p.x.tx,t.length<=60)/\p.x.tx.length<=1:=by
  cases hq:p.x with
  |no=>simp[Ex.tx]
  |cn i j=>rw[hq]at a;simp[Ex.tx];exact B6g a.1 a.2
  |inp j=>rw[hq]at a;have c:j<p.ks.length:=a;simp[Ex.tx];exact fR (sC (by omega)) (by decide)
  |bi op l r j=>rw[hq]at a;have h1:=a.1;have h2:=a.2.1;have f:=a.2.2.1;have g:=a.2.2.2.1;simp[Ex.tx];exact fR (sC (by omega)) (by decide)
  |po l e j=>rw[hq]at a;have h1:=a.1;have h2:=a.2.1;simp[Ex.tx];exact fR (sC (by omega)) (by decide)
 have d:(p.x.tx.flatMap xH).length<=61:=by
  match hq:p.x.tx with
  |[]=>simp
  |[t]=>have:=a2.1 t (by rw[hq];simp);simp[xH];omega
  |t::u::l=>rw[hq]at a2;simp at a2
 refine⟨λt b=>?_,?_⟩
 ·rcases dV.1 b with b|b
  ·have:=a1 t b;omega
  ·have:=a2.1 t b;omega
 ·have:=B1h a1;simp only[Pr.ts,l2l,EN,QK,List.length_range]at this⊢;omega
def Pr.txt(p:Pr):Ha:=uC p.id p.ks p.ts p.out
def mL(h:p.Ok):p.txt.length<390:=by
 have k3:=h.k3;have h1:=B5H p.ks h.k7;have h2:=(B0W h).2;have a:=A1l (Kd h);have b:=A5a p.id;simp only[Pr.txt,uC,EN,LI,Rv,SL,C0q];omega
abbrev Pr.cs(p:Pr):Is:=B0 p.id (BE p.ks) (Ck p.xs) (uu p.out)
def A1O(a:100<L)(h:p.Ok):CS (r! L (n+44)) Gb [.agg p.cs] (Bo true):=by
 have⟨h1,h2,c⟩:=mM h;have:=h.k3;have:=h.i1;have:=h.i2;exact B0B a (C0i h) h1 (λk b=>by have:=h.k7 k b;omega) (by omega) h2 (by omega) (by omega) (by omega)
def B0V(a:100<L)(h:p.Ok):CS (r! L (n+46)) Gy [.agg p.cs] (Bo true):=by
 have⟨h1,h2,c⟩:=mM h;have:=h.k3;have:=h.i1;have:=h.i2;exact A9t a (C0h h) rfl h1 (λk b=>by have:=h.k7 k b;omega) (by omega) h2 (by omega) (by omega) (by omega)
def B71(a:100<L)(h:p.Ok):CS (r! L (n+45)) JO [.agg p.cs] (.tup [S p.txt,I 0]):=by
 have⟨h1,h2,e⟩:=mM h;have⟨c,d⟩:=B0X (L:=L) (n:=n+3) h;have:=h.k3;exact B0C a h.i2 (A1O a h) (λi hi=>(d i hi).1) (B0W h).1 c (λk b=>by have:=h.k7 k b;omega) (by omega) (by omega) (Kd h)
def B70(a:100<L)(h:p.Ok):CS (r! L (n+47)) Gz [.agg p.cs] (.tup [S p.txt,I 0]):=by
 have⟨h1,h2,e⟩:=mM h;have⟨c,d⟩:=B0X (L:=L) (n:=n+5) h;have:=h.k3;exact A9v a h.i2 (B0V a h) (λi hi=>(d i hi).2) (B0W h).1 c (λk b=>by have:=h.k7 k b;omega) (by omega) (by omega) (Kd h)
end
end
section
variable{L n:Nat}{K:KV}
def B4t{a b:Ha}(k:10<L)(m:a.length<390)(hb:b.length<390):CS (r! L (n+7)) F3 [.agg [S a,S b]] (S (I0 [a,b])):=by
 intro K g;rw[qC];unfold UI Ih;rw[DZ (by rfl)];have hr:Ah [(Ar [],c_ Bw [S a,S b])] (Ar [])=some (c_ Bw [S a,S b]):=Ay (H:=[]) (by simp);have f:∀K:K2,CI 0 (.ptr (Ar []) 0 0) K=K (.ptr (Ar []) 0 0):=λK=>id rfl;have f1:∀K:K2,CI 1 (.ptr (Ar []) 0 0) K=K (.ptr (Ar []) 1 0):=λK=>id rfl;have i:∀K:K2,AE Ai (.ptr (Ar []) 0 0) [(Ar [],c_ Bw [S a,S b])] K=K (S a):=λK=>id rfl;have j:∀K:K2,AE Ai (.ptr (Ar []) 1 0) [(Ar [],c_ Bw [S a,S b])] K=K (S b):=λK=>id rfl;have d:∀K:KV,GF Au 1 Ai 2 [(0,1,S a),(1,1,S b)] [(Ar [],c_ Bw [S a,S b])] K=K (.sl 1 1 0 2) ((1,.cells false Au (AF [a,b]))::[(Ar [],c_ Bw [S a,S b])]):=λK=>id rfl;rw[f,i,f1,j,d];have h:RZ true depth [.sl 1 1 0 2] [.list 2 (AF [a,b])] ((1,.cells false Au (AF [a,b]))::[(Ar [],c_ Bw [S a,S b])]) (true||false):=Al (A06 (e:=Au) (.inr ⟨1,false,rfl,rfl,rfl⟩) (by decide) (λs:Ha=>Value.string ⟨⟨s⟩⟩) [a,b] rfl) AD;rw[AO (A5U (L:=L) (n:=n) (l:=[a,b]) (by simp) (by simp;omega) (λs c=>by simp at c;rcases c with rfl|rfl<;>assumption)) h];exact g _ _ (λb=>⟨false,C7⟩)
end
section
variable{K:K2}{H:Hp}
variable{L n:Nat}
def B0E{zs:List Int}(b:100<L)(a:zs.length<100)(hz:∀z∈zs, -10<=z/\z<1090):Ap (r! L (n+7)) ES [.list zs.length (Ff zs)] H K=K (S (Js zs)):=
 AO (A_ (n:=n+2) a (by omega) hz) (Al (q:=false) (q':=false) OW AD)
def B0t{zs:List Ha}(b:100<L)(a:zs.length<100)(hz:∀z∈zs,z.length<390):Ap (r! L (n+7)) Ho [.list zs.length (AF zs)] H K=K (S (I0 zs)):=
 AO (A5U (n:=n+1) a (by omega) hz) (Al (q:=false) (q':=false) OW AD)
def B6T{a b:Ha}(d:100<L)(c:a.length<390)(hb:b.length<390):Ap (r! L (n+7)) F3 [.agg [S a,S b]] H K=K (S (I0 [a,b])):=
 AO (q:=false) (B4t (n:=n) (by omega) c hb) (λK=>by kernel_rfl)
def sD{z:Int}:Z6 1 Ad 1 [(0,1,I z)] K=K (.list ([z]:List Int).length (Ff [z])):=id rfl
def B6p{a b c d e f:Int}:Z6 1 Ad 6 [(0,1,I a),(1,1,I b),(2,1,I c),(3,1,I d),(4,1,I e),(5,1,I f)] K=K (.list ([a,b,c,d,e,f]:List Int).length (Ff [a,b,c,d,e,f])):=id rfl
def A6M{z:Ha}:Z6 1 Ai 1 [(0,1,S z)] K=K (.list ([z]:List Ha).length (AF [z])):=id rfl
def B7s(a b:Ha):RK [(a,b)]=I0 [a,b]:=by simp[RK]
def C35{K:KV}{x:Af}{c:Nat}{R0:Row}{cs:Is}{ts:eO}{b:AV->KV}(u:TmsOk ts)(v:100<L)(P:R0=.cells true Ab cs)(d:∀H,Ah H c=some R0->∀K,AE A1 (.ptr c 28 0) H K=K (E4 ts)){l:Ha}(hb:l.length<100000000)(O:∀m,Ah m c=some R0->Wf m->b (.ptr c 0 0) (S (l++Ry ts)) m=x):∀(f i:Nat)(H:Hp),i<=ts.length->ts.length-i<f->Ah H c=some R0->Wf H->
 Un (L+20) (r! L (n+7)) K b f (.ptr c 0 0) (S (l++Ry (ts.take i))) (I i) H=x:=by
 have A:=u.len;intro f
 induction f with
 |zero=>intro i H _ h;omega
 |succ f ih=>
  intro i H hi Q hc w;rw[pM];unfold Uo DN T6 Ia A4;have f26:∀K:K2,CI 26 (.ptr c 0 0) K=K (.ptr c 26 0):=λK=>id rfl;have f2:∀K:K2,CI 2 (.ptr c 26 0) K=K (.ptr c 28 0):=λK=>id rfl;rw[f26,f2,d H hc,MZ];by_cases h:i<ts.length
  ·have hr:=u.rng _ (Ql h);have M:=YJ (z:=ts[i].2) (by omega) (by omega);have N:=YK ts[i].2;rw[XA2 (by omega),Cy,f26,f2,d H hc,Ue h,lTm,Bv (cs:=[zI,zS,zS]) rfl];have k:=Ay (H:=H) (x:=.cells true Bf [zI,zS,zS]) (by simp);rw[BO (vs:=NO ts[i]) k rfl rfl rfl];have a:=AC (q:=true) (e:=Bf) (cs:=NO ts[i]) k;have j:=w.lt hc;have g:Ah (upd ((Ar H,c_ Bf [zI,zS,zS])::H) (Ar H) (c_ Bf (NO ts[i]))) c=some R0:=by
    rw[Ag (by omega)];exact A6 j hc
   have w1:=Bm (r:=Ar H) (y:=.cells true Bf (NO ts[i])) (AG (x:=.cells true Bf [zI,zS,zS]) w);generalize upd ((Ar H,c_ Bf [zI,zS,zS])::H) (Ar H) (c_ Bf (NO ts[i]))=s at a g w1;generalize Ar H=t at a;have F:∀K:K2,CI 0 (.ptr t 0 0) K=K (.ptr t 0 0):=λK=>id rfl;have J:∀K:K2,CI 1 (.ptr t 0 0) K=K (.ptr t 1 0):=λK=>id rfl;have m0:∀K,AE Ad (.ptr t 0 0) s K=K (I ts[i].1):=λK=>AL (p:=0) rfl a (show 0<3 by decide);have m1:∀K,AE A3 (.ptr t 1 0) s K=K (.agg (qa ts[i].2)):=λK=>DD (p:=1) rfl a (show 3<=3 from MC _);have a1:=iF (ts.take i) (λt h=>by have h1:=u.rng t (l29 h);have:=YJ (z:=t.2) (by omega) (by omega);have:=YK t.2;omega);have a2:(ts.take i).length<=6:=by simp;omega
   have B:=F9 [ts[i].1];have C:=F8 [qn ts[i].2,qd ts[i].2] (by simp;omega);simp only[LI,Rv]at B C;rw[F,B1,m0,B1,sD,B1,B0E v (by simp) (by simp;omega),B1,BA (by rw[EN];omega),B1,J,B1,m1,B1,B6T v (by omega) (by omega),B1,BA (by simp only[EN];omega),B1,CW (by omega)];have D:l++Ry (ts.take i)++Js [ts[i].1]++I0 [qn ts[i].2,qd ts[i].2]=l++Ry (ts.take (i+1)):=by
    rw[zW ts h];simp[tmB,B7s]
   rw[D];exact ih (i+1) s (by omega) (by omega) g w1
  ·rw[Fk (by omega),AY];have:i=ts.length:=by omega
   subst this;rw[rW];exact O H hc w
end
section
variable{L n:Nat}
section
variable{m:ND}{u o:UD}{ca cb ra rb un pt:Ha}{ts:eO}{ps:List Ha}{ins nds:AV}{kd id vd pe:Int}{r:RD}
def C37{H:Hp}{K:K2}(c:100<L)(d:ps.length<100)(hz:∀z∈ps,z.length<390):Ap (r! L (n+7)) Ho [Di ps] H K=K (S (I0 ps)):=by
 cases ps with
 |nil=>
  refine AO (q:=false) (args':=[Aw]) ?_ (λK=>by kernel_rfl);exact λK a=>by
   rw[XX];unfold Qx A4;simp only[BF];rw[VC];unfold Ot Ia A4;have el:∀K,Ba Ac Aw K=K (I 0):=λK=>r_ rfl;rw[el,Fk (by decide),AY];exact a _ _ (λb=>⟨false,λK=>by kernel_rfl⟩)
 |cons p l=>exact B0t c d hz
set_option maxHeartbeats 2000000 in
def A48(C:100<L)(hm:m.ok)(ae:kd=1\/kd=2\/kd=3)(ht:TmsOk ts)(hI:Sl ins)(hN:Sl nds)(hp:ps.length<=6)(M:∀s∈ps,s.length<390)(X:un.length<390)(O:pt.length<390)(hr:r.k=0\/r.k=1\/r.k=2\/r.k=3)(A:∀q∈[(r.a1,r.a2),(r.b1,r.b2),(r.c1,r.c2),(r.d1,r.d2)],q.1.length<390/\q.2.length<390)(hv:0<=vd/\vd<=3)(ad:ca.length<10/\cb.length<10/\ra.length<10/\rb.length<10)(ab:PS (r! L (n+61)) JQ [.agg (Cz u)] (.tup [S un,I 0]))(aa:LS (r! L (n+61)) JO [.agg (B0 id ins nds o)] (.tup [S pt,I pe])):
 CS (r! L (n+62)) RC [.agg (Ea kd m u ca cb (E4 ts) ra rb (Di ps) id ins nds o r vd)] (S (NX kd m un ca cb ts ra rb ps pt (if kd=3 then VA r vd else[]))):=by
 intro K hK;have⟨q1,q2,q3,q4,q5,q6,q7,q8,q9,ag⟩:=hm;have hT:=Hv ts;have hP:Sl (Di ps):=by cases ps with|nil=>exact .inl rfl|cons p l=>exact .inr ⟨_,_,rfl⟩
 have af:=ht.len;have a1:=F9 [kd,m.lab,m.num,m.itm,m.tim,m.day];have a2:=F8 [un] (by simpa using X);have a3:=F8 [ca,cb] (by simp;omega);have a4:=F9 [(ts.length:Int)];have a5:=iF ts (λt h=>by have:=ht.rng t h;have:=YJ (z:=t.2) (by omega) (by omega);have:=YK t.2;omega);have a6:=F8 [ra,rb] (by simp;omega);have a7:=F9 [(ps.length:Int)];have a8:=F8 ps M;have a9:=F8 [pt] (by simpa using O);simp only[LI,Rv]at a1 a2 a3 a4 a6 a7 a9;rw[uN];unfold Xb DN T6 A4;rw[DZ (T4 hT hP hI hN)];have d:=Ay (H:=[]) (x:=L1 kd m u ca cb (E4 ts) ra rb (Di ps) id ins nds o r vd) (by simp);have w0:=AG (x:=L1 kd m u ca cb (E4 ts) ra rb (Di ps) id ins nds o r vd) Ft;generalize ((Ar [],L1 kd m u ca cb (E4 ts) ra rb (Di ps) id ins nds o r vd)::([]:Hp))=H0 at d w0;generalize Ar []=c at d;have Y:∀{j:Nat}{K:K2},CI j (.ptr c 0 0) K=K (.ptr c j 0):=λ{j K}=>by rw[fA,JZ]
 have g0:∀{K:K2},CI 0 (.ptr c 26 0) K=K (.ptr c 26 0):=r_ rfl;have g2:∀{K:K2},CI 2 (.ptr c 26 0) K=K (.ptr c 28 0):=r_ rfl;have g3:∀{K:K2},CI 3 (.ptr c 26 0) K=K (.ptr c 29 0):=r_ rfl;have nm:∀{y:List Int}{H:Hp}{K:K2},y.length<100->(∀z∈y, -10<=z/\z<1090)->Ap (r! L (n+61)) ES [.list y.length (Ff y)] H K=K (S (Js y)):=λh1 h2=>B0E (n:=n+54) C h1 h2;have tx:∀{y:List Ha}{H:Hp}{K:K2},y.length<100->(∀z∈y,z.length<390)->Ap (r! L (n+61)) Ho [.list y.length (AF y)] H K=K (S (I0 y)):=λh1 h2=>B0t (n:=n+54) C h1 h2;have i:∀{a b:Ha}{H:Hp}{K:K2},a.length<390->b.length<390->Ap (r! L (n+61)) F3 [.agg [S a,S b]] H K=K (S (I0 [a,b])):=λh1 h2=>B6T (n:=n+54) C h1 h2;simp only[BF];rw[Y,cU d,ab,EG,EF];simp only[Y,B1,cI0 d,cI1 d,cI2 d,cI3 d,cI4 d,cI5 d,B6p,A6M,g0,g2,cC d,cT d,MZ,sD];rw[nm (by simp) (by simp only[Vp,List.mem_nil_iff,or_false];rintro z (rfl|rfl|rfl|rfl|rfl|rfl)<;>omega),B1,tx (by simp) (by simpa using X),B1,BA (by omega),B1,i (by omega) (by omega),B1,BA (by simp only[EN];omega),B1,nm (by simp) (by simp;omega),B1,BA (by simp only[EN];omega),B1];have e0:(AV.v (.int .i64 0))=I ((0:Nat):Int):=rfl;have et:∀(l:Ha),S l=S (l++Ry (ts.take 0)):=λl=>by rw[show Ry (ts.take 0)=[] from rfl,Vq]
 rw[e0,et];refine C35 (n:=n+54) ht C (R0:=L1 kd m u ca cb (E4 ts) ra rb (Di ps) id ins nds o r vd) rfl (λH h K=>cT h) (by simp only[EN];omega) ?_ (L+20) 0 H0 (by omega) (by omega) d w0;intro w f w1;have N:∀K,Ap (r! L (n+61)) JO [.agg (B0 id ins nds o)] w K=K (.tup [S pt,I pe]):=λK=>by rw[zO];exact aa false _ _ (WX hI hN) K
 have ac:∀{H:Hp}{K:K2},Ap (r! L (n+61)) Ho [Di ps] H K=K (S (I0 ps)):=C37 (n:=n+54) C (by omega) M;simp only[Y,g3,B1,cR f,cP f,kE,sD,cPr f,N,EG,EF,A6M,ac];rw[i (by omega) (by omega),B1,BA (by simp only[EN];omega),B1,nm (by simp) (by simp;omega),B1,BA (by simp only[EN];omega),B1,BA (by simp only[EN];omega),B1,tx (by simp) (by simpa using O),BA (by simp only[EN];omega),cI0 f,CV];by_cases Z:kd=3
 ·rw[Hu Z,Cy];have jv:∀{j:Nat}{K:K2},CI j (.ptr (Ar w) 0 0) K=K (.ptr (Ar w) j 0):=λ{j K}=>by rw[fA,JZ]
  have J:=Ay (H:=w) (x:=.cells true Kz [zI,zS,zS,zS,zS,zS,zS,zS,zS]) (by simp);have eR:∀{K:K2},AE Ef (.ptr c 55 0) w K=K (.agg r.cs):=λ{K}=>DD (p:=55) rfl f (show 64<=68 by decide);rw[eR,Bv (cs:=[zI,zS,zS,zS,zS,zS,zS,zS,zS]) rfl,BO (vs:=r.cs) J rfl rfl rfl];have g:=AC (q:=true) (e:=Kz) (cs:=r.cs) J;have F:=w1.lt f;have D:Ah (upd ((Ar w,c_ Kz [zI,zS,zS,zS,zS,zS,zS,zS,zS])::w) (Ar w) (c_ Kz r.cs)) c=some (L1 kd m u ca cb (E4 ts) ra rb (Di ps) id ins nds o r vd):=by
   rw[Ag (by omega)];exact A6 F f
  generalize upd ((Ar w,c_ Kz [zI,zS,zS,zS,zS,zS,zS,zS,zS])::w) (Ar w) (c_ Kz r.cs)=B at g D;generalize Ar w=rv at g jv;have l0:∀{K:K2},AE Ad (.ptr rv 0 0) B K=K (I r.k):=λ{K}=>AL (p:=0) rfl g (show 0<9 by decide);have l1:∀{K:K2},AE A3 (.ptr rv 1 0) B K=K (.agg [S r.a1,S r.a2]):=λ{K}=>DD (p:=1) rfl g (show 3<=9 by decide);have l3:∀{K:K2},AE A3 (.ptr rv 3 0) B K=K (.agg [S r.b1,S r.b2]):=λ{K}=>DD (p:=3) rfl g (show 5<=9 by decide);have l5:∀{K:K2},AE A3 (.ptr rv 5 0) B K=K (.agg [S r.c1,S r.c2]):=λ{K}=>DD (p:=5) rfl g (show 7<=9 by decide);have l7:∀{K:K2},AE A3 (.ptr rv 7 0) B K=K (.agg [S r.d1,S r.d2]):=λ{K}=>DD (p:=7) rfl g (show 9<=9 by decide);have b1:=F9 [r.k];have P:r.a1.length<390/\r.a2.length<390:=A (r.a1,r.a2) (by simp);have Q:r.b1.length<390/\r.b2.length<390:=A (r.b1,r.b2) (by simp);have R:r.c1.length<390/\r.c2.length<390:=A (r.c1,r.c2) (by simp);have V:r.d1.length<390/\r.d2.length<390:=A (r.d1,r.d2) (by simp);have b2:=F8 [r.a1,r.a2] (by simp;omega);have b3:=F8 [r.b1,r.b2] (by simp;omega);have b4:=F8 [r.c1,r.c2] (by simp;omega);have b5:=F8 [r.d1,r.d2] (by simp;omega);have b6:=F9 [vd];simp only[LI,Rv]at b1 b2 b3 b4 b5 b6;simp only[jv,Y,B1,l0,l1,l3,l5,l7,cV D,sD];rw[nm (by simp) (by simp;omega),B1,BA (by simp only[EN];omega),B1,i P.1 P.2,B1,BA (by simp only[EN];omega),B1,i Q.1 Q.2,B1,BA (by simp only[EN];omega),B1,i R.1 R.2,B1,BA (by simp only[EN];omega),B1,i V.1 V.2,B1,BA (by simp only[EN];omega),B1,nm (by simp) (by simp;omega),B1,BA (by simp only[EN];omega),B1];rw[Dv Z]at hK⊢;have e:NX kd m un ca cb ts ra rb ps pt (VA r vd)=Js [kd,m.lab,m.num,m.itm,m.tim,m.day]++I0 [un]++I0 [ca,cb]++Js [(ts.length:Int)]++Ry ts++I0 [ra,rb]++Js [(ps.length:Int)]++I0 ps++I0 [pt]++Js [r.k]++I0 [r.a1,r.a2]++I0 [r.b1,r.b2]++I0 [r.c1,r.c2]++I0 [r.d1,r.d2]++Js [vd]:=by
   unfold NX VA;simp[RK]
  rw[<-e];exact hK _ _ (λb=>⟨false,λK=>by kernel_rfl⟩)
 ·rw[Ir Z,AY];rw[CL Z]at hK⊢;have e:NX kd m un ca cb ts ra rb ps pt []=Js [kd,m.lab,m.num,m.itm,m.tim,m.day]++I0 [un]++I0 [ca,cb]++Js [(ts.length:Int)]++Ry ts++I0 [ra,rb]++Js [(ps.length:Int)]++I0 ps++I0 [pt]:=by
   unfold NX;simp only[B7s,Vq,l3b]
  rw[<-e];exact hK _ _ (λb=>⟨false,λK=>by kernel_rfl⟩)
end
end
section
variable{L n:Nat}
def B4Q:PS (r! L (n+40)) vZ [.agg [I 0,Aw,Aw]] (.tup [S [],I 200]):=BM (λH K=>by kernel_rfl) (by kernel_rfl)
def B4R:PS (r! L (n+40)) A0a [.agg [I 0,Aw,Aw]] (.tup [Bo true,Bo false]):=BM (λH K=>by kernel_rfl) (by kernel_rfl)
section
variable{m:ND}{u o:UD}{ca cb ra rb:Ha}{T P ins nds:AV}{kd id vd:Int}{r:RD}{b:Ha}{q:Bool}
def A49(h:Sl T)(g:Sl P)(e:Sl ins)(f:Sl nds)(hb:b.length<=32768)(v:CS (r! L (n+61)) F2 [.agg (Ea kd m u ca cb T ra rb P id ins nds o r vd)] (.tup [Bo true,Bo q]))(s:CS (r! L (n+61)) RC [.agg (Ea kd m u ca cb T ra rb P id ins nds o r vd)] (S b)):
 CS (r! L (n+62)) Pd [.agg (Ea kd m u ca cb T ra rb P id ins nds o r vd)] (.tup [S b,I 0]):=by
 intro K t;rw[YZ];unfold R6 Ih;rw[DZ (T4 h g e f)];have a:=Ay (H:=[]) (x:=L1 kd m u ca cb T ra rb P id ins nds o r vd) (by simp);generalize ((Ar [],L1 kd m u ca cb T ra rb P id ins nds o r vd)::([]:Hp))=k at a;generalize Ar []=c at a;have p:∀{j:Nat}{K:K2},CI j (.ptr c 0 0) K=K (.ptr c j 0):=λ{j K}=>by rw[fA,JZ]
 have i:∀K,Ap (r! L (n+61)) F2 [.agg (Ea kd m u ca cb T ra rb P id ins nds o r vd)] k K=K (.tup [Bo true,Bo q]):=λK=>AO v (XQ h g e f);have d:∀K,Ap (r! L (n+61)) RC [.agg (Ea kd m u ca cb T ra rb P id ins nds o r vd)] k K=K (S b):=λK=>AO s (XQ h g e f);have w:∀{K:K2},Ba Ai (S b) K=K (I b.length):=λ{K}=>Qt rfl;rw[cA a,i,EG,EF,ntT,AY,cA a,d,p,cS a,B4R (n:=n+21),EG,EF,p,cS a,B4Q (n:=n+21),EG,EF,w,Eh,Ir (by omega)];simp only[dY,gT,BK,ntT,QA];rw[AY];exact t _ _ (λb=>⟨false,λK=>by kernel_rfl⟩)
def C5F{cs:Is}(h:40000<L)(h1:cs.all AV.one=true)(hz:cs.length=68)(c:∀H,RZ true depth [.agg cs] [.agg cs] H false)(hb:b.length<=32768)(e:CS (r! L (n+62)) Pd [.agg cs] (.tup [S b,I 0])):CS (r! L (n+63)) GY [.agg cs] (S (sha b)):=by
 intro K f;rw[iX];unfold Xf Ih;rw[DZ h1];have a:=Ay (H:=[]) (x:=.cells true Ab cs) (by simp);generalize ((Ar [],c_ Ab cs)::([]:Hp))=d at a;rw[Bu rfl hz.symm a,AO e (c d),EG,EF,I2];show A2 (.v (.bool false)) _ _=_;rw[AY];have g:∀K,Ap (r! L (n+62)) Zv [S b] d K=K (S (sha b)):=λK=>AO (B6Q (L:=L+20) (n:=n+59) (by omega) (by omega)) (Al (q:=false) (q':=false) C7 AD);rw[g];exact f _ _ (λb=>⟨false,λK=>by kernel_rfl⟩)
end
end
section
variable{k:Nat}
variable{L n:Nat}
def C2X(a:k=1\/k=2\/k=3):∀K,eEq IK BinOp.eql (AV.agg (rr k).cs) (AV.agg [zI,zS,zS,zS,zS,zS,zS,zS,zS]) K=K (Bo false):=λK=>by rw[<-qO];rcases a with rfl|rfl|rfl<;>kernel_rfl
def B7U(a:k=1\/k=2\/k=3):PS (r! L (n+40)) Zw [.agg (rr k).cs] (Bo true):=by
 rcases a with rfl|rfl|rfl<;>exact BM (λH K=>by kernel_rfl) (by as_aux_lemma=>kernel_rfl)
def B0A(a:k=1\/k=2\/k=3):PS (r! L (n+40)) JN [.agg (rr k).cs] (Bo true):=by
 rcases a with rfl|rfl|rfl<;>exact BM (λH K=>by kernel_rfl) (by as_aux_lemma=>kernel_rfl)
def U_:PS (r! L (n+40)) JN [.agg r0.cs] (Bo false):=BM (λH K=>by kernel_rfl) (by kernel_rfl)
end
section
variable{k:Nat}
variable{L n:Nat}
structure CB where
 m:ND
 c:Int
 r:Int
 ts:eO
structure CB.Ok(b:CB):Prop where
 m:b.m.ok
 c1: -80<=b.c
 c2:b.c<=80
 r1:0<=b.r
 r2:b.r<=8
 ts:TmsOk b.ts
inductive Cd where
 |re (b:CB) (u:Nat)
 |co (b:CB) (p:Pr) (ps:List Ha) (t:Option (Nat×Int))
abbrev ed:=List Cd
def Cd.kd:Cd->Int
 |.re _ _=>1
 |.co _ _ _ none=>2
 |.co _ _ _ (some _)=>3
def Cd.ps:Cd->List Ha
 |.re _ _=>[]
 |.co _ _ ps _=>ps
abbrev cdC(kd:Int)(b:CB)(u:UD)(ps:List Ha)(id:Int)(ins a:AV)(o:UD)(r:RD)(vd:Int):Is:=Ea kd b.m u (qn b.c) (qd b.c) (E4 b.ts) (qn b.r) (qd b.r) (Di ps) id ins a o r vd
def Cd.cs:Cd->Is
 |.re b u=>cdC 1 b (uu u) [] 0 Aw Aw u0 r0 0
 |.co b p ps none=>cdC 2 b (uu p.out) ps p.id (BE p.ks) (Ck p.xs) (uu p.out) r0 0
 |.co b p ps (some (k,vd))=>cdC 3 b (uu p.out) ps p.id (BE p.ks) (Ck p.xs) (uu p.out) (rr k) vd
def Cd.body:Cd->Ha
 |.re b u=>NX 1 b.m (LM u) (qn b.c) (qd b.c) b.ts (qn b.r) (qd b.r) [] [] []
 |.co b p ps none=>NX 2 b.m (LM p.out) (qn b.c) (qd b.c) b.ts (qn b.r) (qd b.r) ps p.txt []
 |.co b p ps (some (k,vd))=>NX 3 b.m (LM p.out) (qn b.c) (qd b.c) b.ts (qn b.r) (qd b.r) ps p.txt (VA (rr k) vd)
def Cd.Ok:Cd->Prop
 |.re b u=>b.Ok/\u<7
 |.co b p ps t=>b.Ok/\p.Ok/\ps.length=p.ks.length/\(∀s∈ps,s.length=32)/\(match t with|none=>True|some (k,vd)=>(k=1\/k=2\/k=3)/\1<=vd/\vd<=3)
def Cd.id(c:Cd):Ha:=sha c.body
def Oz(ps:List Ha):Sl (Di ps):=by cases ps with|nil=>exact .inl rfl|cons p l=>exact .inr ⟨_,_,rfl⟩
def mK{ps:List Ha}(h:1<=ps.length):Di ps=Ls ps:=by cases ps with|nil=>simp at h|cons p l=>rfl
def C2Y(h:k=1\/k=2\/k=3):(rr k).k=0\/(rr k).k=1\/(rr k).k=2\/(rr k).k=3:=by rcases h with rfl|rfl|rfl<;>decide
def A43(h:k=1\/k=2\/k=3):∀q∈[((rr k).a1,(rr k).a2),((rr k).b1,(rr k).b2),((rr k).c1,(rr k).c2),((rr k).d1,(rr k).d2)],q.1.length<390/\q.2.length<390:=by
 rcases h with rfl|rfl|rfl<;>decide
def V! :∀q∈[(r0.a1,r0.a2),(r0.b1,r0.b2),(r0.c1,r0.c2),(r0.d1,r0.d2)],q.1.length<390/\q.2.length<390:=by decide
section
variable{b:CB}{ps:List Ha}{kd:Int}{tail:Ha}{un pt:Ha}
def CB.Ok.cl(h:b.Ok):(qn b.c).length<10/\(qd b.c).length<10/\(qn b.r).length<10/\(qd b.r).length<10:=by
 have h1:=YJ h.c1 (show b.c<81 by have:=h.c2;omega);have h2:=YJ (z:=b.r) (by have:=h.r1;omega) (by have:=h.r2;omega);have a:=YK b.c;have d:=YK b.r;omega
def wW(h:b.Ok)(f:un.length<390)(A:ps.length<=6)(a:∀s∈ps,s.length<390)(d:pt.length<390)(e:tail.length<=4000):(NX kd b.m un (qn b.c) (qd b.c) b.ts (qn b.r) (qd b.r) ps pt tail).length<=32768:=by
 have⟨q1,q2,q3,q4⟩:=h.cl;have g:=F9 [kd,b.m.lab,b.m.num,b.m.itm,b.m.tim,b.m.day];have i:=F8 [un] (by simpa using f);have j:=Pp [(qn b.c,qd b.c)] (by simp;omega);have q:=F9 [(b.ts.length:Int)];have u:=iF b.ts (λt e=>by
  have:=h.ts.rng t e;have:=YJ (z:=t.2) (by omega) (by omega);have:=YK t.2;omega)
 have v:=Pp [(qn b.r,qd b.r)] (by simp;omega);have w:=F9 [(ps.length:Int)];have x:=F8 ps a;have y:=F8 [pt] (by simpa using d);have B:=h.ts.len;simp only[NX,EN,LI,Rv]at g i j q u v w x y⊢;omega
def B0d{vd:Int}(h:k=1\/k=2\/k=3):(VA (rr k) vd).length<=4000:=by
 have a:=F9 [(rr k).k];have d:=Pp _ (A43 h);have e:=F9 [vd];simp only[VA,EN,LI,Rv]at a d e⊢;omega
end
section
variable{c:Cd}
def Ja:c.cs.all AV.one=true:=by
 match c with
 |.re b u=>exact T4 (Hv _) (Oz _) (.inl rfl) (.inl rfl)
 |.co b p ps none=>exact T4 (Hv _) (Oz _) (.inr ⟨_,_,rfl⟩) (.inr ⟨_,_,rfl⟩)
 |.co b p ps (some (k,vd))=>exact T4 (Hv _) (Oz _) (.inr ⟨_,_,rfl⟩) (.inr ⟨_,_,rfl⟩)
def CY:c.cs.length=68:=by
 match c with
 |.re b u=>rfl
 |.co b p ps none=>rfl
 |.co b p ps (some (k,vd))=>rfl
def wT(H:Hp):RZ true depth [.agg c.cs] [.agg c.cs] H false:=by
 match c with
 |.re b u=>exact XQ (Hv _) (Oz _) (.inl rfl) (.inl rfl)
 |.co b p ps none=>exact XQ (Hv _) (Oz _) (.inr ⟨_,_,rfl⟩) (.inr ⟨_,_,rfl⟩)
 |.co b p ps (some (k,vd))=>exact XQ (Hv _) (Oz _) (.inr ⟨_,_,rfl⟩) (.inr ⟨_,_,rfl⟩)
def kO(h:c.Ok):c.body.length<=32768:=by
 match c,h with
 |.re b u,⟨hb,f⟩=>exact wW hb (by have:=G7 u;omega) (by simp) (by simp) (by simp) (by simp)
 |.co b p ps none,⟨hb,a,h1,h2,_⟩=>exact wW hb (by have:=G7 p.out;omega) (by have:=a.k3;omega) (λs d=>by rw[h2 s d];decide) (mL a) (by simp)
 |.co b p ps (some (k,vd)),⟨hb,a,h1,h2,e⟩=>exact wW hb (by have:=G7 p.out;omega) (by have:=a.k3;omega) (λs d=>by rw[h2 s d];decide) (mL a) (B0d e.1)
def C2p:RV (r! L (n+40)) Gz [.agg (B0 0 Aw Aw u0)] (.tup [S [],I 90]):=λb=>by kernel_rfl
def C38:RV (r! L (n+40)) JO [.agg (B0 0 Aw Aw u0)] (.tup [S [],I 90]):=λb=>by kernel_rfl
def B2F(t:40000<L)(h:c.Ok)(hn:c.ps.Nodup):CS (r! L (n+63)) FK [.agg c.cs] (S c.id):=by
 refine C5x t Ja CY wT (kO h) ?_
 match c,h,hn with
 |.re b u,⟨hb,v⟩,_=>
  have st:=A7b (L:=L) (n:=n) (o:=u0) hb.m (Hv b.ts) (A9q (L:=L) (n:=n+20)).o (Yy L (n+20) u (by omega)).o (A3G (L:=L) (n:=n+16) hb.c1 hb.c2 hb.r1 hb.r2 hb.ts).ls;exact A3J (n:=n) (ps:=[]) (vd:=0) (kd:=1) (by omega) hb.m (.inl rfl) hb.ts (.inl rfl) (.inl rfl) (by simp) (by simp) (by have:=G7 u;omega) (by simp) (.inl rfl) V! (by decide) hb.cl st.ls (Vr L (n+21) u (by omega)) (C2p (L:=L) (n:=n+21)).ls
 |.co b p ps none,⟨hb,a,h1,h2,_⟩,hn=>
  have k1:=a.k1;have k3:=a.k3;have e:Di ps=.list p.ks.length (AF ps):=by rw[mK (by omega),Ls,h1]
  have d:=(zQ (L:=L) (n:=n+53) (ps:=ps) hn (by omega) (by omega) (by omega) h2).ls;rw[Ls,h1]at d;have g:=tA (L:=L) (n:=n) (kd:=2) (m:=b.m) (ca:=qn b.c) (cb:=qd b.c) (ra:=qn b.r) (rb:=qd b.r) (r:=r0) (vd:=0) (Hv b.ts) ⟨_,_,rfl⟩ d (B0V (L:=L) (n:=n+13) (by omega) a).ls;have st:=A7a (L:=L) (n:=n) hb.m (Hv b.ts) ⟨_,_,rfl⟩ ⟨_,_,rfl⟩ ⟨_,_,rfl⟩ g.ls (Yy L (n+20) p.out (Kd a)).o (A3G (L:=L) (n:=n+16) hb.c1 hb.c2 hb.r1 hb.r2 hb.ts).ls;rw[<-e]at st;exact A3J (n:=n) (ps:=ps) (vd:=0) (kd:=2) (by omega) hb.m (.inr (.inl rfl)) hb.ts (.inr ⟨_,_,rfl⟩) (.inr ⟨_,_,rfl⟩) (by omega) (λs i=>by rw[h2 s i];decide) (by have:=G7 p.out;omega) (mL a) (.inl rfl) V! (by decide) hb.cl st.ls (Vr L (n+21) _ (Kd a)) (B70 (L:=L) (n:=n+14) (by omega) a).ls
 |.co b p ps (some (k,vd)),⟨hb,a,h1,h2,f,j,q⟩,hn=>
  have k1:=a.k1;have k3:=a.k3;have e:Di ps=.list p.ks.length (AF ps):=by rw[mK (by omega),Ls,h1]
  have d:=(zQ (L:=L) (n:=n+53) (ps:=ps) hn (by omega) (by omega) (by omega) h2).ls;rw[Ls,h1]at d;have g:=tA (L:=L) (n:=n) (kd:=3) (m:=b.m) (ca:=qn b.c) (cb:=qd b.c) (ra:=qn b.r) (rb:=qd b.r) (r:=rr k) (vd:=vd) (Hv b.ts) ⟨_,_,rfl⟩ d (B0V (L:=L) (n:=n+13) (by omega) a).ls;have st:=A79 (L:=L) (n:=n) hb.m (Hv b.ts) ⟨_,_,rfl⟩ ⟨_,_,rfl⟩ ⟨_,_,rfl⟩ (C2X f) (B7U (L:=L) (n:=n+20) f).o j q (Yy L (n+20) p.out (Kd a)).o (A3G (L:=L) (n:=n+16) hb.c1 hb.c2 hb.r1 hb.r2 hb.ts).ls g.ls;rw[<-e]at st;exact A3J (n:=n) (ps:=ps) (vd:=vd) (kd:=3) (by omega) hb.m (.inr (.inr rfl)) hb.ts (.inr ⟨_,_,rfl⟩) (.inr ⟨_,_,rfl⟩) (by omega) (λs i=>by rw[h2 s i];decide) (by have:=G7 p.out;omega) (mL a) (C2Y f) (A43 f) (by omega) hb.cl st.ls (Vr L (n+21) _ (Kd a)) (B70 (L:=L) (n:=n+14) (by omega) a).ls
end
end
section
variable{c2:Is}{n2:Nat}
variable{L n:Nat}
section
variable{R:Rt}{K:KV}{ps:List Ha}{H:Hp}{y:Af}
def B5g{b:AV->AV->KV}{i:Nat}(hi:i<ps.length)(hb:ps.length<100)(k:K (.tup [Bo false,I ps.length]) H=y)(c:b (Ls ps) (I i) (I i) H=y\/∃m,∃h:m<i,ps[m]'(by omega)=ps[i]):∀(f j:Nat),j<=i->i-j<f->(∀m(_:m<j)(p:m<ps.length),ps[m]≠ps[i])->
 Mp (L+20) R K b f (Ls ps) (I i) (I j) H=y:=by
 intro f
 induction f with
 |zero=>intro j _ h;omega
 |succ f ih=>
  intro j t s a;rw[So];unfold Mr Kx A4 FW;by_cases h:j<i
  ·rw[XA2 (by omega),Cy,Tx (by omega),B1,JS,B1,Tx hi,B1,JS,B1,MA];by_cases he:ps[j]=ps[i]
   ·rw[Hu he,B1,Cy,Nk];exact k
   ·rw[Ir he,B1,AY,CW (by omega)];exact ih (j+1) (by omega) (by omega) λm hm d=>by
     by_cases g:m=j
     ·subst g;exact he
     ·exact a m (by omega) d
  ·rw[Fk (by omega),AY];obtain rfl:j=i:=by omega
   rcases c with c|⟨m,hm,e⟩
   ·exact c
   ·exact absurd e (a m hm (by omega))
def B5h{b:KV}(hb:ps.length<100)(p:ps.length<L+20)(j:∀s∈ps,s.length=32)(k:K (.tup [Bo false,I ps.length]) H=y):∀(f i:Nat)(v:AV),i<=ps.length->ps.length-i<f->
 (∃t m,i<=t/\∃(h:t<ps.length)(hm:m<t),ps[m]'(by omega)=ps[t])->Mq (L+20) R K b f (Ls ps) (I i) v H=y:=by
 intro f
 induction f with
 |zero=>intro i v _ h;omega
 |succ f ih=>
  intro i v hi w a;have⟨t,m,h1,h2,c,d⟩:=a;rw[Sp];unfold Mt Ia A4 FW;rw[Nk];have h:i<ps.length:=by omega
  rw[XA2 (by omega),Cy];simp only[BF];rw[Tx h,JS,Qt rfl,j _ (Ql h),I2];rw[show(!decide (((32:Nat):Int)=32))=false from rfl,AY];have e:(AV.v (.int .i64 0))=I ((0:Nat):Int):=rfl;rw[e];refine B5g h hb k ?_ _ 0 (by omega) (by omega) (λm hm _=>by omega);by_cases g:t=i
  ·subst g;exact .inr ⟨m,c,d⟩
  ·left;rw[CW (by omega)];exact ih (i+1) _ (by omega) (by omega) ⟨t,m,by omega,h2,c,d⟩
def A7S(h:¬ps.Nodup):∃t m,0<=t/\∃(h:t<ps.length)(hm:m<t),ps[m]'(by omega)=ps[t]:=l37 λhc=>h (by
 rw[List.nodup_iff_pairwise_ne,l26];intro i j hi b a e;exact hc ⟨j,i,l1h _,b,a,e⟩)
def tZ(hn:¬ps.Nodup)(hb:ps.length<=6)(d:∀s∈ps,s.length=32):CS (rt (L+20) (n+1)) Iu [Ls ps] (.tup [Bo false,I ps.length]):=by
 intro K c;rw[TT];unfold Nf D5 A4 FW;simp only[BF];have a:(AV.v (.int .i64 0))=I ((0:Nat):Int):=rfl;rw[a];exact B5h (by omega) (by omega) d (c _ _ (λb=>⟨false,λK=>by kernel_rfl⟩)) _ 0 _ (by omega) (by omega) (A7S hn)
end
section
variable{m:ND}{u o:UD}{ca cb ra rb:Ha}{T P ins nds:AV}{id vd kd:Int}{r:RD}{q:Bool}
def A60(h:Sl T)(g:Sl P)(e:Sl ins)(f:Sl nds)(k:CS (rt (L+20) (n+61)) F2 [.agg (Ea kd m u ca cb T ra rb P id ins nds o r vd)] (.tup [Bo false,Bo q])):
 CS (rt (L+20) (n+62)) Pd [.agg (Ea kd m u ca cb T ra rb P id ins nds o r vd)] (.tup [S [],I 210]):=by
 intro K j;rw[YZ];unfold R6 Ih;rw[DZ (T4 h g e f)];have a:=Ay (H:=[]) (x:=L1 kd m u ca cb T ra rb P id ins nds o r vd) (by simp);generalize ((Ar [],L1 kd m u ca cb T ra rb P id ins nds o r vd)::([]:Hp))=i at a;generalize Ar []=c at a;have d:∀K,Ap (rt (L+20) (n+61)) F2 [.agg (Ea kd m u ca cb T ra rb P id ins nds o r vd)] i K=K (.tup [Bo false,Bo q]):=λK=>AO k (XQ h g e f);rw[cA a,d,EG,EF,ntF,Cy];exact j _ _ (λb=>⟨false,λK=>by kernel_rfl⟩)
def C3a{cs:Is}(h1:cs.all AV.one=true)(hz:cs.length=68)(c:∀H,RZ true depth [.agg cs] [.agg cs] H false)(e:CS (rt (L+20) (n+62)) Pd [.agg cs] (.tup [S [],I 210])):CS (rt (L+20) (n+63)) GY [.agg cs] (S []):=by
 intro K f;rw[iX];unfold Xf Ih;rw[DZ h1];have a:=Ay (H:=[]) (x:=.cells true Ab cs) (by simp);generalize ((Ar [],c_ Ab cs)::([]:Hp))=d at a;rw[Bu rfl hz.symm a,AO e (c d),EG,EF,I2];show A2 (.v (.bool true)) _ _=_;rw[Cy];exact f _ _ (λb=>⟨false,λK=>by kernel_rfl⟩)
end
attribute [local irreducible] Ap rt pE eBi eEq cnd Aq Vg A2
section
variable{m:ND}{u o:UD}{ca cb ra rb:Ha}{T P nds:AV}{id vd:Int}{r:RD}
def A47(hm:m.ok)(s:Sl T)(hr:PO (rt (L+20) (n+60)) JN [.agg r0.cs] (Bo false))(p:∃n cs,P=.list n cs)(j:∃n cs,nds=.list n cs)(v:LS (rt (L+20) (n+60)) Iu [P] (.tup [Bo false,I n2]))(hv:LS (rt (L+20) (n+60)) Gb [.agg (B0 id (.list n2 c2) nds u)] (Bo true))(w:PO (rt (L+20) (n+60)) F5 [.agg (Cz u)] (Bo true))(t:LS (rt (L+20) (n+60)) JP [.agg (NU ca cb T ra rb)] (Bo true)):
 CS (rt (L+20) (n+61)) F2 [.agg (Ea 2 m u ca cb T ra rb P id (.list n2 c2) nds u r0 0)] (.tup [Bo false,Bo false]):=by
 intro K i;have⟨h1,h2,e,x,f,A,g,B,h,d⟩:=hm;obtain⟨n1,c1,rfl⟩:=p;obtain⟨C,c3,rfl⟩:=j;have hb:∀{z c hi:Int},c<=z->z<=hi->PO (rt (L+20) (n+60)) IY [I z,I c,I hi] (Bo true):=λa b=>(YI a b).o;rcases s with rfl|⟨D,c4,rfl⟩
 all_goals
  rewrite[Kg];unfold IS Ih
  try rewrite[zO]
  try rewrite[bO]
  try rewrite[qO]
  try rewrite[cO]
  generalize rt (L+20) (n+60)=R at*
  conv=>lhs;whnf
  rewrite[Yd ?hc]
  case hc=>decide
  conv=>lhs;whnf
  rewrite[w]
  conv=>lhs;whnf
  rewrite[(t) false _ _ ?hq]
  case hq=>exact λK=>by kernel_rfl
  conv=>lhs;whnf
  rewrite[hb h1 (by omega)]
  conv=>lhs;whnf
  rewrite[hb e (by omega)]
  conv=>lhs;whnf
  rewrite[hb f (by omega)]
  conv=>lhs;whnf
  rewrite[hb g (by omega)]
  conv=>lhs;whnf
  rewrite[hb h (by omega)]
  conv=>lhs;whnf
  rewrite[GI]
  conv=>lhs;whnf
  rewrite[hr]
  conv=>lhs;whnf
  rewrite[show∀K,eEq IK BinOp.neq (AV.agg [I r0.k,S r0.a1,S r0.a2,S r0.b1,S r0.b2,S r0.c1,S r0.c2,S r0.d1,S r0.d2]) (AV.agg [zI,zS,zS,zS,zS,zS,zS,zS,zS]) K=K (Bo false) from λK=>by rw[<-qO];kernel_rfl]
  conv=>lhs;whnf
  rewrite[B1d ?hc]
  case hc=>decide
  conv=>lhs;whnf
  rewrite[GI]
  conv=>lhs;whnf
  rewrite[Yd ?hc]
  case hc=>decide
  conv=>lhs;whnf
  rewrite[GI]
  conv=>lhs;whnf
  rewrite[QQ ?hc]
  case hc=>decide
  conv=>lhs;whnf
  rewrite[Qz]
  conv=>lhs;whnf
  rewrite[Qz]
  conv=>lhs;whnf
  rewrite[(v) false _ _ ?hq]
  case hq=>exact λK=>by kernel_rfl
  conv=>lhs;whnf
  rewrite[(hv) false _ _ ?hq]
  case hq=>exact λK=>by kernel_rfl
  conv=>lhs;whnf
  exact i _ _ (λb=>⟨false,λK=>by kernel_rfl⟩)
def A46(hm:m.ok)(t:Sl T)(hr:PO (rt (L+20) (n+60)) JN [.agg r.cs] (Bo true))(c:1<=vd)(d:vd<=3)(s:∃n cs,P=.list n cs)(p:∃n cs,nds=.list n cs)(w:LS (rt (L+20) (n+60)) Iu [P] (.tup [Bo false,I n2]))(hv:LS (rt (L+20) (n+60)) Gb [.agg (B0 id (.list n2 c2) nds u)] (Bo true))(x:PO (rt (L+20) (n+60)) F5 [.agg (Cz u)] (Bo true))(v:LS (rt (L+20) (n+60)) JP [.agg (NU ca cb T ra rb)] (Bo true)):
 CS (rt (L+20) (n+61)) F2 [.agg (Ea 3 m u ca cb T ra rb P id (.list n2 c2) nds u r vd)] (.tup [Bo false,Bo true]):=by
 intro K k;have⟨h1,h2,g,A,h,B,i,C,j,f⟩:=hm;obtain⟨n1,c1,rfl⟩:=s;obtain⟨D,c3,rfl⟩:=p;have hb:∀{z e hi:Int},e<=z->z<=hi->PO (rt (L+20) (n+60)) IY [I z,I e,I hi] (Bo true):=λa b=>(YI a b).o;rcases t with rfl|⟨F,c4,rfl⟩
 all_goals
  rewrite[Kg];unfold IS Ih
  try rewrite[zO]
  try rewrite[bO]
  try rewrite[qO]
  try rewrite[cO]
  generalize rt (L+20) (n+60)=R at*
  conv=>lhs;whnf
  rewrite[QQ ?hc]
  case hc=>decide
  conv=>lhs;whnf
  rewrite[x]
  conv=>lhs;whnf
  rewrite[(v) false _ _ ?hq]
  case hq=>exact λK=>by kernel_rfl
  conv=>lhs;whnf
  rewrite[hb h1 (by omega)]
  conv=>lhs;whnf
  rewrite[hb g (by omega)]
  conv=>lhs;whnf
  rewrite[hb h (by omega)]
  conv=>lhs;whnf
  rewrite[hb i (by omega)]
  conv=>lhs;whnf
  rewrite[hb j (by omega)]
  conv=>lhs;whnf
  rewrite[GI]
  conv=>lhs;whnf
  rewrite[hr]
  conv=>lhs;whnf
  rewrite[hb c d]
  conv=>lhs;whnf
  rewrite[GI]
  conv=>lhs;whnf
  rewrite[Yd ?hc]
  case hc=>decide
  conv=>lhs;whnf
  rewrite[GI]
  conv=>lhs;whnf
  rewrite[Yd ?hc]
  case hc=>decide
  conv=>lhs;whnf
  rewrite[GI]
  conv=>lhs;whnf
  rewrite[QQ ?hc]
  case hc=>decide
  conv=>lhs;whnf
  rewrite[Qz]
  conv=>lhs;whnf
  rewrite[(w) false _ _ ?hq]
  case hq=>exact λK=>by kernel_rfl
  conv=>lhs;whnf
  rewrite[(hv) false _ _ ?hq]
  case hq=>exact λK=>by kernel_rfl
  conv=>lhs;whnf
  exact k _ _ (λb=>⟨false,λK=>by kernel_rfl⟩)
end
end
section
variable{L n:Nat}
section
variable{c:Cd}
def A5f(q:40000<L)(h:c.Ok)(hn:c.ps.Nodup):CS (r! L (n+64)) GY [.agg c.cs] (S c.id):=by
 refine C5F (n:=n+1) q Ja CY wT (kO h) ?_
 match c,h,hn with
 |.re b u,⟨hb,r⟩,_=>
  have st:=A7C (L:=L) (n:=n+1) (o:=u0) hb.m (Hv b.ts) (U_ (L:=L) (n:=n+21)).o (A1E (L:=L) (n:=n+21)).o (SI L (n+21) u (by omega)).o (uB (L:=L) (n:=n+19) hb.c1 hb.c2 hb.r1 hb.r2 (by omega) hb.ts).ls;exact A49 (n:=n+1) (Hv _) (Oz []) (.inl rfl) (.inl rfl) (kO (c:=.re b u) ⟨hb,r⟩) st (A48 (n:=n) (ps:=[]) (vd:=0) (kd:=1) (by omega) hb.m (.inl rfl) hb.ts (.inl rfl) (.inl rfl) (by simp) (by simp) (by have:=G7 u;omega) (by simp) (.inl rfl) V! (by decide) hb.cl (VD L (n+21) u (by omega)) (C38 (L:=L) (n:=n+21)).ls)
 |.co b p ps none,⟨hb,a,h1,h2,f⟩,hn=>
  have k1:=a.k1;have k3:=a.k3;have e:Di ps=Ls ps:=mK (by omega);have d:=(B! (L:=L) (n:=n+60) (ps:=ps) hn (by omega) (by omega) h2).ls;rw[<-e,h1]at d;have st:=A7B (L:=L) (n:=n+1) hb.m (Hv b.ts) (U_ (L:=L) (n:=n+21)).o ⟨_,_,e⟩ ⟨_,_,rfl⟩ d (A1O (L:=L) (n:=n+17) (by omega) a).ls (SI L (n+21) p.out (Kd a)).o (uB (L:=L) (n:=n+19) hb.c1 hb.c2 hb.r1 hb.r2 (by omega) hb.ts).ls;exact A49 (n:=n+1) (Hv _) (Oz ps) (.inr ⟨_,_,rfl⟩) (.inr ⟨_,_,rfl⟩) (kO (c:=.co b p ps none) ⟨hb,a,h1,h2,f⟩) st (A48 (n:=n) (ps:=ps) (vd:=0) (kd:=2) (by omega) hb.m (.inr (.inl rfl)) hb.ts (.inr ⟨_,_,rfl⟩) (.inr ⟨_,_,rfl⟩) (by omega) (λs g=>by rw[h2 s g];decide) (by have:=G7 p.out;omega) (mL a) (.inl rfl) V! (by decide) hb.cl (VD L (n+21) _ (Kd a)) (B71 (L:=L) (n:=n+16) (by omega) a).ls)
 |.co b p ps (some (k,vd)),⟨hb,a,h1,h2,f,i,j⟩,hn=>
  have k1:=a.k1;have k3:=a.k3;have e:Di ps=Ls ps:=mK (by omega);have d:=(B! (L:=L) (n:=n+60) (ps:=ps) hn (by omega) (by omega) h2).ls;rw[<-e,h1]at d;have st:=A7A (L:=L) (n:=n+1) hb.m (Hv b.ts) (B0A (L:=L) (n:=n+21) f).o i j ⟨_,_,e⟩ ⟨_,_,rfl⟩ d (A1O (L:=L) (n:=n+17) (by omega) a).ls (SI L (n+21) p.out (Kd a)).o (uB (L:=L) (n:=n+19) hb.c1 hb.c2 hb.r1 hb.r2 (by omega) hb.ts).ls;exact A49 (n:=n+1) (Hv _) (Oz ps) (.inr ⟨_,_,rfl⟩) (.inr ⟨_,_,rfl⟩) (kO (c:=.co b p ps (some (k,vd))) ⟨hb,a,h1,h2,f,i,j⟩) st (A48 (n:=n) (ps:=ps) (vd:=vd) (kd:=3) (by omega) hb.m (.inr (.inr rfl)) hb.ts (.inr ⟨_,_,rfl⟩) (.inr ⟨_,_,rfl⟩) (by omega) (λs g=>by rw[h2 s g];decide) (by have:=G7 p.out;omega) (mL a) (C2Y f) (A43 f) (by omega) hb.cl (VD L (n+21) _ (Kd a)) (B71 (L:=L) (n:=n+16) (by omega) a).ls)
def B6l(j:40000<L)(h:c.Ok)(hn:¬c.ps.Nodup):CS (r! L (n+64)) GY [.agg c.cs] (S []):=by
 refine C3a (n:=n+1) Ja CY wT ?_
 match c,h,hn with
 |.re b u,_,hn=>exact absurd List.nodup_nil hn
 |.co b p ps none,⟨hb,e,h1,h2,f⟩,hn=>
  have k1:=e.k1;have k3:=e.k3;have d:Di ps=Ls ps:=mK (by omega);have a:=(tZ (L:=L) (n:=n+60) (ps:=ps) hn (by omega) h2).ls;rw[<-d,h1]at a;have st:=A47 (L:=L) (n:=n+1) hb.m (Hv b.ts) (U_ (L:=L) (n:=n+21)).o ⟨_,_,d⟩ ⟨_,_,rfl⟩ a (A1O (L:=L) (n:=n+17) (by omega) e).ls (SI L (n+21) p.out (Kd e)).o (uB (L:=L) (n:=n+19) hb.c1 hb.c2 hb.r1 hb.r2 (by omega) hb.ts).ls;exact A60 (n:=n+1) (Hv _) (Oz ps) (.inr ⟨_,_,rfl⟩) (.inr ⟨_,_,rfl⟩) st
 |.co b p ps (some (k,vd)),⟨hb,e,h1,h2,f,g,i⟩,hn=>
  have k1:=e.k1;have k3:=e.k3;have d:Di ps=Ls ps:=mK (by omega);have a:=(tZ (L:=L) (n:=n+60) (ps:=ps) hn (by omega) h2).ls;rw[<-d,h1]at a;have st:=A46 (L:=L) (n:=n+1) hb.m (Hv b.ts) (B0A (L:=L) (n:=n+21) f).o g i ⟨_,_,d⟩ ⟨_,_,rfl⟩ a (A1O (L:=L) (n:=n+17) (by omega) e).ls (SI L (n+21) p.out (Kd e)).o (uB (L:=L) (n:=n+19) hb.c1 hb.c2 hb.r1 hb.r2 (by omega) hb.ts).ls;exact A60 (n:=n+1) (Hv _) (Oz ps) (.inr ⟨_,_,rfl⟩) (.inr ⟨_,_,rfl⟩) st
end
end
section
variable{D r:Nat}{α:Type}
variable{L n:Nat}
def B4s(s:Ha):(sha s).length=32:=YP _ 8
def A5g(c:Cd):c.id.length=32:=B4s _
def wR(c:Cd):c.id≠[]:=λh=>by have:=A5g c;rw[h]at this;cases this
def LA(gs:ed)(a:AV):Prop:=a=.list gs.length (gs.flatMap Cd.cs)\/(gs=[]/\a=Aw)
section
variable{gs:ed}{a:AV}{c:Cd}{K:K2}{i:Nat}{H:Hp}
def LA.len(h:LA gs a):Ba Am a K=K (I gs.length):=by
 rcases h with rfl|⟨rfl,rfl⟩<;>exact id rfl
def LA.ia(h:LA gs a)(hi:i<gs.length):D4 Am a (I i) K=K (.iptr gs[i].cs):=by
 rcases h with rfl|⟨rfl,rfl⟩
 ·exact Z5 (f:=Cd.cs) rfl (λ_=>CY) hi
 ·simp at hi
def oF:AE Ae (.iptr c.cs) H K=K (.agg c.cs):=by
 match c with
 |.re b u=>exact id rfl
 |.co b p ps none=>exact id rfl
 |.co b p ps (some (k,vd))=>exact id rfl
abbrev BI:Is:=Ea 0 ⟨0,0,0,0,0⟩ u0 [] [] Aw [] [] Aw 0 Aw Aw u0 r0 0
abbrev C4M(c:Cd):Row:=.cells true Ab c.cs
def gE(gs:ed):List (Ha×Cd):=gs.map λc=>(c.id,c)
def Zs{b:List (Ha×α)}{x:Ha}(h:x∉b.map (·.1)):Lg b x=none:=by
 induction b with
 |nil=>rfl
 |cons e b ih=>
  simp only[X0,Vp,not_or]at h;unfold Lg;rw[CL (Ne.symm h.1)];exact ih h.2
def ZM{b:List (Ha×α)}{x:Ha}{v:α}(h:x∉b.map (·.1)):Ku b x v=b++[(x,v)]:=by
 induction b with
 |nil=>rfl
 |cons e b ih=>
  simp only[X0,Vp,not_or]at h;unfold Ku;rw[CL (Ne.symm h.1),ih h.2];rfl
def XD(gs:ed):(gE gs).map (·.1)=gs.map Cd.id:=by simp[gE]
end
structure GOk(gs:ed):Prop where
 ok:∀c∈gs,c.Ok
 nd:∀c∈gs,c.ps.Nodup
 ids:(gs.map Cd.id).Nodup
 len:gs.length<=8
section
variable{K:KV}{x:Af}{gs:ed}{a:AV}
abbrev DU(c:Cd):AV:=.agg c.cs
def C3h{k12:AV->KV}{w:AV}(m:GOk gs)(M:40000<L)(N:LA gs a)(Q:∀H,Ah H r=some (.map false (Dd DU (gE gs)) none)->k12 w (.mp r) H=x):∀(f i:Nat)(H:Hp),i<=gs.length->gs.length-i<f->Ah H r=some (.map false (Dd DU (gE (gs.take i))) none)->Wf H->
 Zl (L+20) (r! L (n+63)) K k12 f w (.mp r) a (I gs.length) (I i) H=x:=by
 intro f
 induction f with
 |zero=>intro i H _ h;omega
 |succ f ih=>
  intro i H hi X s wf;rw[yZ];unfold Zm Ia Fg A4 Ks FW;by_cases h:i<gs.length
  ·have hm:=Ql h;have q:=B2F (L:=L) (n:=n) M (m.ok _ hm) (m.nd _ hm);have d:gs[i].id∉(gE (gs.take i)).map (·.1):=λhc=>by
    rw[XD]at hc;have u:=m.ids;rw[<-l38 i gs,dW,l36]at u;have P:gs[i].id∈(gs.drop i).map Cd.id:=Pu.2 ⟨_,by rw[rV h];exact List.mem_cons_self,rfl⟩;exact u.2.2 _ hc _ P rfl
   rw[XA2 (by omega),Cy,N.ia h,oF,Bv (cs:=BI) rfl,BO (cs:=BI) (vs:=gs[i].cs) (Ay (by simp)) CY rfl Ja];have⟨A,B,g,w1,k1⟩:=GC (e:=Ab) (zs:=BI) (vs:=gs[i].cs) wf CY;rw[<-B,Bu rfl CY.symm g,AO q (wT A)];have j:=(k1 _ _ s).1;have t:∀(F:Value->Af),Kk (S gs[i].id) F=F (SV gs[i].id):=λF=>id rfl;rw[t,wG (f:=DU) (b:=gE (gs.take i)) (λK=>XM j),Zs d];simp only[];rw[EG,EF,Bv (cs:=BI) rfl]
   erw[BO (cs:=BI) (vs:=BI) (Ay (by simp)) rfl rfl rfl]
   have⟨V,C,O,R,y⟩:=GC (e:=Ab) (zs:=BI) (vs:=BI) w1 rfl;rw[<-C];have k:=(y _ _ j).1;have p:=(y _ _ g).1;have q1:∀{K},Aq Ai .eql (S gs[i].id) (S []) K=K (Bo false):=λ{K}=>by rw[MA,Ir (wR _)]
   simp only[gT,BK,q1,QA];rw[AY,Bu rfl CY.symm p,t,ZW (f:=DU) (v:=gs[i]) k,ZM d,CW (by have:=m.len;omega)];have J:gE (gs.take i)++[(gs[i].id,gs[i])]=gE (gs.take (i+1)):=by
    rw[nL h,gE,gE,dW];rfl
   rw[J];exact ih (i+1) _ (by omega) (by omega) ((BC k).trans rfl) (Bm R)
  ·rw[Fk (by omega),AY];have:i=gs.length:=by omega
   subst this;rw[rW]at s;exact Q H s
abbrev gV(gs:ed):AV:=.imap (Dd DU (gE gs))
def wN{m:ND}{u o:UD}{ca cb ra rb:Ha}{T P ins b:AV}{kd id vd:Int}{r:RD}{H:Hp}(g:Sl T)(f:Sl P)(d:Sl ins)(e:Sl b):Fx true (D+3) (.agg (Ea kd m u ca cb T ra rb P id ins b o r vd)) (.agg (Ea kd m u ca cb T ra rb P id ins b o r vd)) H false:=by
 rcases g with rfl|⟨_,_,rfl⟩<;>rcases f with rfl|⟨_,_,rfl⟩<;>rcases d with rfl|⟨_,_,rfl⟩<;>rcases e with rfl|⟨_,_,rfl⟩<;>exact λK=>by kernel_rfl
def wS{c:Cd}{H:Hp}:Fx true (D+3) (.agg c.cs) (.agg c.cs) H false:=by
 match c with
 |.re b u=>exact wN (Hv _) (Oz _) (.inl rfl) (.inl rfl)
 |.co b p ps none=>exact wN (Hv _) (Oz _) (.inr ⟨_,_,rfl⟩) (.inr ⟨_,_,rfl⟩)
 |.co b p ps (some (k,vd))=>exact wN (Hv _) (Oz _) (.inr ⟨_,_,rfl⟩) (.inr ⟨_,_,rfl⟩)
def C4h{H:Hp}{es:List (Ha×Cd)}(h:Ah H r=some (.map false (Dd DU es) none)):Fx true (D+4) (.mp r) (.imap (Dd DU es)) H true:=by
 intro K;show IP H r (λx=>qT x λes=>Rs (HU true H (D+3)) es λ_ b=>K true (.imap b))=_;rw[Bl h];show Rs (HU true H (D+3)) (Dd DU es) _=_;have e:∀(es:List (Ha×Cd))(F:Bool->IH->Af),Rs (HU true H (D+3)) (Dd DU es) F=F false (Dd DU es):=by
  intro es
  induction es with
  |nil=>intro F;rfl
  |cons a es ih=>
   intro F;show HU true H (D+3) (.agg a.2.cs) (λq d=>Rs (HU true H (D+3)) (Dd DU es) λg f=>F (@Bool.rec (λ_=>Bool) g true q) ((SV a.1,d)::f))=_;rw[wS,ih];rfl
 rw[e]
def A9w(e:GOk gs)(k:40000<L)(b:LA gs a)(K:KV)(j:∀g f,(∃q,Fx true depth g (.tup [gV gs,Bo true]) f q)->K g f=some (.tup [gV gs,Bo true],[])):(r! L (n+64)).call IZ [a] [] K=some (.tup [gV gs,Bo true],[]):=by
 rw[Y'];unfold fH A4 Ks FW;have em:∀(H:Hp)(K:KV),Ld Ae H K=K (.mp (Ar H)) ((Ar H,.map false [] none)::H):=λH K=>by
  show HE H (λs=>K (.mp s) ((s,.map false [] (fL Ae.d))::H))=_;rw[BS];rfl
 rw[em];simp only[BF];have h:(AV.v (.int .i64 0))=I ((0:Nat):Int):=rfl;rw[b.len,h];refine C3h e k b (λH m=>?_) (L+20) 0 _ (by omega) (by have:=e.len;omega) (Ay (by simp)) (AG Ft);rw[b.len,Eh,Ir (by have:=e.len;omega),AY];exact j _ _ ⟨_,Zo (D:=depth-1) (Al (C4h (D:=depth-5) m) (Al (q:=false) C7 AD))⟩
end
end
section
variable{c:Cd}{s:Ha}
def cE(c:Cd):Ce Ha:=⟨decide (c.kd=1),c.ps⟩
def gr(gs:ed):List (Ha×Ce Ha):=gs.map λc=>(c.id,cE c)
def C15{gs:ed}:Lg (gr gs) s=(Lg (gE gs) s).map cE:=by
 unfold gr gE
 induction gs with
 |nil=>rfl
 |cons c gs ih=>
  simp only[X0];unfold Lg;by_cases h:c.id=s
  ·simp[h]
  ·simp[h,ih]
def gU{q:Bool}{y:Bool->Af}:gdV q (.v undef) y=y false:=by cases q<;>exact id rfl
section
variable{gs:ed}{b:List (Ha×Bool)}{H:Hp}{K:KV}
def B2L{r:Nat}(h:Ah H r=some (C4M c)){K:K2}:AE Ac (.ptr r 31 0) H K=K (Di c.ps):=by
 match c with
 |.re b u=>exact AL (p:=31) rfl h (show 31<68 by decide)
 |.co b p ps none=>exact AL (p:=31) rfl h (show 31<68 by decide)
 |.co b p ps (some (k,vd))=>exact AL (p:=31) rfl h (show 31<68 by decide)
def C16(h:Lg (gE gs) s=some c):c∈gs/\c.id=s:=by
 have:=A6r h;have⟨a,h1,h2⟩:=Pu.1 this;cases h2
 exact⟨h1,rfl⟩
end
end
end Go.Abs
end
noncomputable section
end
noncomputable section
namespace Go.Abs
open Go.RowKit Go.Proofs
set_option maxRecDepth 100000
section
variable{L n:Nat}
def SA(l:List Ha)(a:AV):Prop:=a=Ls l\/(l=[]/\a=Aw)
def Lo(l:List Ha):SA l (Di l):=by cases l with|nil=>exact .inr ⟨rfl,rfl⟩|cons p l=>exact .inl rfl
section
variable{l:List Ha}{a:AV}{i:Nat}{K:K2}{s:Ha}
def SA.len(h:SA l a):Ba Ac a K=K (I l.length):=by
 rcases h with rfl|⟨rfl,rfl⟩
 ·exact Nk
 ·exact id rfl
def SA.ia(h:SA l a)(hi:i<l.length):D4 Ac a (I i) K=K (.iptr [S l[i]]):=by
 rcases h with rfl|⟨rfl,rfl⟩
 ·exact Tx hi
 ·simp at hi
def SA.fx(h:SA l a)(H:Hp):Fx true depth a a H false:=by
 rcases h with rfl|⟨rfl,rfl⟩<;>exact λK=>by kernel_rfl
def nQ(s:Ha):List Ha->Nat->AV
 |[],_=>.tup [Bo false,I (-1)]
 |a::l,i=>if a=s then .tup [Bo true,I i] else nQ s l (i+1)
def jP:∀(l:List Ha)(i:Nat),s∉l->nQ s l i=.tup [Bo false,I (-1)]:=by
 intro l
 induction l with
 |nil=>intro i _;rfl
 |cons a l ih=>
  intro i h;simp only[Vp,not_or]at h;unfold nQ;rw[CL (Ne.symm h.1)];exact ih _ h.2
def jO:∀(l:List Ha)(i:Nat),s∈l->∃k,∃h:k<l.length,l[k]=s/\(∀m(hm:m<k),l[m]≠s)/\nQ s l i=.tup [Bo true,I ((i+k:Nat):Int)]:=by
 intro l
 induction l with
 |nil=>intro i h;cases h
 |cons a l ih=>
  intro i h;unfold nQ;by_cases e:a=s
  ·exact⟨0,by simp,e,λm hm=>by omega,by rw[Dv e];rfl⟩
  ·have⟨k,c,h1,h2,b⟩:=ih (i+1) ((Vp.1 h).resolve_left (Ne.symm e));refine⟨k+1,by simp;omega,by simpa using h1,λm hm=>?_,by rw[CL e,b];congr 4;omega⟩;cases m with
   |zero=>exact e
   |succ m=>exact h2 m (by omega)
end
section
variable{K:KV}{x:Af}{l:List Ha}{a:AV}{s:Ha}
def C0S{k3:Ru}{H:Hp}(c:SA l a)(hb:l.length<1000){v:AV}(hv:K v H=x)(d:v=.tup [Bo false,I (-1)]->k3 H=x):∀(f i:Nat),i<=l.length->l.length-i<f->nQ s (l.drop i) i=v->
 Wx (L+20) (r! L n) K k3 f a (S s) (I i) H=x:=by
 intro f
 induction f with
 |zero=>intro i _ h;omega
 |succ f ih=>
  intro i hi g b;rw[tV];unfold Wy Ia A4 Ks;rw[c.len];by_cases h:i<l.length
  ·rw[rV h]at b;unfold nQ at b;rw[XA2 (by omega),Cy,c.ia h,JS,MA];by_cases e:l[i]=s
   ·rw[Dv e]at b;rw[Hu e,Cy,b];exact hv
   ·rw[CL e]at b;rw[Ir e,AY,CW (by omega)];exact ih (i+1) (by omega) (by omega) b
  ·rw[Fk (by omega),AY];have:i=l.length:=by omega
   subst this;rw[List.drop_length]at b;exact d b.symm
def B6U(f:SA l a)(hb:l.length<1000)(g:2000<L):CS (r! L (n+1)) TY [a,S s] (nQ s l 0):=by
 intro K d;have fin:∀H,K (nQ s l 0) H=some (nQ s l 0,[]):=λH=>d _ _ (λb=>⟨false,by
  by_cases h:s∈l
  ·have⟨k,_,_,_,e⟩:=jO l 0 h;rw[e];exact λK=>by kernel_rfl
  ·rw[jP l 0 h];exact λK=>by kernel_rfl⟩)
 rw[yJ];unfold YX A4 FW;simp only[BF];have c:(AV.v (.int .i64 0))=I ((0:Nat):Int):=rfl;rw[c];refine C0S f hb (fin []) (λe=>?_) (L+20) 0 (by omega) (by omega) (by rw[qV]);have:=fin [];rw[e]at this;rw[e];exact this
end
end
section
variable{w:AV}{ws:List Int}
variable{L n:Nat}
def CT(R:Rt)(f:Nat)(args:Is)(v:AV):Prop:=∀K:KV,(∀e d,(∃q,Fx true depth e v d q)->K e d=some (v,[]))->R.call f args [] K=some (v,[])
def CT.z{R:Rt}{f:Nat}{args args':Is}{v:AV}{H:Hp}{K:K2}(hc:CT R f args' v)(d:RZ true depth args args' H false):Ap R f args H K=K v:=Iw hc d
def pk(c n:Int):Int:=(if c<0 then-(c+1) else c)%n
def FT{c n:Int}(h:0<n):0<=pk c n/\pk c n<n:=⟨Int.emod_nonneg _ (by omega),Int.emod_lt_of_pos _ h⟩
section
variable{K:KV}{a:AV}{s:Ha}{gs:ed}{H:Hp}
def LA.fx(h:LA gs a)(H:Hp):Fx true depth a a H false:=by rcases h with rfl|⟨_,rfl⟩<;>exact λK=>by kernel_rfl
def A6s:(∃h:s∈gs.map Cd.id,∃k,∃d:k<gs.length,Lg (gE gs) s=some gs[k]/\nQ s (gs.map Cd.id) 0=.tup [Bo true,I (k:Int)])\/(s∉gs.map Cd.id/\Lg (gE gs) s=none/\nQ s (gs.map Cd.id) 0=.tup [Bo false,I (-1)]):=by
 by_cases h:s∈gs.map Cd.id
 ·left;have⟨k,d,h1,h2,f⟩:=jO _ 0 h;refine⟨h,k,by simpa using d,?_,by rw[f,JZ]⟩;clear h f
  induction gs generalizing k with
  |nil=>simp at d
  |cons c gs ih=>
   show Lg ((c.id,c)::gE gs) s=_;unfold Lg;cases k with
   |zero=>simp at h1;rw[Dv h1];rfl
   |succ k=>
    have e:=h2 0 (by omega);simp at e;rw[CL e];exact ih k (by simpa using d) (by simpa using h1) (λm hm=>by simpa using h2 (m+1) (by omega))
 ·exact .inr ⟨h,Zs (by rw[XD];exact h),jP _ 0 h⟩
def A8g{z:Int}{K:K2}(h1: -9223372036854775808<z)(h2:z<9223372036854775808):MJ .neg (I z) K=K (I (-z)):=by
 have e:MJ .neg (I z) K=OX .i64 (0-z) λz=>K (.v (.int .i64 z)):=rfl;rw[e,IX,Int.zero_sub,CX (by omega) (by omega)]
end
def Kv(z:Int):Prop:= -9223372036854775808<=z/\z<9223372036854775808
section
variable{c m:Int}
def uE{K:K2}(hc:Kv c)(hm:0<m)(e:m<9223372036854775808){k1:K2}(d:k1= λv=>Aq Ad .rem v (I m) K):
 (Aq Ad .lss (I c) (.v (.int .i64 0)) λf=>A2 f (Aq Ad .add (I c) (.v (.int .i64 1)) λg=>MJ .neg g λi=>k1 i) (k1 (I c)))=K (I (pk c m)):=by
 subst d;have⟨h1,h2⟩:=hc;rw[DO];by_cases h:c<0
 ·rw[Hu h,Cy,Dp,CX (by omega) (by omega),A8g (by omega) (by omega)];show Aq Ad .rem (I (-(c+1))) (I m) K=_;rw[Tz (by omega),Int.tmod_eq_emod_of_nonneg (by omega)];unfold pk;rw[Dv h]
 ·rw[Ir h,AY];show Aq Ad .rem (I c) (I m) K=_;rw[Tz (by omega),Int.tmod_eq_emod_of_nonneg (by omega)];unfold pk;rw[CL h]
def uG(hc:Kv c)(hm:0<m)(d:m<9223372036854775808):PS (r! L (n+1)) IC [I c,I m] (I (pk c m)):=by
 refine CS.ps (λK e=>?_) (λH=>λK=>by kernel_rfl);rw[vH];unfold Xr A4;simp only[BF];exact(uE (K:=λv=>K v []) hc hm d rfl).trans (e _ _ (λb=>⟨false,λK=>by kernel_rfl⟩))
def A1P(hc:Kv c)(hm:0<m)(d:m<9223372036854775808):PS (r! L (n+1)) Mz [I c,I m] (I (pk c m)):=by
 refine CS.ps (λK e=>?_) (λH=>λK=>by kernel_rfl);rw[uK];unfold WY A4;simp only[BF];exact(uE (K:=λv=>K v []) hc hm d rfl).trans (e _ _ (λb=>⟨false,λK=>by kernel_rfl⟩))
def MU(hc:Kv c)(hm:0<m)(d:m<9223372036854775808):PS (r! L (n+1)) BU [I c,I m] (I (pk c m)):=by
 refine CS.ps (λK e=>?_) (λH=>λK=>by kernel_rfl);rw[uM];unfold Xa A4;simp only[BF];exact(uE (K:=λv=>K v []) hc hm d rfl).trans (e _ _ (λb=>⟨false,λK=>by kernel_rfl⟩))
def uF(hc:Kv c)(hm:0<m)(d:m<9223372036854775808):PS (r! L (n+1)) J6 [I c,I m] (I (pk c m)):=by
 refine CS.ps (λK e=>?_) (λH=>λK=>by kernel_rfl);rw[uW];unfold Xl A4;simp only[BF];exact(uE (K:=λv=>K v []) hc hm d rfl).trans (e _ _ (λb=>⟨false,λK=>by kernel_rfl⟩))
def MV(hc:Kv c)(hm:0<m)(d:m<9223372036854775808):PS (r! L (n+1)) C5 [I c,I m] (I (pk c m)):=by
 refine CS.ps (λK e=>?_) (λH=>λK=>by kernel_rfl);rw[uQ];unfold Xg A4;simp only[BF];exact(uE (K:=λv=>K v []) hc hm d rfl).trans (e _ _ (λb=>⟨false,λK=>by kernel_rfl⟩))
end
section
variable{K:KV}{H:Hp}
def NA(ws:List Int)(w:AV):Prop:=(w=.list ws.length (Ff ws)\/(ws=[]/\w=Aw))/\ws.length<9223372036854775808/\∀z∈ws,Kv z
def NA.len{K:K2}(h:NA ws w):Ba Bi w K=K (I ws.length):=by
 rcases h.1 with rfl|⟨rfl,rfl⟩<;>exact id rfl
def NA.ia{K:K2}{i:Nat}(h:NA ws w)(hi:i<ws.length)(hb:i<1000000):(D4 Bi w (I i) λp=>AE Ad p H K)=K (I ws[i]):=by
 rcases h.1 with rfl|⟨rfl,rfl⟩
 ·have el:(Ff ws).length=ws.length:=by simp[Ff]
  rw[Zz rfl el (by omega) (by omega),kY,NI rfl,Th hi]
 ·simp at hi
end
end
section
variable{L n:Nat}
section
variable{c:Int}
def B72{k m:Int}(a:0<=k)(h1:k<m):pk k m=k:=by
 unfold pk;rw[CL (by omega),Int.emod_eq_of_lt a h1]
def B0n:((List.range 7).all λi=>JY (Bj (Dz (r! L (n+42)) Gw [I (i:Nat)]) (.agg (uu i).cs)))=true:=by kernel_rfl
def A45(hc:Kv c):PS (r! L (n+42)) Gw [I c] (.agg (Cz (uu (pk c 7).toNat))):=by
 have pr:=FT (c:=c) (n:=7) (by decide);obtain⟨k,b⟩:∃k:Nat,pk c 7=k:=⟨(pk c 7).toNat,by omega⟩
 have a:k<7:=by omega
 refine BM (λH K=>by kernel_rfl) ?_;have e:Dz (r! L (n+42)) Gw [I c]=Dz (r! L (n+42)) Gw [I (k:Nat)]:=by
  unfold Dz;rw[Za,Za];unfold Xh Ih;have h1:∀H K,Ap (r! L (n+41)) C5 [I c,.v (.int .i64 7)] H K=K (I (pk c 7)):=MV (n:=n+40) hc (by decide) (by decide);have h2:∀H K,Ap (r! L (n+41)) C5 [I (k:Int),.v (.int .i64 7)] H K=K (I (pk k 7)):=MV (n:=n+40) (by unfold Kv;omega) (by decide) (by decide);simp only[h1,h2,b,B72 (k:=(k:Int)) (m:=7) (by omega) (by omega)]
 rw[e,b,kY];exact G9.1 B0n k (Lf.2 a)
def B0z:((List.range 3).all λi=>JY (Bj (Dz (r! L (n+2)) KK [I (i:Nat)]) (.agg (rr (1+i)).cs)))=true:=by kernel_rfl
def B4S(hc:Kv c):PS (r! L (n+2)) KK [I c] (.agg (rr (1+(pk c 3).toNat)).cs):=by
 have pr:=FT (c:=c) (n:=3) (by decide);obtain⟨k,b⟩:∃k:Nat,pk c 3=k:=⟨(pk c 3).toNat,by omega⟩
 have a:k<3:=by omega
 refine BM (λH K=>by kernel_rfl) ?_;have e:Dz (r! L (n+2)) KK [I c]=Dz (r! L (n+2)) KK [I (k:Nat)]:=by
  unfold Dz;rw[YY,YY];unfold Xd DN A4;have h1:∀H K,Ap (r! L (n+1)) BU [I c,.v (.int .i64 3)] H K=K (I (pk c 3)):=MU (n:=n) hc (by decide) (by decide);have h2:∀H K,Ap (r! L (n+1)) BU [I (k:Int),.v (.int .i64 3)] H K=K (I (pk k 3)):=MU (n:=n) (by unfold Kv;omega) (by decide) (by decide);simp only[h1,h2,b,B72 (k:=(k:Int)) (m:=3) (by omega) (by omega)]
 rw[e,b,kY];exact G9.1 B0z k (Lf.2 a)
def W?(c:Int):Ha:=sha (Js [c])
def A1H(e:40000<L)(h1: -10<=c)(h2:c<1090):PS (r! L (n+20)) Kn [I c] (S (W? c)):=by
 refine CS.ps (λK d=>?_) (λH=>λK=>by kernel_rfl);rw[mQ];unfold SO Ih;have a:=F9 [c];have fx:RZ true depth [.sl 1 (Ar []) 0 1] [.list 1 (Ff [c])] ((Ar [],.cells false Hh (Ff [c]))::[]) true:=
  Al (q:=true) (q':=false) (Yb (D:=depth-1) (q':=false) (Ay (by simp)) rfl (Lz (λz:Int=>Value.int .i64 z) [c])) AD
 rw[dB,AO (A_ (L:=L) (n:=n+14) (l:=[c]) (by simp) (by simp;omega) (by simp;omega)) fx,AO (B6Q (L:=L+20) (n:=n+16) (s:=Js [c]) (by simp only[LI,Rv]at a;omega) (by simp only[LI,Rv]at a;omega)) (q:=false) (λK=>by kernel_rfl)];exact d _ _ (λb=>⟨false,λK=>by kernel_rfl⟩)
end
end
section
variable{v:AV}{H:Hp}{i2 ie:TI}
variable{L n:Nat}
def zG{e sz n:Nat}{cs ys:Is}(h:Bp H e sz v n cs)(w:Wf H)(u:ys.length=sz)(h1:ys.all AV.one=true)(hsz:sz≠0)(hz:(B4 ie.zero).length=sz)(t:∀s,(YD i2.d&&Sj sz (.sl sz s 0 1))=true)(hb:(n+1)*ie.bytes<=70368744177664)(j:n+1<=70368744177664):
 ∃g a,(∀K:KV,E0 e sz ie i2 v (.sl sz (Ar H) 0 1) ((Ar H,.cells false e ys)::H) K=K g a)/\Bp a e sz g (n+1) (cs++ys)/\Wf a/\Ar H<=Ar a/\(∀s x,Ah H s=some x->¬A8 v s->Ah a s=some x)/\(∀s,A8 g s->Ar H<=s):=by
 have m:Bp ((Ar H,.cells false e ys)::H) e sz v n cs:=h.lat w (Lat.cons H _ (λ_=>False)) (λ_ _ h=>h);have f:Bp ((Ar H,.cells false e ys)::H) e sz (.sl sz (Ar H) 0 1) 1 ys:=.inr ⟨Ar H,false,rfl,Ay (by simp),by omega⟩;have⟨g,a,h1,h2,p,q⟩:=apt (ie:=ie) (i2:=i2) m (λK=>RL (K:=K) f) (by omega) h1 hsz hz (t _) hb j;have i:=(Lat.cons H (.cells false e ys) (A8 v)).trans q (R:=A8 v) (λ_ _ h=>h) (λ_ _ h=>h);refine⟨g,a,h1,h2,i.wf w,i.nx,λs x k hn=>i.keep w s x k hn,λs k=>?_⟩;rw[p s k];exact l1u _
def C6J{e sz n:Nat}{v x:AV}{cs ys:Is}(i:∀K:KV,GF e sz ie 1 [(0,sz,x)] H K=K (.sl sz (Ar H) 0 1) ((Ar H,.cells false e ys)::H))(h:Bp H e sz v n cs)(w:Wf H)(k:ys.length=sz)(h1:ys.all AV.one=true)(hsz:sz≠0)(hz:(B4 ie.zero).length=sz)(m:∀s,(YD i2.d&&Sj sz (.sl sz s 0 1))=true)(hb:(n+1)*ie.bytes<=70368744177664)(g:n+1<=70368744177664):
 ∃f a,(∀K:KV,(GF e sz ie 1 [(0,sz,x)] H λv1 j=>E0 e sz ie i2 v v1 j K)=K f a)/\Bp a e sz f (n+1) (cs++ys)/\Wf a/\Ar H<=Ar a/\(∀s x,Ah H s=some x->¬A8 v s->Ah a s=some x)/\(∀s,A8 f s->Ar H<=s):=by
 have⟨f,a,a1,a2⟩:=zG (ie:=ie) (i2:=i2) h w k h1 hsz hz m hb g;exact⟨f,a,λK=>by rw[i];exact a1 K,a2⟩
def gA{i:TI}{s p e:Nat}{q:Bool}{cs vs:Is}{K:Ru}(f:Ah H s=some (.cells q e cs))(g:p+vs.length<=cs.length)(hz:i.size=vs.length)(h1:vs.all AV.one=true):DE i (.ptr s p 0) (.agg vs) H K=K (upd H s (.cells q e (splice cs p vs))):=by
 have d:DE i (.ptr s p 0) (.agg vs) H K=IP H s λx=>iK x λq e cs=>He (.agg vs) λvs=>HN vs 0 λn=>ck (Nat.beq n i.size) (ck (Oe vs) (Ey (Nat.add p 0) vs cs λa=>LJ H s (.cells q e a) K)):=rfl;rw[d,Bl f];show(He (.agg vs) λvs=>HN vs 0 λn=>ck (Nat.beq n i.size) (ck (Oe vs) (Ey p vs cs λa=>LJ H s (.cells q e a) K)))=_;have hc:B4 (.agg vs)=vs:=rfl;rw[CP,hc,C4,hz,FM,h1,JZ,oW];show Ey p vs cs _=_;rw[It _ _ _ _ (by omega),Dh]
def Bp.one{e sz n:Nat}{cs:Is}(h:Bp H e sz v n cs):AV.one v=true:=by
 rcases h with⟨rfl,_⟩|⟨r,q,rfl,_⟩<;>rfl
def Bp.cell{e sz n:Nat}{cs:Is}(h:Bp H e sz v n cs):B4 v=[v]:=by
 rcases h with⟨rfl,_⟩|⟨r,q,rfl,_⟩<;>rfl
def tmV(t:Int×Int):Hx:=[.int .i64 t.1,.string ⟨⟨qn t.2⟩⟩,.string ⟨⟨qd t.2⟩⟩]
def C2C(l:eO):l.flatMap NO=(l.flatMap tmV).map λx=>.v x:=by
 induction l with
 |nil=>rfl
 |cons k l ih=>rw[nM,nM,dW,ih];rfl
def C0X{D:Nat}{b:Bool}{l:eO}(h:Bp H Bf 3 v l.length (l.flatMap NO))(f:l=[]->v=Aw):∃q,Fx b (D+1) v (E4 l) H q:=by
 rcases h with⟨rfl,h2,_⟩|⟨r,q,rfl,h2,d⟩
 ·cases l with
  |nil=>exact⟨false,C7⟩
  |cons a l=>simp at h2
 ·cases l with
  |nil=>have:=f rfl;cases this
  |cons a l=>
   refine⟨true,?_⟩;show Fx b (D+1) _ (.list (a::l).length ((a::l).flatMap NO)) H true;rw[C2C]at h2 d⊢;exact Yb (q':=false) h2 d (Lz _root_.id _)
def LP(x:List Int):Nat->eO
 |0=>[]
 |i+1=>if pk (x.getD i 0) 17-8≠0/\(LP x i).length<5 then LP x i++[(1+(i:Int),pk (x.getD i 0) 17-8)] else LP x i
def A5S(x:List Int):∀i,i<=6->TmsOk (LP x i)/\(LP x i).length<=5/\∀t∈LP x i,t.1<=i:=by
 intro i
 induction i with
 |zero=>intro _;exact⟨⟨by simp[LP],by simp[LP],by simp[LP]⟩,by simp[LP],by simp[LP]⟩
 |succ i ih=>
  intro hi;have⟨h1,h2,f⟩:=ih (by omega);have pr:=FT (c:=x.getD i 0) (n:=17) (by decide);unfold LP;by_cases h:pk (x.getD i 0) 17-8≠0/\(LP x i).length<5
  ·rw[Dv h];refine⟨⟨by simp;omega,λt d=>?_,?_⟩,by simp;omega,λt d=>?_⟩
   ·rcases dV.1 d with d|d
    ·exact h1.rng t d
    ·rw[XY]at d;subst d;simp only;omega
   ·rw[List.pairwise_append];refine⟨h1.asc,by simp,λa g b hb=>?_⟩;rw[XY]at hb;subst hb;have:=f a g;simp only;omega
   ·rcases dV.1 d with d|d
    ·have:=f t d;omega
    ·rw[XY]at d;subst d;simp only;omega
  ·rw[CL h];exact⟨h1,h2,λt d=>by have:=f t d;omega⟩
def C6H{t:Int×Int}{K:KV}:GF Bf 3 BJ 1 [(0,3,.agg (NO t))] H K=K (.sl 3 (Ar H) 0 1) ((Ar H,.cells false Bf (NO t))::H):=by
 have e:GF Bf 3 BJ 1 [(0,3,.agg (NO t))] H K=HE H (λs=>K (.sl 3 s 0 1) ((s,.cells false Bf (NO t))::H)):=r_ rfl;rw[e,BS]
section
variable{K:KV}{x:Af}{xs:List Int}{ca cb ra rb:Ha}{b r z:Nat}{c e:Int}
abbrev C4q(ca cb ra rb:Ha)(v:AV):Row:=.cells true Ek [S ca,S cb,v,S ra,S rb]
structure FmH(b r z:Nat)(xs:List Int)(ca cb ra rb:Ha)(ts:eO)(v:AV)(H:Hp):Prop where
 hb:Ah H b=some (c_ Jv (Ff xs))
 hr:Ah H r=some (C4q ca cb ra rb v)
 hz:∃cs,cs.length=5/\Ah H z=some (c_ Ek cs)
 sl:Bp H Bf 3 v ts.length (ts.flatMap NO)
 nl:ts=[]->v=Aw
 nb:¬A8 v b
 nr:¬A8 v r
 nz:¬A8 v z
 wf:Wf H
def B2i{t:TI}{e sz n:Nat}{cs:Is}{K:K2}(a:t.d=.slice e sz)(h:Bp H e sz v n cs):Ba t v K=K (I n):=LD a h
def C4p{C:AV->KV}(hL:100<L)(P:b≠r)(Z:z≠r)(hx:xs.length=6)(w:∀c∈xs,Kv c)(u:∀v H,FmH b r z xs ca cb ra rb (LP xs 6) v H->C (.ptr z 0 0) (.ptr r 0 0) H=x):
 ∀(f i:Nat)(v:AV)(H:Hp),i<=6->6-i<f->FmH b r z xs ca cb ra rb (LP xs i) v H->
 UC (L+20) (r! L (n+40)) K C f (.ptr b 0 0) (.ptr z 0 0) (.ptr r 0 0) (I i) H=x:=by
 intro f
 induction f with
 |zero=>intro i v H _ h;omega
 |succ f ih=>
  intro i v H hi hf a;rw[pW];unfold UE DN Yo Ia D5 A4 FW;have e6:(AV.v (.int .i64 6))=I ((6:Nat):Int):=rfl;rw[e6];by_cases h:i<6
  ·have g:i<xs.length:=by omega
   have R:(Ff xs).getD i .dk=I (xs.getD i 0):=by rw[Th g];simp[List.getD,KJ g]
   have hc:Kv (xs.getD i 0):=by simp only[List.getD,KJ g,l1q];exact w _ (Ql g)
   have pr:=FT (c:=xs.getD i 0) (n:=17) (by decide);have ld:∀{K},AE Ad (.ptr b i 0) H K=K (I (xs.getD i 0)):=λ{K}=>by rw[AL (p:=i) rfl a.hb (by simp[Ff];omega),R]
   have Y:∀H K,Ap (r! L (n+40)) J6 [I (xs.getD i 0),.v (.int .i64 17)] H K=K (I (pk (xs.getD i 0) 17)):=uF (n:=n+39) hc (by decide) (by decide);have ia:∀{K:K2},D4 BB (.ptr b 0 0) (I i) K=K (.ptr b i 0):=λ{K}=>XA0 i rfl rfl h;rw[XA2 (by omega),Cy];simp only[BF];rw[ia,ld,Y,Le,CX (by omega) (by omega)];have V:∀{K:K2},Aq Ad .neq (I (pk (xs.getD i 0) 17-8)) (.v (.int .i64 0)) K=K (Bo (decide (pk (xs.getD i 0) 17-8≠0))):=λ{K}=>by rw[I2];simp
   rw[V];have d:LP xs (i+1)=if pk (xs.getD i 0) 17-8≠0/\(LP xs i).length<5 then LP xs i++[(1+(i:Int),pk (xs.getD i 0) 17-8)] else LP xs i:=rfl
   have add:∀{K:K2},Aq Ad .add (I i) (.v (.int .i64 1)) K=K (I ((i+1:Nat):Int)):=λ{K}=>CW (by omega);by_cases F:pk (xs.getD i 0) 17-8=0
   ·rw[Ir (by simpa using F)];simp only[dY,BK,QA];rw[AY,add];rw[CL λa=>a.1 F]at d;exact ih (i+1) v H (by omega) (by omega) (by rw[d];exact a)
   ·have ab:=(A5S xs i (by omega)).2.1;have f2:∀K:K2,CI 2 (.ptr r 0 0) K=K (.ptr r 2 0):=λK=>id rfl;have l2:∀K,AE A1 (.ptr r 2 0) H K=K v:=λK=>AL (p:=2) rfl a.hr (by simp);rw[Hu (by simpa using F)];simp only[gT,BK,SJ,f2,l2,B2i (t:=A1) rfl a.sl];have e5:(AV.v (.int .i64 5))=I ((5:Nat):Int):=rfl;rw[e5];by_cases h5:(LP xs i).length<5
    ·rw[XA2 (by omega),BK,Cy];rw[Dv ⟨F,h5⟩]at d;have X:∀H K,Ap (r! L (n+40)) Gx [I (pk (xs.getD i 0) 17-8),.v (.int .i64 4)] H K=K (.tup [.agg (qa (pk (xs.getD i 0) 17-8)),I 0]):=B0D (by omega) (by omega);rw[X,EG,EF,Bv (cs:=[zS,zS]) rfl];have A:=Ay (H:=H) (x:=.cells true Bw [zS,zS]) (by simp);have w1:=AG (x:=.cells true Bw [zS,zS]) a.wf;rw[BO (vs:=qa (pk (xs.getD i 0) 17-8)) A rfl rfl rfl];have k:=AC (q:=true) (e:=Bw) (cs:=qa (pk (xs.getD i 0) 17-8)) A;have kp:∀s x,Ah H s=some x->Ah (upd ((Ar H,c_ Bw [zS,zS])::H) (Ar H) (c_ Bw (qa (pk (xs.getD i 0) 17-8)))) s=some x:=λs x j=>by
      have:=a.wf.lt j;rw[Ag (by omega)];exact A6 this j
     have w2:=Bm (r:=Ar H) (y:=.cells true Bw (qa (pk (xs.getD i 0) 17-8))) w1;generalize upd ((Ar H,c_ Bw [zS,zS])::H) (Ar H) (c_ Bw (qa (pk (xs.getD i 0) 17-8)))=D at k kp w2;generalize Ar H=r1 at k;have l3:∀K,AE A1 (.ptr r 2 0) D K=K v:=λK=>AL (p:=2) rfl (kp _ _ a.hr) (by simp);have l4:∀K,AE A3 (.ptr r1 0 0) D K=K (.agg (qa (pk (xs.getD i 0) 17-8))):=λK=>Bu rfl rfl k;have M:∀{K:K2},Aq Ad .add (.v (.int .i64 1)) (I i) K=K (I (1+(i:Int))):=λ{K}=>by rw[Dp,CX (by omega) (by omega)]
     have bd:∀{K:K2},Cb BJ [(0,1,I (1+(i:Int))),(1,2,.agg (qa (pk (xs.getD i 0) 17-8)))] K=K (.agg (NO (1+(i:Int),pk (xs.getD i 0) 17-8))):=λ{K}=>id rfl;rw[l3,M,l4,bd];have aa:Bp D Bf 3 v (LP xs i).length ((LP xs i).flatMap NO):=by
      rcases a.sl with j|⟨r2,q,h2,N,O⟩
      ·exact .inl j
      ·exact .inr ⟨r2,q,h2,kp _ _ N,O⟩
     have⟨v',H',a1,a2,a3,a4,J,a6⟩:=C6J (ie:=BJ) (i2:=A1) (λK=>C6H (t:=(1+(i:Int),pk (xs.getD i 0) 17-8)) (H:=D) (K:=K)) aa w2 rfl rfl (by decide) rfl (λ_=>rfl) (by show _*40<=_;omega) (by omega);have B:Ah H' r=some (C4q ca cb ra rb v):=J _ _ (kp _ _ a.hr) a.nr;rw[a1,DT B (by simp) rfl (Bp.cell a2) (Bp.one a2),add];have⟨cs,Q,m⟩:=a.hz;have new:∀{s x},Ah H s=some x->¬A8 v' s:=λ{s x}j hv=>by
      have h1:=w2.lt (kp _ _ j);have h2:=a6 _ hv;omega
     refine ih (i+1) v' _ (by omega) (by omega) ⟨?_,AC B,⟨cs,Q,?_⟩,?_,?_,new a.hb,new a.hr,new m,Bm a3⟩
     ·rw[Ag P];exact J _ _ (kp _ _ a.hb) a.nb
     ·rw[Ag Z];exact J _ _ (kp _ _ m) a.nz
     ·rw[d,EN,l2l];have:(List.flatMap NO [(1+(i:Int),pk (xs.getD i 0) 17-8)])=NO (1+(i:Int),pk (xs.getD i 0) 17-8):=by simp
      rw[this];rcases a2 with j|⟨r2,q,h2,N,O⟩
      ·exact .inl j
      ·refine .inr ⟨r2,q,h2,?_,O⟩;rw[Ag (λe=>new a.hr (by rw[h2,<-e];exact⟨_,_,_,rfl⟩))];exact N
     ·rw[d];intro hc;simp at hc
    ·rw[Fk (by omega),BK,AY,add];rw[CL λa=>h5 a.2]at d;exact ih (i+1) v H (by omega) (by omega) (by rw[d];exact a)
  ·have:i=6:=by omega
   subst this;rw[Fk (by omega),AY];exact u v H a
def F'(l:List Int):(Ff l).all AV.one=true:=by
 rw[G9];intro a d;obtain⟨z,_,rfl⟩:=Pu.1 d;rfl
def B0H(N:100<L)(hc:Kv c)(hr:Kv e)(P:xs.length=6)(hi:∀c∈xs,Kv c):CS (r! L (n+41)) RF [I c,I e,.agg (Ff xs)] (.agg [S (qn (pk c 161-80)),S (qd (pk c 161-80)),E4 (LP xs 6),S (qn (pk e 9)),S (qd (pk e 9))]):=by
 intro K M;rw[uZ];unfold Xn A4;have p1:=FT (c:=c) (n:=161) (by decide);have p2:=FT (c:=e) (n:=9) (by decide);have k1:∀H K,Ap (r! L (n+40)) J6 [I c,.v (.int .i64 161)] H K=K (I (pk c 161)):=uF (n:=n+39) hc (by decide) (by decide);have Q:∀H K,Ap (r! L (n+40)) J6 [I e,.v (.int .i64 9)] H K=K (I (pk e 9)):=uF (n:=n+39) hr (by decide) (by decide);have R:∀H K,Ap (r! L (n+40)) Gx [I (pk c 161-80),.v (.int .i64 4)] H K=K (.tup [.agg (qa (pk c 161-80)),I 0]):=B0D (by omega) (by omega);have V:∀H K,Ap (r! L (n+40)) Gx [I (pk e 9),.v (.int .i64 4)] H K=K (.tup [.agg (qa (pk e 9)),I 0]):=B0D (by omega) (by omega);rw[DZ (F' xs)];have hb:=Ay (H:=[]) (x:=.cells true Jv (Ff xs)) (by simp);have w0:=AG (x:=.cells true Jv (Ff xs)) Ft;generalize ((Ar [],c_ Jv (Ff xs))::([]:Hp))=j at hb w0;generalize Ar []=b at hb;rw[Bv (cs:=[zS,zS,Aw,zS,zS]) rfl];have hz:=Ay (H:=j) (x:=.cells true Ek [zS,zS,Aw,zS,zS]) (by simp);have b1:=A6 (x:=.cells true Ek [zS,zS,Aw,zS,zS]) (w0.lt hb) hb;have nb:=w0.lt hb;have w1:=AG (x:=.cells true Ek [zS,zS,Aw,zS,zS]) w0;generalize ((Ar j,c_ Ek [zS,zS,Aw,zS,zS])::j)=w at hz w1 b1;generalize Ar j=z at hz nb;have A:∀{K:K2},Cb Fo [] K=K (.agg [zS,zS,Aw,zS,zS]):=λ{K}=>id rfl;rw[A,Bv (cs:=[zS,zS,Aw,zS,zS]) rfl];have⟨k,B,r2,X,kp⟩:=GC (e:=Ek) (zs:=[zS,zS,Aw,zS,zS]) (vs:=[zS,zS,Aw,zS,zS]) w1 rfl;rw[BO (vs:=[zS,zS,Aw,zS,zS]) (Ay (by simp)) rfl rfl rfl,<-B];have⟨b2,a⟩:=kp _ _ b1;have⟨Y,d⟩:=kp _ _ hz;generalize Ar w=r at r2 a d;have C:∀K:K2,CI 0 (.ptr r 0 0) K=K (.ptr r 0 0):=λK=>id rfl;have f3:∀K:K2,CI 3 (.ptr r 0 0) K=K (.ptr r 3 0):=λK=>id rfl;rw[k1,Le,CX (by omega) (by omega),R,EG,EF,C,gA (vs:=qa (pk c 161-80)) r2 (show 0+2<=5 by decide) rfl rfl];have p:=AC (q:=true) (e:=Ek) (cs:=splice [zS,zS,Aw,zS,zS] 0 (qa (pk c 161-80))) r2;have m:=b2;have t:=Y;rw[<-Ag (H:=k) (r:=r) (y:=.cells true Ek (splice [zS,zS,Aw,zS,zS] 0 (qa (pk c 161-80)))) a]at m;rw[<-Ag (H:=k) (r:=r) (y:=.cells true Ek (splice [zS,zS,Aw,zS,zS] 0 (qa (pk c 161-80)))) d]at t;have u:=Bm (r:=r) (y:=.cells true Ek (splice [zS,zS,Aw,zS,zS] 0 (qa (pk c 161-80)))) X;generalize upd k r (c_ Ek (splice [zS,zS,Aw,zS,zS] 0 (qa (pk c 161-80))))=Z at p m t u;rw[Q,V,EG,EF,f3,gA (vs:=qa (pk e 9)) p (show 3+2<=5 by decide) rfl rfl];simp only[BF];refine C4p (n:=n) (b:=b) (r:=r) (z:=z) (ca:=qn (pk c 161-80)) (cb:=qd (pk c 161-80)) (ra:=qn (pk e 9)) (rb:=qd (pk e 9)) N a d P hi ?_ (L+20) 0 Aw _ (by omega) (by omega) ⟨?_,AC p,⟨[zS,zS,Aw,zS,zS],rfl,?_⟩,.inl ⟨rfl,rfl,rfl⟩,λ_=>rfl,?_,?_,?_,Bm u⟩
 ·intro v H f;have⟨cs,g,i⟩:=f.hz;have o:[S (qn (pk c 161-80)),S (qd (pk c 161-80)),v,S (qn (pk e 9)),S (qd (pk e 9))].all AV.one=true:=by
   show(true&&(true&&(AV.one v&&(true&&(true&&true)))))=true;rw[Bp.one f.sl];rfl
  rw[Bu rfl rfl f.hr,BO i (by exact g.symm) (by exact g.symm) o,Bu rfl rfl (AC i)];refine M _ _ (λq=>?_);have s:Bp (upd H z (c_ Ek [S (qn (pk c 161-80)),S (qd (pk c 161-80)),v,S (qn (pk e 9)),S (qd (pk e 9))])) Bf 3 v (LP xs 6).length ((LP xs 6).flatMap NO):=by
   rcases f.sl with O|⟨r2,q,h2,F,J⟩
   ·exact .inl O
   ·refine .inr ⟨r2,q,h2,?_,J⟩;rw[Ag (λe=>f.nz (by rw[h2,<-e];exact⟨_,_,_,rfl⟩))];exact F
  have⟨q',hq⟩:=C0X (D:=depth-2) (b:=q) s f.nl;exact⟨_,L0 (D:=depth-1) (Al (q:=false) C7 (Al (q:=false) C7 (Al hq (Al (q:=false) C7 (Al (q:=false) C7 AD)))))⟩
 ·rw[Ag a];exact m
 ·rw[Ag d];exact t
 all_goals (rintro⟨_,_,_,h⟩;cases h)
end
end
section
variable{α:Type}
variable{L n:Nat}
def Qm{F:α}{G:α->Af}{x:Af}(h:∀k,k=F->G k=x):jn F G=x:=by rw[BF];exact h F rfl
def Bp.kp{H H':Hp}{e sz n:Nat}{v:AV}{cs:Is}(h:Bp H e sz v n cs)(k:∀s x,A8 v s->Ah H s=some x->Ah H' s=some x):Bp H' e sz v n cs:=by
 rcases h with h|⟨r,q,h1,h2,a⟩
 ·exact .inl h
 ·exact .inr ⟨r,q,h1,k r _ ⟨_,_,_,h1⟩ h2,a⟩
def C5N(l:List Nd):∃vs:Hx,l.flatMap X'=vs.map λx=>.v x:=by
 induction l with
 |nil=>exact⟨[],rfl⟩
 |cons x l ih=>
  have⟨vs,h⟩:=ih;refine⟨[.int .i64 x.op,.string ⟨⟨x.vn⟩⟩,.string ⟨⟨x.vd⟩⟩,.int .i64 x.u.p0,.int .i64 x.u.q0,.int .i64 x.u.p1,.int .i64 x.u.q1,.int .i64 x.u.p2,.int .i64 x.u.q2,.int .i64 x.u.p3,.int .i64 x.u.q3,.int .i64 x.u.p4,.int .i64 x.u.q4,.int .i64 x.u.p5,.int .i64 x.u.q5,.int .i64 x.u.p6,.int .i64 x.u.q6,
   .string ⟨⟨x.u.fn⟩⟩,.string ⟨⟨x.u.fd⟩⟩,.string ⟨⟨x.u.on⟩⟩,.string ⟨⟨x.u.od⟩⟩,.int .i64 x.u.kd,.int .i64 x.u.sc,.int .i64 x.n,.int .i64 x.l,.int .i64 x.r]++vs,?_⟩
  rw[nM,h,dW];rfl
def ndL(l:List Nd):AV:=match l with
 |[]=>Aw
 |x::l=>.list (x::l).length ((x::l).flatMap X')
def B1K{D:Nat}{b:Bool}{H:Hp}{v:AV}{l:List Nd}(h:Bp H AX 26 v l.length (l.flatMap X'))(d:l=[]->v=Aw):∃q,Fx b (D+1) v (ndL l) H q:=by
 rcases h with⟨rfl,h2,_⟩|⟨r,q,rfl,h2,c⟩
 ·cases l with
  |nil=>exact⟨false,C7⟩
  |cons a l=>simp at h2
 ·cases l with
  |nil=>have:=d rfl;cases this
  |cons a l=>
   refine⟨true,?_⟩;show Fx b (D+1) _ (.list (a::l).length ((a::l).flatMap X')) H true;have⟨vs,e⟩:=C5N (a::l);rw[e]at h2 c⊢;exact Yb (q':=false) h2 c (Lz _root_.id _)
def C4Z{y:Nd}{H:Hp}{K:KV}:GF AX 26 AP 1 [(0,26,.agg y.cs)] H K=K (.sl 26 (Ar H) 0 1) ((Ar H,.cells false AX (X' y))::H):=by
 have e:GF AX 26 AP 1 [(0,26,.agg y.cs)] H K=HE H (λs=>K (.sl 26 s 0 1) ((s,.cells false AX (X' y))::H)):=r_ rfl;rw[e,BS]
structure Md(b r z:Nat)(ins:List Int)(id:Int)(ks:Hb)(xs:List Nd)(us:Hb)(v w u:AV)(H:Hp):Prop where
 hb:Ah H b=some (c_ Vz (Ff ins))
 hr:Ah H r=some (Jg id v w u0)
 hz:∃cs,cs.length=23/\Ah H z=some (c_ Co cs)
 sv:Bp H AB 20 v ks.length (ks.flatMap HM)
 nv:ks=[]->v=Aw
 sw:Bp H AX 26 w xs.length (xs.flatMap X')
 nw:xs=[]->w=Aw
 su:Bp H AB 20 u us.length (us.flatMap HM)
 nu:us=[]->u=Aw
 br:b≠r
 zr:z≠r
 av:∀s,A8 v s->s≠b/\s≠r/\s≠z/\¬A8 w s/\¬A8 u s
 aw:∀s,A8 w s->s≠b/\s≠r/\s≠z/\¬A8 v s/\¬A8 u s
 au:∀s,A8 u s->s≠b/\s≠r/\s≠z/\¬A8 v s/\¬A8 w s
 wf:Wf H
section
variable{K:KV}{x:Af}{ins:List Int}{id:Int}{ks us:Hb}{xs:List Nd}{v w u:AV}{b r z m:Nat}{H H':Hp}
def Md.grow(h:Md b r z ins id ks xs us v w u H)(wf:Wf H')(kp:∀s x,Ah H s=some x->Ah H' s=some x):Md b r z ins id ks xs us v w u H':=by
 have⟨cs,c1,c2⟩:=h.hz;exact⟨kp _ _ h.hb,kp _ _ h.hr,⟨cs,c1,kp _ _ c2⟩,h.sv.kp λs x _=>kp s x,h.nv,h.sw.kp λs x _=>kp s x,h.nw,h.su.kp λs x _=>kp s x,h.nu,h.br,h.zr,h.av,h.aw,h.au,wf⟩
structure Oth(b r z:Nat)(v w u:AV)(m:Nat):Prop where
 b:m≠b
 r:m≠r
 z:m≠z
 v:¬A8 v m
 w:¬A8 w m
 u:¬A8 u m
def Md.oth(h:Md b r z ins id ks xs us v w u H):Oth b r z v w u (Ar H):=by
 have⟨cs,c1,c2⟩:=h.hz;have h1:=h.wf.lt h.hb;have h2:=h.wf.lt h.hr;have a:=h.wf.lt c2;exact⟨by omega,by omega,by omega,λe=>by have:=h.sv.lt h.wf e;omega,λe=>by have:=h.sw.lt h.wf e;omega,λe=>by have:=h.su.lt h.wf e;omega⟩
def Md.upd(h:Md b r z ins id ks xs us v w u H)(o:Oth b r z v w u m)(y:Row):Md b r z ins id ks xs us v w u (upd H m y):=by
 have⟨cs,c1,c2⟩:=h.hz;have kp:∀s x,s≠m->Ah H s=some x->Ah (Go.Abs.upd H m y) s=some x:=λs x a c=>by rw[Ag a];exact c
 exact⟨kp _ _ (Ne.symm o.b) h.hb,kp _ _ (Ne.symm o.r) h.hr,⟨cs,c1,kp _ _ (Ne.symm o.z) c2⟩,h.sv.kp λs x a=>kp s x (λe=>o.v (e▸a)),h.nv,h.sw.kp λs x a=>kp s x (λe=>o.w (e▸a)),h.nw,h.su.kp λs x a=>kp s x (λe=>o.u (e▸a)),h.nu,h.br,h.zr,h.av,h.aw,h.au,Bm h.wf⟩
def nZ{α β:Type}(f:α->List β)(l:List α)(a:α):(l++[a]).flatMap f=l.flatMap f++f a:=by simp
def Md.v1(h:Md b r z ins id ks xs us v w u H)(k:Nat)(g:ks.length<100):∃c H',(∀K:KV,E0 AB 20 A0 Ak v (.sl 20 (Ar H) 0 1) ((Ar H,.cells false AB (HM k))::H) K=K c H')/\
 (∀K:Ru,DE Ak (.ptr r 1 0) c H' K=K (Go.Abs.upd H' r (Jg id c w u0)))/\Md b r z ins id (ks++[k]) xs us c w u (Go.Abs.upd H' r (Jg id c w u0)):=by
 have⟨c,H',a1,a2,j,p,i,f⟩:=zG (ie:=A0) (i2:=Ak) (ys:=HM k) h.sv h.wf rfl rfl (by decide) rfl (λ_=>rfl) (by show(_+1)*192<=_;omega) (by omega);have⟨cs,c1,c2⟩:=h.hz;have h1:=h.wf.lt h.hb;have h2:=h.wf.lt h.hr;have q:=h.wf.lt c2;have d:=i _ _ h.hr λe=>(h.av _ e).2.1 rfl;have kp:∀s x,s≠r->¬A8 v s->Ah H s=some x->Ah (Go.Abs.upd H' r (Jg id c w u0)) s=some x:=λs x a hn g=>by rw[Ag a];exact i s x g hn
 refine⟨c,H',a1,λK=>DT d (show 1<23 by decide) rfl (Bp.cell a2) (Bp.one a2),kp _ _ h.br (λe=>(h.av _ e).1 rfl) h.hb,AC d,⟨cs,c1,kp _ _ h.zr (λe=>(h.av _ e).2.2.1 rfl) c2⟩,?_,λe=>by simp at e,
  h.sw.kp λs x a=>kp s x (h.aw s a).2.1 (h.aw s a).2.2.2.1,h.nw,h.su.kp λs x a=>kp s x (h.au s a).2.1 (h.au s a).2.2.2.1,h.nu,h.br,h.zr,λs a=>?_,λs a=>?_,λs a=>?_,Bm j⟩
 ·rw[EN,nZ];refine Bp.kp a2 λs x a g=>?_;have:=f s a;rw[Ag (by omega)];exact g
 ·have:=f s a;exact⟨by omega,by omega,by omega,λe=>by have:=h.sw.lt h.wf e;omega,λe=>by have:=h.su.lt h.wf e;omega⟩
 ·have⟨q1,q2,q3,q4,q5⟩:=h.aw s a;exact⟨q1,q2,q3,λe=>by have:=f s e;have:=h.sw.lt h.wf a;omega,q5⟩
 ·have⟨q1,q2,q3,q4,q5⟩:=h.au s a;exact⟨q1,q2,q3,λe=>by have:=f s e;have:=h.su.lt h.wf a;omega,q5⟩
def Md.w1(h:Md b r z ins id ks xs us v w u H)(y:Nd)(g:xs.length<100):∃c H',(∀K:KV,E0 AX 26 AP Av w (.sl 26 (Ar H) 0 1) ((Ar H,.cells false AX (X' y))::H) K=K c H')/\
 (∀K:Ru,DE Av (.ptr r 2 0) c H' K=K (Go.Abs.upd H' r (Jg id v c u0)))/\Md b r z ins id ks (xs++[y]) us v c u (Go.Abs.upd H' r (Jg id v c u0))/\(∀s x,s≠r->¬A8 w s->Ah H s=some x->Ah (Go.Abs.upd H' r (Jg id v c u0)) s=some x):=by
 have⟨c,H',a1,a2,j,k,i,f⟩:=zG (ie:=AP) (i2:=Av) (ys:=X' y) h.sw h.wf rfl rfl (by decide) rfl (λ_=>rfl) (by show(_+1)*256<=_;omega) (by omega);have⟨cs,c1,c2⟩:=h.hz;have h1:=h.wf.lt h.hb;have h2:=h.wf.lt h.hr;have p:=h.wf.lt c2;have d:=i _ _ h.hr λe=>(h.aw _ e).2.1 rfl;have kp:∀s x,s≠r->¬A8 w s->Ah H s=some x->Ah (Go.Abs.upd H' r (Jg id v c u0)) s=some x:=λs x a hn g=>by rw[Ag a];exact i s x g hn
 refine⟨c,H',a1,λK=>DT d (show 2<23 by decide) rfl (Bp.cell a2) (Bp.one a2),⟨kp _ _ h.br (λe=>(h.aw _ e).1 rfl) h.hb,AC d,⟨cs,c1,kp _ _ h.zr (λe=>(h.aw _ e).2.2.1 rfl) c2⟩,
  h.sv.kp λs x a=>kp s x (h.av s a).2.1 (h.av s a).2.2.2.1,h.nv,?_,λe=>by simp at e,h.su.kp λs x a=>kp s x (h.au s a).2.1 (h.au s a).2.2.2.2,h.nu,h.br,h.zr,λs a=>?_,λs a=>?_,λs a=>?_,Bm j⟩,kp⟩
 ·rw[EN,nZ];refine Bp.kp a2 λs x a g=>?_;have:=f s a;rw[Ag (by omega)];exact g
 ·have⟨q1,q2,q3,q4,q5⟩:=h.av s a;exact⟨q1,q2,q3,λe=>by have:=f s e;have:=h.sv.lt h.wf a;omega,q5⟩
 ·have:=f s a;exact⟨by omega,by omega,by omega,λe=>by have:=h.sv.lt h.wf e;omega,λe=>by have:=h.su.lt h.wf e;omega⟩
 ·have⟨q1,q2,q3,q4,q5⟩:=h.au s a;exact⟨q1,q2,q3,q4,λe=>by have:=f s e;have:=h.su.lt h.wf a;omega⟩
def Md.u1(h:Md b r z ins id ks xs us v w u H)(k:Nat)(d:us.length<100):∃f H',(∀K:KV,E0 AB 20 A0 Ak u (.sl 20 (Ar H) 0 1) ((Ar H,.cells false AB (HM k))::H) K=K f H')/\Md b r z ins id ks xs (us++[k]) v w f H':=by
 have⟨f,H',a1,a2,i,j,c,g⟩:=zG (ie:=A0) (i2:=Ak) (ys:=HM k) h.su h.wf rfl rfl (by decide) rfl (λ_=>rfl) (by show(_+1)*192<=_;omega) (by omega);have⟨cs,c1,c2⟩:=h.hz;have h1:=h.wf.lt h.hb;have h2:=h.wf.lt h.hr;have p:=h.wf.lt c2;refine⟨f,H',a1,c _ _ h.hb (λe=>(h.au _ e).1 rfl),c _ _ h.hr (λe=>(h.au _ e).2.1 rfl),⟨cs,c1,c _ _ c2 (λe=>(h.au _ e).2.2.1 rfl)⟩,
  h.sv.kp λs x a d=>c s x d (h.av s a).2.2.2.2,h.nv,h.sw.kp λs x a d=>c s x d (h.aw s a).2.2.2.2,h.nw,?_,λe=>by simp at e,h.br,h.zr,λs a=>?_,λs a=>?_,λs a=>?_,i⟩
 ·rw[EN,nZ];exact a2
 ·have⟨q1,q2,q3,q4,q5⟩:=h.av s a;exact⟨q1,q2,q3,q4,λe=>by have:=g s e;have:=h.sv.lt h.wf a;omega⟩
 ·have⟨q1,q2,q3,q4,q5⟩:=h.aw s a;exact⟨q1,q2,q3,q4,λe=>by have:=g s e;have:=h.sw.lt h.wf a;omega⟩
 ·have:=g s a;exact⟨by omega,by omega,by omega,λe=>by have:=h.sv.lt h.wf e;omega,λe=>by have:=h.sw.lt h.wf e;omega⟩
def Wh{s j:Nat}{K:K2}:CI j (.ptr s 0 0) K=K (.ptr s j 0):=by rw[fA,JZ]
def Md.ld1(h:Md b r z ins id ks xs us v w u H){K:K2}:AE Ak (.ptr r 1 0) H K=K v:=AL (p:=1) rfl h.hr (show 1<23 by decide)
def Md.ld2(h:Md b r z ins id ks xs us v w u H){K:K2}:AE Av (.ptr r 2 0) H K=K w:=AL (p:=2) rfl h.hr (show 2<23 by decide)
def ksM(ins:List Int)(i:Nat):Hb:=(ins.take i).map λc=>(pk c 7).toNat
def B5v{i:Nat}(h:i<ins.length):ksM ins (i+1)=ksM ins i++[(pk ins[i] 7).toNat]:=by
 unfold ksM;rw[nL h,dW];rfl
def C3o{count:Int}{t ex d0 d1 d2:AV}{d:AV->AV->AV->AV->AV->AV->AV->KV}(D:100<L)(hi:ins.length=3)(j:∀c∈ins,Kv c)(hc:Kv count)(g:∀v H,Md b r z ins id (ksM ins ((pk count 3).toNat+1)) [] [] v Aw Aw H->d (I count) t ex (.ptr b 0 0) (.ptr z 0 0) (.ptr r 0 0) (I (((pk count 3).toNat+1:Nat):Int)) d2 H=x):
 ∀(f i:Nat)(v:AV)(H:Hp),i<=(pk count 3).toNat+1->(pk count 3).toNat+1-i<f->Md b r z ins id (ksM ins i) [] [] v Aw Aw H->
 Ux (L+20) (r! L (n+42)) K d f (I count) t ex (.ptr b 0 0) (.ptr z 0 0) (.ptr r 0 0) (I i) d0 d1 d2 H=x:=by
 have pr:=FT (c:=count) (n:=3) (by decide);intro f
 induction f with
 |zero=>intro i v H _ h;omega
 |succ f ih=>
  intro i v H y F a;rw[pS];unfold Uz Kx A4;have q:∀H K,Ap (r! L (n+42)) C5 [I count,.v (.int .i64 3)] H K=K (I (pk count 3)):=MV (n:=n+41) hc (by decide) (by decide);rw[q,kK];by_cases h:i<=(pk count 3).toNat
  ·have e:i<ins.length:=by omega
   have hb:=a.hb;have B:∀{K},AE Ad (.ptr b i 0) H K=K (I ins[i]):=λ{K}=>by rw[AL (p:=i) rfl a.hb (by simp[Ff];omega),Th e]
   have ia:∀{K:K2},D4 Sg (.ptr b 0 0) (I i) K=K (.ptr b i 0):=λ{K}=>XA0 i rfl rfl (by omega);have un:∀{H K},Ap (r! L (n+42)) Gw [I ins[i]] H K=K (.agg (Cz (uu (pk ins[i] 7).toNat))):=λ{H K}=>A45 (n:=n) (j _ (Ql e)) H K;have k:(ksM ins i).length<100:=by simp[ksM];omega
   have⟨C,H',a1,a2,s⟩:=a.v1 (pk ins[i] 7).toNat k;have ok:gF v v=true:=A1p a.sv;have A:∀{K},AE Ak (.ptr r 1 0) ((Ar H,Row.cells false AB (HM (pk ins[i] 7).toNat))::H) K=K v:=λ{K}=>AL (p:=1) rfl (A6 (a.wf.lt a.hr) a.hr) (show 1<23 by decide);rw[Hu (by omega),Cy];simp only[Wh,B1,a.ld1,ia,B,un,A8z,BK,a1,a2,A];rw[B1b ok,CW (by omega)];rw[<-B5v e]at s;exact ih (i+1) C _ (by omega) (by omega) s
  ·have:i=(pk count 3).toNat+1:=by omega
   subst this;rw[Ir (by omega),AY];exact g v H a
def C3p{a1 a2 i k d0:AV}{c:AV->AV->AV->AV->AV->AV->AV->AV->KV}(J:100<L)(hb:ks.length<=3)(e:∀w u H,Md b r z ins id ks (Ly ks) ks v w u H->c a1 a2 i (.ptr b 0 0) (.ptr z 0 0) (.ptr r 0 0) k u (I ks.length) H=x):
 ∀(f j:Nat)(w u:AV)(H:Hp),j<=ks.length->ks.length-j<f->Md b r z ins id ks ((List.range j).map dX) (ks.take j) v w u H->
 Uy (L+20) (r! L (n+42)) K c f a1 a2 i (.ptr b 0 0) (.ptr z 0 0) (.ptr r 0 0) k u (I j) d0 H=x:=by
 intro f
 induction f with
 |zero=>intro j w u H _ h;omega
 |succ f ih=>
  intro j w u H C M d;rw[pU];unfold U9 DN Ia A4;rw[Wh,d.ld1,LD (t:=Ak) rfl d.sv];by_cases h:j<ks.length
  ·have q:∀{K:K2},Cb AP [(0,1,.v (.int .i64 2)),(23,1,I j)] K=K (.agg (dX j).cs):=λ{K}=>r_ rfl;obtain⟨F,H',b1,b2,g, -⟩:=d.w1 (dX j) (by simp;omega);have⟨a,A,B⟩:=A5P g.sv h;have⟨D,p,s,y⟩:=g.u1 ks[j] (by simp;omega);rw[XA2 (by omega),Cy,Wh,d.ld2,q,C4Z,b1,Wh,b2,Wh,g.ld1,A,B,A8z,s,CW (by omega)];refine ih (j+1) F D p (by omega) (by omega) ?_;rw[List.range_succ,dW,nL h];exact y
  ·have:j=ks.length:=by omega
   subst this;rw[Fk (by omega),AY];rw[rW]at d;exact e w u H d
end
end
section
variable{D:Nat}{y:Nd}
variable{L n:Nat}
def exO(ks:Hb)(q a13 b4 k7 e5 l r:Nat):Ex:=match q with
 |0=>.cn (nX a13 b4) k7
 |1=>.inp l
 |6=>match Yz (ks.getD l 0) e5 with
  |some k=>.po l e5 k
  |none=>.no
 |7=>.no
 |q=>match We (q-2) (ks.getD l 0) (ks.getD r 0) with
  |some k=>.bi (q+1) l r k
  |none=>.no
def exM(ks:Hb)(y0 y1 y2 y3:Int):Ex:=exO ks (pk y0 8).toNat (pk y1 13).toNat (pk y2 4).toNat (pk y3 7).toNat (pk y2 5).toNat (pk y1 ks.length).toNat (pk y2 ks.length).toNat
def B21{ks:Hb}{q a13 b4 k7 e5 l r:Nat}(h:2<=q)(a:q<6):exO ks q a13 b4 k7 e5 l r=match We (q-2) (ks.getD l 0) (ks.getD r 0) with
 |some k=>.bi (q+1) l r k
 |none=>.no:=by
 obtain rfl|rfl|rfl|rfl:q=2\/q=3\/q=4\/q=5:=by omega
 all_goals rfl
def A2l{a b:Nat}(c:a<13)(hb:b<4):nX a b<33:=by
 have:=G9.1 (show((List.range 52).all λi=>decide (nX (i/4) (i%4)<33))=true by kernel_rfl) (4*a+b) (Lf.2 (by omega));rw[show(4*a+b)/4=a by omega,show(4*a+b)%4=b by omega]at this;simpa using this
def O8{c m:Int}(h:0<m):∃k:Nat,pk c m=k/\(k:Int)<m/\(pk c m).toNat=k:=by
 have:=FT (c:=c) h;exact⟨(pk c m).toNat,by omega,by omega,rfl⟩
def C1d{ks:Hb}{y0 y1 y2 y3:Int}(h1:1<=ks.length):(exM ks y0 y1 y2 y3).Ok ks:=by
 obtain⟨q, -,h2,f⟩:=O8 (c:=y0) (m:=8) (by decide);obtain⟨a, -,s,g⟩:=O8 (c:=y1) (m:=13) (by decide);obtain⟨b, -,hb,h⟩:=O8 (c:=y2) (m:=4) (by decide);obtain⟨k, -,t,j⟩:=O8 (c:=y3) (m:=7) (by decide);obtain⟨e, -,he,i⟩:=O8 (c:=y2) (m:=5) (by decide);obtain⟨l, -,A,el⟩:=O8 (c:=y1) (m:=ks.length) (by omega);obtain⟨r, -,hr,p⟩:=O8 (c:=y2) (m:=ks.length) (by omega);unfold exM;rw[f,g,h,j,i,el,p];by_cases hq:2<=q/\q<6
 ·rw[B21 hq.1 hq.2];cases d:We (q-2) (ks.getD l 0) (ks.getD r 0) with
  |none=>exact trivial
  |some k=>exact⟨by omega,by omega,by omega,by omega,d⟩
 ·obtain rfl|rfl|rfl|rfl:q=0\/q=1\/q=6\/q=7:=by omega
  ·exact⟨A2l (by omega) (by omega),by omega⟩
  ·show l<ks.length;omega
  ·show(match Yz (ks.getD l 0) e with
    |some k=>Ex.po l e k
    |none=>.no).Ok ks
   cases d:Yz (ks.getD l 0) e with
   |none=>exact trivial
   |some k=>exact⟨by omega,by omega,d⟩
  ·exact trivial
section
variable{K:KV}{x:Af}{ins:List Int}{id:Int}{ks us:Hb}{xs:List Nd}{v w u:AV}{b r z:Nat}{H:Hp}
def A5Q(h:1<=ks.length):Sd ks=BE ks:=by cases ks with|nil=>simp at h|cons _ _=>rfl
def A6d(h:1<=xs.length):ndL xs=Ck xs:=by cases xs with|nil=>simp at h|cons _ _=>rfl
def Md.proc(h:Md b r z ins id ks xs us v w u H)(h1:1<=ks.length)(h2:1<=xs.length){bb:Bool}:∃q,Fx bb (D+2) (.agg (B0 id v w u0)) (.agg (B0 id (BE ks) (Ck xs) u0)) H q:=by
 have⟨q1,a⟩:=nW (D:=D) (b:=bb) h.sv h.nv;have⟨q2,c⟩:=B1K (D:=D) (b:=bb) h.sw h.nw;rw[A5Q h1]at a;rw[A6d h2]at c;exact⟨_,L0 (D:=D+1) (Al (q:=false) C7 (Al a (Al c (Lz (b:=bb) (D:=D+1) (H:=H) (λx:Value=>x) [.int .i64 u0.p0,.int .i64 u0.q0,.int .i64 u0.p1,.int .i64 u0.q1,.int .i64 u0.p2,.int .i64 u0.q2,.int .i64 u0.p3,.int .i64 u0.q3,.int .i64 u0.p4,.int .i64 u0.q4,.int .i64 u0.p5,.int .i64 u0.q5,.int .i64 u0.p6,.int .i64 u0.q6,
  .string ⟨⟨u0.fn⟩⟩,.string ⟨⟨u0.fd⟩⟩,.string ⟨⟨u0.on⟩⟩,.string ⟨⟨u0.od⟩⟩,.int .i64 u0.kd,.int .i64 u0.sc]))))⟩
def C0w{b:Bool}:Fx b (D+1) (.agg y.cs) (.agg y.cs) H false:=λK=>by cases D<;>cases b<;>kernel_rfl
def Md.ty(h:Md b r z ins id ks (Ly ks) ks v w u H)(h1:1<=ks.length){t:AV}(d:CS (r! L (n+42)) CN [.agg (B0 id (BE ks) (Ck (Ly ks)) u0),.agg y.cs,I ks.length,Sd ks] t){K:K2}:
 Ap (r! L (n+42)) CN [.agg (B0 id v w u0),.agg y.cs,I ks.length,u] H K=K t:=by
 have⟨q1,a⟩:=h.proc h1 (by rw[DW];exact h1) (D:=depth-2) (bb:=true);have⟨q2,c⟩:=B7j (b:=true) h.su h.nu;exact AO d (Al a (Al (C0w (D:=depth-1)) (Al (q:=false) C7 (Al c AD))))
end
end
section
variable{L n:Nat}
section
variable{K:KV}{x:Af}{ins:List Int}{id:Int}{ks:Hb}{xs:List Nd}{v w u:AV}{b r z m:Nat}{H H':Hp}{y0 y1 y2 y3:Int}
def C3q{a1 i4 j5:AV}{ah:AV->AV->KV}(h:Md b r z ins id ks (Ly ks) ks v w u H)(k1:1<=ks.length)(k3:ks.length<=3)(k7:∀k∈ks,k<7)(i0:Kv y0)(i1:Kv y1)(i2:Kv y2)(i3:Kv y3)(ac:∀J F H',Md b r z ins id ks (Ly ks++(exM ks y0 y1 y2 y3).nd) (ks++(exM ks y0 y1 y2 y3).ty ks) v J F H'->ah (.ptr z 0 0) (.ptr r 0 0) F H'=x)(f:Nat):
 MS (L+20) (r! L (n+42)) K ah (f+2) a1 (.list 1 [I y0,I y1,I y2,I y3]) (Bo true) (.ptr b 0 0) (.ptr z 0 0) (.ptr r 0 0) i4 u j5 (I ((0:Nat):Int)) H=x:=by
 have ex:∀J F H',Md b r z ins id ks (Ly ks++(exM ks y0 y1 y2 y3).nd) (ks++(exM ks y0 y1 y2 y3).ty ks) v J F H'->MS (L+20) (r! L (n+42)) K ah (f+1) a1 (.list 1 [I y0,I y1,I y2,I y3]) (Bo true) (.ptr b 0 0) (.ptr z 0 0) (.ptr r 0 0) i4 F j5 (I ((0+1:Nat):Int)) H'=x:=by
  intro J F H' j;rw[QY];unfold MT DN Yo OV Ia D5 Fg A4 Ks FW;have el:∀{K:K2},Ba JF (.list 1 [I y0,I y1,I y2,I y3]) K=K (I ((1:Nat):Int)):=λ{K}=>r_ rfl;rw[el,Fk (by omega)];simp only[dY,BK,QA];rw[AY];exact ac J F H' j
 rw[QY];unfold MT DN Yo OV Ia D5 Fg A4 Ks FW;have el:∀{K:K2},Ba JF (.list 1 [I y0,I y1,I y2,I y3]) K=K (I ((1:Nat):Int)):=λ{K}=>r_ rfl;have ba:(AV.v (.int .i64 14))=I ((14:Nat):Int):=rfl;have hw:=h.sw;rw[DW]at hw;rw[el,XA2 (by omega),ba];simp only[gT,BK,Wh,h.ld2,LD (t:=Av) rfl hw];rw[XA2 (by omega),BK,SJ,Cy];refine Qm λbs ak=>?_;refine Qm λbk am=>?_;have B:∀J F H',Md b r z ins id ks (Ly ks++(exM ks y0 y1 y2 y3).nd) (ks++(exM ks y0 y1 y2 y3).ty ks) v J F H'->bk F H'=x:=by
  intro J F H' j;rw[am,ak];have ad:∀{K:K2},Aq Ad .add (I ((0:Nat):Int)) (.v (.int .i64 1)) K=K (I ((0+1:Nat):Int)):=λ{K}=>CW (by omega);simp only[ad];exact ex J F H' j
 clear ak am ex ac;have bf:∀{K:K2},D4 JF (.list 1 [I y0,I y1,I y2,I y3]) (I ((0:Nat):Int)) K=K (.iptr [I y0,I y1,I y2,I y3]):=λ{K}=>r_ rfl;have bm:∀{H}{K:K2},AE CQ (.iptr [I y0,I y1,I y2,I y3]) H K=K (.agg [I y0,I y1,I y2,I y3]):=λ{H K}=>r_ rfl;have⟨H1,e1,m1,w1,a5⟩:=GC (e:=HX) (zs:=[zI,zI,zI,zI]) (vs:=[I y0,I y1,I y2,I y3]) h.wf rfl;rw[bf,bm,Bv (cs:=[zI,zI,zI,zI]) rfl,BO (cs:=[zI,zI,zI,zI]) (vs:=[I y0,I y1,I y2,I y3]) (Ay (by simp)) rfl rfl rfl,<-e1];have o4:=h.oth;have h1:=h.grow w1 λs x hs=>(a5 s x hs).1;generalize Ar H=q4 at m1 o4;clear a5 e1;have ay:=h1.sw;rw[DW]at ay;rw[h1.ld2,LD (t:=Av) rfl ay];have y4:∀{A:Hp}{K:K2},Ah A q4=some (c_ HX [I y0,I y1,I y2,I y3])->(D4 CQ (.ptr q4 0 0) (.v (.int .i64 0)) λp=>AE Ad p A K)=K (I y0):=λ{A K}P=>by
  rw[XA0 (z:=0) 0 rfl rfl (by decide),AL (p:=0) rfl P (by simp)];rfl
 have Y:∀{A:Hp}{K:K2},Ah A q4=some (c_ HX [I y0,I y1,I y2,I y3])->(D4 CQ (.ptr q4 0 0) (.v (.int .i64 1)) λp=>AE Ad p A K)=K (I y1):=λ{A K}P=>by
  rw[XA0 (z:=1) 1 rfl rfl (by decide),AL (p:=1) rfl P (by simp)];rfl
 have a7:∀{A:Hp}{K:K2},Ah A q4=some (c_ HX [I y0,I y1,I y2,I y3])->(D4 CQ (.ptr q4 0 0) (.v (.int .i64 2)) λp=>AE Ad p A K)=K (I y2):=λ{A K}P=>by
  rw[XA0 (z:=2) 2 rfl rfl (by decide),AL (p:=2) rfl P (by simp)];rfl
 have bq:∀{A:Hp}{K:K2},Ah A q4=some (c_ HX [I y0,I y1,I y2,I y3])->(D4 CQ (.ptr q4 0 0) (.v (.int .i64 3)) λp=>AE Ad p A K)=K (I y3):=λ{A K}P=>by
  rw[XA0 (z:=3) 3 rfl rfl (by decide),AL (p:=3) rfl P (by simp)];rfl
 have⟨q,pq,hq,eq⟩:=O8 (c:=y0) (m:=8) (by decide);have⟨a13,pa,ha,ea⟩:=O8 (c:=y1) (m:=13) (by decide);have⟨b4,pb,hb,eb⟩:=O8 (c:=y2) (m:=4) (by decide);have⟨d,bp,hk,ek⟩:=O8 (c:=y3) (m:=7) (by decide);have⟨e5,pe,he,ee⟩:=O8 (c:=y2) (m:=5) (by decide);have⟨l,pl,P,el⟩:=O8 (c:=y1) (m:=ks.length) (by omega);have⟨rr,pr,hr,er⟩:=O8 (c:=y2) (m:=ks.length) (by omega);have ap:∀H K,Ap (r! L (n+42)) C5 [I y0,.v (.int .i64 8)] H K=K (I (q:Int)):=by rw[<-pq];exact MV (n:=n+41) i0 (by decide) (by decide)
 have ag:∀H K,Ap (r! L (n+42)) C5 [I y1,.v (.int .i64 13)] H K=K (I (a13:Int)):=by rw[<-pa];exact MV (n:=n+41) i1 (by decide) (by decide)
 have aq:∀H K,Ap (r! L (n+42)) C5 [I y2,.v (.int .i64 4)] H K=K (I (b4:Int)):=by rw[<-pb];exact MV (n:=n+41) i2 (by decide) (by decide)
 have ar:∀H K,Ap (r! L (n+42)) C5 [I y2,.v (.int .i64 5)] H K=K (I (e5:Int)):=by rw[<-pe];exact MV (n:=n+41) i2 (by decide) (by decide)
 have D:∀H K,Ap (r! L (n+42)) C5 [I y1,I ks.length] H K=K (I (l:Int)):=by rw[<-pl];exact MV (n:=n+41) i1 (by omega) (by omega)
 have ax:∀H K,Ap (r! L (n+42)) C5 [I y2,I ks.length] H K=K (I (rr:Int)):=by rw[<-pr];exact MV (n:=n+41) i2 (by omega) (by omega)
 have be:∀H K,Ap (r! L (n+42)) Gw [I y3] H K=K (.agg (Cz (uu d))):=by rw[<-ek];exact A45 (n:=n) i3
 have ao:exM ks y0 y1 y2 y3=exO ks q a13 b4 d e5 l rr:=by unfold exM;rw[eq,ea,eb,ek,ee,el,er]
 rw[ao]at B;clear ao pq pa pb bp pe pl pr eq ea eb ek ee el er;have bd:∀{z:Int}{K:K2},Cb AP [(0,1,I z)] K=K (.agg (Nd.mk z [] [] u0 0 0 0).cs):=λ{z K}=>r_ rfl;have ad:∀{K:K2},Aq Ad .add (.v (.int .i64 1)) (I (q:Int)) K=K (I ((q+1:Nat):Int)):=λ{K}=>by
  rw[Dp,CX (by omega) (by omega)];rw[show(1:Int)+(q:Int)=((q+1:Nat):Int) by omega]
 rw[y4 m1,ap,ad,bd];have⟨A,e2,C,w2,ai⟩:=GC (e:=AX) (zs:=(Nd.mk 0 [] [] u0 0 0 0).cs) (vs:=(Nd.mk ((q+1:Nat):Int) [] [] u0 0 0 0).cs) h1.wf rfl;rw[Bv (cs:=(Nd.mk 0 [] [] u0 0 0 0).cs) rfl,BO (cs:=(Nd.mk 0 [] [] u0 0 0 0).cs) (vs:=(Nd.mk ((q+1:Nat):Int) [] [] u0 0 0 0).cs) (Ay (by simp)) rfl rfl rfl,<-e2];have o:=h1.oth;have h2:=h1.grow w2 λs x hs=>(ai s x hs).1;have⟨V,a6⟩:=ai _ _ m1;generalize Ar H1=m at C o a6;clear ai e2;refine Qm λaf Z=>?_;have tail:∀(nd:Nd)(Hm:Hp)(U:UD)(e:Int),Md b r z ins id ks (Ly ks) ks v w u Hm->Ah Hm m=some (c_ AX nd.cs)->
  CS (r! L (n+42)) CN [.agg (B0 id (BE ks) (Ck (Ly ks)) u0),.agg nd.cs,I ks.length,Sd ks] (.tup [.agg (Cz U),I e])->
  (e=0/\nd.op≠8->∃k,U=uu k/\(exO ks q a13 b4 d e5 l rr).nd=[nd]/\(exO ks q a13 b4 d e5 l rr).ty ks=[k])->(¬(e=0/\nd.op≠8)->(exO ks q a13 b4 d e5 l rr).nd=[]/\(exO ks q a13 b4 d e5 l rr).ty ks=[])->af Hm=x:=by
  intro nd Hm U e hm mm y hg ab;have lp:∀{K},AE AU (.ptr r 0 0) Hm K=K (.agg (B0 id v w u0)):=λ{K}=>Bu rfl rfl hm.hr;have ln:∀{K},AE AP (.ptr m 0 0) Hm K=K (.agg nd.cs):=λ{K}=>Bu rfl rfl mm;rw[Z];simp only[lp,ln,hm.ty k1 y];have⟨M,e3,m3,w3,aj⟩:=GC (e:=AB) (zs:=Gc) (vs:=Cz U) hm.wf rfl;rw[EG,EF,Bv (cs:=Gc) rfl,BO (cs:=Gc) (vs:=Cz U) (Ay (by simp)) rfl rfl rfl,<-e3];have o3:=hm.oth;have O:=hm.grow w3 λs x hs=>(aj s x hs).1;obtain⟨m5, -⟩:=aj _ _ mm;generalize Ar Hm=q3 at m3 o3;clear aj e3;have bn:∀{K},AE AP (.ptr m 0 0) M K=K (.agg nd.cs):=λ{K}=>Bu rfl rfl m5;have bo:∀{K},AE Ad (.ptr m 0 0) M K=K (I nd.op):=λ{K}=>AL (p:=0) rfl m5 (show 0<26 by decide);rw[CV];by_cases Q:e=0
  ·rw[Hu Q];simp only[gT,BK,ntT,Wh,bo,I2,SJ,QA];by_cases h8:nd.op=8
   ·have⟨g1,g2⟩:=ab λj=>j.2 h8;rw[Hu h8];show A2 (Bo false) _ _=_;rw[AY];refine B w u M ?_;rw[g1,g2,Vq,Vq];exact O
   ·obtain⟨k,rfl,g1,g2⟩:=hg ⟨Q,h8⟩;rw[Ir h8];show A2 (Bo true) _ _=_;have⟨J,H4,a1,a2,a3,a4⟩:=O.w1 nd (by rw[DW];omega);have⟨F,H5,b1,b2⟩:=a3.u1 k (by omega);have lu:∀{K},AE A0 (.ptr q3 0 0) (Go.Abs.upd H4 r (Jg id v J u0)) K=K (.agg (Cz (uu k))):=λ{K}=>Bu rfl rfl (a4 _ _ o3.r o3.w m3);rw[Cy,O.ld2,bn,C4Z,a1,a2,lu,A8z,b1];refine B J F H5 ?_;rw[g1,g2];exact b2
  ·have⟨g1,g2⟩:=ab λj=>Q j.1;rw[Ir Q];simp only[dY,BK,gU,QA];rw[AY];refine B w u M ?_;rw[g1,g2,Vq,Vq];exact O
 clear Z B;have lo:∀{K},AE Ad (.ptr m 0 0) A K=K (I ((q+1:Nat):Int)):=λ{K}=>AL (p:=0) rfl C (show 0<26 by decide);rw[Wh,lo];refine Qm λaz aa=>?_;have g:∀H,az H=af H:=λH=>by rw[aa]
 clear aa;have sm:∀{cs:Is}{N:Hp},Ah N q4=some (c_ HX [I y0,I y1,I y2,I y3])->Ah (Go.Abs.upd N m (c_ AX cs)) q4=some (c_ HX [I y0,I y1,I y2,I y3]):=λP=>by rw[Ag a6];exact P
 rw[CV];by_cases ae:2<=q/\q<6
 ·have y:=A5Z (L:=L) (n:=n) (id:=id) (o:=u0) (xs:=Ly ks) (op:=q+1) k1 k3 k7 (show l<ks.length by omega) (show rr<ks.length by omega) (by omega) (by omega);rw[show q+1-3=q-2 by omega]at y;rw[Ir (by omega),AY,CV,Ir (by omega),AY,CV,Ir (by omega),AY,CV,Ir (by omega),AY,
   Y V,D,Wh,DT C (show 24<26 by decide) rfl rfl rfl,a7 (sm V),ax,Wh,DT (AC C) (show 25<26 by decide) rfl rfl rfl,g]
  have R:=B21 (ks:=ks) (a13:=a13) (b4:=b4) (k7:=d) (e5:=e5) (l:=l) (r:=rr) ae.1 ae.2;have hm:=(h2.upd o (c_ AX ((Nd.mk ((q+1:Nat):Int) [] [] u0 0 0 0).cs.set 24 (I (l:Int))))).upd o (c_ AX (((Nd.mk ((q+1:Nat):Int) [] [] u0 0 0 0).cs.set 24 (I (l:Int))).set 25 (I (rr:Int))));cases hu:We (q-2) (ks.getD l 0) (ks.getD rr 0) with
  |none=>
   rw[hu]at y R;exact tail (xJ (q+1) l rr) _ u0 90 hm (AC (AC C)) y (λj=>absurd j.1 (by decide)) (λ_=>by rw[R];exact⟨rfl,rfl⟩)
  |some k=>
   rw[hu]at y R;refine tail (xJ (q+1) l rr) _ (uu k) 0 hm (AC (AC C)) y (λ_=>⟨k,rfl,by rw[R];exact⟨rfl,rfl⟩⟩) (λj=>absurd ⟨rfl,?_⟩ j);show((q+1:Nat):Int)≠8;omega
 ·obtain rfl|rfl|rfl|rfl:q=0\/q=1\/q=6\/q=7:=by omega
  ·have bg:∀{K:K2},D4 CQ (.ptr q4 0 0) (.v (.int .i64 1)) K=K (.ptr q4 1 0):=λ{K}=>XA0 (z:=1) 1 rfl rfl (by decide);have bh:∀{K:K2},D4 CQ (.ptr q4 0 0) (.v (.int .i64 2)) K=K (.ptr q4 2 0):=λ{K}=>XA0 (z:=2) 2 rfl rfl (by decide);have d1:∀{K:K2},AE Ad (.ptr q4 1 0) A K=K (I y1):=λ{K}=>AL (p:=1) rfl V (by simp);have d2:∀{K:K2},AE Ad (.ptr q4 2 0) A K=K (I y2):=λ{K}=>AL (p:=2) rfl V (by simp);have sb:∀{K:K2},Aq Ad .sub (I (a13:Int)) (.v (.int .i64 6)) K=K (I ((a13:Int)-6)):=λ{K}=>by rw[Le,CX (by omega) (by omega)]
   have a8:∀{K:K2},Aq Ad .add (.v (.int .i64 1)) (I (b4:Int)) K=K (I (1+(b4:Int))):=λ{K}=>by rw[Dp,CX (by omega) (by omega)]
   have bc:∀H K,Ap (r! L (n+42)) Gx [I ((a13:Int)-6),I (1+(b4:Int))] H K=K (.tup [.agg (gP (nX a13 b4)),I 0]):=by
    have:=C04 L (n+2) (4*a13+b4) (by omega);rw[show(4*a13+b4)/4=a13 by omega,show(4*a13+b4)%4=b4 by omega]at this;exact this
   have y:=A1C (L:=L) (n:=n) (id:=id) (o:=u0) (xs:=Ly ks) (ks:=ks) (at_:=ks.length) (w:=Sd ks) (A2l (a:=a13) (b:=b4) (by omega) (by omega)) (show d<7 by omega);rw[Hu (by rfl),Cy];simp only[bg,bh,d1,d2,ag,aq,sb,a8,bc,EG,EF,Wh,B1];rw[gA (vs:=gP (nX a13 b4)) C (show 1+2<=26 by decide) rfl rfl,BK,bq (sm V),be,gA (vs:=Cz (uu d)) (AC C) (show 3+20<=26 by decide) rfl rfl,g];have hm:=(h2.upd o (c_ AX (splice (Nd.mk ((0+1:Nat):Int) [] [] u0 0 0 0).cs 1 (gP (nX a13 b4))))).upd o (c_ AX (splice (splice (Nd.mk ((0+1:Nat):Int) [] [] u0 0 0 0).cs 1 (gP (nX a13 b4))) 3 (Cz (uu d))));exact tail (cnN (nX a13 b4) d) _ (uu d) 0 hm (AC (AC C)) y (λ_=>⟨d,rfl,rfl,rfl⟩) (λj=>absurd ⟨rfl,show(1:Int)≠8 by decide⟩ j)
  ·have y:=ZK (L:=L) (n:=n+39) (id:=id) (o:=u0) (xs:=Ly ks) (ks:=ks) (i:=l) (by omega) (by omega) (at_:=ks.length) (w:=Sd ks);have eg:ks[l]'(by omega)=ks.getD l 0:=by simp[List.getD,KJ (show l<ks.length by omega)]
   rw[eg]at y;rw[Ir (by decide),AY,CV,Hu (by rfl),Cy,Y V,h2.ld1,LD (t:=Ak) rfl h2.sv,D,Wh,DT C (show 23<26 by decide) rfl rfl rfl,g];have hm:=h2.upd o (c_ AX ((Nd.mk ((1+1:Nat):Int) [] [] u0 0 0 0).cs.set 23 (I (l:Int))));exact tail (dX l) _ (uu (ks.getD l 0)) 0 hm (AC C) y (λ_=>⟨ks.getD l 0,rfl,rfl,rfl⟩) (λj=>absurd ⟨rfl,show(2:Int)≠8 by decide⟩ j)
  ·have y:=A5Y (L:=L) (n:=n) (id:=id) (o:=u0) (xs:=Ly ks) k1 k3 k7 (show l<ks.length by omega) (show e5<5 by omega);have a9:∀{N:Hp}{K:KV},GF Hh 1 Ad 5 [(0,1,(AV.v (.int .i64 2))),(1,1,(AV.v (.int .i64 (-1)))),(2,1,(AV.v (.int .i64 3))),(3,1,(AV.v (.int .i64 (-2)))),(4,1,(AV.v (.int .i64 1)))] N K=K (.sl 1 (Ar N) 0 5) ((Ar N,.cells false Hh [I 2,I (-1),I 3,I (-2),I 1])::N):=λ{N K}=>by
    have e:GF Hh 1 Ad 5 [(0,1,(AV.v (.int .i64 2))),(1,1,(AV.v (.int .i64 (-1)))),(2,1,(AV.v (.int .i64 3))),(3,1,(AV.v (.int .i64 (-2)))),(4,1,(AV.v (.int .i64 1)))] N K=HE N (λs=>K (.sl 1 s 0 5) ((s,.cells false Hh [I 2,I (-1),I 3,I (-2),I 1])::N)):=r_ rfl;rw[e,BS]
   have bj:∀{s:Nat}{K:K2},D4 Bi (.sl 1 s 0 5) (I (e5:Int)) K=K (.ptr s e5 0):=λ{s K}=>by
    have e1:D4 Bi (.sl 1 s 0 5) (I (e5:Int)) K=iN (e5:Int) λm=>ck (Nat.blt m 5) (fN (Nat.add 0 (Nat.mul m 1)) λp=>K (.ptr s p 0)):=r_ rfl;rw[e1,JU,DF];have O:Nat.blt e5 5=true:=by rw[Wg];omega
    rw[O];show K (.ptr s (0+e5*1) 0)=_;rw[JZ,rT]
   have gd:([I 2,I (-1),I 3,I (-2),I 1]:Is).getD e5 .dk=I (oC e5):=by
    obtain rfl|rfl|rfl|rfl|rfl:e5=0\/e5=1\/e5=2\/e5=3\/e5=4:=by omega
    all_goals rfl
   rw[Ir (by decide),AY,CV,Ir (by decide),AY,CV,Hu (by rfl),Cy,Y V,D,Wh,DT C (show 24<26 by decide) rfl rfl rfl,a9];have m3:=AC (q:=true) (e:=AX) (cs:=(Nd.mk ((6+1:Nat):Int) [] [] u0 0 0 0).cs.set 24 (I (l:Int))) C;have O:=h2.upd o (c_ AX ((Nd.mk ((6+1:Nat):Int) [] [] u0 0 0 0).cs.set 24 (I (l:Int))));have s3:=sm (cs:=(Nd.mk ((6+1:Nat):Int) [] [] u0 0 0 0).cs.set 24 (I (l:Int))) V;generalize Go.Abs.upd A m (c_ AX ((Nd.mk ((6+1:Nat):Int) [] [] u0 0 0 0).cs.set 24 (I (l:Int))))=M at m3 O s3;have w4:=AG (x:=.cells false Hh [I 2,I (-1),I 3,I (-2),I 1]) O.wf;have k4:∀s x,Ah M s=some x->Ah ((Ar M,.cells false Hh [I 2,I (-1),I 3,I (-2),I 1])::M) s=some x:=λs x hs=>A6 (O.wf.lt hs) hs;have h4:=O.grow w4 k4;have X:=k4 _ _ m3;have s4:=k4 _ _ s3;have n4:=Ay (H:=M) (x:=.cells false Hh [I 2,I (-1),I 3,I (-2),I 1]) (by simp);generalize ((Ar M,Row.cells false Hh [I 2,I (-1),I 3,I (-2),I 1])::M)=H4 at h4 X s4 n4;rw[a7 s4,ar,bj,AL (p:=e5) rfl n4 (show e5<5 by omega),gd,Wh,DT X (show 23<26 by decide) rfl rfl rfl,g];have hm:=h4.upd o (c_ AX (((Nd.mk ((6+1:Nat):Int) [] [] u0 0 0 0).cs.set 24 (I (l:Int))).set 23 (I (oC e5))));have R:exO ks 6 a13 b4 d e5 l rr=match Yz (ks.getD l 0) e5 with
    |some k=>.po l e5 k
    |none=>.no:=rfl
   cases hu:Yz (ks.getD l 0) e5 with
   |none=>
    rw[hu]at y R;exact tail (poN l e5) _ u0 90 hm (AC X) y (λj=>absurd j.1 (by decide)) (λ_=>by rw[R];exact⟨rfl,rfl⟩)
   |some k=>
    rw[hu]at y R;exact tail (poN l e5) _ (uu k) 0 hm (AC X) y (λ_=>⟨k,rfl,by rw[R];exact⟨rfl,rfl⟩⟩) (λj=>absurd ⟨rfl,show(7:Int)≠8 by decide⟩ j)
  ·have g7:=Nh k7 (show l<ks.length by omega);have he:=G9.1 (show((List.range 7).all λk=>decide ((usq k).2=0\/(usq k).2=70))=true by kernel_rfl) (ks.getD l 0) (Lf.2 g7);have y:=B4M (L:=L) (n:=n) (id:=id) (o:=u0) (xs:=Ly ks) (l2y he) k1 k3 (show l<ks.length by omega) (C36 L (n+1) _ g7).o;rw[Ir (by decide),AY,CV,Ir (by decide),AY,CV,Ir (by decide),AY,CV,Hu (by rfl),Cy,Y V,D,Wh,DT C (show 24<26 by decide) rfl rfl rfl,g];have hm:=h2.upd o (c_ AX ((Nd.mk ((7+1:Nat):Int) [] [] u0 0 0 0).cs.set 24 (I (l:Int))));by_cases h0:(usq (ks.getD l 0)).2=0
   ·rw[Dv h0]at y;exact tail (sqN l) _ _ 0 hm (AC C) y (λj=>absurd rfl j.2) (λ_=>⟨rfl,rfl⟩)
   ·rw[CL h0]at y;exact tail (sqN l) _ u0 90 hm (AC C) y (λj=>absurd rfl j.2) (λ_=>⟨rfl,rfl⟩)
end
end
end Go.Abs
end
