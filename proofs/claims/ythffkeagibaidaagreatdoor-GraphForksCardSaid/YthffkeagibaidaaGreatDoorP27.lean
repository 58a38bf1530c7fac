import Derived.Test.YthffkeagibaidaaGreatDoorP16
import Derived.Test.YthffkeagibaidaaGreatDoorP17
import Derived.Test.YthffkeagibaidaaGreatDoorP18
import Derived.Test.YthffkeagibaidaaGreatDoorP19
import Derived.Test.YthffkeagibaidaaGreatDoorP20
import Derived.Test.YthffkeagibaidaaGreatDoorP21
import Derived.Test.YthffkeagibaidaaGreatDoorP22
import Derived.Test.YthffkeagibaidaaGreatDoorP23
import Derived.Test.YthffkeagibaidaaGreatDoorP24
import Derived.Test.YthffkeagibaidaaGreatDoorP25
import Derived.Test.YthffkeagibaidaaGreatDoorP26
set_option linter.all false
set_option maxHeartbeats 0
noncomputable section
namespace Go.Abs
open Go.RowKit Go.Proofs
set_option maxRecDepth 100000
section
variable{L n:Nat}
def RV.ls{R:Rt}{f:Nat}{args':Is}{v:AV}(h:RV R f args' v):LS R f args' v:=λq args H a K=>by rw[<-zO];exact gN h a
def mO(op l r:Nat):Nd:=⟨op,[],[],u0,0,l,r⟩
def poN(l e:Nat):Nd:=⟨7,[],[],u0,ZA e,l,0⟩
def K?:Option Nat->AV
 |some k=>.tup [.agg (BY (uu k)),I 0]
 |none=>.tup [.agg Ey,I 90]
section
variable{id:Int}{o:UD}{xs:List Nd}{ks:Hb}{l r e i k:Nat}{q:Option Nat}{I1:AV}
inductive Kl:Hb->Nat->Prop
 |a {x:Nat}:Kl [x] 0
 |b {x y:Nat}:Kl [x,y] 0
 |c {x y:Nat}:Kl [x,y] 1
 |d {x y z:Nat}:Kl [x,y,z] 0
 |e {x y z:Nat}:Kl [x,y,z] 1
 |f {x y z:Nat}:Kl [x,y,z] 2
def kl(h1:1<=ks.length)(g:ks.length<=3)(h:l<ks.length):Kl ks l:=by
 match ks,h1,g,l,h with
 |[_],_,_,0,_=>exact .a
 |[_,_],_,_,0,_=>exact .b
 |[_,_],_,_,1,_=>exact .c
 |[_,_,_],_,_,0,_=>exact .d
 |[_,_,_],_,_,1,_=>exact .e
 |[_,_,_],_,_,2,_=>exact .f
def lt5(h:e<5):e=0\/e=1\/e=2\/e=3\/e=4:=by omega
def A4I(h1:1<=ks.length)(a:ks.length<=3)(c:l<ks.length)(hr:r<ks.length):RV (rt (L+20) (n+2)) DS [.agg (Bn id (Bz ks) (BL xs) o),.agg (mO 3 l r).cs,I ks.length] (.tup [Bo true,Bo true]):=by
 cases kl h1 a c<;>cases kl h1 a hr<;>(exact λb=>by kernel_rfl)
attribute [local irreducible] dK rt in
def A4C(h1:1<=ks.length)(d:ks.length<=3)(f:l<ks.length)(hr:r<ks.length)(c:PO (rt (L+20) (n+41)) Qt [.agg (uu (ks.getD l 0)).cs,.agg (uu (ks.getD r 0)).cs] (HS q)):CS (rt (L+20) (n+42)) BW [.agg (Bn id (Bz ks) (BL xs) o),.agg (mO 3 l r).cs,I ks.length,OE ks] (K? q):=by
 intro K g;have a:=(A4I (L:=L) (n:=n+39) (id:=id) (o:=o) (xs:=xs) h1 d f hr).ls;rewrite[Fv];unfold Fl q4N;rewrite[zO];generalize rt (L+20) (n+41)=R at*
 revert c a
 cases kl h1 d f<;>cases kl h1 d hr<;>(intro c a;simp only[uR,uQ]at c;(conv=>lhs;whnf);rewrite[a false _ _ ?hq];(case hq=>exact λK=>by kernel_rfl);(conv=>lhs;whnf);rewrite[c];cases q<;>(conv=>lhs;whnf)<;>exact g _ _ (λb=>⟨false,λK=>by kernel_rfl⟩))
def A4M(h1:1<=ks.length)(a:ks.length<=3)(c:l<ks.length)(hr:r<ks.length):RV (rt (L+20) (n+2)) DS [.agg (Bn id (Bz ks) (BL xs) o),.agg (mO 4 l r).cs,I ks.length] (.tup [Bo true,Bo true]):=by
 cases kl h1 a c<;>cases kl h1 a hr<;>(exact λb=>by kernel_rfl)
attribute [local irreducible] dK rt in
def A4G(h1:1<=ks.length)(d:ks.length<=3)(f:l<ks.length)(hr:r<ks.length)(c:PO (rt (L+20) (n+41)) Ik [.agg (uu (ks.getD l 0)).cs,.agg (uu (ks.getD r 0)).cs] (HS q)):CS (rt (L+20) (n+42)) BW [.agg (Bn id (Bz ks) (BL xs) o),.agg (mO 4 l r).cs,I ks.length,OE ks] (K? q):=by
 intro K g;have a:=(A4M (L:=L) (n:=n+39) (id:=id) (o:=o) (xs:=xs) h1 d f hr).ls;rewrite[Fv];unfold Fl q4N;rewrite[zO];generalize rt (L+20) (n+41)=R at*
 revert c a
 cases kl h1 d f<;>cases kl h1 d hr<;>(intro c a;simp only[uR,uQ]at c;(conv=>lhs;whnf);rewrite[a false _ _ ?hq];(case hq=>exact λK=>by kernel_rfl);(conv=>lhs;whnf);rewrite[c];cases q<;>(conv=>lhs;whnf)<;>exact g _ _ (λb=>⟨false,λK=>by kernel_rfl⟩))
def A4K(h1:1<=ks.length)(a:ks.length<=3)(c:l<ks.length)(hr:r<ks.length):RV (rt (L+20) (n+2)) DS [.agg (Bn id (Bz ks) (BL xs) o),.agg (mO 5 l r).cs,I ks.length] (.tup [Bo true,Bo true]):=by
 cases kl h1 a c<;>cases kl h1 a hr<;>(exact λb=>by kernel_rfl)
attribute [local irreducible] dK rt in
def A4E(h1:1<=ks.length)(d:ks.length<=3)(f:l<ks.length)(hr:r<ks.length)(c:PO (rt (L+20) (n+41)) Qu [.agg (uu (ks.getD l 0)).cs,.agg (uu (ks.getD r 0)).cs] (HS q)):CS (rt (L+20) (n+42)) BW [.agg (Bn id (Bz ks) (BL xs) o),.agg (mO 5 l r).cs,I ks.length,OE ks] (K? q):=by
 intro K g;have a:=(A4K (L:=L) (n:=n+39) (id:=id) (o:=o) (xs:=xs) h1 d f hr).ls;rewrite[Fv];unfold Fl q4N;rewrite[zO];generalize rt (L+20) (n+41)=R at*
 revert c a
 cases kl h1 d f<;>cases kl h1 d hr<;>(intro c a;simp only[uR,uQ]at c;(conv=>lhs;whnf);rewrite[a false _ _ ?hq];(case hq=>exact λK=>by kernel_rfl);(conv=>lhs;whnf);rewrite[c];cases q<;>(conv=>lhs;whnf)<;>exact g _ _ (λb=>⟨false,λK=>by kernel_rfl⟩))
def A4L(h1:1<=ks.length)(a:ks.length<=3)(c:l<ks.length)(hr:r<ks.length):RV (rt (L+20) (n+2)) DS [.agg (Bn id (Bz ks) (BL xs) o),.agg (mO 6 l r).cs,I ks.length] (.tup [Bo true,Bo true]):=by
 cases kl h1 a c<;>cases kl h1 a hr<;>(exact λb=>by kernel_rfl)
attribute [local irreducible] dK rt in
def A4F(h1:1<=ks.length)(d:ks.length<=3)(f:l<ks.length)(hr:r<ks.length)(c:PO (rt (L+20) (n+41)) Qv [.agg (uu (ks.getD l 0)).cs,.agg (uu (ks.getD r 0)).cs] (HS q)):CS (rt (L+20) (n+42)) BW [.agg (Bn id (Bz ks) (BL xs) o),.agg (mO 6 l r).cs,I ks.length,OE ks] (K? q):=by
 intro K g;have a:=(A4L (L:=L) (n:=n+39) (id:=id) (o:=o) (xs:=xs) h1 d f hr).ls;rewrite[Fv];unfold Fl q4N;rewrite[zO];generalize rt (L+20) (n+41)=R at*
 revert c a
 cases kl h1 d f<;>cases kl h1 d hr<;>(intro c a;simp only[uR,uQ]at c;(conv=>lhs;whnf);rewrite[a false _ _ ?hq];(case hq=>exact λK=>by kernel_rfl);(conv=>lhs;whnf);rewrite[c];cases q<;>(conv=>lhs;whnf)<;>exact g _ _ (λb=>⟨false,λK=>by kernel_rfl⟩))
def A4J(h1:1<=ks.length)(a:ks.length<=3)(c:l<ks.length)(he:e<5):RV (rt (L+20) (n+2)) DS [.agg (Bn id (Bz ks) (BL xs) o),.agg (poN l e).cs,I ks.length] (.tup [Bo true,Bo true]):=by
 cases kl h1 a c<;>rcases lt5 he with rfl|rfl|rfl|rfl|rfl<;>(exact λb=>by kernel_rfl)
attribute [local irreducible] dK rt in
def A4D(h1:1<=ks.length)(d:ks.length<=3)(f:l<ks.length)(he:e<5)(c:PO (rt (L+20) (n+41)) Jn [.agg (uu (ks.getD l 0)).cs,.agg [I (ZA e),I 1]] (HS q)):CS (rt (L+20) (n+42)) BW [.agg (Bn id (Bz ks) (BL xs) o),.agg (poN l e).cs,I ks.length,OE ks] (K? q):=by
 intro K g;have a:=(A4J (L:=L) (n:=n+39) (id:=id) (o:=o) (xs:=xs) h1 d f he).ls;rewrite[Fv];unfold Fl q4N;rewrite[zO];generalize rt (L+20) (n+41)=R at*
 revert c a
 cases kl h1 d f<;>rcases lt5 he with rfl|rfl|rfl|rfl|rfl<;>(intro c a;simp only[uR,uQ]at c;(conv=>lhs;whnf);rewrite[a false _ _ ?hq];(case hq=>exact λK=>by kernel_rfl);(conv=>lhs;whnf);refine W_ (c _ _) ?_;cases q<;>(conv=>lhs;whnf)<;>exact g _ _ (λb=>⟨false,λK=>by kernel_rfl⟩))
def A20(h1:1<=ks.length)(a:ks.length<=3)(c:l<ks.length)(hr:r<ks.length):RV (rt (L+20) (n+2)) Bv [TW I1 (OE ks),WU (EP.getD 3 []) dM DC,.agg (mO 3 l r).cs] (Bo true):=by
 cases kl h1 a c<;>cases kl h1 a hr<;>(exact λb=>by kernel_rfl)
attribute [local irreducible] dK rt in
def A3S(h1:1<=ks.length)(c:ks.length<=3)(f:l<ks.length)(hr:r<ks.length)(a:PO (rt (L+20) (n+40)) Ti [.agg (uu (ks.getD l 0)).cs,.agg (uu (ks.getD r 0)).cs] (HS (some k))):CS (rt (L+20) (n+41)) DC [TW I1 (OE ks),.agg (mO 3 l r).cs] (.tup [.agg (BY (uu k)),I 0]):=by
 intro K d;rewrite[Ol];unfold GA Mt;rewrite[zO];generalize rt (L+20) (n+40)=R at*
 revert a
 cases kl h1 c f<;>cases kl h1 c hr<;>(intro a;simp only[uR,uQ]at a;(conv=>lhs;whnf);rewrite[a];(conv=>lhs;whnf);exact d _ _ (λb=>⟨false,λK=>by kernel_rfl⟩))
def A24(h1:1<=ks.length)(a:ks.length<=3)(c:l<ks.length)(hr:r<ks.length):RV (rt (L+20) (n+2)) Bv [TW I1 (OE ks),WU (EP.getD 4 []) dM C6,.agg (mO 4 l r).cs] (Bo true):=by
 cases kl h1 a c<;>cases kl h1 a hr<;>(exact λb=>by kernel_rfl)
attribute [local irreducible] dK rt in
def A3W(h1:1<=ks.length)(c:ks.length<=3)(f:l<ks.length)(hr:r<ks.length)(a:PO (rt (L+20) (n+40)) IV [.agg (uu (ks.getD l 0)).cs,.agg (uu (ks.getD r 0)).cs] (HS (some k))):CS (rt (L+20) (n+41)) C6 [TW I1 (OE ks),.agg (mO 4 l r).cs] (.tup [.agg (BY (uu k)),I 0]):=by
 intro K d;rewrite[KB];unfold E4 Mt;rewrite[zO];generalize rt (L+20) (n+40)=R at*
 revert a
 cases kl h1 c f<;>cases kl h1 c hr<;>(intro a;simp only[uR,uQ]at a;(conv=>lhs;whnf);rewrite[a];(conv=>lhs;whnf);exact d _ _ (λb=>⟨false,λK=>by kernel_rfl⟩))
def A22(h1:1<=ks.length)(a:ks.length<=3)(c:l<ks.length)(hr:r<ks.length):RV (rt (L+20) (n+2)) Bv [TW I1 (OE ks),WU (EP.getD 5 []) dM CM,.agg (mO 5 l r).cs] (Bo true):=by
 cases kl h1 a c<;>cases kl h1 a hr<;>(exact λb=>by kernel_rfl)
attribute [local irreducible] dK rt in
def A3U(h1:1<=ks.length)(c:ks.length<=3)(f:l<ks.length)(hr:r<ks.length)(a:PO (rt (L+20) (n+40)) Tj [.agg (uu (ks.getD l 0)).cs,.agg (uu (ks.getD r 0)).cs] (HS (some k))):CS (rt (L+20) (n+41)) CM [TW I1 (OE ks),.agg (mO 5 l r).cs] (.tup [.agg (BY (uu k)),I 0]):=by
 intro K d;rewrite[LZ];unfold Fy Mt;rewrite[zO];generalize rt (L+20) (n+40)=R at*
 revert a
 cases kl h1 c f<;>cases kl h1 c hr<;>(intro a;simp only[uR,uQ]at a;(conv=>lhs;whnf);rewrite[a];(conv=>lhs;whnf);exact d _ _ (λb=>⟨false,λK=>by kernel_rfl⟩))
def A23(h1:1<=ks.length)(a:ks.length<=3)(c:l<ks.length)(hr:r<ks.length):RV (rt (L+20) (n+2)) Bv [TW I1 (OE ks),WU (EP.getD 6 []) dM CF,.agg (mO 6 l r).cs] (Bo true):=by
 cases kl h1 a c<;>cases kl h1 a hr<;>(exact λb=>by kernel_rfl)
attribute [local irreducible] dK rt in
def A3V(h1:1<=ks.length)(c:ks.length<=3)(f:l<ks.length)(hr:r<ks.length)(a:PO (rt (L+20) (n+40)) Tk [.agg (uu (ks.getD l 0)).cs,.agg (uu (ks.getD r 0)).cs] (HS (some k))):CS (rt (L+20) (n+41)) CF [TW I1 (OE ks),.agg (mO 6 l r).cs] (.tup [.agg (BY (uu k)),I 0]):=by
 intro K d;rewrite[L3];unfold EY Mt;rewrite[zO];generalize rt (L+20) (n+40)=R at*
 revert a
 cases kl h1 c f<;>cases kl h1 c hr<;>(intro a;simp only[uR,uQ]at a;(conv=>lhs;whnf);rewrite[a];(conv=>lhs;whnf);exact d _ _ (λb=>⟨false,λK=>by kernel_rfl⟩))
def A21(h1:1<=ks.length)(a:ks.length<=3)(c:l<ks.length)(he:e<5):RV (rt (L+20) (n+2)) Bv [TW I1 (OE ks),WU (EP.getD 7 []) B3W Ds,.agg (poN l e).cs] (Bo true):=by
 cases kl h1 a c<;>rcases lt5 he with rfl|rfl|rfl|rfl|rfl<;>(exact λb=>by kernel_rfl)
attribute [local irreducible] dK rt in
def A3T(h1:1<=ks.length)(c:ks.length<=3)(f:l<ks.length)(he:e<5)(a:PO (rt (L+20) (n+40)) PK [.agg (uu (ks.getD l 0)).cs,.agg [I (ZA e),I 1]] (HS (some k))):CS (rt (L+20) (n+41)) Ds [TW I1 (OE ks),.agg (poN l e).cs] (.tup [.agg (BY (uu k)),I 0]):=by
 intro K d;rewrite[Nq];unfold FY DV Sb Tg Mf EU Aq JR;rewrite[zO];generalize rt (L+20) (n+40)=R at*
 revert a
 cases kl h1 c f<;>rcases lt5 he with rfl|rfl|rfl|rfl|rfl<;>(intro a;simp only[uR,uQ]at a;(conv=>lhs;whnf);dsimp only[poN];rewrite[a];(conv=>lhs;whnf);exact d _ _ (λb=>⟨false,λK=>by kernel_rfl⟩))
end
end
section
variable(L n:Nat)
def vP:((List.range 11).all λk=>(λi=>HU (AN (C8 (r! L (n+40)) Df [.agg (WY i)]) (Bo true))) (k+0))=true:=by kernel_rfl
def vO:((List.range 11).all λk=>(λi=>HU (AN (C8 (r! L (n+40)) Df [.agg (WY i)]) (Bo true))) (k+11))=true:=by kernel_rfl
def vN:((List.range 11).all λk=>(λi=>HU (AN (C8 (r! L (n+40)) Df [.agg (WY i)]) (Bo true))) (k+22))=true:=by kernel_rfl
def A25(i:Nat)(h:i<33):PS (r! L (n+40)) Df [.agg (WY i)] (Bo true):=by
 refine Bp (λH=>by first|exact λK=>by kernel_rfl) ?_;by_cases a:i<11
 ·have:=Gb.1 (vP L n) (i-0) (I2.2 (by omega));have e:i-0+0=i:=by omega
  simp only[e]at this;exact this
 by_cases h1:i<22
 ·have:=Gb.1 (vO L n) (i-11) (I2.2 (by omega));have e:i-11+11=i:=by omega
  simp only[e]at this;exact this
 by_cases h2:i<33
 ·have:=Gb.1 (vN L n) (i-22) (I2.2 (by omega));have e:i-22+22=i:=by omega
  simp only[e]at this;exact this
 ·omega
def vS:((List.range 11).all λk=>(λi=>HU (AN (C8 (r! L (n+40)) Gk [.agg (WY i)]) (S (frt i)))) (k+0))=true:=by kernel_rfl
def vR:((List.range 11).all λk=>(λi=>HU (AN (C8 (r! L (n+40)) Gk [.agg (WY i)]) (S (frt i)))) (k+11))=true:=by kernel_rfl
def vQ:((List.range 11).all λk=>(λi=>HU (AN (C8 (r! L (n+40)) Gk [.agg (WY i)]) (S (frt i)))) (k+22))=true:=by kernel_rfl
def A26(i:Nat)(h:i<33):PS (r! L (n+40)) Gk [.agg (WY i)] (S (frt i)):=by
 refine Bp (λH=>by first|exact λK=>by kernel_rfl) ?_;by_cases a:i<11
 ·have:=Gb.1 (vS L n) (i-0) (I2.2 (by omega));have e:i-0+0=i:=by omega
  simp only[e]at this;exact this
 by_cases h1:i<22
 ·have:=Gb.1 (vR L n) (i-11) (I2.2 (by omega));have e:i-11+11=i:=by omega
  simp only[e]at this;exact this
 by_cases h2:i<33
 ·have:=Gb.1 (vQ L n) (i-22) (I2.2 (by omega));have e:i-22+22=i:=by omega
  simp only[e]at this;exact this
 ·omega
end
section
variable{at_:Int}
variable{L n:Nat}
section
variable{id:Int}{o:UD}{xs:List Nd}{ks:Hb}{i j k:Nat}{I1:AV}
def A46(d:ks.length<=3):RV (rt (L+20) (n+2)) Bv [TW I1 (OE ks),WU (EP.getD 2 []) B48 Ej,.agg (VR i).cs] (Bo true):=by
 match ks,d with
 |[],_=>exact λb=>by kernel_rfl
 |[a],_=>exact λb=>by kernel_rfl
 |[a,b],_=>exact λb=>by kernel_rfl
 |[a,b,c],_=>exact λb=>by kernel_rfl
def A47(d:ks.length<=3):RV (rt (L+20) (n+2)) Bv [TW I1 (OE ks),WU (EP.getD 1 []) A7 CG,.agg (cnN i k).cs] (Bo true):=by
 match ks,d with
 |[],_=>exact λb=>by kernel_rfl
 |[a],_=>exact λb=>by kernel_rfl
 |[a,b],_=>exact λb=>by kernel_rfl
 |[a,b,c],_=>exact λb=>by kernel_rfl
def A7J{U:AV}(h1:1<=ks.length)(a:ks.length<=3)(c:j<ks.length):RV (rt (L+20) (n+2)) Ej [TW (Bz ks) U,.agg (VR j).cs] (.tup [.agg (BY (uu (ks.getD j 0))),I 0]):=by
 cases kl h1 a c<;>exact λb=>by kernel_rfl
attribute [local irreducible] dK rt in
def A7K{C:Is}(hv:PO (rt (L+20) (n+40)) Df [.agg (WY i)] (Bo true))(c:PO (rt (L+20) (n+40)) J6 [.agg (uu k).cs] (Bo true)):CS (rt (L+20) (n+41)) CG [.iptr C,.agg (cnN i k).cs] (.tup [.agg (BY (uu k)),I 0]):=by
 intro K a;rewrite[L4];unfold EZ Mt;rewrite[zO];generalize rt (L+20) (n+40)=R at*
 conv=>lhs;whnf
 refine W_ (hv _ _) ?_
 conv=>lhs;whnf
 simp only[DF]
 dsimp only[cnN]
 rewrite[c]
 conv=>lhs;whnf
 exact a _ _ (λb=>⟨false,λK=>by kernel_rfl⟩)
attribute [local irreducible] dK rt Ts in
def A8U(hv:PO (rt (L+20) (n+40)) DU [.agg (WY i)] (Bo true))(c:PO (rt (L+20) (n+40)) DT [.agg (uu k).cs] (Bo true)):CS (rt (L+20) (n+41)) DS [.agg (Bn id (Bz ks) (BL xs) o),.agg (cnN i k).cs,I at_] (.tup [Bo true,Bo false]):=by
 intro K a;rewrite[RM];unfold Lw DV Qg B3 Aq JR EV;rewrite[zO];generalize rt (L+20) (n+40)=R at*
 conv=>lhs;whnf
 refine W_ (hv _ _) ?_
 conv=>lhs;whnf
 refine W_ (c _ _) ?_
 conv=>lhs;whnf
 refine W_ (B8a (x:=cnN i k)) ?_
 conv=>lhs;whnf
 exact a _ _ (λb=>⟨false,λK=>by kernel_rfl⟩)
attribute [local irreducible] dK rt in
def A8S(hv:PO (rt (L+20) (n+40)) DU [.agg (WY i)] (Bo true))(c:PO (rt (L+20) (n+40)) DT [.agg (uu k).cs] (Bo true)){w:AV}:CS (rt (L+20) (n+42)) BW [.agg (Bn id (Bz ks) (BL xs) o),.agg (cnN i k).cs,I at_,w] (.tup [.agg (BY (uu k)),I 0]):=by
 intro K d;have a:=(A8U (id:=id) (o:=o) (xs:=xs) (ks:=ks) (at_:=at_) hv c).ls;clear hv c;rewrite[Fv];unfold Fl q4N;rewrite[zO];generalize rt (L+20) (n+41)=R at*
 conv=>lhs;whnf
 rewrite[a false _ _ ?hq]
 case hq=>exact λK=>by kernel_rfl
 conv=>lhs;whnf
 exact d _ _ (λb=>⟨false,λK=>by kernel_rfl⟩)
end
end
section
section
variable(L n:Nat)
def B97:List (UD×Int):=[(⟨1,2,0,1,0,1,0,1,0,1,0,1,0,1,[49],[49],[48],[49],0,1⟩,0),(⟨0,1,0,1,1,2,0,1,0,1,0,1,0,1,[49],[49],[48],[49],0,1⟩,0),(u0,70),(⟨0,1,0,1,0,1,0,1,0,1,0,1,0,1,[49],[49],[48],[49],0,2⟩,0),
 (u0,70),(⟨0,1,0,1,0,1,0,1,1,2,0,1,0,1,[49],[49],[48],[49],0,1⟩,0),(⟨1,1,0,1,0,1,0,1,0,1,0,1,0,1,[49],[49],[48],[49],0,1⟩,0)]
def usq(k:Nat):UD×Int:=B97.getD k (u0,0)
def A8M:((List.range 7).all λi=>HU (AN (C8 (rt (L+20) (n+40)) Jn [.agg (uu i).cs,.agg [I 1,I 2]]) (.tup [.agg (usq i).1.cs,I (usq i).2])))=true:=by kernel_rfl
def B6F(i:Nat)(h:i<7):PS (rt (L+20) (n+40)) Jn [.agg (uu i).cs,.agg [I 1,I 2]] (.tup [.agg (usq i).1.cs,I (usq i).2]):=by
 refine Bp (λH=>by first|exact λK=>by kernel_rfl) ?_;exact Gb.1 (A8M L n) i (I2.2 h)
end
variable{L n:Nat}
section
variable{id:Int}{o:UD}{xs:List Nd}{ks:Hb}{i j k l:Nat}{I1:AV}
def sqN(l:Nat):Nd:=⟨8,[],[],u0,0,l,0⟩
def A8T(h1:1<=ks.length)(a:ks.length<=3)(c:l<ks.length):RV (rt (L+20) (n+2)) DS [.agg (Bn id (Bz ks) (BL xs) o),.agg (sqN l).cs,I ks.length] (.tup [Bo true,Bo true]):=by
 cases kl h1 a c<;>exact λb=>by kernel_rfl
attribute [local irreducible] dK rt in
def A8R{u:UD}{e:Int}(he:e=0\/e=70)(h1:1<=ks.length)(d:ks.length<=3)(f:l<ks.length)(c:PO (rt (L+20) (n+41)) Jn [.agg (uu (ks.getD l 0)).cs,.agg [I 1,I 2]] (.tup [.agg u.cs,I e])):CS (rt (L+20) (n+42)) BW [.agg (Bn id (Bz ks) (BL xs) o),.agg (sqN l).cs,I ks.length,OE ks] (if e=0 then .tup [.agg u.cs,I 0] else .tup [.agg Ey,I 90]):=by
 intro K g;have a:=(A8T (L:=L) (n:=n+39) (id:=id) (o:=o) (xs:=xs) h1 d f).ls;rewrite[Fv];unfold Fl q4N;rewrite[zO];generalize rt (L+20) (n+41)=R at*
 revert c a
 cases kl h1 d f<;>(intro c a;simp only[uR,uQ]at c;(conv=>lhs;whnf);rewrite[a false _ _ ?hq];(case hq=>exact λK=>by kernel_rfl);(conv=>lhs;whnf);refine W_ (c _ _) ?_;rcases he with rfl|rfl<;>(conv=>lhs;whnf)<;>exact g _ _ (λb=>⟨false,λK=>by kernel_rfl⟩))
end
section
variable{i k:Nat}
def tK(h:i<33):(frt i).length<10:=by
 have:=Gb.1 (show((List.range 33).all λi=>decide ((frt i).length<10))=true by kernel_rfl) i (I2.2 h);simpa using this
def A8K:PS (rt (L+20) (n+1)) Wk [] (.list 9 (EP.map λw=>S w)):=Bp (λH K=>by kernel_rfl) (by kernel_rfl)
attribute [local irreducible] dK rt Al in
def A4X(e:i<33)(h:PO (rt (L+20) (n+40)) C5 [I 1,I 1,I 8] (Bo true))(c:PO (rt (L+20) (n+40)) Wk [] (.list 9 (EP.map λw=>S w)))(g:PO (rt (L+20) (n+40)) Hq [.agg (uu k).cs] (.tup [S (Jc k),I 0]))(f:PO (rt (L+20) (n+40)) Km [.agg (WY i)] (S (frt i))):CS (rt (L+20) (n+41)) GT [.agg (cnN i k).cs] (S (cnT i k)):=by
 intro K d;rewrite[jW];unfold SO GO;rewrite[zO];generalize rt (L+20) (n+40)=R at*
 conv=>lhs;whnf
 refine W_ (h _ _) ?_
 conv=>lhs;whnf
 rewrite[c]
 conv=>lhs;whnf
 refine W_ qD ?_
 conv=>lhs;whnf
 refine W_ (g _ _) ?_
 conv=>lhs;whnf
 have h1:=tK e;have h2:=EF k;refine W_ (Bf (a:=EP.getD 1 []) (by decide)) ?_
 conv=>lhs;whnf
 refine W_ (f _ _) ?_
 conv=>lhs;whnf
 rewrite[Bf (by simp only[E6,EP,uQ,uR,Kg,Oc];omega)];rewrite[Bf (by simp only[E6,EP,uQ,uR,Kg,Oc];omega)];rewrite[Bf (by simp only[E6,EP,uQ,uR,Kg,Oc];omega)];exact d _ _ (λb=>⟨false,λK=>by kernel_rfl⟩)
attribute [local irreducible] dK rt Al in
def A44(e:i<33)(c:PO (rt (L+20) (n+40)) Ge [] UE)(g:PO (rt (L+20) (n+40)) GR [.agg (uu k).cs] (.tup [S (Jc k),I 0]))(f:PO (rt (L+20) (n+40)) Gk [.agg (WY i)] (S (frt i))):CS (rt (L+20) (n+41)) Eg [.agg (cnN i k).cs] (S (cnT i k)):=by
 intro K d;rewrite[Ww];unfold My DV Aq;rewrite[zO];generalize rt (L+20) (n+40)=R at*
 conv=>lhs;whnf
 rewrite[c]
 conv=>lhs;whnf
 rewrite[c]
 conv=>lhs;whnf
 refine W_ (qD (a:=1)) ?_
 conv=>lhs;whnf
 refine W_ (g _ _) ?_
 conv=>lhs;whnf
 have h1:=tK e;have h2:=EF k;refine W_ (Bf (a:=EP.getD 1 []) (by decide)) ?_
 conv=>lhs;whnf
 refine W_ (f _ _) ?_
 conv=>lhs;whnf
 rewrite[Bf (by simp only[E6,EP,uQ,uR,Kg,Oc];omega)];rewrite[Bf (by simp only[E6,EP,uQ,uR,Kg,Oc];omega)];rewrite[Bf (by simp only[E6,EP,uQ,uR,Kg,Oc];omega)];exact d _ _ (λb=>⟨false,λK=>by kernel_rfl⟩)
end
end
section
variable{L n:Nat}
inductive Ex where
 |no
 |cn (i k:Nat)
 |inp (j:Nat)
 |bi (op l r k:Nat)
 |po (l e k:Nat)
def Ex.nd:Ex->List Nd
 |.no=>[]
 |.cn i k=>[cnN i k]
 |.inp j=>[VR j]
 |.bi op l r _=>[mO op l r]
 |.po l e _=>[poN l e]
def Ex.ty(ks:Hb):Ex->Hb
 |.no=>[]
 |.cn _ k=>[k]
 |.inp j=>[ks.getD j 0]
 |.bi _ _ _ k=>[k]
 |.po _ _ k=>[k]
def Ex.tx:Ex->List Ha
 |.no=>[]
 |.cn i k=>[cnT i k]
 |.inp j=>[Z? j]
 |.bi op l r _=>[Z? (3+9*(op-3)+3*l+r)]
 |.po l e _=>[Z? (39+5*l+e)]
def Ex.Ok(ks:Hb):Ex->Prop
 |.no=>True
 |.cn i k=>i<33/\k<7
 |.inp j=>j<ks.length
 |.bi op l r k=>3<=op/\op<7/\l<ks.length/\r<ks.length/\Sf (op-3) (ks.getD l 0) (ks.getD r 0)=some k
 |.po l e k=>l<ks.length/\e<5/\Ui (ks.getD l 0) e=some k
structure Pr where
 id:Nat
 ks:Hb
 x:Ex
structure Pr.Ok(p:Pr):Prop where
 i1:1<=p.id
 i2:p.id<950
 k1:1<=p.ks.length
 k3:p.ks.length<=3
 k7:∀k∈p.ks,k<7
 x:p.x.Ok p.ks
def Pr.xs(p:Pr):List Nd:=Kh p.ks++p.x.nd
def Pr.ty(p:Pr):Hb:=p.ks++p.x.ty p.ks
def Pr.ts(p:Pr):List Ha:=(List.range p.ks.length).map Z?++p.x.tx
def Pr.out(p:Pr):Nat:=p.ty.getD (p.xs.length-1) 0
section
variable{a b l r e i j k op:Nat}{ks:Hb}{xs:List Nd}{id:Int}{o:UD}
def Ks{N:Nat}(h:∀k∈ks,k<N)(c:l<ks.length):ks.getD l 0<N:=by
 have e:ks.getD l 0=ks[l]:=by simp[List.getD,II c]
 rw[e];exact h _ (Na c)
def A8L(c:a<7)(hb:b<7):PO (r! L (n+41)) Qt [.agg (uu a).cs,.agg (uu b).cs] (HS (Sf 0 a b)):=by
 have:=(B3A L (n+1) (7*a+b) (by omega)).o;rwa[show(7*a+b)/7=a by omega,show(7*a+b)%7=b by omega]at this
def A8Q(c:a<7)(hb:b<7):PO (r! L (n+41)) Ik [.agg (uu a).cs,.agg (uu b).cs] (HS (Sf 1 a b)):=by
 have:=(B3E L (n+1) (7*a+b) (by omega)).o;rwa[show(7*a+b)/7=a by omega,show(7*a+b)%7=b by omega]at this
def A8O(c:a<7)(hb:b<7):PO (r! L (n+41)) Qu [.agg (uu a).cs,.agg (uu b).cs] (HS (Sf 2 a b)):=by
 have:=(B3C L (n+1) (7*a+b) (by omega)).o;rwa[show(7*a+b)/7=a by omega,show(7*a+b)%7=b by omega]at this
def A8P(c:a<7)(hb:b<7):PO (r! L (n+41)) Qv [.agg (uu a).cs,.agg (uu b).cs] (HS (Sf 3 a b)):=by
 have:=(B3D L (n+1) (7*a+b) (by omega)).o;rwa[show(7*a+b)/7=a by omega,show(7*a+b)%7=b by omega]at this
def A8N(c:a<7)(hb:e<5):PO (r! L (n+41)) Jn [.agg (uu a).cs,.agg [I (ZA e),I 1]] (HS (Ui a e)):=by
 have:=(B3B L (n+1) (5*a+e) (by omega)).o;rwa[show(5*a+e)/5=a by omega,show(5*a+e)%5=e by omega]at this
def A7E(f:a<7)(hb:b<7)(h:Sf 0 a b=some k):PO (r! L (n+40)) Ti [.agg (uu a).cs,.agg (uu b).cs] (HS (some k)):=by
 have c:(7*a+b)/7=a:=by omega
 have d:(7*a+b)%7=b:=by omega
 have:=(B1m L n (7*a+b) (by omega) (by rw[c,d,h];rfl)).o;rwa[c,d,h]at this
def A7I(f:a<7)(hb:b<7)(h:Sf 1 a b=some k):PO (r! L (n+40)) IV [.agg (uu a).cs,.agg (uu b).cs] (HS (some k)):=by
 have c:(7*a+b)/7=a:=by omega
 have d:(7*a+b)%7=b:=by omega
 have:=(B1q L n (7*a+b) (by omega) (by rw[c,d,h];rfl)).o;rwa[c,d,h]at this
def A7G(f:a<7)(hb:b<7)(h:Sf 2 a b=some k):PO (r! L (n+40)) Tj [.agg (uu a).cs,.agg (uu b).cs] (HS (some k)):=by
 have c:(7*a+b)/7=a:=by omega
 have d:(7*a+b)%7=b:=by omega
 have:=(B1o L n (7*a+b) (by omega) (by rw[c,d,h];rfl)).o;rwa[c,d,h]at this
def A7H(f:a<7)(hb:b<7)(h:Sf 3 a b=some k):PO (r! L (n+40)) Tk [.agg (uu a).cs,.agg (uu b).cs] (HS (some k)):=by
 have c:(7*a+b)/7=a:=by omega
 have d:(7*a+b)%7=b:=by omega
 have:=(B1p L n (7*a+b) (by omega) (by rw[c,d,h];rfl)).o;rwa[c,d,h]at this
def A7F(f:a<7)(hb:e<5)(h:Ui a e=some k):PO (r! L (n+40)) PK [.agg (uu a).cs,.agg [I (ZA e),I 1]] (HS (some k)):=by
 have c:(5*a+e)/5=a:=by omega
 have d:(5*a+e)%5=e:=by omega
 have:=(B1n L n (5*a+e) (by omega) (by rw[c,d,h];rfl)).o;rwa[c,d,h]at this
def A0W(h1:1<=ks.length)(d:ks.length<=3)(hk:∀k∈ks,k<7)(c:l<ks.length)(hr:r<ks.length)(h:3<=op)(g:op<7):
 CS (r! L (n+42)) BW [.agg (Bn id (Bz ks) (BL xs) o),.agg (mO op l r).cs,I ks.length,OE ks] (K? (Sf (op-3) (ks.getD l 0) (ks.getD r 0))):=by
 have f:=Ks hk c;have hb:=Ks hk hr;obtain rfl|rfl|rfl|rfl:op=3\/op=4\/op=5\/op=6:=by omega
 ·exact A4C h1 d c hr (A8L f hb)
 ·exact A4G h1 d c hr (A8Q f hb)
 ·exact A4E h1 d c hr (A8O f hb)
 ·exact A4F h1 d c hr (A8P f hb)
def A0V(h1:1<=ks.length)(d:ks.length<=3)(hk:∀k∈ks,k<7)(c:l<ks.length)(he:e<5):
 CS (r! L (n+42)) BW [.agg (Bn id (Bz ks) (BL xs) o),.agg (poN l e).cs,I ks.length,OE ks] (K? (Ui (ks.getD l 0) e)):=
 A4D h1 d c he (A8N (Ks hk c) he)
def wI{at_:Int}{w:AV}(c:i<33)(hk:k<7):CS (r! L (n+42)) BW [.agg (Bn id (Bz ks) (BL xs) o),.agg (cnN i k).cs,I at_,w] (.tup [.agg (BY (uu k)),I 0]):=
 A8S (A2m L n i c).o (Pg L n k (by omega)).o
end
section
variable{p:Pr}{o:UD}
def B3V(h:p.Ok):RTy L n p.id p.ks p.xs o p.ty:=by
 obtain⟨pid,ks,x⟩:=p;obtain⟨i1,i2,k1,k3,k7,c⟩:=h;unfold Pr.xs Pr.ty;cases x with
 |no=>
  simp only[Ex.nd,Ex.ty,fV];exact B3s (WW k3 (by decide))
 |cn i k=>exact fP (WW k3 (by decide)) (wI c.1 c.2)
 |inp j=>
  refine fP (WW k3 (by decide)) ?_;have f:j<ks.length:=c;have e:ks.getD j 0=ks[j]:=by simp[List.getD,II f]
  rw[e];exact Vw (n:=n+39) (WW k3 (by decide)) f
 |bi op l r k=>
  obtain⟨h1,h2,d,g,m⟩:=c;refine fP (WW k3 (by decide)) ?_;have:=A0W (L:=L) (n:=n) (id:=pid) (xs:=Kh ks++[mO op l r]) (o:=o) k1 k3 k7 d g h1 h2;rw[m]at this;exact this
 |po l e k=>
  obtain⟨h1,h2,d⟩:=c;refine fP (WW k3 (by decide)) ?_;have:=A0V (L:=L) (n:=n) (id:=pid) (xs:=Kh ks++[poN l e]) (o:=o) k1 k3 k7 h1 h2;rw[d]at this;exact this
def A3R{ks:Hb}{i:Nat}(k1:1<=ks.length)(k3:ks.length<=3){l:Hb}(d:l.length<=3)(c:i<ks.length):WNd L n (Bz ks) l (VR i) (ks.getD i 0):=
 ⟨EP.getD 2 [],B48,Ej,.inr ⟨_,_,rfl⟩,λH K=>by kernel_rfl,by kernel_rfl,rfl,rfl,A46 (n:=n+39) d,A7J (n:=n+39) k1 k3 c⟩
def B3U(h:p.Ok):WTy L n p.ks p.xs p.ty:=by
 obtain⟨pid,ks,x⟩:=p;obtain⟨i1,i2,k1,k3,k7,q⟩:=h;simp only at k1 k3 k7 q;intro i u;simp only[Pr.xs,Pr.ty]at u⊢;by_cases f:i<ks.length
 ·have g:(Kh ks++x.nd)[i]=VR i:=by
   rw[List.getElem_append_left (by rw[DB];exact f)];exact XZ _
  have m:(ks++x.ty ks).getD i 0=ks.getD i 0:=by simp[List.getD,l0l f]
  rw[g,m];exact A3R k1 k3 (by rw[xS];omega) f
 ·have A:x.nd.length<=1:=by cases x<;>simp[Ex.nd]
  rw[E6,DB]at u;obtain rfl:i=ks.length:=by omega
  have g:∀y,x.nd=[y]->(Kh ks++x.nd)[ks.length]'(by rw[E6,DB];exact u)=y:=λy w=>by
   rw[List.getElem_append_right (by rw[DB];omega)];simp[w,DB]
  have m:∀k,x.ty ks=[k]->(ks++x.ty ks).getD ks.length 0=k:=λk hk=>by simp[List.getD,hk]
  have v:(ks++x.ty ks).take ks.length=ks:=List.take_left' rfl;rw[v];cases x with
  |no=>simp[Ex.nd]at u
  |cn i k=>
   rw[g _ rfl,m _ rfl];exact⟨EP.getD 1 [],A7,CG,.inl rfl,λH K=>by kernel_rfl,by kernel_rfl,rfl,rfl,A47 (n:=n+39) k3,(A7K (A25 L n i q.1).o (Uh L n k (by have:=q.2;omega)).o).rv⟩
  |inp j=>
   rw[g _ rfl,m _ rfl];exact A3R k1 k3 k3 q
  |bi op l r k=>
   obtain⟨h1,h2,c,d,s⟩:=q;have t:=Ks k7 c;have hb:=Ks k7 d;rw[g _ rfl,m _ rfl];obtain rfl|rfl|rfl|rfl:op=3\/op=4\/op=5\/op=6:=by omega
   ·exact⟨EP.getD 3 [],dM,DC,.inr ⟨_,_,rfl⟩,λH K=>by kernel_rfl,by kernel_rfl,rfl,rfl,A20 (n:=n+39) k1 k3 c d,(A3S k1 k3 c d (A7E t hb s)).rv⟩
   ·exact⟨EP.getD 4 [],dM,C6,.inr ⟨_,_,rfl⟩,λH K=>by kernel_rfl,by kernel_rfl,rfl,rfl,A24 (n:=n+39) k1 k3 c d,(A3W k1 k3 c d (A7I t hb s)).rv⟩
   ·exact⟨EP.getD 5 [],dM,CM,.inr ⟨_,_,rfl⟩,λH K=>by kernel_rfl,by kernel_rfl,rfl,rfl,A22 (n:=n+39) k1 k3 c d,(A3U k1 k3 c d (A7G t hb s)).rv⟩
   ·exact⟨EP.getD 6 [],dM,CF,.inr ⟨_,_,rfl⟩,λH K=>by kernel_rfl,by kernel_rfl,rfl,rfl,A23 (n:=n+39) k1 k3 c d,(A3V k1 k3 c d (A7H t hb s)).rv⟩
  |po l e k=>
   obtain⟨h1,h2,c⟩:=q;rw[g _ rfl,m _ rfl];exact⟨EP.getD 7 [],B3W,Ds,.inr ⟨_,_,rfl⟩,λH K=>by kernel_rfl,by kernel_rfl,rfl,rfl,A21 (n:=n+39) k1 k3 h1 h2,(A3T k1 k3 h1 h2 (A7F (Ks k7 h1) h2 c)).rv⟩
def B3H{j:Nat}(h:j<54):PS (r! L (n+41)) GT [.agg (exN j).cs] (S (Z? j)):=
 Bp (λH=>by first|exact λK=>by kernel_rfl) (Gb.1 (A4Y L n) j (I2.2 h))
def B1w{j:Nat}(h:j<54):PS (r! L (n+41)) Eg [.agg (exN j).cs] (S (Z? j)):=
 Bp (λH=>by first|exact λK=>by kernel_rfl) (Gb.1 (A45 L n) j (I2.2 h))
def B11{j:Nat}(h:j<3):VR j=exN j:=by unfold exN;rw[CJ h]
def B82{op l r:Nat}(h1:3<=op)(h2:op<7)(c:l<3)(d:r<3):mO op l r=exN (3+9*(op-3)+3*l+r):=by
 obtain rfl|rfl|rfl|rfl:op=3\/op=4\/op=5\/op=6:=by omega
 all_goals obtain rfl|rfl|rfl:l=0\/l=1\/l=2:=by omega
 all_goals obtain rfl|rfl|rfl:r=0\/r=1\/r=2:=by omega
 all_goals rfl
def B81{l e:Nat}(d:l<3)(c:e<5):poN l e=exN (39+5*l+e):=by
 obtain rfl|rfl|rfl:l=0\/l=1\/l=2:=by omega
 all_goals obtain rfl|rfl|rfl|rfl|rfl:=lt5 c
 all_goals rfl
def NdT(L n:Nat)(y:Nd)(t:Ha):Prop:=PS (r! L (n+41)) GT [.agg y.cs] (S t)/\PS (r! L (n+41)) Eg [.agg y.cs] (S t)
def sL{j:Nat}(h:j<54):NdT L n (exN j) (Z? j):=⟨B3H h,B1w h⟩
def B0F{y:Nd}(H:Hp):Qi true depth [.agg y.cs] [.agg y.cs] H false:=λK=>by kernel_rfl
def B49{i k:Nat}(c:i<33)(hk:k<7):NdT L n (cnN i k) (cnT i k):=
 ⟨(A4X c (Vx (n:=n+39) (by decide) (by decide)).o (A8K (n:=n+39)).o (RI L n k (by omega)).o (A2n L n i c).o).ps B0F,
  (A44 c (B0q (n:=n+39)).o (R4 L n k (by omega)).o (A26 L n i c).o).ps B0F⟩
def A5c(h:p.Ok):p.ts.length=p.xs.length/\∀i(m:i<p.xs.length),NdT L n p.xs[i] (p.ts.getD i []):=by
 obtain⟨pid,ks,x⟩:=p;obtain⟨i1,i2,k1,k3,k7,g⟩:=h;simp only at k1 k3 k7 g;have q:x.tx.length=x.nd.length:=by cases x<;>rfl
 refine⟨by simp[Pr.ts,Pr.xs,DB,q],λi m=>?_⟩;simp only[Pr.xs,Pr.ts]at m⊢;by_cases c:i<ks.length
 ·have d:(Kh ks++x.nd)[i]=VR i:=by
   rw[List.getElem_append_left (by rw[DB];exact c)];exact XZ _
  have f:((List.range ks.length).map Z?++x.tx).getD i []=Z? i:=by
   rw[List.getD,l0l (by simpa using c)];simp[List.getElem?_range c]
  rw[d,f,B11 (by omega)];exact sL (by omega)
 ·have w:x.nd.length<=1:=by cases x<;>simp[Ex.nd]
  rw[E6,DB]at m;obtain rfl:i=ks.length:=by omega
  have d:∀y,x.nd=[y]->(Kh ks++x.nd)[ks.length]'(by rw[E6,DB];exact m)=y:=λy v=>by
   rw[List.getElem_append_right (by rw[DB];omega)];simp[v,DB]
  have f:∀t,x.tx=[t]->((List.range ks.length).map Z?++x.tx).getD ks.length []=t:=λt u=>by simp[List.getD,u]
  cases x with
  |no=>simp[Ex.nd]at m
  |cn i k=>rw[d _ rfl,f _ rfl];exact B49 g.1 g.2
  |inp j=>
   have C:j<ks.length:=g;rw[d _ rfl,f _ rfl,B11 (by omega)];exact sL (by omega)
  |bi op l r k=>
   obtain⟨h1,h2,s,A,B⟩:=g;rw[d _ rfl,f _ rfl,B82 h1 h2 (by omega) (by omega)];exact sL (by omega)
  |po l e k=>
   obtain⟨h1,h2,s⟩:=g;rw[d _ rfl,f _ rfl,B81 (by omega) h2];exact sL (by omega)
end
end
section
variable{k:Nat}
variable{L n:Nat}
def iF(h:k<7):(Jc k).length<=44:=by
 have:=Gb.1 (show((List.range 7).all λk=>decide ((Jc k).length<=44))=true by kernel_rfl) k (I2.2 h);simpa using this
def vU(h:k<52):(Jc k).length<=50:=by
 have:=Gb.1 (show((List.range 52).all λk=>decide ((Jc k).length<=50))=true by kernel_rfl) k (I2.2 h);simpa using this
def gF{j:Nat}(h:j<54):(Z? j).length<=10:=by
 have:=Gb.1 (show((List.range 54).all λk=>decide ((Z? k).length<=10))=true by kernel_rfl) j (I2.2 h);simpa using this
def B09{i k:Nat}(a:i<33)(hk:k<7):(cnT i k).length<=60:=by
 have h1:=tK a;have h2:=iF hk;simp only[cnT,EP,uQ,uR,E6,Kg,Oc];omega
def A9B(ks:Hb)(h:∀k∈ks,k<7):(ks.flatMap gA).length<=51*ks.length:=by
 induction ks with
 |nil=>simp
 |cons k ks ih=>
  have h1:=iF (h k (by simp));have h2:=ih λx a=>h x (by simp[a]);simp only[kL,E6,Kg,gA,jL,Oc]at h2⊢;omega
def A5x{ts:List Ha}(h:∀t∈ts,t.length<=10):(ts.flatMap mK).length<=11*ts.length:=by
 induction ts with
 |nil=>simp
 |cons t ts ih=>
  have h1:=h t (by simp);have h2:=ih λu a=>h u (by simp[a]);simp only[kL,E6,Kg,mK,Oc]at h2⊢;omega
def B1I{o a b k:Nat}(d:o<4)(c:a<7)(hb:b<7)(h:Sf o a b=some k):k<52:=by
 have:=Gb.1 (show((List.range 196).all λj=>(match Sf (j/49) (j/7%7) (j%7) with|some k=>decide (k<52)|none=>true))=true by kernel_rfl) (49*o+7*a+b) (I2.2 (by omega));rw[show(49*o+7*a+b)/49=o by omega,show(49*o+7*a+b)/7%7=a by omega,show(49*o+7*a+b)%7=b by omega,h]at this;simpa using this
def A82{a e k:Nat}(c:a<7)(he:e<5)(h:Ui a e=some k):k<52:=by
 have:=Gb.1 (show((List.range 35).all λj=>(match Ui (j/5) (j%5) with|some k=>decide (k<52)|none=>true))=true by kernel_rfl) (5*a+e) (I2.2 (by omega));rw[show(5*a+e)/5=a by omega,show(5*a+e)%5=e by omega,h]at this;simpa using this
section
variable{p:Pr}
def YX(h:p.Ok):p.ty.length=p.xs.length/\1<=p.xs.length/\p.xs.length<=4:=by
 have h1:=h.k1;have c:=h.k3;have e:(p.x.ty p.ks).length=p.x.nd.length:=by cases p.x<;>rfl
 have a:p.x.nd.length<=1:=by cases p.x<;>simp[Ex.nd]
 simp only[Pr.ty,Pr.xs,E6,DB];omega
def A9b(h:p.Ok):∀k∈p.ty,k<52:=by
 intro k hk;rcases VP.1 hk with hk|hk
 ·have:=h.k7 k hk;omega
 ·have a:=h.x;cases hq:p.x with
  |no=>rw[hq]at hk;simp[Ex.ty]at hk
  |cn i j=>rw[hq]at hk a;simp[Ex.ty]at hk;have:=a.2;omega
  |inp j=>rw[hq]at hk a;simp only[Ex.ty,eX]at hk;have:=Ks h.k7 a;omega
  |bi op l r j=>rw[hq]at hk a;simp[Ex.ty]at hk;subst hk;exact B1I (by have:=a.1;have:=a.2.1;omega) (Ks h.k7 a.2.2.1) (Ks h.k7 a.2.2.2.1) a.2.2.2.2
  |po l e j=>rw[hq]at hk a;simp[Ex.ty]at hk;subst hk;exact A82 (Ks h.k7 a.1) a.2.1 a.2.2
def HH(h:p.Ok):p.out<52:=by
 obtain⟨h1,h2,a⟩:=YX h;exact Ks (A9b h) (by omega)
def A5b(h:p.Ok):(∀t∈p.ts,t.length<100)/\(p.ts.flatMap mK).length<=11*p.ks.length+61:=by
 have k3:=h.k3;have a:=h.x;have a1:∀t∈(List.range p.ks.length).map Z?,t.length<=10:=λt c=>by
  obtain⟨j,d,rfl⟩:=US.1 c;exact gF (by have:=I2.1 d;omega)
 have a2:(∀t∈p.x.tx,t.length<=60)/\p.x.tx.length<=1:=by
  cases hq:p.x with
  |no=>simp[Ex.tx]
  |cn i j=>rw[hq]at a;simp[Ex.tx];exact B09 a.1 a.2
  |inp j=>rw[hq]at a;have d:j<p.ks.length:=a;simp[Ex.tx];exact WW (gF (by omega)) (by decide)
  |bi op l r j=>rw[hq]at a;have h1:=a.1;have h2:=a.2.1;have g:=a.2.2.1;have m:=a.2.2.2.1;simp[Ex.tx];exact WW (gF (by omega)) (by decide)
  |po l e j=>rw[hq]at a;have h1:=a.1;have h2:=a.2.1;simp[Ex.tx];exact WW (gF (by omega)) (by decide)
 have f:(p.x.tx.flatMap mK).length<=61:=by
  match hq:p.x.tx with
  |[]=>simp
  |[t]=>have:=a2.1 t (by rw[hq];simp);simp[mK];omega
  |t::u::l=>rw[hq]at a2;simp at a2
 refine⟨λt c=>?_,?_⟩
 ·rcases VP.1 c with c|c
  ·have:=a1 t c;omega
  ·have:=a2.1 t c;omega
 ·have:=A5x a1;simp only[Pr.ts,l2g,E6,WV,List.length_range]at this⊢;omega
def Pr.txt(p:Pr):Ha:=jH p.id p.ks p.ts p.out
def YW(h:p.Ok):p.txt.length<390:=by
 have k3:=h.k3;have h1:=A9B p.ks h.k7;have h2:=(A5b h).2;have a:=vU (HH h);have c:=A0l p.id;simp only[Pr.txt,jH,E6,Kg,Oc,Ph,B42];omega
abbrev Pr.cs(p:Pr):Is:=Bn p.id (Bz p.ks) (BL p.xs) (uu p.out)
def wU(a:100<L)(h:p.Ok):CS (r! L (n+44)) Ev [.agg p.cs] (Bo true):=by
 obtain⟨h1,h2,c⟩:=YX h;have:=h.k3;have:=h.i1;have:=h.i2;exact A4Q a (B3V h) h1 (λk hk=>by have:=h.k7 k hk;omega) (by omega) h2 (by omega) (by omega) (by omega)
def A5a(a:100<L)(h:p.Ok):CS (r! L (n+46)) EB [.agg p.cs] (Bo true):=by
 obtain⟨h1,h2,c⟩:=YX h;have:=h.k3;have:=h.i1;have:=h.i2;exact A41 a (B3U h) rfl h1 (λk hk=>by have:=h.k7 k hk;omega) (by omega) h2 (by omega) (by omega) (by omega)
def B0x(a:100<L)(h:p.Ok):CS (r! L (n+45)) Hn [.agg p.cs] (.tup [S p.txt,I 0]):=by
 obtain⟨h1,h2,f⟩:=YX h;obtain⟨d,e⟩:=A5c (L:=L) (n:=n+3) h;have:=h.k3;exact A4R a h.i2 (wU a h) (λi c=>(e i c).1) (A5b h).1 d (λk hk=>by have:=h.k7 k hk;omega) (by omega) (by omega) (HH h)
def B0w(a:100<L)(h:p.Ok):CS (r! L (n+47)) EC [.agg p.cs] (.tup [S p.txt,I 0]):=by
 obtain⟨h1,h2,f⟩:=YX h;obtain⟨d,e⟩:=A5c (L:=L) (n:=n+5) h;have:=h.k3;exact A42 a h.i2 (A5a a h) (λi c=>(e i c).2) (A5b h).1 d (λk hk=>by have:=h.k7 k hk;omega) (by omega) (by omega) (HH h)
end
end
section
variable{L n:Nat}{K:KV}
def A8s{a b:Ha}(k:10<L)(m:a.length<390)(hb:b.length<390):CS (r! L (n+7)) DR [.agg [S a,S b]] (S (FU [a,b])):=by
 intro K g;rw[eF];unfold QR GO;rw[EM (by rfl)];have hr:Ao [(Ay [],c_ AU [S a,S b])] (Ay [])=some (c_ AU [S a,S b]):=Av (H:=[]) (by simp);have f:∀K:K2,CC 0 (.ptr (Ay []) 0 0) K=K (.ptr (Ay []) 0 0):=λK=>id rfl;have f1:∀K:K2,CC 1 (.ptr (Ay []) 0 0) K=K (.ptr (Ay []) 1 0):=λK=>id rfl;have i:∀K:K2,A9 Ag (.ptr (Ay []) 0 0) [(Ay [],c_ AU [S a,S b])] K=K (S a):=λK=>id rfl;have j:∀K:K2,A9 Ag (.ptr (Ay []) 1 0) [(Ay [],c_ AU [S a,S b])] K=K (S b):=λK=>id rfl;have d:∀K:KV,F4 A0 1 Ag 2 [(0,1,S a),(1,1,S b)] [(Ay [],c_ AU [S a,S b])] K=K (.sl 1 1 0 2) ((1,.cells false A0 (Bj [a,b]))::[(Ay [],c_ AU [S a,S b])]):=λK=>id rfl;rw[f,i,f1,j,d];have h:Qi true depth [.sl 1 1 0 2] [.list 2 (Bj [a,b])] ((1,.cells false A0 (Bj [a,b]))::[(Ay [],c_ AU [S a,S b])]) (true||false):=Az (kZ (e:=A0) (.inr ⟨1,false,rfl,rfl,rfl⟩) (by decide) (λs:Ha=>Value.string ⟨⟨s⟩⟩) [a,b] rfl) Bq;rw[AX (A0Q (L:=L) (n:=n) (l:=[a,b]) (by simp) (by simp;omega) (λs c=>by simp at c;rcases c with rfl|rfl<;>assumption)) h];exact g _ _ (λb=>⟨false,Er⟩)
end
section
variable{K:K2}{H:Hp}
variable{L n:Nat}
def A4T{zs:List Int}(c:100<L)(a:zs.length<100)(hz:∀z∈zs, -10<=z/\z<200000):Ak (r! L (n+7)) D4 [.list zs.length (E7 zs)] H K=K (S (GE zs)):=
 AX (pG (n:=n+2) a (by omega) hz) (Az (q:=false) (q':=false) Qr Bq)
def A4H{zs:List Ha}(c:100<L)(a:zs.length<100)(hz:∀z∈zs,z.length<390):Ak (r! L (n+7)) Fm [.list zs.length (Bj zs)] H K=K (S (FU zs)):=
 AX (A0Q (n:=n+1) a (by omega) hz) (Az (q:=false) (q':=false) Qr Bq)
def B0u{a b:Ha}(d:100<L)(c:a.length<390)(hb:b.length<390):Ak (r! L (n+7)) DR [.agg [S a,S b]] H K=K (S (FU [a,b])):=
 AX (q:=false) (A8s (n:=n) (by omega) c hb) (λK=>by kernel_rfl)
def gK{z:Int}:Qa 1 Ab 1 [(0,1,I z)] K=K (.list ([z]:List Int).length (E7 [z])):=id rfl
def B0e{a b c d e f:Int}:Qa 1 Ab 6 [(0,1,I a),(1,1,I b),(2,1,I c),(3,1,I d),(4,1,I e),(5,1,I f)] K=K (.list ([a,b,c,d,e,f]:List Int).length (E7 [a,b,c,d,e,f])):=id rfl
def A1E{z:Ha}:Qa 1 Ag 1 [(0,1,S z)] K=K (.list ([z]:List Ha).length (Bj [z])):=id rfl
def B13(a b:Ha):Oy [(a,b)]=FU [a,b]:=by simp[Oy]
def B6E{K:KV}{x:Af}{c:Nat}{R0:Row}{cs:Is}{ts:ZM}{d:AV->KV}(v:TmsOk ts)(A:100<L)(R:R0=.cells true Ae cs)(g:∀H,Ao H c=some R0->∀K,A9 A8 (.ptr c 28 0) H K=K (Ek ts)){l:Ha}(hb:l.length<100000000)(P:∀s,Ao s c=some R0->Wf s->d (.ptr c 0 0) (S (l++Oh ts)) s=x):∀(f i:Nat)(H:Hp),i<=ts.length->ts.length-i<f->Ao H c=some R0->Wf H->
 QC (L+20) (r! L (n+7)) K d f (.ptr c 0 0) (S (l++Oh (ts.take i))) (I i) H=x:=by
 have B:=v.len;intro f
 induction f with
 |zero=>intro i H _ h;omega
 |succ f ih=>
  intro i H X V hc w;rw[dS];unfold QD DV Sb GI Aq;have f26:∀K:K2,CC 26 (.ptr c 0 0) K=K (.ptr c 26 0):=λK=>id rfl;have f2:∀K:K2,CC 2 (.ptr c 26 0) K=K (.ptr c 28 0):=λK=>id rfl;rw[f26,f2,g H hc,N9];by_cases h:i<ts.length
  ·have hr:=v.rng _ (Na h);have N:=Ut (z:=ts[i].2) (by omega) (by omega);have O:=Uv ts[i].2;rw[FZ (by omega),Dg,f26,f2,g H hc,Tr h,lTm,AW (cs:=[zI,zS,zS]) rfl];have m:=Av (H:=H) (x:=.cells true AM [zI,zS,zS]) (by simp);rw[Bx (vs:=Mh ts[i]) m rfl rfl rfl];have a:=A4 (q:=true) (e:=AM) (cs:=Mh ts[i]) m;have k:=w.lt hc;have j:Ao (upd ((Ay H,c_ AM [zI,zS,zS])::H) (Ay H) (c_ AM (Mh ts[i]))) c=some R0:=by
    rw[Aj (by omega)];exact AQ k hc
   have w1:=BF (r:=Ay H) (y:=.cells true AM (Mh ts[i])) (Bw (x:=.cells true AM [zI,zS,zS]) w);generalize upd ((Ay H,c_ AM [zI,zS,zS])::H) (Ay H) (c_ AM (Mh ts[i]))=u at a j w1;generalize Ay H=t at a;have J:∀K:K2,CC 0 (.ptr t 0 0) K=K (.ptr t 0 0):=λK=>id rfl;have M:∀K:K2,CC 1 (.ptr t 0 0) K=K (.ptr t 1 0):=λK=>id rfl;have m0:∀K,A9 Ab (.ptr t 0 0) u K=K (I ts[i].1):=λK=>AH (p:=0) rfl a (show 0<3 by decide);have Q:∀K,A9 Au (.ptr t 1 0) u K=K (.agg (qa ts[i].2)):=λK=>EL (p:=1) rfl a (show 3<=3 from MZ _);have a1:=Xl (ts.take i) (λt h=>by have h1:=v.rng t (l24 h);have:=Ut (z:=t.2) (by omega) (by omega);have:=Uv t.2;omega);have a2:(ts.take i).length<=6:=by simp;omega
   have C:=DX [ts[i].1];have D:=DW [qn ts[i].2,qd ts[i].2] (by simp;omega);simp only[Kg,Oc]at C D;rw[J,B4,m0,B4,gK,B4,A4T A (by simp) (by simp;omega),B4,Bf (by rw[E6];omega),B4,M,B4,Q,B4,B0u A (by omega) (by omega),B4,Bf (by simp only[E6];omega),B4,Dc (by omega)];have F:l++Oh (ts.take i)++GE [ts[i].1]++FU [qn ts[i].2,qd ts[i].2]=l++Oh (ts.take (i+1)):=by
    rw[oY ts h];simp[tmB,B13]
   rw[F];exact ih (i+1) u (by omega) (by omega) j w1
  ·rw[Ga (by omega),B6];have:i=ts.length:=by omega
   subst this;rw[mM];exact P H hc w
end
section
variable{L n:Nat}
section
variable{m:ND}{u o:UD}{ca cb ra rb un pt:Ha}{ts:ZM}{ps:List Ha}{ins nds:AV}{kd id vd pe:Int}{r:RD}
def B6G{H:Hp}{K:K2}(d:100<L)(e:ps.length<100)(hz:∀z∈ps,z.length<390):Ak (r! L (n+7)) Fm [Gp ps] H K=K (S (FU ps)):=by
 cases ps with
 |nil=>
  refine AX (q:=false) (args':=[A7]) ?_ (λK=>by kernel_rfl);exact λK c=>by
   rw[T3];unfold MW Aq;simp only[Ca];rw[RH];unfold Li GI Aq;have a:∀K,Bi Ad A7 K=K (I 0):=λK=>r_ rfl;rw[a,Ga (by decide),B6];exact c _ _ (λb=>⟨false,λK=>by kernel_rfl⟩)
 |cons p l=>exact A4H d e hz
set_option maxHeartbeats 2000000 in
def P?(C:100<L)(hm:m.ok)(ae:kd=1\/kd=2\/kd=3)(ht:TmsOk ts)(hI:Sl ins)(hN:Sl nds)(hp:ps.length<=6)(M:∀s∈ps,s.length<390)(X:un.length<390)(O:pt.length<390)(hr:r.k=0\/r.k=1\/r.k=2\/r.k=3)(A:∀q∈[(r.a1,r.a2),(r.b1,r.b2),(r.c1,r.c2),(r.d1,r.d2)],q.1.length<390/\q.2.length<390)(hv:0<=vd/\vd<=3)(ad:ca.length<10/\cb.length<10/\ra.length<10/\rb.length<10)(ab:PS (r! L (n+61)) Hq [.agg (BY u)] (.tup [S un,I 0]))(aa:LS (r! L (n+61)) Hn [.agg (Bn id ins nds o)] (.tup [S pt,I pe])):
 CS (r! L (n+62)) Oq [.agg (Dj kd m u ca cb (Ek ts) ra rb (Gp ps) id ins nds o r vd)] (S (KS kd m un ca cb ts ra rb ps pt (if kd=3 then RF r vd else[]))):=by
 intro K hK;obtain⟨q1,q2,q3,q4,q5,q6,q7,q8,q9,ag⟩:=hm;have hT:=Fq ts;have hP:Sl (Gp ps):=by cases ps with|nil=>exact .inl rfl|cons p l=>exact .inr ⟨_,_,rfl⟩
 have af:=ht.len;have a1:=DX [kd,m.lab,m.num,m.itm,m.tim,m.day];have a2:=DW [un] (by simpa using X);have a3:=DW [ca,cb] (by simp;omega);have a4:=DX [(ts.length:Int)];have a5:=Xl ts (λt h=>by have:=ht.rng t h;have:=Ut (z:=t.2) (by omega) (by omega);have:=Uv t.2;omega);have a6:=DW [ra,rb] (by simp;omega);have a7:=DX [(ps.length:Int)];have a8:=DW ps M;have a9:=DW [pt] (by simpa using O);simp only[Kg,Oc]at a1 a2 a3 a4 a6 a7 a9;rw[jS];unfold SG DV Sb Aq;rw[EM (PU hT hP hI hN)];have d:=Av (H:=[]) (x:=IL kd m u ca cb (Ek ts) ra rb (Gp ps) id ins nds o r vd) (by simp);have w0:=Bw (x:=IL kd m u ca cb (Ek ts) ra rb (Gp ps) id ins nds o r vd) EH;generalize ((Ay [],IL kd m u ca cb (Ek ts) ra rb (Gp ps) id ins nds o r vd)::([]:Hp))=H0 at d w0;generalize Ay []=c at d;have Z:∀{j:Nat}{K:K2},CC j (.ptr c 0 0) K=K (.ptr c j 0):=λ{j K}=>by rw[fA,Le]
 have g0:∀{K:K2},CC 0 (.ptr c 26 0) K=K (.ptr c 26 0):=r_ rfl;have g2:∀{K:K2},CC 2 (.ptr c 26 0) K=K (.ptr c 28 0):=r_ rfl;have g3:∀{K:K2},CC 3 (.ptr c 26 0) K=K (.ptr c 29 0):=r_ rfl;have Y:∀{y:List Int}{H:Hp}{K:K2},y.length<100->(∀z∈y, -10<=z/\z<200000)->Ak (r! L (n+61)) D4 [.list y.length (E7 y)] H K=K (S (GE y)):=λh1 h2=>A4T (n:=n+54) C h1 h2;have tx:∀{y:List Ha}{H:Hp}{K:K2},y.length<100->(∀z∈y,z.length<390)->Ak (r! L (n+61)) Fm [.list y.length (Bj y)] H K=K (S (FU y)):=λh1 h2=>A4H (n:=n+54) C h1 h2;have i:∀{a b:Ha}{H:Hp}{K:K2},a.length<390->b.length<390->Ak (r! L (n+61)) DR [.agg [S a,S b]] H K=K (S (FU [a,b])):=λh1 h2=>B0u (n:=n+54) C h1 h2;simp only[Ca];rw[Z,cU d,ab,CO,CN];simp only[Z,B4,cI0 d,cI1 d,cI2 d,cI3 d,cI4 d,cI5 d,B0e,A1E,g0,g2,cC d,cT d,N9,gK];rw[Y (by simp) (by simp only[Rx,List.mem_nil_iff,or_false];rintro z (rfl|rfl|rfl|rfl|rfl|rfl)<;>omega),B4,tx (by simp) (by simpa using X),B4,Bf (by omega),B4,i (by omega) (by omega),B4,Bf (by simp only[E6];omega),B4,Y (by simp) (by simp;omega),B4,Bf (by simp only[E6];omega),B4];have e0:(AV.v (.int .i64 0))=I ((0:Nat):Int):=rfl;have et:∀(l:Ha),S l=S (l++Oh (ts.take 0)):=λl=>by rw[show Oh (ts.take 0)=[] from rfl,fV]
 rw[e0,et];refine B6E (n:=n+54) ht C (R0:=IL kd m u ca cb (Ek ts) ra rb (Gp ps) id ins nds o r vd) rfl (λH h K=>cT h) (by simp only[E6];omega) ?_ (L+20) 0 H0 (by omega) (by omega) d w0;intro w f w1;have N:∀K,Ak (r! L (n+61)) Hn [.agg (Bn id ins nds o)] w K=K (.tup [S pt,I pe]):=λK=>by rw[zO];exact aa false _ _ (SC hI hN) K
 have ac:∀{H:Hp}{K:K2},Ak (r! L (n+61)) Fm [Gp ps] H K=K (S (FU ps)):=B6G (n:=n+54) C (by omega) M;simp only[Z,g3,B4,cR f,cP f,Yn,gK,cPr f,N,CO,CN,A1E,ac];rw[i (by omega) (by omega),B4,Bf (by simp only[E6];omega),B4,Y (by simp) (by simp;omega),B4,Bf (by simp only[E6];omega),B4,Bf (by simp only[E6];omega),B4,tx (by simp) (by simpa using O),Bf (by simp only[E6];omega),cI0 f,CP];by_cases h3:kd=3
 ·rw[Iz h3,Dg];have jv:∀{j:Nat}{K:K2},CC j (.ptr (Ay w) 0 0) K=K (.ptr (Ay w) j 0):=λ{j K}=>by rw[fA,Le]
  have J:=Av (H:=w) (x:=.cells true Ib [zI,zS,zS,zS,zS,zS,zS,zS,zS]) (by simp);have eR:∀{K:K2},A9 CK (.ptr c 55 0) w K=K (.agg r.cs):=λ{K}=>EL (p:=55) rfl f (show 64<=68 by decide);rw[eR,AW (cs:=[zI,zS,zS,zS,zS,zS,zS,zS,zS]) rfl,Bx (vs:=r.cs) J rfl rfl rfl];have g:=A4 (q:=true) (e:=Ib) (cs:=r.cs) J;have F:=w1.lt f;have D:Ao (upd ((Ay w,c_ Ib [zI,zS,zS,zS,zS,zS,zS,zS,zS])::w) (Ay w) (c_ Ib r.cs)) c=some (IL kd m u ca cb (Ek ts) ra rb (Gp ps) id ins nds o r vd):=by
   rw[Aj (by omega)];exact AQ F f
  generalize upd ((Ay w,c_ Ib [zI,zS,zS,zS,zS,zS,zS,zS,zS])::w) (Ay w) (c_ Ib r.cs)=B at g D;generalize Ay w=rv at g jv;have l0:∀{K:K2},A9 Ab (.ptr rv 0 0) B K=K (I r.k):=λ{K}=>AH (p:=0) rfl g (show 0<9 by decide);have l1:∀{K:K2},A9 Au (.ptr rv 1 0) B K=K (.agg [S r.a1,S r.a2]):=λ{K}=>EL (p:=1) rfl g (show 3<=9 by decide);have l3:∀{K:K2},A9 Au (.ptr rv 3 0) B K=K (.agg [S r.b1,S r.b2]):=λ{K}=>EL (p:=3) rfl g (show 5<=9 by decide);have l5:∀{K:K2},A9 Au (.ptr rv 5 0) B K=K (.agg [S r.c1,S r.c2]):=λ{K}=>EL (p:=5) rfl g (show 7<=9 by decide);have l7:∀{K:K2},A9 Au (.ptr rv 7 0) B K=K (.agg [S r.d1,S r.d2]):=λ{K}=>EL (p:=7) rfl g (show 9<=9 by decide);have b1:=DX [r.k];have P:r.a1.length<390/\r.a2.length<390:=A (r.a1,r.a2) (by simp);have Q:r.b1.length<390/\r.b2.length<390:=A (r.b1,r.b2) (by simp);have R:r.c1.length<390/\r.c2.length<390:=A (r.c1,r.c2) (by simp);have V:r.d1.length<390/\r.d2.length<390:=A (r.d1,r.d2) (by simp);have b2:=DW [r.a1,r.a2] (by simp;omega);have b3:=DW [r.b1,r.b2] (by simp;omega);have b4:=DW [r.c1,r.c2] (by simp;omega);have b5:=DW [r.d1,r.d2] (by simp;omega);have b6:=DX [vd];simp only[Kg,Oc]at b1 b2 b3 b4 b5 b6;simp only[jv,Z,B4,l0,l1,l3,l5,l7,cV D,gK];rw[Y (by simp) (by simp;omega),B4,Bf (by simp only[E6];omega),B4,i P.1 P.2,B4,Bf (by simp only[E6];omega),B4,i Q.1 Q.2,B4,Bf (by simp only[E6];omega),B4,i R.1 R.2,B4,Bf (by simp only[E6];omega),B4,i V.1 V.2,B4,Bf (by simp only[E6];omega),B4,Y (by simp) (by simp;omega),B4,Bf (by simp only[E6];omega),B4];rw[CJ h3]at hK⊢;have e:KS kd m un ca cb ts ra rb ps pt (RF r vd)=GE [kd,m.lab,m.num,m.itm,m.tim,m.day]++FU [un]++FU [ca,cb]++GE [(ts.length:Int)]++Oh ts++FU [ra,rb]++GE [(ps.length:Int)]++FU ps++FU [pt]++GE [r.k]++FU [r.a1,r.a2]++FU [r.b1,r.b2]++FU [r.c1,r.c2]++FU [r.d1,r.d2]++GE [vd]:=by
   unfold KS RF;simp[Oy]
  rw[<-e];exact hK _ _ (λb=>⟨false,λK=>by kernel_rfl⟩)
 ·rw[Iy h3,B6];rw[Co h3]at hK⊢;have e:KS kd m un ca cb ts ra rb ps pt []=GE [kd,m.lab,m.num,m.itm,m.tim,m.day]++FU [un]++FU [ca,cb]++GE [(ts.length:Int)]++Oh ts++FU [ra,rb]++GE [(ps.length:Int)]++FU ps++FU [pt]:=by
   unfold KS;simp only[B13,fV,l30]
  rw[<-e];exact hK _ _ (λb=>⟨false,λK=>by kernel_rfl⟩)
end
end
section
variable{L n:Nat}
def A8V:PS (r! L (n+40)) lH [.agg [I 0,A7,A7]] (.tup [S [],I 200]):=Bp (λH K=>by kernel_rfl) (by kernel_rfl)
def A8W:PS (r! L (n+40)) tM [.agg [I 0,A7,A7]] (.tup [Bo true,Bo false]):=Bp (λH K=>by kernel_rfl) (by kernel_rfl)
section
variable{m:ND}{u o:UD}{ca cb ra rb:Ha}{T P ins nds:AV}{kd id vd:Int}{r:RD}{b:Ha}{q:Bool}
def P_(h:Sl T)(g:Sl P)(e:Sl ins)(f:Sl nds)(hb:b.length<=32768)(v:CS (r! L (n+61)) DQ [.agg (Dj kd m u ca cb T ra rb P id ins nds o r vd)] (.tup [Bo true,Bo q]))(s:CS (r! L (n+61)) Oq [.agg (Dj kd m u ca cb T ra rb P id ins nds o r vd)] (S b)):
 CS (r! L (n+62)) LD [.agg (Dj kd m u ca cb T ra rb P id ins nds o r vd)] (.tup [S b,I 0]):=by
 intro K t;rw[UJ];unfold Oj GO;rw[EM (PU h g e f)];have a:=Av (H:=[]) (x:=IL kd m u ca cb T ra rb P id ins nds o r vd) (by simp);generalize ((Ay [],IL kd m u ca cb T ra rb P id ins nds o r vd)::([]:Hp))=k at a;generalize Ay []=c at a;have p:∀{j:Nat}{K:K2},CC j (.ptr c 0 0) K=K (.ptr c j 0):=λ{j K}=>by rw[fA,Le]
 have i:∀K,Ak (r! L (n+61)) DQ [.agg (Dj kd m u ca cb T ra rb P id ins nds o r vd)] k K=K (.tup [Bo true,Bo q]):=λK=>AX v (Tu h g e f);have d:∀K,Ak (r! L (n+61)) Oq [.agg (Dj kd m u ca cb T ra rb P id ins nds o r vd)] k K=K (S b):=λK=>AX s (Tu h g e f);have w:∀{K:K2},Bi Ag (S b) K=K (I b.length):=λ{K}=>MR rfl;rw[cA a,i,CO,CN,sK,B6,cA a,d,p,cS a,A8W (n:=n+21),CO,CN,p,cS a,A8V (n:=n+21),CO,CN,w,DE,Iy (by omega)];simp only[uU,gT,BJ,sK,T2];rw[B6];exact t _ _ (λb=>⟨false,λK=>by kernel_rfl⟩)
def B9c{cs:Is}(h:40000<L)(h1:cs.all AV.one=true)(hz:cs.length=68)(c:∀H,Qi true depth [.agg cs] [.agg cs] H false)(hb:b.length<=32768)(e:CS (r! L (n+62)) LD [.agg cs] (.tup [S b,I 0])):CS (r! L (n+63)) Gw [.agg cs] (S (sha b)):=by
 intro K f;rw[XF];unfold SJ GO;rw[EM h1];have a:=Av (H:=[]) (x:=.cells true Ae cs) (by simp);generalize ((Ay [],c_ Ae cs)::([]:Hp))=d at a;rw[AR rfl hz.symm a,AX e (c d),CO,CN,GY];show A1 (.v (.bool false)) _ _=_;rw[B6];have g:∀K,Ak (r! L (n+62)) Vc [S b] d K=K (S (sha b)):=λK=>AX (B0s (L:=L+20) (n:=n+59) (by omega) (by omega)) (Az (q:=false) (q':=false) Er Bq);rw[g];exact f _ _ (λb=>⟨false,λK=>by kernel_rfl⟩)
end
end
section
variable{k:Nat}
variable{L n:Nat}
def B6z(hk:k=1\/k=2\/k=3):∀K,C? GW BinOp.eql (AV.agg (rr k).cs) (AV.agg [zI,zS,zS,zS,zS,zS,zS,zS,zS]) K=K (Bo false):=λK=>by rw[<-qO];rcases hk with rfl|rfl|rfl<;>kernel_rfl
def B1u(hk:k=1\/k=2\/k=3):PS (r! L (n+40)) Vd [.agg (rr k).cs] (Bo true):=by
 rcases hk with rfl|rfl|rfl<;>exact Bp (λH K=>by kernel_rfl) (by as_aux_lemma=>kernel_rfl)
def A4P(hk:k=1\/k=2\/k=3):PS (r! L (n+40)) Hl [.agg (rr k).cs] (Bo true):=by
 rcases hk with rfl|rfl|rfl<;>exact Bp (λH K=>by kernel_rfl) (by as_aux_lemma=>kernel_rfl)
def sD:PS (r! L (n+40)) Hl [.agg r0.cs] (Bo false):=Bp (λH K=>by kernel_rfl) (by kernel_rfl)
end
section
variable{k:Nat}
variable{L n:Nat}
structure CB where
 m:ND
 c:Int
 r:Int
 ts:ZM
structure CB.Ok(b:CB):Prop where
 m:b.m.ok
 c1: -80<=b.c
 c2:b.c<=80
 r1:0<=b.r
 r2:b.r<=8
 ts:TmsOk b.ts
inductive Cd where
 |re (b:CB) (u:Nat)
 |co (b:CB) (p:Pr) (ps:List Ha) (t:Option (Nat×Int))
abbrev dn:=List Cd
def Cd.kd:Cd->Int
 |.re _ _=>1
 |.co _ _ _ none=>2
 |.co _ _ _ (some _)=>3
def Cd.ps:Cd->List Ha
 |.re _ _=>[]
 |.co _ _ ps _=>ps
abbrev cdC(kd:Int)(b:CB)(u:UD)(ps:List Ha)(id:Int)(ins a:AV)(o:UD)(r:RD)(vd:Int):Is:=Dj kd b.m u (qn b.c) (qd b.c) (Ek b.ts) (qn b.r) (qd b.r) (Gp ps) id ins a o r vd
def Cd.cs:Cd->Is
 |.re b u=>cdC 1 b (uu u) [] 0 A7 A7 u0 r0 0
 |.co b p ps none=>cdC 2 b (uu p.out) ps p.id (Bz p.ks) (BL p.xs) (uu p.out) r0 0
 |.co b p ps (some (k,vd))=>cdC 3 b (uu p.out) ps p.id (Bz p.ks) (BL p.xs) (uu p.out) (rr k) vd
def Cd.body:Cd->Ha
 |.re b u=>KS 1 b.m (Jc u) (qn b.c) (qd b.c) b.ts (qn b.r) (qd b.r) [] [] []
 |.co b p ps none=>KS 2 b.m (Jc p.out) (qn b.c) (qd b.c) b.ts (qn b.r) (qd b.r) ps p.txt []
 |.co b p ps (some (k,vd))=>KS 3 b.m (Jc p.out) (qn b.c) (qd b.c) b.ts (qn b.r) (qd b.r) ps p.txt (RF (rr k) vd)
def Cd.Ok:Cd->Prop
 |.re b u=>b.Ok/\u<7
 |.co b p ps t=>b.Ok/\p.Ok/\ps.length=p.ks.length/\(∀s∈ps,s.length=32)/\(match t with|none=>True|some (k,vd)=>(k=1\/k=2\/k=3)/\1<=vd/\vd<=3)
def Cd.id(c:Cd):Ha:=sha c.body
def Lp(ps:List Ha):Sl (Gp ps):=by cases ps with|nil=>exact .inl rfl|cons p l=>exact .inr ⟨_,_,rfl⟩
def Uw{ps:List Ha}(h:1<=ps.length):Gp ps=Ls ps:=by cases ps with|nil=>simp at h|cons p l=>rfl
def B6A(h:k=1\/k=2\/k=3):(rr k).k=0\/(rr k).k=1\/(rr k).k=2\/(rr k).k=3:=by rcases h with rfl|rfl|rfl<;>decide
def O!(h:k=1\/k=2\/k=3):∀q∈[((rr k).a1,(rr k).a2),((rr k).b1,(rr k).b2),((rr k).c1,(rr k).c2),((rr k).d1,(rr k).d2)],q.1.length<390/\q.2.length<390:=by
 rcases h with rfl|rfl|rfl<;>decide
def sE:∀q∈[(r0.a1,r0.a2),(r0.b1,r0.b2),(r0.c1,r0.c2),(r0.d1,r0.d2)],q.1.length<390/\q.2.length<390:=by decide
section
variable{b:CB}{p:Pr}{ps:List Ha}{kd:Int}{tail:Ha}{un pt:Ha}
def CB.Ok.cl(h:b.Ok):(qn b.c).length<10/\(qd b.c).length<10/\(qn b.r).length<10/\(qd b.r).length<10:=by
 have h1:=Ut h.c1 (show b.c<81 by have:=h.c2;omega);have h2:=Ut (z:=b.r) (by have:=h.r1;omega) (by have:=h.r2;omega);have a:=Uv b.c;have d:=Uv b.r;omega
def mD(h:b.Ok)(f:un.length<390)(A:ps.length<=6)(a:∀s∈ps,s.length<390)(d:pt.length<390)(e:tail.length<=4000):(KS kd b.m un (qn b.c) (qd b.c) b.ts (qn b.r) (qd b.r) ps pt tail).length<=32768:=by
 obtain⟨q1,q2,q3,q4⟩:=h.cl;have g:=DX [kd,b.m.lab,b.m.num,b.m.itm,b.m.tim,b.m.day];have i:=DW [un] (by simpa using f);have j:=LP [(qn b.c,qd b.c)] (by simp;omega);have q:=DX [(b.ts.length:Int)];have u:=Xl b.ts (λt e=>by
  have:=h.ts.rng t e;have:=Ut (z:=t.2) (by omega) (by omega);have:=Uv t.2;omega)
 have v:=LP [(qn b.r,qd b.r)] (by simp;omega);have w:=DX [(ps.length:Int)];have x:=DW ps a;have y:=DW [pt] (by simpa using d);have B:=h.ts.len;simp only[KS,E6,Kg,Oc]at g i j q u v w x y⊢;omega
def A4w{vd:Int}(h:k=1\/k=2\/k=3):(RF (rr k) vd).length<=4000:=by
 have a:=DX [(rr k).k];have d:=LP _ (O! h);have e:=DX [vd];simp only[RF,E6,Kg,Oc]at a d e⊢;omega
end
section
variable{c:Cd}
def IM:c.cs.all AV.one=true:=by
 match c with
 |.re b u=>exact PU (Fq _) (Lp _) (.inl rfl) (.inl rfl)
 |.co b p ps none=>exact PU (Fq _) (Lp _) (.inr ⟨_,_,rfl⟩) (.inr ⟨_,_,rfl⟩)
 |.co b p ps (some (k,vd))=>exact PU (Fq _) (Lp _) (.inr ⟨_,_,rfl⟩) (.inr ⟨_,_,rfl⟩)
def BI:c.cs.length=68:=by
 match c with
 |.re b u=>rfl
 |.co b p ps none=>rfl
 |.co b p ps (some (k,vd))=>rfl
def Yw(H:Hp):Qi true depth [.agg c.cs] [.agg c.cs] H false:=by
 match c with
 |.re b u=>exact Tu (Fq _) (Lp _) (.inl rfl) (.inl rfl)
 |.co b p ps none=>exact Tu (Fq _) (Lp _) (.inr ⟨_,_,rfl⟩) (.inr ⟨_,_,rfl⟩)
 |.co b p ps (some (k,vd))=>exact Tu (Fq _) (Lp _) (.inr ⟨_,_,rfl⟩) (.inr ⟨_,_,rfl⟩)
def Yx(h:c.Ok):c.body.length<=32768:=by
 match c,h with
 |.re b u,⟨hb,f⟩=>exact mD hb (by have:=EF u;omega) (by simp) (by simp) (by simp) (by simp)
 |.co b p ps none,⟨hb,a,h1,h2,_⟩=>exact mD hb (by have:=EF p.out;omega) (by have:=a.k3;omega) (λs d=>by rw[h2 s d];decide) (YW a) (by simp)
 |.co b p ps (some (k,vd)),⟨hb,a,h1,h2,e⟩=>exact mD hb (by have:=EF p.out;omega) (by have:=a.k3;omega) (λs d=>by rw[h2 s d];decide) (YW a) (A4w e.1)
def B5V:RV (r! L (n+40)) EC [.agg (Bn 0 A7 A7 u0)] (.tup [S [],I 90]):=λb=>by kernel_rfl
def B6H:RV (r! L (n+40)) Hn [.agg (Bn 0 A7 A7 u0)] (.tup [S [],I 90]):=λb=>by kernel_rfl
def A0o(t:40000<L)(h:c.Ok)(hn:c.ps.Nodup):CS (r! L (n+63)) HP [.agg c.cs] (S c.id):=by
 refine B95 t IM BI Yw (Yx h) ?_
 match c,h,hn with
 |.re b u,⟨hb,v⟩,_=>
  have st:=A1X (L:=L) (n:=n) (o:=u0) hb.m (Fq b.ts) (A3Z (L:=L) (n:=n+20)).o (Uh L (n+20) u (by omega)).o (I_ (L:=L) (n:=n+16) hb.c1 hb.c2 hb.r1 hb.r2 hb.ts).ls;exact J! (n:=n) (ps:=[]) (vd:=0) (kd:=1) (by omega) hb.m (.inl rfl) hb.ts (.inl rfl) (.inl rfl) (by simp) (by simp) (by have:=EF u;omega) (by simp) (.inl rfl) sE (by decide) hb.cl st.ls (R4 L (n+21) u (by omega)) (B5V (L:=L) (n:=n+21)).ls
 |.co b p ps none,⟨hb,a,h1,h2,_⟩,hn=>
  have k1:=a.k1;have k3:=a.k3;have e:Gp ps=.list p.ks.length (Bj ps):=by rw[Uw (by omega),Ls,h1]
  have d:=(oW (L:=L) (n:=n+53) (ps:=ps) hn (by omega) (by omega) (by omega) h2).ls;rw[Ls,h1]at d;have g:=iD (L:=L) (n:=n) (kd:=2) (m:=b.m) (ca:=qn b.c) (cb:=qd b.c) (ra:=qn b.r) (rb:=qd b.r) (r:=r0) (vd:=0) (Fq b.ts) ⟨_,_,rfl⟩ d (A5a (L:=L) (n:=n+13) (by omega) a).ls;have st:=A1W (L:=L) (n:=n) hb.m (Fq b.ts) ⟨_,_,rfl⟩ ⟨_,_,rfl⟩ ⟨_,_,rfl⟩ g.ls (Uh L (n+20) p.out (HH a)).o (I_ (L:=L) (n:=n+16) hb.c1 hb.c2 hb.r1 hb.r2 hb.ts).ls;rw[<-e]at st;exact J! (n:=n) (ps:=ps) (vd:=0) (kd:=2) (by omega) hb.m (.inr (.inl rfl)) hb.ts (.inr ⟨_,_,rfl⟩) (.inr ⟨_,_,rfl⟩) (by omega) (λs i=>by rw[h2 s i];decide) (by have:=EF p.out;omega) (YW a) (.inl rfl) sE (by decide) hb.cl st.ls (R4 L (n+21) _ (HH a)) (B0w (L:=L) (n:=n+14) (by omega) a).ls
 |.co b p ps (some (k,vd)),⟨hb,a,h1,h2,f,j,q⟩,hn=>
  have k1:=a.k1;have k3:=a.k3;have e:Gp ps=.list p.ks.length (Bj ps):=by rw[Uw (by omega),Ls,h1]
  have d:=(oW (L:=L) (n:=n+53) (ps:=ps) hn (by omega) (by omega) (by omega) h2).ls;rw[Ls,h1]at d;have g:=iD (L:=L) (n:=n) (kd:=3) (m:=b.m) (ca:=qn b.c) (cb:=qd b.c) (ra:=qn b.r) (rb:=qd b.r) (r:=rr k) (vd:=vd) (Fq b.ts) ⟨_,_,rfl⟩ d (A5a (L:=L) (n:=n+13) (by omega) a).ls;have st:=A1V (L:=L) (n:=n) hb.m (Fq b.ts) ⟨_,_,rfl⟩ ⟨_,_,rfl⟩ ⟨_,_,rfl⟩ (B6z f) (B1u (L:=L) (n:=n+20) f).o j q (Uh L (n+20) p.out (HH a)).o (I_ (L:=L) (n:=n+16) hb.c1 hb.c2 hb.r1 hb.r2 hb.ts).ls g.ls;rw[<-e]at st;exact J! (n:=n) (ps:=ps) (vd:=vd) (kd:=3) (by omega) hb.m (.inr (.inr rfl)) hb.ts (.inr ⟨_,_,rfl⟩) (.inr ⟨_,_,rfl⟩) (by omega) (λs i=>by rw[h2 s i];decide) (by have:=EF p.out;omega) (YW a) (B6A f) (O! f) (by omega) hb.cl st.ls (R4 L (n+21) _ (HH a)) (B0w (L:=L) (n:=n+14) (by omega) a).ls
end
end
section
variable{c2:Is}{n2:Nat}
variable{L n:Nat}
section
variable{R:Rt}{K:KV}{ps:List Ha}{H:Hp}{y:Af}
def A9f{c:AV->AV->KV}{i:Nat}(k:i<ps.length)(hb:ps.length<100)(p:K (.tup [Bo false,I ps.length]) H=y)(hk:c (Ls ps) (I i) (I i) H=y\/∃m,∃h:m<i,ps[m]'(by omega)=ps[i]):∀(f j:Nat),j<=i->i-j<f->(∀m(_:m<j)(s:m<ps.length),ps[m]≠ps[i])->
 Jz (L+20) R K c f (Ls ps) (I i) (I j) H=y:=by
 intro f
 induction f with
 |zero=>intro j _ h;omega
 |succ f ih=>
  intro j v t a;rw[ON];unfold J1 Mf Aq EV;by_cases h:j<i
  ·rw[FZ (by omega),Dg,PR (by omega),B4,IK,B4,PR k,B4,IK,B4,GK];by_cases he:ps[j]=ps[i]
   ·rw[Iz he,B4,Dg,Ni];exact p
   ·rw[Iy he,B4,B6,Dc (by omega)];exact ih (j+1) (by omega) (by omega) λm hm d=>by
     by_cases g:m=j
     ·subst g;exact he
     ·exact a m (by omega) d
  ·rw[Ga (by omega),B6];obtain rfl:j=i:=by omega
   rcases hk with hk|⟨m,hm,e⟩
   ·exact hk
   ·exact absurd e (a m hm (by omega))
def A9g{c:KV}(hb:ps.length<100)(w:ps.length<L+20)(k:∀s∈ps,s.length=32)(p:K (.tup [Bo false,I ps.length]) H=y):∀(f i:Nat)(v:AV),i<=ps.length->ps.length-i<f->
 (∃t m,i<=t/\∃(h:t<ps.length)(hm:m<t),ps[m]'(by omega)=ps[t])->J0 (L+20) R K c f (Ls ps) (I i) v H=y:=by
 intro f
 induction f with
 |zero=>intro i v _ h;omega
 |succ f ih=>
  intro i v A x a;obtain⟨t,m,h1,h2,d,e⟩:=a;rw[OO];unfold J2 GI Aq EV;rw[Ni];have h:i<ps.length:=by omega
  rw[FZ (by omega),Dg];simp only[Ca];rw[PR h,IK,MR rfl,k _ (Na h),GY];rw[show(!decide (((32:Nat):Int)=32))=false from rfl,B6];have g:(AV.v (.int .i64 0))=I ((0:Nat):Int):=rfl;rw[g];refine A9f h hb p ?_ _ 0 (by omega) (by omega) (λm hm _=>by omega);by_cases j:t=i
  ·subst j;exact .inr ⟨m,d,e⟩
  ·left;rw[Dc (by omega)];exact ih (i+1) _ (by omega) (by omega) ⟨t,m,by omega,h2,d,e⟩
def A2w(h:¬ps.Nodup):∃t m,0<=t/\∃(h:t<ps.length)(hm:m<t),ps[m]'(by omega)=ps[t]:=l2x λhc=>h (by
 rw[List.nodup_iff_pairwise_ne,l20];intro i j d c a e;exact hc ⟨j,i,xQ _,c,a,e⟩)
def jD(hn:¬ps.Nodup)(hb:ps.length<=6)(d:∀s∈ps,s.length=32):CS (rt (L+20) (n+1)) FO [Ls ps] (.tup [Bo false,I ps.length]):=by
 intro K c;rw[Qn];unfold Kq B3 Aq EV;simp only[Ca];have a:(AV.v (.int .i64 0))=I ((0:Nat):Int):=rfl;rw[a];exact A9g (by omega) (by omega) d (c _ _ (λb=>⟨false,λK=>by kernel_rfl⟩)) _ 0 _ (by omega) (by omega) (A2w hn)
end
section
variable{m:ND}{u o:UD}{ca cb ra rb:Ha}{T P ins nds:AV}{id vd kd:Int}{r:RD}{q:Bool}
def A0X(h:Sl T)(g:Sl P)(e:Sl ins)(f:Sl nds)(k:CS (rt (L+20) (n+61)) DQ [.agg (Dj kd m u ca cb T ra rb P id ins nds o r vd)] (.tup [Bo false,Bo q])):
 CS (rt (L+20) (n+62)) LD [.agg (Dj kd m u ca cb T ra rb P id ins nds o r vd)] (.tup [S [],I 210]):=by
 intro K j;rw[UJ];unfold Oj GO;rw[EM (PU h g e f)];have a:=Av (H:=[]) (x:=IL kd m u ca cb T ra rb P id ins nds o r vd) (by simp);generalize ((Ay [],IL kd m u ca cb T ra rb P id ins nds o r vd)::([]:Hp))=i at a;generalize Ay []=c at a;have d:∀K,Ak (rt (L+20) (n+61)) DQ [.agg (Dj kd m u ca cb T ra rb P id ins nds o r vd)] i K=K (.tup [Bo false,Bo q]):=λK=>AX k (Tu h g e f);rw[cA a,d,CO,CN,ntF,Dg];exact j _ _ (λb=>⟨false,λK=>by kernel_rfl⟩)
def B6I{cs:Is}(h1:cs.all AV.one=true)(hz:cs.length=68)(c:∀H,Qi true depth [.agg cs] [.agg cs] H false)(e:CS (rt (L+20) (n+62)) LD [.agg cs] (.tup [S [],I 210])):CS (rt (L+20) (n+63)) Gw [.agg cs] (S []):=by
 intro K f;rw[XF];unfold SJ GO;rw[EM h1];have a:=Av (H:=[]) (x:=.cells true Ae cs) (by simp);generalize ((Ay [],c_ Ae cs)::([]:Hp))=d at a;rw[AR rfl hz.symm a,AX e (c d),CO,CN,GY];show A1 (.v (.bool true)) _ _=_;rw[Dg];exact f _ _ (λb=>⟨false,λK=>by kernel_rfl⟩)
end
attribute [local irreducible] Ak rt dK eBi C? cnd Al Ts A1
section
variable{m:ND}{u o:UD}{ca cb ra rb:Ha}{T P ins nds:AV}{id vd:Int}{r:RD}
def P!(hm:m.ok)(t:Sl T)(hr:PO (rt (L+20) (n+60)) Hl [.agg r0.cs] (Bo false))(s:∃n cs,P=.list n cs)(p:∃n cs,nds=.list n cs)(w:LS (rt (L+20) (n+60)) FO [P] (.tup [Bo false,I n2]))(hv:LS (rt (L+20) (n+60)) Ev [.agg (Bn id (.list n2 c2) nds u)] (Bo true))(x:PO (rt (L+20) (n+60)) DT [.agg (BY u)] (Bo true))(v:LS (rt (L+20) (n+60)) Ho [.agg (Wb ca cb T ra rb)] (Bo true)):
 CS (rt (L+20) (n+61)) DQ [.agg (Dj 2 m u ca cb T ra rb P id (.list n2 c2) nds u r0 0)] (.tup [Bo false,Bo false]):=by
 intro K j;obtain⟨h1,h2,f,A,g,B,h,C,i,e⟩:=hm;obtain⟨n1,c1,rfl⟩:=s;obtain⟨D,c3,rfl⟩:=p;have hb:∀{z d c:Int},d<=z->z<=c->PO (rt (L+20) (n+60)) Gv [I z,I d,I c] (Bo true):=λa b=>(Us a b).o;rcases t with rfl|⟨F,c4,rfl⟩
 all_goals
  rewrite[HL];unfold Gq GO
  try rewrite[zO]
  try rewrite[bO]
  try rewrite[qO]
  try rewrite[cO]
  generalize rt (L+20) (n+60)=R at*
  conv=>lhs;whnf
  rewrite[T8 ?hc]
  case hc=>decide
  conv=>lhs;whnf
  rewrite[x]
  conv=>lhs;whnf
  rewrite[(v) false _ _ ?hq]
  case hq=>exact λK=>by kernel_rfl
  conv=>lhs;whnf
  rewrite[hb h1 (by omega)]
  conv=>lhs;whnf
  rewrite[hb f (by omega)]
  conv=>lhs;whnf
  rewrite[hb g (by omega)]
  conv=>lhs;whnf
  rewrite[hb h (by omega)]
  conv=>lhs;whnf
  rewrite[hb i (by omega)]
  conv=>lhs;whnf
  rewrite[EO]
  conv=>lhs;whnf
  rewrite[hr]
  conv=>lhs;whnf
  rewrite[show∀K,C? GW BinOp.neq (AV.agg [I r0.k,S r0.a1,S r0.a2,S r0.b1,S r0.b2,S r0.c1,S r0.c2,S r0.d1,S r0.d2]) (AV.agg [zI,zS,zS,zS,zS,zS,zS,zS,zS]) K=K (Bo false) from λK=>by rw[<-qO];kernel_rfl]
  conv=>lhs;whnf
  rewrite[A5q ?hc]
  case hc=>decide
  conv=>lhs;whnf
  rewrite[EO]
  conv=>lhs;whnf
  rewrite[T8 ?hc]
  case hc=>decide
  conv=>lhs;whnf
  rewrite[EO]
  conv=>lhs;whnf
  rewrite[N8 ?hc]
  case hc=>decide
  conv=>lhs;whnf
  rewrite[Nk]
  conv=>lhs;whnf
  rewrite[Nk]
  conv=>lhs;whnf
  rewrite[(w) false _ _ ?hq]
  case hq=>exact λK=>by kernel_rfl
  conv=>lhs;whnf
  rewrite[(hv) false _ _ ?hq]
  case hq=>exact λK=>by kernel_rfl
  conv=>lhs;whnf
  exact j _ _ (λb=>⟨false,λK=>by kernel_rfl⟩)
def P'(hm:m.ok)(v:Sl T)(hr:PO (rt (L+20) (n+60)) Hl [.agg r.cs] (Bo true))(c:1<=vd)(d:vd<=3)(t:∃n cs,P=.list n cs)(s:∃n cs,nds=.list n cs)(x:LS (rt (L+20) (n+60)) FO [P] (.tup [Bo false,I n2]))(hv:LS (rt (L+20) (n+60)) Ev [.agg (Bn id (.list n2 c2) nds u)] (Bo true))(A:PO (rt (L+20) (n+60)) DT [.agg (BY u)] (Bo true))(w:LS (rt (L+20) (n+60)) Ho [.agg (Wb ca cb T ra rb)] (Bo true)):
 CS (rt (L+20) (n+61)) DQ [.agg (Dj 3 m u ca cb T ra rb P id (.list n2 c2) nds u r vd)] (.tup [Bo false,Bo true]):=by
 intro K p;obtain⟨h1,h2,h,B,i,C,j,D,k,g⟩:=hm;obtain⟨n1,c1,rfl⟩:=t;obtain⟨F,c3,rfl⟩:=s;have hb:∀{z f e:Int},f<=z->z<=e->PO (rt (L+20) (n+60)) Gv [I z,I f,I e] (Bo true):=λa b=>(Us a b).o;rcases v with rfl|⟨J,c4,rfl⟩
 all_goals
  rewrite[HL];unfold Gq GO
  try rewrite[zO]
  try rewrite[bO]
  try rewrite[qO]
  try rewrite[cO]
  generalize rt (L+20) (n+60)=R at*
  conv=>lhs;whnf
  rewrite[N8 ?hc]
  case hc=>decide
  conv=>lhs;whnf
  rewrite[A]
  conv=>lhs;whnf
  rewrite[(w) false _ _ ?hq]
  case hq=>exact λK=>by kernel_rfl
  conv=>lhs;whnf
  rewrite[hb h1 (by omega)]
  conv=>lhs;whnf
  rewrite[hb h (by omega)]
  conv=>lhs;whnf
  rewrite[hb i (by omega)]
  conv=>lhs;whnf
  rewrite[hb j (by omega)]
  conv=>lhs;whnf
  rewrite[hb k (by omega)]
  conv=>lhs;whnf
  rewrite[EO]
  conv=>lhs;whnf
  rewrite[hr]
  conv=>lhs;whnf
  rewrite[hb c d]
  conv=>lhs;whnf
  rewrite[EO]
  conv=>lhs;whnf
  rewrite[T8 ?hc]
  case hc=>decide
  conv=>lhs;whnf
  rewrite[EO]
  conv=>lhs;whnf
  rewrite[T8 ?hc]
  case hc=>decide
  conv=>lhs;whnf
  rewrite[EO]
  conv=>lhs;whnf
  rewrite[N8 ?hc]
  case hc=>decide
  conv=>lhs;whnf
  rewrite[Nk]
  conv=>lhs;whnf
  rewrite[(x) false _ _ ?hq]
  case hq=>exact λK=>by kernel_rfl
  conv=>lhs;whnf
  rewrite[(hv) false _ _ ?hq]
  case hq=>exact λK=>by kernel_rfl
  conv=>lhs;whnf
  exact p _ _ (λb=>⟨false,λK=>by kernel_rfl⟩)
end
end
section
variable{L n:Nat}
section
variable{c:Cd}
def A0p(q:40000<L)(h:c.Ok)(hn:c.ps.Nodup):CS (r! L (n+64)) Gw [.agg c.cs] (S c.id):=by
 refine B9c (n:=n+1) q IM BI Yw (Yx h) ?_
 match c,h,hn with
 |.re b u,⟨hb,r⟩,_=>
  have st:=A2l (L:=L) (n:=n+1) (o:=u0) hb.m (Fq b.ts) (sD (L:=L) (n:=n+21)).o (A4N (L:=L) (n:=n+21)).o (Pg L (n+21) u (by omega)).o (jG (L:=L) (n:=n+19) hb.c1 hb.c2 hb.r1 hb.r2 (by omega) hb.ts).ls;exact P_ (n:=n+1) (Fq _) (Lp []) (.inl rfl) (.inl rfl) (Yx (c:=.re b u) ⟨hb,r⟩) st (P? (n:=n) (ps:=[]) (vd:=0) (kd:=1) (by omega) hb.m (.inl rfl) hb.ts (.inl rfl) (.inl rfl) (by simp) (by simp) (by have:=EF u;omega) (by simp) (.inl rfl) sE (by decide) hb.cl (RI L (n+21) u (by omega)) (B6H (L:=L) (n:=n+21)).ls)
 |.co b p ps none,⟨hb,a,h1,h2,f⟩,hn=>
  have k1:=a.k1;have k3:=a.k3;have e:Gp ps=Ls ps:=Uw (by omega);have d:=(pI (L:=L) (n:=n+60) (ps:=ps) hn (by omega) (by omega) h2).ls;rw[<-e,h1]at d;have st:=A2k (L:=L) (n:=n+1) hb.m (Fq b.ts) (sD (L:=L) (n:=n+21)).o ⟨_,_,e⟩ ⟨_,_,rfl⟩ d (wU (L:=L) (n:=n+17) (by omega) a).ls (Pg L (n+21) p.out (HH a)).o (jG (L:=L) (n:=n+19) hb.c1 hb.c2 hb.r1 hb.r2 (by omega) hb.ts).ls;exact P_ (n:=n+1) (Fq _) (Lp ps) (.inr ⟨_,_,rfl⟩) (.inr ⟨_,_,rfl⟩) (Yx (c:=.co b p ps none) ⟨hb,a,h1,h2,f⟩) st (P? (n:=n) (ps:=ps) (vd:=0) (kd:=2) (by omega) hb.m (.inr (.inl rfl)) hb.ts (.inr ⟨_,_,rfl⟩) (.inr ⟨_,_,rfl⟩) (by omega) (λs g=>by rw[h2 s g];decide) (by have:=EF p.out;omega) (YW a) (.inl rfl) sE (by decide) hb.cl (RI L (n+21) _ (HH a)) (B0x (L:=L) (n:=n+16) (by omega) a).ls)
 |.co b p ps (some (k,vd)),⟨hb,a,h1,h2,f,i,j⟩,hn=>
  have k1:=a.k1;have k3:=a.k3;have e:Gp ps=Ls ps:=Uw (by omega);have d:=(pI (L:=L) (n:=n+60) (ps:=ps) hn (by omega) (by omega) h2).ls;rw[<-e,h1]at d;have st:=A2j (L:=L) (n:=n+1) hb.m (Fq b.ts) (A4P (L:=L) (n:=n+21) f).o i j ⟨_,_,e⟩ ⟨_,_,rfl⟩ d (wU (L:=L) (n:=n+17) (by omega) a).ls (Pg L (n+21) p.out (HH a)).o (jG (L:=L) (n:=n+19) hb.c1 hb.c2 hb.r1 hb.r2 (by omega) hb.ts).ls;exact P_ (n:=n+1) (Fq _) (Lp ps) (.inr ⟨_,_,rfl⟩) (.inr ⟨_,_,rfl⟩) (Yx (c:=.co b p ps (some (k,vd))) ⟨hb,a,h1,h2,f,i,j⟩) st (P? (n:=n) (ps:=ps) (vd:=vd) (kd:=3) (by omega) hb.m (.inr (.inr rfl)) hb.ts (.inr ⟨_,_,rfl⟩) (.inr ⟨_,_,rfl⟩) (by omega) (λs g=>by rw[h2 s g];decide) (by have:=EF p.out;omega) (YW a) (B6A f) (O! f) (by omega) hb.cl (RI L (n+21) _ (HH a)) (B0x (L:=L) (n:=n+16) (by omega) a).ls)
def B0b(j:40000<L)(h:c.Ok)(hn:¬c.ps.Nodup):CS (r! L (n+64)) Gw [.agg c.cs] (S []):=by
 refine B6I (n:=n+1) IM BI Yw ?_
 match c,h,hn with
 |.re b u,_,hn=>exact absurd List.nodup_nil hn
 |.co b p ps none,⟨hb,e,h1,h2,f⟩,hn=>
  have k1:=e.k1;have k3:=e.k3;have d:Gp ps=Ls ps:=Uw (by omega);have a:=(jD (L:=L) (n:=n+60) (ps:=ps) hn (by omega) h2).ls;rw[<-d,h1]at a;have st:=P! (L:=L) (n:=n+1) hb.m (Fq b.ts) (sD (L:=L) (n:=n+21)).o ⟨_,_,d⟩ ⟨_,_,rfl⟩ a (wU (L:=L) (n:=n+17) (by omega) e).ls (Pg L (n+21) p.out (HH e)).o (jG (L:=L) (n:=n+19) hb.c1 hb.c2 hb.r1 hb.r2 (by omega) hb.ts).ls;exact A0X (n:=n+1) (Fq _) (Lp ps) (.inr ⟨_,_,rfl⟩) (.inr ⟨_,_,rfl⟩) st
 |.co b p ps (some (k,vd)),⟨hb,e,h1,h2,f,g,i⟩,hn=>
  have k1:=e.k1;have k3:=e.k3;have d:Gp ps=Ls ps:=Uw (by omega);have a:=(jD (L:=L) (n:=n+60) (ps:=ps) hn (by omega) h2).ls;rw[<-d,h1]at a;have st:=P' (L:=L) (n:=n+1) hb.m (Fq b.ts) (A4P (L:=L) (n:=n+21) f).o g i ⟨_,_,d⟩ ⟨_,_,rfl⟩ a (wU (L:=L) (n:=n+17) (by omega) e).ls (Pg L (n+21) p.out (HH e)).o (jG (L:=L) (n:=n+19) hb.c1 hb.c2 hb.r1 hb.r2 (by omega) hb.ts).ls;exact A0X (n:=n+1) (Fq _) (Lp ps) (.inr ⟨_,_,rfl⟩) (.inr ⟨_,_,rfl⟩) st
end
end
section
variable{D r:Nat}{α:Type}
variable{L n:Nat}
def A8q(s:Ha):(sha s).length=32:=UA _ 8
def A0q(c:Cd):c.id.length=32:=A8q _
def mB(c:Cd):c.id≠[]:=λh=>by have:=A0q c;rw[h]at this;cases this
def LA(gs:dn)(a:AV):Prop:=a=.list gs.length (gs.flatMap Cd.cs)\/(gs=[]/\a=A7)
section
variable{gs:dn}{a:AV}{c:Cd}{K:K2}{i:Nat}{H:Hp}
def LA.len(h:LA gs a):Bi AG a K=K (I gs.length):=by
 rcases h with rfl|⟨rfl,rfl⟩<;>exact id rfl
def LA.ia(h:LA gs a)(d:i<gs.length):Cy AG a (I i) K=K (.iptr gs[i].cs):=by
 rcases h with rfl|⟨rfl,rfl⟩
 ·exact ZE (f:=Cd.cs) rfl (λ_=>BI) d
 ·simp at d
def lR:A9 Ac (.iptr c.cs) H K=K (.agg c.cs):=by
 match c with
 |.re b u=>exact id rfl
 |.co b p ps none=>exact id rfl
 |.co b p ps (some (k,vd))=>exact id rfl
abbrev BG:Is:=Dj 0 ⟨0,0,0,0,0⟩ u0 [] [] A7 [] [] A7 0 A7 A7 u0 r0 0
abbrev B15(c:Cd):Row:=.cells true Ae c.cs
def gE(gs:dn):List (Ha×Cd):=gs.map λc=>(c.id,c)
def A5X{b:List (Ha×α)}{x:Ha}(h:x∉b.map (·.1)):Qh b x=none:=by
 induction b with
 |nil=>rfl
 |cons e b ih=>
  simp only[Zm,Rx,not_or]at h;unfold Qh;rw[Co (Ne.symm h.1)];exact ih h.2
def A2o{b:List (Ha×α)}{x:Ha}{v:α}(h:x∉b.map (·.1)):KZ b x v=b++[(x,v)]:=by
 induction b with
 |nil=>rfl
 |cons e b ih=>
  simp only[Zm,Rx,not_or]at h;unfold KZ;rw[Co (Ne.symm h.1),ih h.2];rfl
def A5S(gs:dn):(gE gs).map (·.1)=gs.map Cd.id:=by simp[gE]
end
structure GOk(gs:dn):Prop where
 ok:∀c∈gs,c.Ok
 nd:∀c∈gs,c.ps.Nodup
 ids:(gs.map Cd.id).Nodup
 len:gs.length<=8
structure GO9(gs:dn):Prop where
 ok:∀c∈gs,c.Ok
 nd:∀c∈gs,c.ps.Nodup
 ids:(gs.map Cd.id).Nodup
 len:gs.length<=9
def GOk.o9{gs:dn}(h:GOk gs):GO9 gs:=⟨h.ok,h.nd,h.ids,by have:=h.len;omega⟩
section
variable{K:KV}{x:Af}{gs:dn}{a:AV}
abbrev V4(c:Cd):AV:=.agg c.cs
def B6Q{m:AV->KV}{w:AV}(p:GO9 gs)(N:40000<L)(O:LA gs a)(R:∀H,Ao H r=some (.map false (Rb V4 (gE gs)) none)->m w (.mp r) H=x):∀(f i:Nat)(H:Hp),i<=gs.length->gs.length-i<f->Ao H r=some (.map false (Rb V4 (gE (gs.take i))) none)->Wf H->
 Qq (L+20) (r! L (n+63)) K m f w (.mp r) a (I gs.length) (I i) H=x:=by
 intro f
 induction f with
 |zero=>intro i H _ h;omega
 |succ f ih=>
  intro i H Z Y t wf;rw[Rg];unfold Nv GI EU Aq JR EV;by_cases h:i<gs.length
  ·have hm:=Na h;have s:=A0o (L:=L) (n:=n) N (p.ok _ hm) (p.nd _ hm);have d:gs[i].id∉(gE (gs.take i)).map (·.1):=λhc=>by
    rw[A5S]at hc;have y:=p.ids;rw[<-List.take_append_drop i gs,UT,l2w]at y;have Q:gs[i].id∈(gs.drop i).map Cd.id:=US.2 ⟨_,by rw[l11 h];exact List.mem_cons_self,rfl⟩;exact y.2.2 _ hc _ Q rfl
   rw[FZ (by omega),Dg,O.ia h,lR,AW (cs:=BG) rfl,Bx (cs:=BG) (vs:=gs[i].cs) (Av (by simp)) BI rfl IM];obtain⟨B,C,g,w1,k1⟩:=DN (e:=Ae) (zs:=BG) (vs:=gs[i].cs) wf BI;rw[<-C,AR rfl BI.symm g,AX s (Yw B)];have j:=(k1 _ _ t).1;have u:∀(F:Value->Af),Nt (S gs[i].id) F=F (SV gs[i].id):=λF=>id rfl;rw[u,Ve (f:=V4) (b:=gE (gs.take i)) (λK=>V2 j),A5X d];simp only[];rw[CO,CN,AW (cs:=BG) rfl]
   erw[Bx (cs:=BG) (vs:=BG) (Av (by simp)) rfl rfl rfl]
   obtain⟨X,J,P,V,A⟩:=DN (e:=Ae) (zs:=BG) (vs:=BG) w1 rfl;rw[<-J];have k:=(A _ _ j).1;have q:=(A _ _ g).1;have q1:∀{K},Al Ag .eql (S gs[i].id) (S []) K=K (Bo false):=λ{K}=>by rw[GK,Iy (mB _)]
   simp only[gT,BJ,q1,T2];rw[B6,AR rfl BI.symm q,u,Yl (f:=V4) (v:=gs[i]) k,A2o d,Dc (by have:=p.len;omega)];have M:gE (gs.take i)++[(gs[i].id,gs[i])]=gE (gs.take (i+1)):=by
    rw[tE h,gE,gE,UT];rfl
   rw[M];exact ih (i+1) _ (by omega) (by omega) ((Et k).trans rfl) (BF V)
  ·rw[Ga (by omega),B6];have:i=gs.length:=by omega
   subst this;rw[mM]at t;exact R H t
abbrev gV(gs:dn):AV:=.imap (Rb V4 (gE gs))
def lZ{m:ND}{u o:UD}{ca cb ra rb:Ha}{T P ins d:AV}{kd id vd:Int}{r:RD}{H:Hp}(h:Sl T)(g:Sl P)(e:Sl ins)(f:Sl d):Fx true (D+3) (.agg (Dj kd m u ca cb T ra rb P id ins d o r vd)) (.agg (Dj kd m u ca cb T ra rb P id ins d o r vd)) H false:=by
 rcases h with rfl|⟨_,_,rfl⟩<;>rcases g with rfl|⟨_,_,rfl⟩<;>rcases e with rfl|⟨_,_,rfl⟩<;>rcases f with rfl|⟨_,_,rfl⟩<;>exact λK=>by kernel_rfl
def A0r{c:Cd}{H:Hp}:Fx true (D+3) (.agg c.cs) (.agg c.cs) H false:=by
 match c with
 |.re b u=>exact lZ (Fq _) (Lp _) (.inl rfl) (.inl rfl)
 |.co b p ps none=>exact lZ (Fq _) (Lp _) (.inr ⟨_,_,rfl⟩) (.inr ⟨_,_,rfl⟩)
 |.co b p ps (some (k,vd))=>exact lZ (Fq _) (Lp _) (.inr ⟨_,_,rfl⟩) (.inr ⟨_,_,rfl⟩)
def B0W{H:Hp}{es:List (Ha×Cd)}(h:Ao H r=some (.map false (Rb V4 es) none)):Fx true (D+4) (.mp r) (.imap (Rb V4 es)) H true:=by
 intro K;show IZ H r (λx=>A2x x λes=>ZX (IG true H (D+3)) es λ_ d=>K true (.imap d))=_;rw[BO h];show ZX (IG true H (D+3)) (Rb V4 es) _=_;have e:∀(es:List (Ha×Cd))(F:Bool->IH->Af),ZX (IG true H (D+3)) (Rb V4 es) F=F false (Rb V4 es):=by
  intro es
  induction es with
  |nil=>intro F;rfl
  |cons a es ih=>
   intro F;show IG true H (D+3) (.agg a.2.cs) (λq f=>ZX (IG true H (D+3)) (Rb V4 es) λj g=>F (@Bool.rec (λ_=>Bool) j true q) ((SV a.1,f)::g))=_;rw[A0r,ih];rfl
 rw[e]
def A7Q(f:GO9 gs)(m:40000<L)(e:LA gs a)(K:KV)(k:∀h g,(∃q,Fx true depth h (.tup [gV gs,Bo true]) g q)->K h g=some (.tup [gV gs,Bo true],[])):(r! L (n+64)).call Fc [a] [] K=some (.tup [gV gs,Bo true],[]):=by
 rw[XK];unfold XA8 Aq JR EV;have em:∀(H:Hp)(K:KV),KR Ac H K=K (.mp (Ay H)) ((Ay H,.map false [] none)::H):=λH K=>by
  show GP H (λs=>K (.mp s) ((s,.map false [] (sQ Ac.d))::H))=_;rw[BQ];rfl
 rw[em];simp only[Ca];have j:(AV.v (.int .i64 0))=I ((0:Nat):Int):=rfl;rw[e.len,j];refine B6Q f m e (λH p=>?_) (L+20) 0 _ (by omega) (by have:=f.len;omega) (Av (by simp)) (Bw EH);rw[e.len,DE,Iy (by have:=f.len;omega),B6];exact k _ _ ⟨_,Zu (D:=depth-1) (Az (B0W (D:=depth-5) p) (Az (q:=false) Er Bq))⟩
end
end
section
variable{c:Cd}{s:Ha}{r:Nat}
variable{L n:Nat}
def cE(c:Cd):Ce Ha:=⟨decide (c.kd=1),c.ps⟩
def gr(gs:dn):List (Ha×Ce Ha):=gs.map λc=>(c.id,cE c)
def B4A{gs:dn}:Qh (gr gs) s=(Qh (gE gs) s).map cE:=by
 unfold gr gE
 induction gs with
 |nil=>rfl
 |cons c gs ih=>
  simp only[Zm];unfold Qh;by_cases h:c.id=s
  ·simp[h]
  ·simp[h,ih]
def gU{q:Bool}{y:Bool->Af}:gdV q (.v undef) y=y false:=by cases q<;>exact id rfl
section
variable{gs:dn}{y m x z:Nat}{b:List (Ha×Bool)}{H H':Hp}{K:KV}
def B8l(h:Ao H r=some (B15 c)){K:K2}:A9 Ab (.ptr r 0 0) H K=K (I c.kd):=by
 match c with
 |.re b u=>exact AH (p:=0) rfl h (show 0<68 by decide)
 |.co b p ps none=>exact AH (p:=0) rfl h (show 0<68 by decide)
 |.co b p ps (some (k,vd))=>exact AH (p:=0) rfl h (show 0<68 by decide)
def B8k(h:Ao H r=some (B15 c)){K:K2}:A9 Ad (.ptr r 31 0) H K=K (Gp c.ps):=by
 match c with
 |.re b u=>exact AH (p:=31) rfl h (show 31<68 by decide)
 |.co b p ps none=>exact AH (p:=31) rfl h (show 31<68 by decide)
 |.co b p ps (some (k,vd))=>exact AH (p:=31) rfl h (show 31<68 by decide)
def B4B(h:Qh (gE gs) s=some c):c∈gs/\c.id=s:=by
 have:=gB h;obtain⟨a,h1,h2⟩:=US.1 this;cases h2
 exact⟨h1,rfl⟩
end
end
end Go.Abs
end
noncomputable section
end
noncomputable section
namespace Go.Abs
open Go.RowKit Go.Proofs
set_option maxRecDepth 100000
section
variable{L n:Nat}
def SA(l:List Ha)(a:AV):Prop:=a=Ls l\/(l=[]/\a=A7)
def QO(l:List Ha):SA l (Gp l):=by cases l with|nil=>exact .inr ⟨rfl,rfl⟩|cons p l=>exact .inl rfl
section
variable{l:List Ha}{a:AV}{i:Nat}{K:K2}{s:Ha}
def SA.len(h:SA l a):Bi Ad a K=K (I l.length):=by
 rcases h with rfl|⟨rfl,rfl⟩
 ·exact Ni
 ·exact id rfl
def SA.ia(h:SA l a)(c:i<l.length):Cy Ad a (I i) K=K (.iptr [S l[i]]):=by
 rcases h with rfl|⟨rfl,rfl⟩
 ·exact PR c
 ·simp at c
def SA.fx(h:SA l a)(H:Hp):Fx true depth a a H false:=by
 rcases h with rfl|⟨rfl,rfl⟩<;>exact λK=>by kernel_rfl
def kR(s:Ha):List Ha->Nat->AV
 |[],_=>.tup [Bo false,I (-1)]
 |a::l,i=>if a=s then .tup [Bo true,I i] else kR s l (i+1)
def fZ:∀(l:List Ha)(i:Nat),s∉l->kR s l i=.tup [Bo false,I (-1)]:=by
 intro l
 induction l with
 |nil=>intro i _;rfl
 |cons a l ih=>
  intro i h;simp only[Rx,not_or]at h;unfold kR;rw[Co (Ne.symm h.1)];exact ih _ h.2
def kQ:∀(l:List Ha)(i:Nat),s∈l->∃k,∃h:k<l.length,l[k]=s/\(∀m(hm:m<k),l[m]≠s)/\kR s l i=.tup [Bo true,I ((i+k:Nat):Int)]:=by
 intro l
 induction l with
 |nil=>intro i h;cases h
 |cons a l ih=>
  intro i h;unfold kR;by_cases e:a=s
  ·exact⟨0,by simp,e,λm hm=>by omega,by rw[CJ e];rfl⟩
  ·obtain⟨k,hk,h1,h2,c⟩:=ih (i+1) ((Rx.1 h).resolve_left (Ne.symm e));refine⟨k+1,by simp;omega,by simpa using h1,λm hm=>?_,by rw[Co e,c];congr 4;omega⟩;cases m with
   |zero=>exact e
   |succ m=>exact h2 m (by omega)
end
section
variable{K:KV}{x:Af}{l:List Ha}{a:AV}{s:Ha}{gs:dn}
def B4q{k3:Ru}{H:Hp}(d:SA l a)(hb:l.length<1000){v:AV}(hv:K v H=x)(hk:v=.tup [Bo false,I (-1)]->k3 H=x):∀(f i:Nat),i<=l.length->l.length-i<f->kR s (l.drop i) i=v->
 Sw (L+20) (r! L n) K k3 f a (S s) (I i) H=x:=by
 intro f
 induction f with
 |zero=>intro i _ h;omega
 |succ f ih=>
  intro i j g c;rw[iZ];unfold Sx GI Aq JR;rw[d.len];by_cases h:i<l.length
  ·rw[l11 h]at c;unfold kR at c;rw[FZ (by omega),Dg,d.ia h,IK,GK];by_cases e:l[i]=s
   ·rw[CJ e]at c;rw[Iz e,Dg,c];exact hv
   ·rw[Co e]at c;rw[Iy e,B6,Dc (by omega)];exact ih (i+1) (by omega) (by omega) c
  ·rw[Ga (by omega),B6];have:i=l.length:=by omega
   subst this;rw[List.drop_length]at c;exact hk c.symm
def B0v(f:SA l a)(hb:l.length<1000)(g:2000<L):CS (r! L (n+1)) Ny [a,S s] (kR s l 0):=by
 intro K d;have fin:∀H,K (kR s l 0) H=some (kR s l 0,[]):=λH=>d _ _ (λb=>⟨false,by
  by_cases h:s∈l
  ·obtain⟨k,_,_,_,e⟩:=kQ l 0 h;rw[e];exact λK=>by kernel_rfl
  ·rw[fZ l 0 h];exact λK=>by kernel_rfl⟩)
 rw[nS];unfold UH Aq EV;simp only[Ca];have c:(AV.v (.int .i64 0))=I ((0:Nat):Int):=rfl;rw[c];refine B4q f hb (fin []) (λe=>?_) (L+20) 0 (by omega) (by omega) (by rw[l1n]);have:=fin [];rw[e]at this;rw[e];exact this
def B4o{m:KV}(A:∀c∈gs,c.Ok/\c.ps.Nodup)(hb:gs.length<100)(y:40000<L)(k:LA gs a)(B:∀v H,AT H A0 1 v gs.length (Bj (gs.map Cd.id))->(gs=[]->v=A7)->m v H=x):∀(f i:Nat)(v:AV)(H:Hp),i<=gs.length->gs.length-i<f->AT H A0 1 v (gs.take i).length (Bj ((gs.take i).map Cd.id))->(gs.take i=[]->v=A7)->Wf H->
 Su (L+20) (r! L (n+64)) K m f a v (I i) H=x:=by
 intro f
 induction f with
 |zero=>intro i v H _ h;omega
 |succ f ih=>
  intro i v H J F d j w;rw[iY];unfold Sv GI Aq;rw[k.len];by_cases h:i<gs.length
  ·obtain⟨h1,h2⟩:=A _ (Na h);have q:(gs.take i).length=((gs.take i).map Cd.id).length:=by simp
   rw[q]at d;obtain⟨C,p,t,g,u,D, -⟩:=A6W gs[i].id d w (by simp;omega);rw[FZ (by omega),Dg,k.ia h,lR,AX (A0p (n:=n) y h1 h2) (Yw H),t,Dc (by omega)];have r:(gs.take i).map Cd.id++[gs[i].id]=(gs.take (i+1)).map Cd.id:=by rw[tE h,UT];rfl
   rw[r]at g;exact ih (i+1) C p (by omega) (by omega) (by rw[WV]at g;exact g) (λe=>by have:=congrArg List.length e;rw[xS,Oc]at this;omega) u
  ·rw[Ga (by omega),B6];have:i=gs.length:=by omega
   subst this;rw[mM]at d j;exact B v H d j
def A4Z(k:∀c∈gs,c.Ok/\c.ps.Nodup)(hb:gs.length<100)(h:40000<L)(j:LA gs a):CS (r! L (n+65)) Jm [a] (Gp (gs.map Cd.id)):=by
 intro K g;rw[nQ];unfold UG Aq;simp only[Ca];have d:(AV.v (.int .i64 0))=I ((0:Nat):Int):=rfl;rw[d];refine B4o k hb h j (λv H p f=>?_) (L+20) 0 _ [] (by omega) (by omega) (.inl ⟨rfl,rfl,rfl⟩) (λ_=>rfl) EH;refine g _ _ (λb=>?_);by_cases hn:gs=[]
 ·subst hn;rw[f rfl];exact⟨false,Er⟩
 ·have m:(gs.map Cd.id)≠[]:=by simpa using hn
  have e:Gp (gs.map Cd.id)=.list gs.length (Bj (gs.map Cd.id)):=by rw[Uw (by cases hq:gs.map Cd.id with|nil=>exact absurd hq m|cons _ _=>simp),Ls];simp
  rw[e];exact⟨true,kZ p (by cases gs with|nil=>exact absurd rfl hn|cons _ _=>simp) (λs=>Value.string ⟨⟨s⟩⟩) (gs.map Cd.id) rfl⟩
end
end
section
variable{L n:Nat}
def CT(R:Rt)(f:Nat)(args:Is)(v:AV):Prop:=∀K:KV,(∀e d,(∃q,Fx true depth e v d q)->K e d=some (v,[]))->R.call f args [] K=some (v,[])
def CT.z{R:Rt}{f:Nat}{args args':Is}{v:AV}{H:Hp}{K:K2}(hc:CT R f args' v)(d:Qi true depth args args' H false):Ak R f args H K=K v:=HF hc d
def pk(c n:Int):Int:=(if c<0 then-(c+1) else c)%n
def Ed{c n:Int}(h:0<n):0<=pk c n/\pk c n<n:=⟨Int.emod_nonneg _ (by omega),Int.emod_lt_of_pos _ h⟩
section
variable{K:KV}{x:Af}{a b:AV}{s:Ha}{gs:dn}{H:Hp}
def LA.fx(h:LA gs a)(H:Hp):Fx true depth a a H false:=by rcases h with rfl|⟨_,rfl⟩<;>exact λK=>by kernel_rfl
end
def J8(z:Int):Prop:= -9223372036854775808<=z/\z<9223372036854775808
section
variable{c m:Int}
def jI{K:K2}(hc:J8 c)(hm:0<m)(d:m<9223372036854775808){k1:K2}(hk:k1= λv=>Al Ab .rem v (I m) K):
 (Al Ab .lss (I c) (.v (.int .i64 0)) λe=>A1 e (Al Ab .add (I c) (.v (.int .i64 1)) λf=>Nh .neg f λg=>k1 g) (k1 (I c)))=K (I (pk c m)):=by
 subst hk;obtain⟨h1,h2⟩:=hc;rw[CA];by_cases h:c<0
 ·rw[Iz h,Dg,Ck,BX (by omega) (by omega),qI (by omega) (by omega)];show Al Ab .rem (I (-(c+1))) (I m) K=_;rw[RY (by omega),Int.tmod_eq_emod_of_nonneg (by omega)];unfold pk;rw[CJ h]
 ·rw[Iy h,B6];show Al Ab .rem (I c) (I m) K=_;rw[RY (by omega),Int.tmod_eq_emod_of_nonneg (by omega)];unfold pk;rw[Co h]
def wV(hc:J8 c)(hm:0<m)(d:m<9223372036854775808):PS (r! L (n+1)) J7 [I c,I m] (I (pk c m)):=by
 refine CS.ps (λK e=>?_) (λH=>λK=>by kernel_rfl);rw[jP];unfold SD Aq;simp only[Ca];exact(jI (K:=λv=>K v []) hc hm d rfl).trans (e _ _ (λb=>⟨false,λK=>by kernel_rfl⟩))
def JY(hc:J8 c)(hm:0<m)(d:m<9223372036854775808):PS (r! L (n+1)) Bs [I c,I m] (I (pk c m)):=by
 refine CS.ps (λK e=>?_) (λH=>λK=>by kernel_rfl);rw[jR];unfold SF Aq;simp only[Ca];exact(jI (K:=λv=>K v []) hc hm d rfl).trans (e _ _ (λb=>⟨false,λK=>by kernel_rfl⟩))
def jJ(hc:J8 c)(hm:0<m)(d:m<9223372036854775808):PS (r! L (n+1)) GU [I c,I m] (I (pk c m)):=by
 refine CS.ps (λK e=>?_) (λH=>λK=>by kernel_rfl);rw[jX];unfold SP Aq;simp only[Ca];exact(jI (K:=λv=>K v []) hc hm d rfl).trans (e _ _ (λb=>⟨false,λK=>by kernel_rfl⟩))
def JZ(hc:J8 c)(hm:0<m)(d:m<9223372036854775808):PS (r! L (n+1)) BH [I c,I m] (I (pk c m)):=by
 refine CS.ps (λK e=>?_) (λH=>λK=>by kernel_rfl);rw[jU];unfold SK Aq;simp only[Ca];exact(jI (K:=λv=>K v []) hc hm d rfl).trans (e _ _ (λb=>⟨false,λK=>by kernel_rfl⟩))
end
section
variable{K:KV}{x:Af}{a:AV}{s:Ha}{gs:dn}{H:Hp}
def NA(ws:List Int)(w:AV):Prop:=(w=.list ws.length (E7 ws)\/(ws=[]/\w=A7))/\ws.length<9223372036854775808/\∀z∈ws,J8 z
def NA.len{ws:List Int}{w:AV}{K:K2}(h:NA ws w):Bi Ba w K=K (I ws.length):=by
 rcases h.1 with rfl|⟨rfl,rfl⟩<;>exact id rfl
end
end
section
variable{L n:Nat}
section
variable{c:Int}
def B0y{k m:Int}(a:0<=k)(h1:k<m):pk k m=k:=by
 unfold pk;rw[Co (by omega),Int.emod_eq_of_lt a h1]
def A4B:((List.range 7).all λi=>HU (AN (C8 (r! L (n+42)) E9 [I (i:Nat)]) (.agg (uu i).cs)))=true:=by kernel_rfl
def O_(hc:J8 c):PS (r! L (n+42)) E9 [I c] (.agg (BY (uu (pk c 7).toNat))):=by
 have pr:=Ed (c:=c) (n:=7) (by decide);obtain⟨k,hk⟩:∃k:Nat,pk c 7=k:=⟨(pk c 7).toNat,by omega⟩
 have a:k<7:=by omega
 refine Bp (λH K=>by kernel_rfl) ?_;have e:C8 (r! L (n+42)) E9 [I c]=C8 (r! L (n+42)) E9 [I (k:Nat)]:=by
  unfold C8;rw[UK,UK];unfold SL GO;have h1:∀H K,Ak (r! L (n+41)) BH [I c,.v (.int .i64 7)] H K=K (I (pk c 7)):=JZ (n:=n+40) hc (by decide) (by decide);have h2:∀H K,Ak (r! L (n+41)) BH [I (k:Int),.v (.int .i64 7)] H K=K (I (pk k 7)):=JZ (n:=n+40) (by unfold J8;omega) (by decide) (by decide);simp only[h1,h2,hk,B0y (k:=(k:Int)) (m:=7) (by omega) (by omega)]
 rw[e,hk,XV];exact Gb.1 A4B k (I2.2 a)
def A4O:((List.range 3).all λi=>HU (AN (C8 (r! L (n+2)) Ij [I (i:Nat)]) (.agg (rr (1+i)).cs)))=true:=by kernel_rfl
def A8X(hc:J8 c):PS (r! L (n+2)) Ij [I c] (.agg (rr (1+(pk c 3).toNat)).cs):=by
 have pr:=Ed (c:=c) (n:=3) (by decide);obtain⟨k,hk⟩:∃k:Nat,pk c 3=k:=⟨(pk c 3).toNat,by omega⟩
 have a:k<3:=by omega
 refine Bp (λH K=>by kernel_rfl) ?_;have e:C8 (r! L (n+2)) Ij [I c]=C8 (r! L (n+2)) Ij [I (k:Nat)]:=by
  unfold C8;rw[UI,UI];unfold SH DV Aq;have h1:∀H K,Ak (r! L (n+1)) Bs [I c,.v (.int .i64 3)] H K=K (I (pk c 3)):=JY (n:=n) hc (by decide) (by decide);have h2:∀H K,Ak (r! L (n+1)) Bs [I (k:Int),.v (.int .i64 3)] H K=K (I (pk k 3)):=JY (n:=n) (by unfold J8;omega) (by decide) (by decide);simp only[h1,h2,hk,B0y (k:=(k:Int)) (m:=3) (by omega) (by omega)]
 rw[e,hk,XV];exact Gb.1 A4O k (I2.2 a)
def nM(c:Int):Ha:=sha (GE [c])
def jE(e:40000<L)(h1: -10<=c)(h2:c<1090):PS (r! L (n+20)) F2 [I c] (S (nM c)):=by
 refine CS.ps (λK d=>?_) (λH=>λK=>by kernel_rfl);rw[Za];unfold Po GO;have a:=DX [c];have fx:Qi true depth [.sl 1 (Ay []) 0 1] [.list 1 (E7 [c])] ((Ay [],.cells false Fh (E7 [c]))::[]) true:=
  Az (q:=true) (q':=false) (UW (D:=depth-1) (q':=false) (Av (by simp)) rfl (JO (λz:Int=>Value.int .i64 z) [c])) Bq
 rw[V6,AX (pG (L:=L) (n:=n+14) (l:=[c]) (by simp) (by simp;omega) (by simp;omega)) fx,AX (B0s (L:=L+20) (n:=n+16) (s:=GE [c]) (by simp only[Kg,Oc]at a;omega) (by simp only[Kg,Oc]at a;omega)) (q:=false) (λK=>by kernel_rfl)];exact d _ _ (λb=>⟨false,λK=>by kernel_rfl⟩)
end
end
section
variable{v:AV}{H:Hp}
variable{L n:Nat}
def ZC{i:TI}{s p e:Nat}{q:Bool}{cs vs:Is}{K:Ru}(f:Ao H s=some (.cells q e cs))(g:p+vs.length<=cs.length)(hz:i.size=vs.length)(h1:vs.all AV.one=true):DD i (.ptr s p 0) (.agg vs) H K=K (upd H s (.cells q e (splice cs p vs))):=by
 have d:DD i (.ptr s p 0) (.agg vs) H K=IZ H s λx=>iV x λq e cs=>Gy (.agg vs) λvs=>HB vs 0 λn=>ck (Nat.beq n i.size) (ck (Qb vs) (D8 (Nat.add p 0) vs cs λa=>XA5 H s (.cells q e a) K)):=rfl;rw[d,BO f];show(Gy (.agg vs) λvs=>HB vs 0 λn=>ck (Nat.beq n i.size) (ck (Qb vs) (D8 p vs cs λa=>XA5 H s (.cells q e a) K)))=_;have hc:Br (.agg vs)=vs:=rfl;rw[CH,hc,Cz,hz,FV,h1,Le,tB];show D8 p vs cs _=_;rw[Ii _ _ _ _ (by omega),CX]
theorem AT.one{e sz n:Nat}{cs:Is}(h:AT H e sz v n cs):AV.one v=true:=by
 rcases h with⟨rfl,_⟩|⟨r,q,rfl,_⟩<;>rfl
def AT.cell{e sz n:Nat}{cs:Is}(h:AT H e sz v n cs):Br v=[v]:=by
 rcases h with⟨rfl,_⟩|⟨r,q,rfl,_⟩<;>rfl
def tmV(t:Int×Int):Hx:=[.int .i64 t.1,.string ⟨⟨qn t.2⟩⟩,.string ⟨⟨qd t.2⟩⟩]
def B6b(l:ZM):l.flatMap Mh=(l.flatMap tmV).map λx=>.v x:=by
 induction l with
 |nil=>rfl
 |cons k l ih=>rw[kL,kL,UT,ih];rfl
def B4v{D:Nat}{b:Bool}{l:ZM}(h:AT H AM 3 v l.length (l.flatMap Mh))(f:l=[]->v=A7):∃q,Fx b (D+1) v (Ek l) H q:=by
 rcases h with⟨rfl,h2,_⟩|⟨r,q,rfl,h2,d⟩
 ·cases l with
  |nil=>exact⟨false,Er⟩
  |cons a l=>simp at h2
 ·cases l with
  |nil=>have:=f rfl;cases this
  |cons a l=>
   refine⟨true,?_⟩;show Fx b (D+1) _ (.list (a::l).length ((a::l).flatMap Mh)) H true;rw[B6b]at h2 d⊢;exact UW (q':=false) h2 d (JO _root_.id _)
def Je(x:List Int):Nat->ZM
 |0=>[]
 |i+1=>if pk (x.getD i 0) 17-8≠0/\(Je x i).length<5 then Je x i++[(1+(i:Int),pk (x.getD i 0) 17-8)] else Je x i
def A0O(x:List Int):∀i,i<=6->TmsOk (Je x i)/\(Je x i).length<=5/\∀t∈Je x i,t.1<=i:=by
 intro i
 induction i with
 |zero=>intro _;exact⟨⟨by simp[Je],by simp[Je],by simp[Je]⟩,by simp[Je],by simp[Je]⟩
 |succ i ih=>
  intro j;obtain⟨h1,h2,f⟩:=ih (by omega);have pr:=Ed (c:=x.getD i 0) (n:=17) (by decide);unfold Je;by_cases h:pk (x.getD i 0) 17-8≠0/\(Je x i).length<5
  ·rw[CJ h];refine⟨⟨by simp;omega,λt d=>?_,?_⟩,by simp;omega,λt d=>?_⟩
   ·rcases VP.1 d with d|d
    ·exact h1.rng t d
    ·rw[eX]at d;subst d;simp only;omega
   ·rw[List.pairwise_append];refine⟨h1.asc,by simp,λa g b hb=>?_⟩;rw[eX]at hb;subst hb;have:=f a g;simp only;omega
   ·rcases VP.1 d with d|d
    ·have:=f t d;omega
    ·rw[eX]at d;subst d;simp only;omega
  ·rw[Co h];exact⟨h1,h2,λt d=>by have:=f t d;omega⟩
def C03{t:Int×Int}{K:KV}:F4 AM 3 BC 1 [(0,3,.agg (Mh t))] H K=K (.sl 3 (Ay H) 0 1) ((Ay H,.cells false AM (Mh t))::H):=by
 have e:F4 AM 3 BC 1 [(0,3,.agg (Mh t))] H K=GP H (λs=>K (.sl 3 s 0 1) ((s,.cells false AM (Mh t))::H)):=r_ rfl;rw[e,BQ]
section
variable{K:KV}{x:Af}{xs:List Int}{ca cb ra rb:Ha}{b r z:Nat}{c e:Int}
abbrev B7X(ca cb ra rb:Ha)(v:AV):Row:=.cells true Dw [S ca,S cb,v,S ra,S rb]
structure FmH(b r z:Nat)(xs:List Int)(ca cb ra rb:Ha)(ts:ZM)(v:AV)(H:Hp):Prop where
 hb:Ao H b=some (c_ GH (E7 xs))
 hr:Ao H r=some (B7X ca cb ra rb v)
 hz:∃cs,cs.length=5/\Ao H z=some (c_ Dw cs)
 sl:AT H AM 3 v ts.length (ts.flatMap Mh)
 nl:ts=[]->v=A7
 nb:¬AD v b
 nr:¬AD v r
 nz:¬AD v z
 wf:Wf H
def A6o{t:TI}{e sz n:Nat}{cs:Is}{K:K2}(a:t.d=.slice e sz)(h:AT H e sz v n cs):Bi t v K=K (I n):=IX a h
def B7W{C:AV->KV}(hL:100<L)(P:b≠r)(Z:z≠r)(hx:xs.length=6)(w:∀c∈xs,J8 c)(u:∀v H,FmH b r z xs ca cb ra rb (Je xs 6) v H->C (.ptr z 0 0) (.ptr r 0 0) H=x):
 ∀(f i:Nat)(v:AV)(H:Hp),i<=6->6-i<f->FmH b r z xs ca cb ra rb (Je xs i) v H->
 QM (L+20) (r! L (n+40)) K C f (.ptr b 0 0) (.ptr z 0 0) (.ptr r 0 0) (I i) H=x:=by
 intro f
 induction f with
 |zero=>intro i v H _ h;omega
 |succ f ih=>
  intro i v H hi hf a;rw[dX];unfold QN DV Qg GI B3 Aq EV;have e6:(AV.v (.int .i64 6))=I ((6:Nat):Int):=rfl;rw[e6];by_cases h:i<6
  ·have g:i<xs.length:=by omega
   have R:(E7 xs).getD i .dk=I (xs.getD i 0):=by rw[Te g];simp[List.getD,II g]
   have hc:J8 (xs.getD i 0):=by simp only[List.getD,II g,l1l];exact w _ (Na g)
   have pr:=Ed (c:=xs.getD i 0) (n:=17) (by decide);have ld:∀{K},A9 Ab (.ptr b i 0) H K=K (I (xs.getD i 0)):=λ{K}=>by rw[AH (p:=i) rfl a.hb (by simp[E7];omega),R]
   have Y:∀H K,Ak (r! L (n+40)) GU [I (xs.getD i 0),.v (.int .i64 17)] H K=K (I (pk (xs.getD i 0) 17)):=jJ (n:=n+39) hc (by decide) (by decide);have ia:∀{K:K2},Cy Be (.ptr b 0 0) (I i) K=K (.ptr b i 0):=λ{K}=>D3 i rfl rfl h;rw[FZ (by omega),Dg];simp only[Ca];rw[ia,ld,Y,Gx,BX (by omega) (by omega)];have V:∀{K:K2},Al Ab .neq (I (pk (xs.getD i 0) 17-8)) (.v (.int .i64 0)) K=K (Bo (decide (pk (xs.getD i 0) 17-8≠0))):=λ{K}=>by rw[GY];simp
   rw[V];have d:Je xs (i+1)=if pk (xs.getD i 0) 17-8≠0/\(Je xs i).length<5 then Je xs i++[(1+(i:Int),pk (xs.getD i 0) 17-8)] else Je xs i:=rfl
   have add:∀{K:K2},Al Ab .add (I i) (.v (.int .i64 1)) K=K (I ((i+1:Nat):Int)):=λ{K}=>Dc (by omega);by_cases F:pk (xs.getD i 0) 17-8=0
   ·rw[Iy (by simpa using F)];simp only[uU,BJ,T2];rw[B6,add];rw[Co λa=>a.1 F]at d;exact ih (i+1) v H (by omega) (by omega) (by rw[d];exact a)
   ·have ab:=(A0O xs i (by omega)).2.1;have f2:∀K:K2,CC 2 (.ptr r 0 0) K=K (.ptr r 2 0):=λK=>id rfl;have l2:∀K,A9 A8 (.ptr r 2 0) H K=K v:=λK=>AH (p:=2) rfl a.hr (by simp);rw[Iz (by simpa using F)];simp only[gT,BJ,WT,f2,l2,A6o (t:=A8) rfl a.sl];have e5:(AV.v (.int .i64 5))=I ((5:Nat):Int):=rfl;rw[e5];by_cases h5:(Je xs i).length<5
    ·rw[FZ (by omega),BJ,Dg];rw[CJ ⟨F,h5⟩]at d;have X:∀H K,Ak (r! L (n+40)) EA [I (pk (xs.getD i 0) 17-8),.v (.int .i64 4)] H K=K (.tup [.agg (qa (pk (xs.getD i 0) 17-8)),I 0]):=A4S (by omega) (by omega);rw[X,CO,CN,AW (cs:=[zS,zS]) rfl];have A:=Av (H:=H) (x:=.cells true AU [zS,zS]) (by simp);have w1:=Bw (x:=.cells true AU [zS,zS]) a.wf;rw[Bx (vs:=qa (pk (xs.getD i 0) 17-8)) A rfl rfl rfl];have k:=A4 (q:=true) (e:=AU) (cs:=qa (pk (xs.getD i 0) 17-8)) A;have kp:∀s x,Ao H s=some x->Ao (upd ((Ay H,c_ AU [zS,zS])::H) (Ay H) (c_ AU (qa (pk (xs.getD i 0) 17-8)))) s=some x:=λs x j=>by
      have:=a.wf.lt j;rw[Aj (by omega)];exact AQ this j
     have w2:=BF (r:=Ay H) (y:=.cells true AU (qa (pk (xs.getD i 0) 17-8))) w1;generalize upd ((Ay H,c_ AU [zS,zS])::H) (Ay H) (c_ AU (qa (pk (xs.getD i 0) 17-8)))=D at k kp w2;generalize Ay H=r1 at k;have l3:∀K,A9 A8 (.ptr r 2 0) D K=K v:=λK=>AH (p:=2) rfl (kp _ _ a.hr) (by simp);have l4:∀K,A9 Au (.ptr r1 0 0) D K=K (.agg (qa (pk (xs.getD i 0) 17-8))):=λK=>AR rfl rfl k;have M:∀{K:K2},Al Ab .add (.v (.int .i64 1)) (I i) K=K (I (1+(i:Int))):=λ{K}=>by rw[Ck,BX (by omega) (by omega)]
     have bd:∀{K:K2},Ch BC [(0,1,I (1+(i:Int))),(1,2,.agg (qa (pk (xs.getD i 0) 17-8)))] K=K (.agg (Mh (1+(i:Int),pk (xs.getD i 0) 17-8))):=λ{K}=>id rfl;rw[l3,M,l4,bd];have aa:AT D AM 3 v (Je xs i).length ((Je xs i).flatMap Mh):=by
      rcases a.sl with j|⟨r2,q,h2,N,O⟩
      ·exact .inl j
      ·exact .inr ⟨r2,q,h2,kp _ _ N,O⟩
     obtain⟨v',H',a1,a2,a3,a4,J,a6⟩:=B0h (ie:=BC) (i2:=A8) (λK=>C03 (t:=(1+(i:Int),pk (xs.getD i 0) 17-8)) (H:=D) (K:=K)) aa w2 rfl rfl (by decide) rfl (λ_=>rfl) (by show _*40<=_;omega) (by omega);have B:Ao H' r=some (B7X ca cb ra rb v):=J _ _ (kp _ _ a.hr) a.nr;rw[a1,D9 B (by simp) rfl (AT.cell a2) (AT.one a2),add];obtain⟨cs,Q,m⟩:=a.hz;have new:∀{s x},Ao H s=some x->¬AD v' s:=λ{s x}j hv=>by
      have h1:=w2.lt (kp _ _ j);have h2:=a6 _ hv;omega
     refine ih (i+1) v' _ (by omega) (by omega) ⟨?_,A4 B,⟨cs,Q,?_⟩,?_,?_,new a.hb,new a.hr,new m,BF a3⟩
     ·rw[Aj P];exact J _ _ (kp _ _ a.hb) a.nb
     ·rw[Aj Z];exact J _ _ (kp _ _ m) a.nz
     ·rw[d,E6,l2g];have:(List.flatMap Mh [(1+(i:Int),pk (xs.getD i 0) 17-8)])=Mh (1+(i:Int),pk (xs.getD i 0) 17-8):=by simp
      rw[this];rcases a2 with j|⟨r2,q,h2,N,O⟩
      ·exact .inl j
      ·refine .inr ⟨r2,q,h2,?_,O⟩;rw[Aj (λe=>new a.hr (by rw[h2,<-e];exact⟨_,_,_,rfl⟩))];exact N
     ·rw[d];intro hc;simp at hc
    ·rw[Ga (by omega),BJ,B6,add];rw[Co λa=>h5 a.2]at d;exact ih (i+1) v H (by omega) (by omega) (by rw[d];exact a)
  ·have:i=6:=by omega
   subst this;rw[Ga (by omega),B6];exact u v H a
def pV(l:List Int):(E7 l).all AV.one=true:=by
 rw[Gb];intro a d;obtain⟨z,_,rfl⟩:=US.1 d;rfl
def A4W(N:100<L)(hc:J8 c)(hr:J8 e)(Q:xs.length=6)(O:∀c∈xs,J8 c):CS (r! L (n+41)) Ou [I c,I e,.agg (E7 xs)] (.agg [S (qn (pk c 161-80)),S (qd (pk c 161-80)),Ek (Je xs 6),S (qn (pk e 9)),S (qd (pk e 9))]):=by
 intro K M;rw[jY];unfold SQ Aq;have p1:=Ed (c:=c) (n:=161) (by decide);have p2:=Ed (c:=e) (n:=9) (by decide);have k1:∀H K,Ak (r! L (n+40)) GU [I c,.v (.int .i64 161)] H K=K (I (pk c 161)):=jJ (n:=n+39) hc (by decide) (by decide);have R:∀H K,Ak (r! L (n+40)) GU [I e,.v (.int .i64 9)] H K=K (I (pk e 9)):=jJ (n:=n+39) hr (by decide) (by decide);have V:∀H K,Ak (r! L (n+40)) EA [I (pk c 161-80),.v (.int .i64 4)] H K=K (.tup [.agg (qa (pk c 161-80)),I 0]):=A4S (by omega) (by omega);have X:∀H K,Ak (r! L (n+40)) EA [I (pk e 9),.v (.int .i64 4)] H K=K (.tup [.agg (qa (pk e 9)),I 0]):=A4S (by omega) (by omega);rw[EM (pV xs)];have hb:=Av (H:=[]) (x:=.cells true GH (E7 xs)) (by simp);have w0:=Bw (x:=.cells true GH (E7 xs)) EH;generalize ((Ay [],c_ GH (E7 xs))::([]:Hp))=j at hb w0;generalize Ay []=b at hb;rw[AW (cs:=[zS,zS,A7,zS,zS]) rfl];have hz:=Av (H:=j) (x:=.cells true Dw [zS,zS,A7,zS,zS]) (by simp);have b1:=AQ (x:=.cells true Dw [zS,zS,A7,zS,zS]) (w0.lt hb) hb;have nb:=w0.lt hb;have w1:=Bw (x:=.cells true Dw [zS,zS,A7,zS,zS]) w0;generalize ((Ay j,c_ Dw [zS,zS,A7,zS,zS])::j)=w at hz w1 b1;generalize Ay j=z at hz nb;have A:∀{K:K2},Ch DK [] K=K (.agg [zS,zS,A7,zS,zS]):=λ{K}=>id rfl;rw[A,AW (cs:=[zS,zS,A7,zS,zS]) rfl];obtain⟨k,B,r2,Y,kp⟩:=DN (e:=Dw) (zs:=[zS,zS,A7,zS,zS]) (vs:=[zS,zS,A7,zS,zS]) w1 rfl;rw[Bx (vs:=[zS,zS,A7,zS,zS]) (Av (by simp)) rfl rfl rfl,<-B];obtain⟨b2,a⟩:=kp _ _ b1;obtain⟨Z,d⟩:=kp _ _ hz;generalize Ay w=r at r2 a d;have C:∀K:K2,CC 0 (.ptr r 0 0) K=K (.ptr r 0 0):=λK=>id rfl;have f3:∀K:K2,CC 3 (.ptr r 0 0) K=K (.ptr r 3 0):=λK=>id rfl;rw[k1,Gx,BX (by omega) (by omega),V,CO,CN,C,ZC (vs:=qa (pk c 161-80)) r2 (show 0+2<=5 by decide) rfl rfl];have p:=A4 (q:=true) (e:=Dw) (cs:=splice [zS,zS,A7,zS,zS] 0 (qa (pk c 161-80))) r2;have m:=b2;have t:=Z;rw[<-Aj (H:=k) (r:=r) (y:=.cells true Dw (splice [zS,zS,A7,zS,zS] 0 (qa (pk c 161-80)))) a]at m;rw[<-Aj (H:=k) (r:=r) (y:=.cells true Dw (splice [zS,zS,A7,zS,zS] 0 (qa (pk c 161-80)))) d]at t;have u:=BF (r:=r) (y:=.cells true Dw (splice [zS,zS,A7,zS,zS] 0 (qa (pk c 161-80)))) Y;generalize upd k r (c_ Dw (splice [zS,zS,A7,zS,zS] 0 (qa (pk c 161-80))))=H3 at p m t u;rw[R,X,CO,CN,f3,ZC (vs:=qa (pk e 9)) p (show 3+2<=5 by decide) rfl rfl];simp only[Ca];refine B7W (n:=n) (b:=b) (r:=r) (z:=z) (ca:=qn (pk c 161-80)) (cb:=qd (pk c 161-80)) (ra:=qn (pk e 9)) (rb:=qd (pk e 9)) N a d Q O ?_ (L+20) 0 A7 _ (by omega) (by omega) ⟨?_,A4 p,⟨[zS,zS,A7,zS,zS],rfl,?_⟩,.inl ⟨rfl,rfl,rfl⟩,λ_=>rfl,?_,?_,?_,BF u⟩
 ·intro v H f;obtain⟨cs,g,i⟩:=f.hz;have o:[S (qn (pk c 161-80)),S (qd (pk c 161-80)),v,S (qn (pk e 9)),S (qd (pk e 9))].all AV.one=true:=by
   show(true&&(true&&(AV.one v&&(true&&(true&&true)))))=true;rw[AT.one f.sl];rfl
  rw[AR rfl rfl f.hr,Bx i (by exact g.symm) (by exact g.symm) o,AR rfl rfl (A4 i)];refine M _ _ (λq=>?_);have s:AT (upd H z (c_ Dw [S (qn (pk c 161-80)),S (qd (pk c 161-80)),v,S (qn (pk e 9)),S (qd (pk e 9))])) AM 3 v (Je xs 6).length ((Je xs 6).flatMap Mh):=by
   rcases f.sl with P|⟨r2,q,h2,F,J⟩
   ·exact .inl P
   ·refine .inr ⟨r2,q,h2,?_,J⟩;rw[Aj (λe=>f.nz (by rw[h2,<-e];exact⟨_,_,_,rfl⟩))];exact F
  obtain⟨q',hq⟩:=B4v (D:=depth-2) (b:=q) s f.nl;exact⟨_,PJ (D:=depth-1) (Az (q:=false) Er (Az (q:=false) Er (Az hq (Az (q:=false) Er (Az (q:=false) Er Bq)))))⟩
 ·rw[Aj a];exact m
 ·rw[Aj d];exact t
 all_goals (rintro⟨_,_,_,h⟩;cases h)
end
end
end Go.Abs
end
