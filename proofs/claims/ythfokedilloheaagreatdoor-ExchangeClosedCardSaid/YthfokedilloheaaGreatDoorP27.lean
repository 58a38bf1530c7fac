import Derived.Test.YthfokedilloheaaGreatDoorP16
import Derived.Test.YthfokedilloheaaGreatDoorP17
import Derived.Test.YthfokedilloheaaGreatDoorP18
import Derived.Test.YthfokedilloheaaGreatDoorP19
import Derived.Test.YthfokedilloheaaGreatDoorP20
import Derived.Test.YthfokedilloheaaGreatDoorP21
import Derived.Test.YthfokedilloheaaGreatDoorP22
import Derived.Test.YthfokedilloheaaGreatDoorP23
import Derived.Test.YthfokedilloheaaGreatDoorP24
import Derived.Test.YthfokedilloheaaGreatDoorP25
import Derived.Test.YthfokedilloheaaGreatDoorP26
set_option linter.all false
set_option maxHeartbeats 100000000
noncomputable section
namespace Go.Abs
open Go.RowKit Go.Proofs
set_option maxRecDepth 100000
section
variable{a b:Nat}
variable{L n:Nat}
def RV.ls{R:Rt}{f:Nat}{args':Is}{v:AV}(h:RV R f args' v):LS R f args' v:=λq args H c K=>by rw[<-zO];exact rR h c
def wE(op l r:Nat):Nd:=⟨op,[],[],u0,0,l,r⟩
def poN(l e:Nat):Nd:=⟨7,[],[],u0,mW e,l,0⟩
def A3f:Option Nat->AV
 |some k=>.tup [.agg (CN (uu k)),I 0]
 |none=>.tup [.agg Ga,I 90]
section
variable{id:Int}{o:UD}{xs:List Nd}{ks:Hb}{l r e i k:Nat}{q:Option Nat}{I1:AV}
def uR(h1:1<=ks.length)(d:ks.length<=3):(∃a,ks=[a])\/(∃a b,ks=[a,b])\/∃a b c,ks=[a,b,c]:=by
 match ks,h1,d with
 |[a],_,_=>exact .inl ⟨a,rfl⟩
 |[a,b],_,_=>exact .inr (.inl ⟨a,b,rfl⟩)
 |[a,b,c],_,_=>exact .inr (.inr ⟨a,b,c,rfl⟩)
def Xa(h:l<[a].length):l=0:=by simpa using h
def WZ(h:l<[a,b].length):l=0\/l=1:=by simp at h;omega
def WY{a b c:Nat}(h:l<[a,b,c].length):l=0\/l=1\/l=2:=by simp at h;omega
def lt5(h:e<5):e=0\/e=1\/e=2\/e=3\/e=4:=by omega
def A9V(h1:1<=ks.length)(f:ks.length<=3)(d:l<ks.length)(hr:r<ks.length):RV (rt (L+20) (n+2)) F2 [.agg (BL id (BS ks) (Cx xs) o),.agg (wE 3 l r).cs,I ks.length] (.tup [Bo true,Bo true]):=by
 rcases uR h1 f with⟨a,rfl⟩|⟨a,b,rfl⟩|⟨a,b,c,rfl⟩
 ·obtain rfl:=Xa d;obtain rfl:=Xa hr;exact λb=>by kernel_rfl
 ·rcases WZ d with rfl|rfl<;>rcases WZ hr with rfl|rfl<;>(exact λb=>by kernel_rfl)
 ·rcases WY d with rfl|rfl|rfl<;>rcases WY hr with rfl|rfl|rfl<;>(exact λb=>by kernel_rfl)
attribute [local irreducible] oV rt in
def A9P(h1:1<=ks.length)(j:ks.length<=3)(g:l<ks.length)(hr:r<ks.length)(f:PO (rt (L+20) (n+41)) TK [.agg (uu (ks.getD l 0)).cs,.agg (uu (ks.getD r 0)).cs] (Ko q)):CS (rt (L+20) (n+42)) CJ [.agg (BL id (BS ks) (Cx xs) o),.agg (wE 3 l r).cs,I ks.length,RO ks] (A3f q):=by
 intro K h;have d:=(A9V (L:=L) (n:=n+39) (id:=id) (o:=o) (xs:=xs) h1 j g hr).ls;rewrite[HH];unfold Ho q4N;rewrite[zO];generalize rt (L+20) (n+41)=R at*
 revert f d
 rcases uR h1 j with⟨a,rfl⟩|⟨a,b,rfl⟩|⟨a,b,c,rfl⟩
 ·obtain rfl:=Xa g;obtain rfl:=Xa hr;intro f d;simp only[VO,VN]at f;(conv=>lhs;whnf);rewrite[d false _ _ ?hq];(case hq=>exact λK=>by kernel_rfl);(conv=>lhs;whnf);rewrite[f];cases q<;>(conv=>lhs;whnf)<;>exact h _ _ (λb=>⟨false,λK=>by kernel_rfl⟩)
 ·rcases WZ g with rfl|rfl<;>rcases WZ hr with rfl|rfl<;>(intro f d;simp only[VO,VN]at f;(conv=>lhs;whnf);rewrite[d false _ _ ?hq];(case hq=>exact λK=>by kernel_rfl);(conv=>lhs;whnf);rewrite[f];cases q<;>(conv=>lhs;whnf)<;>exact h _ _ (λb=>⟨false,λK=>by kernel_rfl⟩))
 ·rcases WY g with rfl|rfl|rfl<;>rcases WY hr with rfl|rfl|rfl<;>(intro f d;simp only[VO,VN]at f;(conv=>lhs;whnf);rewrite[d false _ _ ?hq];(case hq=>exact λK=>by kernel_rfl);(conv=>lhs;whnf);rewrite[f];cases q<;>(conv=>lhs;whnf)<;>exact h _ _ (λb=>⟨false,λK=>by kernel_rfl⟩))
def A9Z(h1:1<=ks.length)(f:ks.length<=3)(d:l<ks.length)(hr:r<ks.length):RV (rt (L+20) (n+2)) F2 [.agg (BL id (BS ks) (Cx xs) o),.agg (wE 4 l r).cs,I ks.length] (.tup [Bo true,Bo true]):=by
 rcases uR h1 f with⟨a,rfl⟩|⟨a,b,rfl⟩|⟨a,b,c,rfl⟩
 ·obtain rfl:=Xa d;obtain rfl:=Xa hr;exact λb=>by kernel_rfl
 ·rcases WZ d with rfl|rfl<;>rcases WZ hr with rfl|rfl<;>(exact λb=>by kernel_rfl)
 ·rcases WY d with rfl|rfl|rfl<;>rcases WY hr with rfl|rfl|rfl<;>(exact λb=>by kernel_rfl)
attribute [local irreducible] oV rt in
def A9T(h1:1<=ks.length)(j:ks.length<=3)(g:l<ks.length)(hr:r<ks.length)(f:PO (rt (L+20) (n+41)) K9 [.agg (uu (ks.getD l 0)).cs,.agg (uu (ks.getD r 0)).cs] (Ko q)):CS (rt (L+20) (n+42)) CJ [.agg (BL id (BS ks) (Cx xs) o),.agg (wE 4 l r).cs,I ks.length,RO ks] (A3f q):=by
 intro K h;have d:=(A9Z (L:=L) (n:=n+39) (id:=id) (o:=o) (xs:=xs) h1 j g hr).ls;rewrite[HH];unfold Ho q4N;rewrite[zO];generalize rt (L+20) (n+41)=R at*
 revert f d
 rcases uR h1 j with⟨a,rfl⟩|⟨a,b,rfl⟩|⟨a,b,c,rfl⟩
 ·obtain rfl:=Xa g;obtain rfl:=Xa hr;intro f d;simp only[VO,VN]at f;(conv=>lhs;whnf);rewrite[d false _ _ ?hq];(case hq=>exact λK=>by kernel_rfl);(conv=>lhs;whnf);rewrite[f];cases q<;>(conv=>lhs;whnf)<;>exact h _ _ (λb=>⟨false,λK=>by kernel_rfl⟩)
 ·rcases WZ g with rfl|rfl<;>rcases WZ hr with rfl|rfl<;>(intro f d;simp only[VO,VN]at f;(conv=>lhs;whnf);rewrite[d false _ _ ?hq];(case hq=>exact λK=>by kernel_rfl);(conv=>lhs;whnf);rewrite[f];cases q<;>(conv=>lhs;whnf)<;>exact h _ _ (λb=>⟨false,λK=>by kernel_rfl⟩))
 ·rcases WY g with rfl|rfl|rfl<;>rcases WY hr with rfl|rfl|rfl<;>(intro f d;simp only[VO,VN]at f;(conv=>lhs;whnf);rewrite[d false _ _ ?hq];(case hq=>exact λK=>by kernel_rfl);(conv=>lhs;whnf);rewrite[f];cases q<;>(conv=>lhs;whnf)<;>exact h _ _ (λb=>⟨false,λK=>by kernel_rfl⟩))
def A9X(h1:1<=ks.length)(f:ks.length<=3)(d:l<ks.length)(hr:r<ks.length):RV (rt (L+20) (n+2)) F2 [.agg (BL id (BS ks) (Cx xs) o),.agg (wE 5 l r).cs,I ks.length] (.tup [Bo true,Bo true]):=by
 rcases uR h1 f with⟨a,rfl⟩|⟨a,b,rfl⟩|⟨a,b,c,rfl⟩
 ·obtain rfl:=Xa d;obtain rfl:=Xa hr;exact λb=>by kernel_rfl
 ·rcases WZ d with rfl|rfl<;>rcases WZ hr with rfl|rfl<;>(exact λb=>by kernel_rfl)
 ·rcases WY d with rfl|rfl|rfl<;>rcases WY hr with rfl|rfl|rfl<;>(exact λb=>by kernel_rfl)
attribute [local irreducible] oV rt in
def A9R(h1:1<=ks.length)(j:ks.length<=3)(g:l<ks.length)(hr:r<ks.length)(f:PO (rt (L+20) (n+41)) TL [.agg (uu (ks.getD l 0)).cs,.agg (uu (ks.getD r 0)).cs] (Ko q)):CS (rt (L+20) (n+42)) CJ [.agg (BL id (BS ks) (Cx xs) o),.agg (wE 5 l r).cs,I ks.length,RO ks] (A3f q):=by
 intro K h;have d:=(A9X (L:=L) (n:=n+39) (id:=id) (o:=o) (xs:=xs) h1 j g hr).ls;rewrite[HH];unfold Ho q4N;rewrite[zO];generalize rt (L+20) (n+41)=R at*
 revert f d
 rcases uR h1 j with⟨a,rfl⟩|⟨a,b,rfl⟩|⟨a,b,c,rfl⟩
 ·obtain rfl:=Xa g;obtain rfl:=Xa hr;intro f d;simp only[VO,VN]at f;(conv=>lhs;whnf);rewrite[d false _ _ ?hq];(case hq=>exact λK=>by kernel_rfl);(conv=>lhs;whnf);rewrite[f];cases q<;>(conv=>lhs;whnf)<;>exact h _ _ (λb=>⟨false,λK=>by kernel_rfl⟩)
 ·rcases WZ g with rfl|rfl<;>rcases WZ hr with rfl|rfl<;>(intro f d;simp only[VO,VN]at f;(conv=>lhs;whnf);rewrite[d false _ _ ?hq];(case hq=>exact λK=>by kernel_rfl);(conv=>lhs;whnf);rewrite[f];cases q<;>(conv=>lhs;whnf)<;>exact h _ _ (λb=>⟨false,λK=>by kernel_rfl⟩))
 ·rcases WY g with rfl|rfl|rfl<;>rcases WY hr with rfl|rfl|rfl<;>(intro f d;simp only[VO,VN]at f;(conv=>lhs;whnf);rewrite[d false _ _ ?hq];(case hq=>exact λK=>by kernel_rfl);(conv=>lhs;whnf);rewrite[f];cases q<;>(conv=>lhs;whnf)<;>exact h _ _ (λb=>⟨false,λK=>by kernel_rfl⟩))
def A9Y(h1:1<=ks.length)(f:ks.length<=3)(d:l<ks.length)(hr:r<ks.length):RV (rt (L+20) (n+2)) F2 [.agg (BL id (BS ks) (Cx xs) o),.agg (wE 6 l r).cs,I ks.length] (.tup [Bo true,Bo true]):=by
 rcases uR h1 f with⟨a,rfl⟩|⟨a,b,rfl⟩|⟨a,b,c,rfl⟩
 ·obtain rfl:=Xa d;obtain rfl:=Xa hr;exact λb=>by kernel_rfl
 ·rcases WZ d with rfl|rfl<;>rcases WZ hr with rfl|rfl<;>(exact λb=>by kernel_rfl)
 ·rcases WY d with rfl|rfl|rfl<;>rcases WY hr with rfl|rfl|rfl<;>(exact λb=>by kernel_rfl)
attribute [local irreducible] oV rt in
def A9S(h1:1<=ks.length)(j:ks.length<=3)(g:l<ks.length)(hr:r<ks.length)(f:PO (rt (L+20) (n+41)) TM [.agg (uu (ks.getD l 0)).cs,.agg (uu (ks.getD r 0)).cs] (Ko q)):CS (rt (L+20) (n+42)) CJ [.agg (BL id (BS ks) (Cx xs) o),.agg (wE 6 l r).cs,I ks.length,RO ks] (A3f q):=by
 intro K h;have d:=(A9Y (L:=L) (n:=n+39) (id:=id) (o:=o) (xs:=xs) h1 j g hr).ls;rewrite[HH];unfold Ho q4N;rewrite[zO];generalize rt (L+20) (n+41)=R at*
 revert f d
 rcases uR h1 j with⟨a,rfl⟩|⟨a,b,rfl⟩|⟨a,b,c,rfl⟩
 ·obtain rfl:=Xa g;obtain rfl:=Xa hr;intro f d;simp only[VO,VN]at f;(conv=>lhs;whnf);rewrite[d false _ _ ?hq];(case hq=>exact λK=>by kernel_rfl);(conv=>lhs;whnf);rewrite[f];cases q<;>(conv=>lhs;whnf)<;>exact h _ _ (λb=>⟨false,λK=>by kernel_rfl⟩)
 ·rcases WZ g with rfl|rfl<;>rcases WZ hr with rfl|rfl<;>(intro f d;simp only[VO,VN]at f;(conv=>lhs;whnf);rewrite[d false _ _ ?hq];(case hq=>exact λK=>by kernel_rfl);(conv=>lhs;whnf);rewrite[f];cases q<;>(conv=>lhs;whnf)<;>exact h _ _ (λb=>⟨false,λK=>by kernel_rfl⟩))
 ·rcases WY g with rfl|rfl|rfl<;>rcases WY hr with rfl|rfl|rfl<;>(intro f d;simp only[VO,VN]at f;(conv=>lhs;whnf);rewrite[d false _ _ ?hq];(case hq=>exact λK=>by kernel_rfl);(conv=>lhs;whnf);rewrite[f];cases q<;>(conv=>lhs;whnf)<;>exact h _ _ (λb=>⟨false,λK=>by kernel_rfl⟩))
def A9W(h1:1<=ks.length)(f:ks.length<=3)(d:l<ks.length)(he:e<5):RV (rt (L+20) (n+2)) F2 [.agg (BL id (BS ks) (Cx xs) o),.agg (poN l e).cs,I ks.length] (.tup [Bo true,Bo true]):=by
 rcases uR h1 f with⟨a,rfl⟩|⟨a,b,rfl⟩|⟨a,b,c,rfl⟩
 ·obtain rfl:=Xa d;rcases lt5 he with rfl|rfl|rfl|rfl|rfl<;>(exact λb=>by kernel_rfl)
 ·rcases WZ d with rfl|rfl<;>rcases lt5 he with rfl|rfl|rfl|rfl|rfl<;>(exact λb=>by kernel_rfl)
 ·rcases WY d with rfl|rfl|rfl<;>rcases lt5 he with rfl|rfl|rfl|rfl|rfl<;>(exact λb=>by kernel_rfl)
attribute [local irreducible] oV rt in
def A9Q(h1:1<=ks.length)(j:ks.length<=3)(g:l<ks.length)(he:e<5)(f:PO (rt (L+20) (n+41)) LN [.agg (uu (ks.getD l 0)).cs,.agg [I (mW e),I 1]] (Ko q)):CS (rt (L+20) (n+42)) CJ [.agg (BL id (BS ks) (Cx xs) o),.agg (poN l e).cs,I ks.length,RO ks] (A3f q):=by
 intro K h;have d:=(A9W (L:=L) (n:=n+39) (id:=id) (o:=o) (xs:=xs) h1 j g he).ls;rewrite[HH];unfold Ho q4N;rewrite[zO];generalize rt (L+20) (n+41)=R at*
 revert f d
 rcases uR h1 j with⟨a,rfl⟩|⟨a,b,rfl⟩|⟨a,b,c,rfl⟩
 ·obtain rfl:=Xa g;rcases lt5 he with rfl|rfl|rfl|rfl|rfl<;>(intro f d;simp only[VO,VN]at f;(conv=>lhs;whnf);rewrite[d false _ _ ?hq];(case hq=>exact λK=>by kernel_rfl);(conv=>lhs;whnf);refine R' (f _ _) ?_;cases q<;>(conv=>lhs;whnf)<;>exact h _ _ (λb=>⟨false,λK=>by kernel_rfl⟩))
 ·rcases WZ g with rfl|rfl<;>rcases lt5 he with rfl|rfl|rfl|rfl|rfl<;>(intro f d;simp only[VO,VN]at f;(conv=>lhs;whnf);rewrite[d false _ _ ?hq];(case hq=>exact λK=>by kernel_rfl);(conv=>lhs;whnf);refine R' (f _ _) ?_;cases q<;>(conv=>lhs;whnf)<;>exact h _ _ (λb=>⟨false,λK=>by kernel_rfl⟩))
 ·rcases WY g with rfl|rfl|rfl<;>rcases lt5 he with rfl|rfl|rfl|rfl|rfl<;>(intro f d;simp only[VO,VN]at f;(conv=>lhs;whnf);rewrite[d false _ _ ?hq];(case hq=>exact λK=>by kernel_rfl);(conv=>lhs;whnf);refine R' (f _ _) ?_;cases q<;>(conv=>lhs;whnf)<;>exact h _ _ (λb=>⟨false,λK=>by kernel_rfl⟩))
def A6K(h1:1<=ks.length)(f:ks.length<=3)(d:l<ks.length)(hr:r<ks.length):RV (rt (L+20) (n+2)) BV [XW I1 (RO ks),fF (GK.getD 3 []) oW Fc,.agg (wE 3 l r).cs] (Bo true):=by
 rcases uR h1 f with⟨a,rfl⟩|⟨a,b,rfl⟩|⟨a,b,c,rfl⟩
 ·obtain rfl:=Xa d;obtain rfl:=Xa hr;exact λb=>by kernel_rfl
 ·rcases WZ d with rfl|rfl<;>rcases WZ hr with rfl|rfl<;>(exact λb=>by kernel_rfl)
 ·rcases WY d with rfl|rfl|rfl<;>rcases WY hr with rfl|rfl|rfl<;>(exact λb=>by kernel_rfl)
attribute [local irreducible] oV rt in
def A8J(h1:1<=ks.length)(h:ks.length<=3)(g:l<ks.length)(hr:r<ks.length)(d:PO (rt (L+20) (n+40)) Xl [.agg (uu (ks.getD l 0)).cs,.agg (uu (ks.getD r 0)).cs] (Ko (some k))):CS (rt (L+20) (n+41)) Fc [XW I1 (RO ks),.agg (wE 3 l r).cs] (.tup [.agg (CN (uu k)),I 0]):=by
 intro K f;rewrite[Rs];unfold Ji L8;rewrite[zO];generalize rt (L+20) (n+40)=R at*
 revert d
 rcases uR h1 h with⟨a,rfl⟩|⟨a,b,rfl⟩|⟨a,b,c,rfl⟩
 ·obtain rfl:=Xa g;obtain rfl:=Xa hr;intro d;simp only[VO,VN]at d;(conv=>lhs;whnf);rewrite[d];(conv=>lhs;whnf);exact f _ _ (λb=>⟨false,λK=>by kernel_rfl⟩)
 ·rcases WZ g with rfl|rfl<;>rcases WZ hr with rfl|rfl<;>(intro d;simp only[VO,VN]at d;(conv=>lhs;whnf);rewrite[d];(conv=>lhs;whnf);exact f _ _ (λb=>⟨false,λK=>by kernel_rfl⟩))
 ·rcases WY g with rfl|rfl|rfl<;>rcases WY hr with rfl|rfl|rfl<;>(intro d;simp only[VO,VN]at d;(conv=>lhs;whnf);rewrite[d];(conv=>lhs;whnf);exact f _ _ (λb=>⟨false,λK=>by kernel_rfl⟩))
def A6O(h1:1<=ks.length)(f:ks.length<=3)(d:l<ks.length)(hr:r<ks.length):RV (rt (L+20) (n+2)) BV [XW I1 (RO ks),fF (GK.getD 4 []) oW D4,.agg (wE 4 l r).cs] (Bo true):=by
 rcases uR h1 f with⟨a,rfl⟩|⟨a,b,rfl⟩|⟨a,b,c,rfl⟩
 ·obtain rfl:=Xa d;obtain rfl:=Xa hr;exact λb=>by kernel_rfl
 ·rcases WZ d with rfl|rfl<;>rcases WZ hr with rfl|rfl<;>(exact λb=>by kernel_rfl)
 ·rcases WY d with rfl|rfl|rfl<;>rcases WY hr with rfl|rfl|rfl<;>(exact λb=>by kernel_rfl)
attribute [local irreducible] oV rt in
def A8N(h1:1<=ks.length)(h:ks.length<=3)(g:l<ks.length)(hr:r<ks.length)(d:PO (rt (L+20) (n+40)) Lu [.agg (uu (ks.getD l 0)).cs,.agg (uu (ks.getD r 0)).cs] (Ko (some k))):CS (rt (L+20) (n+41)) D4 [XW I1 (RO ks),.agg (wE 4 l r).cs] (.tup [.agg (CN (uu k)),I 0]):=by
 intro K f;rewrite[Nt];unfold Gh L8;rewrite[zO];generalize rt (L+20) (n+40)=R at*
 revert d
 rcases uR h1 h with⟨a,rfl⟩|⟨a,b,rfl⟩|⟨a,b,c,rfl⟩
 ·obtain rfl:=Xa g;obtain rfl:=Xa hr;intro d;simp only[VO,VN]at d;(conv=>lhs;whnf);rewrite[d];(conv=>lhs;whnf);exact f _ _ (λb=>⟨false,λK=>by kernel_rfl⟩)
 ·rcases WZ g with rfl|rfl<;>rcases WZ hr with rfl|rfl<;>(intro d;simp only[VO,VN]at d;(conv=>lhs;whnf);rewrite[d];(conv=>lhs;whnf);exact f _ _ (λb=>⟨false,λK=>by kernel_rfl⟩))
 ·rcases WY g with rfl|rfl|rfl<;>rcases WY hr with rfl|rfl|rfl<;>(intro d;simp only[VO,VN]at d;(conv=>lhs;whnf);rewrite[d];(conv=>lhs;whnf);exact f _ _ (λb=>⟨false,λK=>by kernel_rfl⟩))
def A6M(h1:1<=ks.length)(f:ks.length<=3)(d:l<ks.length)(hr:r<ks.length):RV (rt (L+20) (n+2)) BV [XW I1 (RO ks),fF (GK.getD 5 []) oW Ee,.agg (wE 5 l r).cs] (Bo true):=by
 rcases uR h1 f with⟨a,rfl⟩|⟨a,b,rfl⟩|⟨a,b,c,rfl⟩
 ·obtain rfl:=Xa d;obtain rfl:=Xa hr;exact λb=>by kernel_rfl
 ·rcases WZ d with rfl|rfl<;>rcases WZ hr with rfl|rfl<;>(exact λb=>by kernel_rfl)
 ·rcases WY d with rfl|rfl|rfl<;>rcases WY hr with rfl|rfl|rfl<;>(exact λb=>by kernel_rfl)
attribute [local irreducible] oV rt in
def A8L(h1:1<=ks.length)(h:ks.length<=3)(g:l<ks.length)(hr:r<ks.length)(d:PO (rt (L+20) (n+40)) Xm [.agg (uu (ks.getD l 0)).cs,.agg (uu (ks.getD r 0)).cs] (Ko (some k))):CS (rt (L+20) (n+41)) Ee [XW I1 (RO ks),.agg (wE 5 l r).cs] (.tup [.agg (CN (uu k)),I 0]):=by
 intro K f;rewrite[Ph];unfold HJ L8;rewrite[zO];generalize rt (L+20) (n+40)=R at*
 revert d
 rcases uR h1 h with⟨a,rfl⟩|⟨a,b,rfl⟩|⟨a,b,c,rfl⟩
 ·obtain rfl:=Xa g;obtain rfl:=Xa hr;intro d;simp only[VO,VN]at d;(conv=>lhs;whnf);rewrite[d];(conv=>lhs;whnf);exact f _ _ (λb=>⟨false,λK=>by kernel_rfl⟩)
 ·rcases WZ g with rfl|rfl<;>rcases WZ hr with rfl|rfl<;>(intro d;simp only[VO,VN]at d;(conv=>lhs;whnf);rewrite[d];(conv=>lhs;whnf);exact f _ _ (λb=>⟨false,λK=>by kernel_rfl⟩))
 ·rcases WY g with rfl|rfl|rfl<;>rcases WY hr with rfl|rfl|rfl<;>(intro d;simp only[VO,VN]at d;(conv=>lhs;whnf);rewrite[d];(conv=>lhs;whnf);exact f _ _ (λb=>⟨false,λK=>by kernel_rfl⟩))
def A6N(h1:1<=ks.length)(f:ks.length<=3)(d:l<ks.length)(hr:r<ks.length):RV (rt (L+20) (n+2)) BV [XW I1 (RO ks),fF (GK.getD 6 []) oW DP,.agg (wE 6 l r).cs] (Bo true):=by
 rcases uR h1 f with⟨a,rfl⟩|⟨a,b,rfl⟩|⟨a,b,c,rfl⟩
 ·obtain rfl:=Xa d;obtain rfl:=Xa hr;exact λb=>by kernel_rfl
 ·rcases WZ d with rfl|rfl<;>rcases WZ hr with rfl|rfl<;>(exact λb=>by kernel_rfl)
 ·rcases WY d with rfl|rfl|rfl<;>rcases WY hr with rfl|rfl|rfl<;>(exact λb=>by kernel_rfl)
attribute [local irreducible] oV rt in
def A8M(h1:1<=ks.length)(h:ks.length<=3)(g:l<ks.length)(hr:r<ks.length)(d:PO (rt (L+20) (n+40)) Xn [.agg (uu (ks.getD l 0)).cs,.agg (uu (ks.getD r 0)).cs] (Ko (some k))):CS (rt (L+20) (n+41)) DP [XW I1 (RO ks),.agg (wE 6 l r).cs] (.tup [.agg (CN (uu k)),I 0]):=by
 intro K f;rewrite[Ow];unfold GU L8;rewrite[zO];generalize rt (L+20) (n+40)=R at*
 revert d
 rcases uR h1 h with⟨a,rfl⟩|⟨a,b,rfl⟩|⟨a,b,c,rfl⟩
 ·obtain rfl:=Xa g;obtain rfl:=Xa hr;intro d;simp only[VO,VN]at d;(conv=>lhs;whnf);rewrite[d];(conv=>lhs;whnf);exact f _ _ (λb=>⟨false,λK=>by kernel_rfl⟩)
 ·rcases WZ g with rfl|rfl<;>rcases WZ hr with rfl|rfl<;>(intro d;simp only[VO,VN]at d;(conv=>lhs;whnf);rewrite[d];(conv=>lhs;whnf);exact f _ _ (λb=>⟨false,λK=>by kernel_rfl⟩))
 ·rcases WY g with rfl|rfl|rfl<;>rcases WY hr with rfl|rfl|rfl<;>(intro d;simp only[VO,VN]at d;(conv=>lhs;whnf);rewrite[d];(conv=>lhs;whnf);exact f _ _ (λb=>⟨false,λK=>by kernel_rfl⟩))
def A6L(h1:1<=ks.length)(f:ks.length<=3)(d:l<ks.length)(he:e<5):RV (rt (L+20) (n+2)) BV [XW I1 (RO ks),fF (GK.getD 7 []) B9A ED,.agg (poN l e).cs] (Bo true):=by
 rcases uR h1 f with⟨a,rfl⟩|⟨a,b,rfl⟩|⟨a,b,c,rfl⟩
 ·obtain rfl:=Xa d;rcases lt5 he with rfl|rfl|rfl|rfl|rfl<;>(exact λb=>by kernel_rfl)
 ·rcases WZ d with rfl|rfl<;>rcases lt5 he with rfl|rfl|rfl|rfl|rfl<;>(exact λb=>by kernel_rfl)
 ·rcases WY d with rfl|rfl|rfl<;>rcases lt5 he with rfl|rfl|rfl|rfl|rfl<;>(exact λb=>by kernel_rfl)
attribute [local irreducible] oV rt in
def A8K(h1:1<=ks.length)(h:ks.length<=3)(g:l<ks.length)(he:e<5)(d:PO (rt (L+20) (n+40)) Tb [.agg (uu (ks.getD l 0)).cs,.agg [I (mW e),I 1]] (Ko (some k))):CS (rt (L+20) (n+41)) ED [XW I1 (RO ks),.agg (poN l e).cs] (.tup [.agg (CN (uu k)),I 0]):=by
 intro K f;rewrite[Qs];unfold I9 DI UU eN Nc G8 A2 MF;rewrite[zO];generalize rt (L+20) (n+40)=R at*
 revert d
 rcases uR h1 h with⟨a,rfl⟩|⟨a,b,rfl⟩|⟨a,b,c,rfl⟩
 ·obtain rfl:=Xa g;rcases lt5 he with rfl|rfl|rfl|rfl|rfl<;>(intro d;simp only[VO,VN]at d;(conv=>lhs;whnf);dsimp only[poN];rewrite[d];(conv=>lhs;whnf);exact f _ _ (λb=>⟨false,λK=>by kernel_rfl⟩))
 ·rcases WZ g with rfl|rfl<;>rcases lt5 he with rfl|rfl|rfl|rfl|rfl<;>(intro d;simp only[VO,VN]at d;(conv=>lhs;whnf);dsimp only[poN];rewrite[d];(conv=>lhs;whnf);exact f _ _ (λb=>⟨false,λK=>by kernel_rfl⟩))
 ·rcases WY g with rfl|rfl|rfl<;>rcases lt5 he with rfl|rfl|rfl|rfl|rfl<;>(intro d;simp only[VO,VN]at d;(conv=>lhs;whnf);dsimp only[poN];rewrite[d];(conv=>lhs;whnf);exact f _ _ (λb=>⟨false,λK=>by kernel_rfl⟩))
end
end
section
variable(L n:Nat)
def A0F:((List.range 11).all λk=>(λi=>JQ (Bc (Du (r! L (n+40)) E0 [.agg (fK i)]) (Bo true))) (k+0))=true:=by kernel_rfl
def A0E:((List.range 11).all λk=>(λi=>JQ (Bc (Du (r! L (n+40)) E0 [.agg (fK i)]) (Bo true))) (k+11))=true:=by kernel_rfl
def A0D:((List.range 11).all λk=>(λi=>JQ (Bc (Du (r! L (n+40)) E0 [.agg (fK i)]) (Bo true))) (k+22))=true:=by kernel_rfl
def A6P(i:Nat)(h:i<33):PS (r! L (n+40)) E0 [.agg (fK i)] (Bo true):=by
 refine BM (λH=>by first|exact λK=>by kernel_rfl) ?_;by_cases a:i<11
 ·have:=G9.1 (A0F L n) (i-0) (KT.2 (by omega));have e:i-0+0=i:=by omega
  simp only[e]at this;exact this
 by_cases h1:i<22
 ·have:=G9.1 (A0E L n) (i-11) (KT.2 (by omega));have e:i-11+11=i:=by omega
  simp only[e]at this;exact this
 by_cases h2:i<33
 ·have:=G9.1 (A0D L n) (i-22) (KT.2 (by omega));have e:i-22+22=i:=by omega
  simp only[e]at this;exact this
 ·omega
def A0I:((List.range 11).all λk=>(λi=>JQ (Bc (Du (r! L (n+40)) IP [.agg (fK i)]) (S (frt i)))) (k+0))=true:=by kernel_rfl
def A0H:((List.range 11).all λk=>(λi=>JQ (Bc (Du (r! L (n+40)) IP [.agg (fK i)]) (S (frt i)))) (k+11))=true:=by kernel_rfl
def A0G:((List.range 11).all λk=>(λi=>JQ (Bc (Du (r! L (n+40)) IP [.agg (fK i)]) (S (frt i)))) (k+22))=true:=by kernel_rfl
def A6Q(i:Nat)(h:i<33):PS (r! L (n+40)) IP [.agg (fK i)] (S (frt i)):=by
 refine BM (λH=>by first|exact λK=>by kernel_rfl) ?_;by_cases a:i<11
 ·have:=G9.1 (A0I L n) (i-0) (KT.2 (by omega));have e:i-0+0=i:=by omega
  simp only[e]at this;exact this
 by_cases h1:i<22
 ·have:=G9.1 (A0H L n) (i-11) (KT.2 (by omega));have e:i-11+11=i:=by omega
  simp only[e]at this;exact this
 by_cases h2:i<33
 ·have:=G9.1 (A0G L n) (i-22) (KT.2 (by omega));have e:i-22+22=i:=by omega
  simp only[e]at this;exact this
 ·omega
end
section
variable{at_:Int}
variable{L n:Nat}
section
variable{id:Int}{o:UD}{xs:List Nd}{ks:Hb}{i j k:Nat}{I1:AV}
def A93(d:ks.length<=3):RV (rt (L+20) (n+2)) BV [XW I1 (RO ks),fF (GK.getD 2 []) B9L FO,.agg (ZZ i).cs] (Bo true):=by
 match ks,d with
 |[],_=>exact λb=>by kernel_rfl
 |[a],_=>exact λb=>by kernel_rfl
 |[a,b],_=>exact λb=>by kernel_rfl
 |[a,b,c],_=>exact λb=>by kernel_rfl
def A94(d:ks.length<=3):RV (rt (L+20) (n+2)) BV [XW I1 (RO ks),fF (GK.getD 1 []) Av DQ,.agg (cnN i k).cs] (Bo true):=by
 match ks,d with
 |[],_=>exact λb=>by kernel_rfl
 |[a],_=>exact λb=>by kernel_rfl
 |[a,b],_=>exact λb=>by kernel_rfl
 |[a,b,c],_=>exact λb=>by kernel_rfl
def B3c{U:AV}(h1:1<=ks.length)(e:ks.length<=3)(d:j<ks.length):RV (rt (L+20) (n+2)) FO [XW (BS ks) U,.agg (ZZ j).cs] (.tup [.agg (CN (uu (ks.getD j 0))),I 0]):=by
 rcases uR h1 e with⟨a,rfl⟩|⟨a,b,rfl⟩|⟨a,b,c,rfl⟩
 ·obtain rfl:=Xa d;exact λb=>by kernel_rfl
 ·rcases WZ d with rfl|rfl<;>exact λb=>by kernel_rfl
 ·rcases WY d with rfl|rfl|rfl<;>exact λb=>by kernel_rfl
attribute [local irreducible] oV rt in
def B3d{C:Is}(hv:PO (rt (L+20) (n+40)) E0 [.agg (fK i)] (Bo true))(c:PO (rt (L+20) (n+40)) Mu [.agg (uu k).cs] (Bo true)):CS (rt (L+20) (n+41)) DQ [.iptr C,.agg (cnN i k).cs] (.tup [.agg (CN (uu k)),I 0]):=by
 intro K a;rewrite[Ox];unfold GW L8;rewrite[zO];generalize rt (L+20) (n+40)=R at*
 conv=>lhs;whnf
 refine R' (hv _ _) ?_
 conv=>lhs;whnf
 simp only[D6]
 dsimp only[cnN]
 rewrite[c]
 conv=>lhs;whnf
 exact a _ _ (λb=>⟨false,λK=>by kernel_rfl⟩)
attribute [local irreducible] oV rt XU in
def B4k(hv:PO (rt (L+20) (n+40)) F4 [.agg (fK i)] (Bo true))(c:PO (rt (L+20) (n+40)) F3 [.agg (uu k).cs] (Bo true)):CS (rt (L+20) (n+41)) F2 [.agg (BL id (BS ks) (Cx xs) o),.agg (cnN i k).cs,I at_] (.tup [Bo true,Bo false]):=by
 intro K a;rewrite[Vr];unfold Om DI XT Dm A2 MF Hv;rewrite[zO];generalize rt (L+20) (n+40)=R at*
 conv=>lhs;whnf
 refine R' (hv _ _) ?_
 conv=>lhs;whnf
 refine R' (c _ _) ?_
 conv=>lhs;whnf
 refine R' (C3X (x:=cnN i k)) ?_
 conv=>lhs;whnf
 exact a _ _ (λb=>⟨false,λK=>by kernel_rfl⟩)
attribute [local irreducible] oV rt in
def B4i(hv:PO (rt (L+20) (n+40)) F4 [.agg (fK i)] (Bo true))(c:PO (rt (L+20) (n+40)) F3 [.agg (uu k).cs] (Bo true)){w:AV}:CS (rt (L+20) (n+42)) CJ [.agg (BL id (BS ks) (Cx xs) o),.agg (cnN i k).cs,I at_,w] (.tup [.agg (CN (uu k)),I 0]):=by
 intro K d;have a:=(B4k (id:=id) (o:=o) (xs:=xs) (ks:=ks) (at_:=at_) hv c).ls;clear hv c;rewrite[HH];unfold Ho q4N;rewrite[zO];generalize rt (L+20) (n+41)=R at*
 conv=>lhs;whnf
 rewrite[a false _ _ ?hq]
 case hq=>exact λK=>by kernel_rfl
 conv=>lhs;whnf
 exact d _ _ (λb=>⟨false,λK=>by kernel_rfl⟩)
end
end
section
section
variable(L n:Nat)
def C4P:List (UD×Int):=[(⟨1,2,0,1,0,1,0,1,0,1,0,1,0,1,[49],[49],[48],[49],0,1⟩,0),(⟨0,1,0,1,1,2,0,1,0,1,0,1,0,1,[49],[49],[48],[49],0,1⟩,0),(u0,70),(⟨0,1,0,1,0,1,0,1,0,1,0,1,0,1,[49],[49],[48],[49],0,2⟩,0),
 (u0,70),(⟨0,1,0,1,0,1,0,1,1,2,0,1,0,1,[49],[49],[48],[49],0,1⟩,0),(⟨1,1,0,1,0,1,0,1,0,1,0,1,0,1,[49],[49],[48],[49],0,1⟩,0)]
def usq(k:Nat):UD×Int:=C4P.getD k (u0,0)
def B4c:((List.range 7).all λi=>JQ (Bc (Du (rt (L+20) (n+40)) LN [.agg (uu i).cs,.agg [I 1,I 2]]) (.tup [.agg (usq i).1.cs,I (usq i).2])))=true:=by kernel_rfl
def C2s(i:Nat)(h:i<7):PS (rt (L+20) (n+40)) LN [.agg (uu i).cs,.agg [I 1,I 2]] (.tup [.agg (usq i).1.cs,I (usq i).2]):=by
 refine BM (λH=>by first|exact λK=>by kernel_rfl) ?_;exact G9.1 (B4c L n) i (KT.2 h)
end
variable{L n:Nat}
section
variable{id:Int}{o:UD}{xs:List Nd}{ks:Hb}{i j k l:Nat}{I1:AV}
def sqN(l:Nat):Nd:=⟨8,[],[],u0,0,l,0⟩
def B4j(h1:1<=ks.length)(e:ks.length<=3)(d:l<ks.length):RV (rt (L+20) (n+2)) F2 [.agg (BL id (BS ks) (Cx xs) o),.agg (sqN l).cs,I ks.length] (.tup [Bo true,Bo true]):=by
 rcases uR h1 e with⟨a,rfl⟩|⟨a,b,rfl⟩|⟨a,b,c,rfl⟩
 ·obtain rfl:=Xa d;exact λb=>by kernel_rfl
 ·rcases WZ d with rfl|rfl<;>exact λb=>by kernel_rfl
 ·rcases WY d with rfl|rfl|rfl<;>exact λb=>by kernel_rfl
attribute [local irreducible] oV rt in
def B4h{u:UD}{e:Int}(he:e=0\/e=70)(h1:1<=ks.length)(m:ks.length<=3)(g:l<ks.length)(f:PO (rt (L+20) (n+41)) LN [.agg (uu (ks.getD l 0)).cs,.agg [I 1,I 2]] (.tup [.agg u.cs,I e])):CS (rt (L+20) (n+42)) CJ [.agg (BL id (BS ks) (Cx xs) o),.agg (sqN l).cs,I ks.length,RO ks] (if e=0 then .tup [.agg u.cs,I 0] else .tup [.agg Ga,I 90]):=by
 intro K h;have d:=(B4j (L:=L) (n:=n+39) (id:=id) (o:=o) (xs:=xs) h1 m g).ls;rewrite[HH];unfold Ho q4N;rewrite[zO];generalize rt (L+20) (n+41)=R at*
 revert f d
 rcases uR h1 m with⟨a,rfl⟩|⟨a,b,rfl⟩|⟨a,b,c,rfl⟩
 ·obtain rfl:=Xa g;(intro f d;simp only[VO,VN]at f;(conv=>lhs;whnf);rewrite[d false _ _ ?hq];(case hq=>exact λK=>by kernel_rfl);(conv=>lhs;whnf);refine R' (f _ _) ?_;rcases he with rfl|rfl<;>(conv=>lhs;whnf)<;>exact h _ _ (λb=>⟨false,λK=>by kernel_rfl⟩))
 ·rcases WZ g with rfl|rfl<;>(intro f d;simp only[VO,VN]at f;(conv=>lhs;whnf);rewrite[d false _ _ ?hq];(case hq=>exact λK=>by kernel_rfl);(conv=>lhs;whnf);refine R' (f _ _) ?_;rcases he with rfl|rfl<;>(conv=>lhs;whnf)<;>exact h _ _ (λb=>⟨false,λK=>by kernel_rfl⟩))
 ·rcases WY g with rfl|rfl|rfl<;>(intro f d;simp only[VO,VN]at f;(conv=>lhs;whnf);rewrite[d false _ _ ?hq];(case hq=>exact λK=>by kernel_rfl);(conv=>lhs;whnf);refine R' (f _ _) ?_;rcases he with rfl|rfl<;>(conv=>lhs;whnf)<;>exact h _ _ (λb=>⟨false,λK=>by kernel_rfl⟩))
end
section
variable{i k:Nat}
def S_(h:i<33):(frt i).length<10:=by
 have:=G9.1 (show((List.range 33).all λi=>decide ((frt i).length<10))=true by kernel_rfl) i (KT.2 h);simpa using this
def B4a:PS (rt (L+20) (n+1)) dM [] (.list 9 (GK.map λw=>S w)):=BM (λH K=>by kernel_rfl) (by kernel_rfl)
attribute [local irreducible] oV rt As in
def B0a(hi:i<33)(g:PO (rt (L+20) (n+40)) D3 [I 1,I 1,I 8] (Bo true))(c:PO (rt (L+20) (n+40)) dM [] (.list 9 (GK.map λw=>S w)))(f:PO (rt (L+20) (n+40)) JK [.agg (uu k).cs] (.tup [S (L5 k),I 0]))(e:PO (rt (L+20) (n+40)) MS [.agg (fK i)] (S (frt i))):CS (rt (L+20) (n+41)) J0 [.agg (cnN i k).cs] (S (cnT i k)):=by
 intro K d;rewrite[tY];unfold Wy HX;rewrite[zO];generalize rt (L+20) (n+40)=R at*
 conv=>lhs;whnf
 refine R' (g _ _) ?_
 conv=>lhs;whnf
 rewrite[c]
 conv=>lhs;whnf
 refine R' zU ?_
 conv=>lhs;whnf
 refine R' (f _ _) ?_
 conv=>lhs;whnf
 have h1:=S_ hi;have h2:=G6 k;refine R' (B7 (a:=GK.getD 1 []) (by decide)) ?_
 conv=>lhs;whnf
 refine R' (e _ _) ?_
 conv=>lhs;whnf
 rewrite[B7 (by simp only[Ez,GK,VN,VO,Mr,Rk];omega)];rewrite[B7 (by simp only[Ez,GK,VN,VO,Mr,Rk];omega)];rewrite[B7 (by simp only[Ez,GK,VN,VO,Mr,Rk];omega)];exact d _ _ (λb=>⟨false,λK=>by kernel_rfl⟩)
attribute [local irreducible] oV rt As in
def A8Y(hi:i<33)(c:PO (rt (L+20) (n+40)) IE [] Yz)(f:PO (rt (L+20) (n+40)) Jy [.agg (uu k).cs] (.tup [S (L5 k),I 0]))(e:PO (rt (L+20) (n+40)) IP [.agg (fK i)] (S (frt i))):CS (rt (L+20) (n+41)) FJ [.agg (cnN i k).cs] (S (cnT i k)):=by
 intro K d;rewrite[eA];unfold PH DI A2;rewrite[zO];generalize rt (L+20) (n+40)=R at*
 conv=>lhs;whnf
 rewrite[c]
 conv=>lhs;whnf
 rewrite[c]
 conv=>lhs;whnf
 refine R' (zU (a:=1)) ?_
 conv=>lhs;whnf
 refine R' (f _ _) ?_
 conv=>lhs;whnf
 have h1:=S_ hi;have h2:=G6 k;refine R' (B7 (a:=GK.getD 1 []) (by decide)) ?_
 conv=>lhs;whnf
 refine R' (e _ _) ?_
 conv=>lhs;whnf
 rewrite[B7 (by simp only[Ez,GK,VN,VO,Mr,Rk];omega)];rewrite[B7 (by simp only[Ez,GK,VN,VO,Mr,Rk];omega)];rewrite[B7 (by simp only[Ez,GK,VN,VO,Mr,Rk];omega)];exact d _ _ (λb=>⟨false,λK=>by kernel_rfl⟩)
end
end
section
variable{L n:Nat}
inductive Ex where
 |no
 |cn (i k:Nat)
 |inp (j:Nat)
 |bi (op l r k:Nat)
 |po (l e k:Nat)
def Ex.nd:Ex->List Nd
 |.no=>[]
 |.cn i k=>[cnN i k]
 |.inp j=>[ZZ j]
 |.bi op l r _=>[wE op l r]
 |.po l e _=>[poN l e]
def Ex.ty(ks:Hb):Ex->Hb
 |.no=>[]
 |.cn _ k=>[k]
 |.inp j=>[ks.getD j 0]
 |.bi _ _ _ k=>[k]
 |.po _ _ k=>[k]
def Ex.tx:Ex->List Ha
 |.no=>[]
 |.cn i k=>[cnT i k]
 |.inp j=>[exT j]
 |.bi op l r _=>[exT (3+9*(op-3)+3*l+r)]
 |.po l e _=>[exT (39+5*l+e)]
def Ex.Ok(ks:Hb):Ex->Prop
 |.no=>True
 |.cn i k=>i<33/\k<7
 |.inp j=>j<ks.length
 |.bi op l r k=>3<=op/\op<7/\l<ks.length/\r<ks.length/\VM (op-3) (ks.getD l 0) (ks.getD r 0)=some k
 |.po l e k=>l<ks.length/\e<5/\Yh (ks.getD l 0) e=some k
structure Pr where
 id:Nat
 ks:Hb
 x:Ex
structure Pr.Ok(p:Pr):Prop where
 i1:1<=p.id
 i2:p.id<950
 k1:1<=p.ks.length
 k3:p.ks.length<=3
 k7:∀k∈p.ks,k<7
 x:p.x.Ok p.ks
def Pr.xs(p:Pr):List Nd:=L2 p.ks++p.x.nd
def Pr.ty(p:Pr):Hb:=p.ks++p.x.ty p.ks
def Pr.ts(p:Pr):List Ha:=(List.range p.ks.length).map exT++p.x.tx
def Pr.out(p:Pr):Nat:=p.ty.getD (p.xs.length-1) 0
section
variable{a b l r e i j k op:Nat}{ks:Hb}{xs:List Nd}{id:Int}{o:UD}
def MY{N:Nat}(h:∀k∈ks,k<N)(c:l<ks.length):ks.getD l 0<N:=by
 have e:ks.getD l 0=ks[l]:=by simp[List.getD,KL c]
 rw[e];exact h _ (NT c)
def B4b(c:a<7)(hb:b<7):PO (r! L (n+41)) TK [.agg (uu a).cs,.agg (uu b).cs] (Ko (VM 0 a b)):=by
 have:=(B9c L (n+1) (7*a+b) (by omega)).o;rwa[show(7*a+b)/7=a by omega,show(7*a+b)%7=b by omega]at this
def B4g(c:a<7)(hb:b<7):PO (r! L (n+41)) K9 [.agg (uu a).cs,.agg (uu b).cs] (Ko (VM 1 a b)):=by
 have:=(B9g L (n+1) (7*a+b) (by omega)).o;rwa[show(7*a+b)/7=a by omega,show(7*a+b)%7=b by omega]at this
def B4e(c:a<7)(hb:b<7):PO (r! L (n+41)) TL [.agg (uu a).cs,.agg (uu b).cs] (Ko (VM 2 a b)):=by
 have:=(B9e L (n+1) (7*a+b) (by omega)).o;rwa[show(7*a+b)/7=a by omega,show(7*a+b)%7=b by omega]at this
def B4f(c:a<7)(hb:b<7):PO (r! L (n+41)) TM [.agg (uu a).cs,.agg (uu b).cs] (Ko (VM 3 a b)):=by
 have:=(B9f L (n+1) (7*a+b) (by omega)).o;rwa[show(7*a+b)/7=a by omega,show(7*a+b)%7=b by omega]at this
def B4d(c:a<7)(hb:e<5):PO (r! L (n+41)) LN [.agg (uu a).cs,.agg [I (mW e),I 1]] (Ko (Yh a e)):=by
 have:=(B9d L (n+1) (5*a+e) (by omega)).o;rwa[show(5*a+e)/5=a by omega,show(5*a+e)%5=e by omega]at this
def B37(f:a<7)(hb:b<7)(h:VM 0 a b=some k):PO (r! L (n+40)) Xl [.agg (uu a).cs,.agg (uu b).cs] (Ko (some k)):=by
 have c:(7*a+b)/7=a:=by omega
 have d:(7*a+b)%7=b:=by omega
 have:=(B72 L n (7*a+b) (by omega) (by rw[c,d,h];rfl)).o;rwa[c,d,h]at this
def B3b(f:a<7)(hb:b<7)(h:VM 1 a b=some k):PO (r! L (n+40)) Lu [.agg (uu a).cs,.agg (uu b).cs] (Ko (some k)):=by
 have c:(7*a+b)/7=a:=by omega
 have d:(7*a+b)%7=b:=by omega
 have:=(B76 L n (7*a+b) (by omega) (by rw[c,d,h];rfl)).o;rwa[c,d,h]at this
def B39(f:a<7)(hb:b<7)(h:VM 2 a b=some k):PO (r! L (n+40)) Xm [.agg (uu a).cs,.agg (uu b).cs] (Ko (some k)):=by
 have c:(7*a+b)/7=a:=by omega
 have d:(7*a+b)%7=b:=by omega
 have:=(B74 L n (7*a+b) (by omega) (by rw[c,d,h];rfl)).o;rwa[c,d,h]at this
def B3a(f:a<7)(hb:b<7)(h:VM 3 a b=some k):PO (r! L (n+40)) Xn [.agg (uu a).cs,.agg (uu b).cs] (Ko (some k)):=by
 have c:(7*a+b)/7=a:=by omega
 have d:(7*a+b)%7=b:=by omega
 have:=(B75 L n (7*a+b) (by omega) (by rw[c,d,h];rfl)).o;rwa[c,d,h]at this
def B38(f:a<7)(hb:e<5)(h:Yh a e=some k):PO (r! L (n+40)) Tb [.agg (uu a).cs,.agg [I (mW e),I 1]] (Ko (some k)):=by
 have c:(5*a+e)/5=a:=by omega
 have d:(5*a+e)%5=e:=by omega
 have:=(B73 L n (5*a+e) (by omega) (by rw[c,d,h];rfl)).o;rwa[c,d,h]at this
def A5s(h1:1<=ks.length)(d:ks.length<=3)(g:∀k∈ks,k<7)(c:l<ks.length)(hr:r<ks.length)(m:3<=op)(h:op<7):
 CS (r! L (n+42)) CJ [.agg (BL id (BS ks) (Cx xs) o),.agg (wE op l r).cs,I ks.length,RO ks] (A3f (VM (op-3) (ks.getD l 0) (ks.getD r 0))):=by
 have f:=MY g c;have hb:=MY g hr;obtain rfl|rfl|rfl|rfl:op=3\/op=4\/op=5\/op=6:=by omega
 ·exact A9P h1 d c hr (B4b f hb)
 ·exact A9T h1 d c hr (B4g f hb)
 ·exact A9R h1 d c hr (B4e f hb)
 ·exact A9S h1 d c hr (B4f f hb)
def A5r(h1:1<=ks.length)(d:ks.length<=3)(f:∀k∈ks,k<7)(c:l<ks.length)(he:e<5):
 CS (r! L (n+42)) CJ [.agg (BL id (BS ks) (Cx xs) o),.agg (poN l e).cs,I ks.length,RO ks] (A3f (Yh (ks.getD l 0) e)):=
 A9Q h1 d c he (B4d (MY f c) he)
def A11{at_:Int}{w:AV}(hi:i<33)(c:k<7):CS (r! L (n+42)) CJ [.agg (BL id (BS ks) (Cx xs) o),.agg (cnN i k).cs,I at_,w] (.tup [.agg (CN (uu k)),I 0]):=
 B4i (A75 L n i hi).o (Sv L n k (by omega)).o
end
section
variable{p:Pr}{o:UD}
def B9z(h:p.Ok):RTy L n p.id p.ks p.xs o p.ty:=by
 obtain⟨pid,ks,x⟩:=p;obtain⟨i1,i2,k1,k3,k7,c⟩:=h;unfold Pr.xs Pr.ty;cases x with
 |no=>
  simp only[Ex.nd,Ex.ty,US];exact B93 (fG k3 (by decide))
 |cn i k=>exact qW (fG k3 (by decide)) (A11 c.1 c.2)
 |inp j=>
  refine qW (fG k3 (by decide)) ?_;have f:j<ks.length:=c;have e:ks.getD j 0=ks[j]:=by simp[List.getD,KL f]
  rw[e];exact Zp (n:=n+39) (fG k3 (by decide)) f
 |bi op l r k=>
  obtain⟨h1,h2,d,g,m⟩:=c;refine qW (fG k3 (by decide)) ?_;have:=A5s (L:=L) (n:=n) (id:=pid) (xs:=L2 ks++[wE op l r]) (o:=o) k1 k3 k7 d g h1 h2;rw[m]at this;exact this
 |po l e k=>
  obtain⟨h1,h2,d⟩:=c;refine qW (fG k3 (by decide)) ?_;have:=A5r (L:=L) (n:=n) (id:=pid) (xs:=L2 ks++[poN l e]) (o:=o) k1 k3 k7 h1 h2;rw[d]at this;exact this
def A8E{ks:Hb}{i:Nat}(k1:1<=ks.length)(k3:ks.length<=3){l:Hb}(c:l.length<=3)(hi:i<ks.length):WNd L n (BS ks) l (ZZ i) (ks.getD i 0):=
 ⟨GK.getD 2 [],B9L,FO,.inr ⟨_,_,rfl⟩,λH K=>by kernel_rfl,by kernel_rfl,rfl,rfl,A93 (n:=n+39) c,B3c (n:=n+39) k1 k3 hi⟩
def B9y(h:p.Ok):WTy L n p.ks p.xs p.ty:=by
 obtain⟨pid,ks,x⟩:=p;obtain⟨i1,i2,k1,k3,k7,q⟩:=h;simp only at k1 k3 k7 q;intro i hi;simp only[Pr.xs,Pr.ty]at hi⊢;by_cases f:i<ks.length
 ·have g:(L2 ks++x.nd)[i]=ZZ i:=by
   rw[List.getElem_append_left (by rw[Ed];exact f)];exact iQ _
  have m:(ks++x.ty ks).getD i 0=ks.getD i 0:=by simp[List.getD,l0m f]
  rw[g,m];exact A8E k1 k3 (by rw[zF];omega) f
 ·have A:x.nd.length<=1:=by cases x<;>simp[Ex.nd]
  rw[Ez,Ed]at hi;obtain rfl:i=ks.length:=by omega
  have g:∀y,x.nd=[y]->(L2 ks++x.nd)[ks.length]'(by rw[Ez,Ed];exact hi)=y:=λy w=>by
   rw[List.getElem_append_right (by rw[Ed];omega)];simp[w,Ed]
  have m:∀k,x.ty ks=[k]->(ks++x.ty ks).getD ks.length 0=k:=λk v=>by simp[List.getD,v]
  have u:(ks++x.ty ks).take ks.length=ks:=List.take_left' rfl;rw[u];cases x with
  |no=>simp[Ex.nd]at hi
  |cn i k=>
   rw[g _ rfl,m _ rfl];exact⟨GK.getD 1 [],Av,DQ,.inl rfl,λH K=>by kernel_rfl,by kernel_rfl,rfl,rfl,A94 (n:=n+39) k3,(B3d (A6P L n i q.1).o (Yg L n k (by have:=q.2;omega)).o).rv⟩
  |inp j=>
   rw[g _ rfl,m _ rfl];exact A8E k1 k3 k3 q
  |bi op l r k=>
   obtain⟨h1,h2,c,d,s⟩:=q;have t:=MY k7 c;have hb:=MY k7 d;rw[g _ rfl,m _ rfl];obtain rfl|rfl|rfl|rfl:op=3\/op=4\/op=5\/op=6:=by omega
   ·exact⟨GK.getD 3 [],oW,Fc,.inr ⟨_,_,rfl⟩,λH K=>by kernel_rfl,by kernel_rfl,rfl,rfl,A6K (n:=n+39) k1 k3 c d,(A8J k1 k3 c d (B37 t hb s)).rv⟩
   ·exact⟨GK.getD 4 [],oW,D4,.inr ⟨_,_,rfl⟩,λH K=>by kernel_rfl,by kernel_rfl,rfl,rfl,A6O (n:=n+39) k1 k3 c d,(A8N k1 k3 c d (B3b t hb s)).rv⟩
   ·exact⟨GK.getD 5 [],oW,Ee,.inr ⟨_,_,rfl⟩,λH K=>by kernel_rfl,by kernel_rfl,rfl,rfl,A6M (n:=n+39) k1 k3 c d,(A8L k1 k3 c d (B39 t hb s)).rv⟩
   ·exact⟨GK.getD 6 [],oW,DP,.inr ⟨_,_,rfl⟩,λH K=>by kernel_rfl,by kernel_rfl,rfl,rfl,A6N (n:=n+39) k1 k3 c d,(A8M k1 k3 c d (B3a t hb s)).rv⟩
  |po l e k=>
   obtain⟨h1,h2,c⟩:=q;rw[g _ rfl,m _ rfl];exact⟨GK.getD 7 [],B9A,ED,.inr ⟨_,_,rfl⟩,λH K=>by kernel_rfl,by kernel_rfl,rfl,rfl,A6L (n:=n+39) k1 k3 h1 h2,(A8K k1 k3 h1 h2 (B38 (MY k7 h1) h2 c)).rv⟩
def B9k{j:Nat}(h:j<54):PS (r! L (n+41)) J0 [.agg (exN j).cs] (S (exT j)):=
 BM (λH=>by first|exact λK=>by kernel_rfl) (G9.1 (B0b L n) j (KT.2 h))
def B7a{j:Nat}(h:j<54):PS (r! L (n+41)) FJ [.agg (exN j).cs] (S (exT j)):=
 BM (λH=>by first|exact λK=>by kernel_rfl) (G9.1 (A8Z L n) j (KT.2 h))
def B6C{j:Nat}(h:j<3):ZZ j=exN j:=by unfold exN;rw[Dr h]
def C3R{op l r:Nat}(h1:3<=op)(h2:op<7)(c:l<3)(d:r<3):wE op l r=exN (3+9*(op-3)+3*l+r):=by
 obtain rfl|rfl|rfl|rfl:op=3\/op=4\/op=5\/op=6:=by omega
 all_goals obtain rfl|rfl|rfl:l=0\/l=1\/l=2:=by omega
 all_goals obtain rfl|rfl|rfl:r=0\/r=1\/r=2:=by omega
 all_goals rfl
def C3Q{l e:Nat}(d:l<3)(c:e<5):poN l e=exN (39+5*l+e):=by
 obtain rfl|rfl|rfl:l=0\/l=1\/l=2:=by omega
 all_goals obtain rfl|rfl|rfl|rfl|rfl:=lt5 c
 all_goals rfl
def NdT(L n:Nat)(y:Nd)(t:Ha):Prop:=PS (r! L (n+41)) J0 [.agg y.cs] (S t)/\PS (r! L (n+41)) FJ [.agg y.cs] (S t)
def N!{j:Nat}(h:j<54):NdT L n (exN j) (exT j):=⟨B9k h,B7a h⟩
def B6k{y:Nd}(H:Hp):Rm true depth [.agg y.cs] [.agg y.cs] H false:=λK=>by kernel_rfl
def B9M{i k:Nat}(hi:i<33)(c:k<7):NdT L n (cnN i k) (cnT i k):=
 ⟨(B0a hi (Zq (n:=n+39) (by decide) (by decide)).o (B4a (n:=n+39)).o (Vk L n k (by omega)).o (A76 L n i hi).o).ps B6k,
  (A8Y hi (B65 (n:=n+39)).o (UV L n k (by omega)).o (A6Q L n i hi).o).ps B6k⟩
def B0o(h:p.Ok):p.ts.length=p.xs.length/\∀i(hi:i<p.xs.length),NdT L n p.xs[i] (p.ts.getD i []):=by
 obtain⟨pid,ks,x⟩:=p;obtain⟨i1,i2,k1,k3,k7,g⟩:=h;simp only at k1 k3 k7 g;have m:x.tx.length=x.nd.length:=by cases x<;>rfl
 refine⟨by simp[Pr.ts,Pr.xs,Ed,m],λi hi=>?_⟩;simp only[Pr.xs,Pr.ts]at hi⊢;by_cases c:i<ks.length
 ·have d:(L2 ks++x.nd)[i]=ZZ i:=by
   rw[List.getElem_append_left (by rw[Ed];exact c)];exact iQ _
  have f:((List.range ks.length).map exT++x.tx).getD i []=exT i:=by
   rw[List.getD,l0m (by simpa using c)];simp[List.getElem?_range c]
  rw[d,f,B6C (by omega)];exact N! (by omega)
 ·have v:x.nd.length<=1:=by cases x<;>simp[Ex.nd]
  rw[Ez,Ed]at hi;obtain rfl:i=ks.length:=by omega
  have d:∀y,x.nd=[y]->(L2 ks++x.nd)[ks.length]'(by rw[Ez,Ed];exact hi)=y:=λy u=>by
   rw[List.getElem_append_right (by rw[Ed];omega)];simp[u,Ed]
  have f:∀t,x.tx=[t]->((List.range ks.length).map exT++x.tx).getD ks.length []=t:=λt s=>by simp[List.getD,s]
  cases x with
  |no=>simp[Ex.nd]at hi
  |cn i k=>rw[d _ rfl,f _ rfl];exact B9M g.1 g.2
  |inp j=>
   have B:j<ks.length:=g;rw[d _ rfl,f _ rfl,B6C (by omega)];exact N! (by omega)
  |bi op l r k=>
   obtain⟨h1,h2,q,w,A⟩:=g;rw[d _ rfl,f _ rfl,C3R h1 h2 (by omega) (by omega)];exact N! (by omega)
  |po l e k=>
   obtain⟨h1,h2,q⟩:=g;rw[d _ rfl,f _ rfl,C3Q (by omega) h2];exact N! (by omega)
end
end
section
variable{k:Nat}
variable{L n:Nat}
def sN(h:k<7):(L5 k).length<=44:=by
 have:=G9.1 (show((List.range 7).all λk=>decide ((L5 k).length<=44))=true by kernel_rfl) k (KT.2 h);simpa using this
def A0M(h:k<52):(L5 k).length<=50:=by
 have:=G9.1 (show((List.range 52).all λk=>decide ((L5 k).length<=50))=true by kernel_rfl) k (KT.2 h);simpa using this
def rI{j:Nat}(h:j<54):(exT j).length<=10:=by
 have:=G9.1 (show((List.range 54).all λk=>decide ((exT k).length<=10))=true by kernel_rfl) j (KT.2 h);simpa using this
def B5H{i k:Nat}(hi:i<33)(a:k<7):(cnT i k).length<=60:=by
 have h1:=S_ hi;have h2:=sN a;simp only[cnT,GK,VN,VO,Ez,Mr,Rk];omega
def B59(ks:Hb)(h:∀k∈ks,k<7):(ks.flatMap rG).length<=51*ks.length:=by
 induction ks with
 |nil=>simp
 |cons k ks ih=>
  have h1:=sN (h k (by simp));have h2:=ih λx a=>h x (by simp[a]);simp only[oK,Ez,Mr,rG,tO,Rk]at h2⊢;omega
def B0J{ts:List Ha}(h:∀t∈ts,t.length<=10):(ts.flatMap wB).length<=11*ts.length:=by
 induction ts with
 |nil=>simp
 |cons t ts ih=>
  have h1:=h t (by simp);have h2:=ih λu a=>h u (by simp[a]);simp only[oK,Ez,Mr,wB,Rk]at h2⊢;omega
def B7o{o a b k:Nat}(d:o<4)(c:a<7)(hb:b<7)(h:VM o a b=some k):k<52:=by
 have:=G9.1 (show((List.range 196).all λj=>(match VM (j/49) (j/7%7) (j%7) with|some k=>decide (k<52)|none=>true))=true by kernel_rfl) (49*o+7*a+b) (KT.2 (by omega));rw[show(49*o+7*a+b)/49=o by omega,show(49*o+7*a+b)/7%7=a by omega,show(49*o+7*a+b)%7=b by omega,h]at this;simpa using this
def B3y{a e k:Nat}(b:a<7)(he:e<5)(h:Yh a e=some k):k<52:=by
 have:=G9.1 (show((List.range 35).all λj=>(match Yh (j/5) (j%5) with|some k=>decide (k<52)|none=>true))=true by kernel_rfl) (5*a+e) (KT.2 (by omega));rw[show(5*a+e)/5=a by omega,show(5*a+e)%5=e by omega,h]at this;simpa using this
section
variable{p:Pr}
def lO(h:p.Ok):p.ty.length=p.xs.length/\1<=p.xs.length/\p.xs.length<=4:=by
 have h1:=h.k1;have b:=h.k3;have e:(p.x.ty p.ks).length=p.x.nd.length:=by cases p.x<;>rfl
 have a:p.x.nd.length<=1:=by cases p.x<;>simp[Ex.nd]
 simp only[Pr.ty,Pr.xs,Ez,Ed];omega
def B4C(h:p.Ok):∀k∈p.ty,k<52:=by
 intro k a;rcases Zx.1 a with a|a
 ·have:=h.k7 k a;omega
 ·have b:=h.x;cases hq:p.x with
  |no=>rw[hq]at a;simp[Ex.ty]at a
  |cn i j=>rw[hq]at a b;simp[Ex.ty]at a;have:=b.2;omega
  |inp j=>rw[hq]at a b;simp only[Ex.ty,XR]at a;have:=MY h.k7 b;omega
  |bi op l r j=>rw[hq]at a b;simp[Ex.ty]at a;subst a;exact B7o (by have:=b.1;have:=b.2.1;omega) (MY h.k7 b.2.2.1) (MY h.k7 b.2.2.2.1) b.2.2.2.2
  |po l e j=>rw[hq]at a b;simp[Ex.ty]at a;subst a;exact B3y (MY h.k7 b.1) b.2.1 b.2.2
def JW(h:p.Ok):p.out<52:=by
 obtain⟨h1,h2,a⟩:=lO h;exact MY (B4C h) (by omega)
def B0n(h:p.Ok):(∀t∈p.ts,t.length<100)/\(p.ts.flatMap wB).length<=11*p.ks.length+61:=by
 have k3:=h.k3;have a:=h.x;have a1:∀t∈(List.range p.ks.length).map exT,t.length<=10:=λt b=>by
  obtain⟨j,c,rfl⟩:=PW.1 b;exact rI (by have:=KT.1 c;omega)
 have a2:(∀t∈p.x.tx,t.length<=60)/\p.x.tx.length<=1:=by
  cases hq:p.x with
  |no=>simp[Ex.tx]
  |cn i j=>rw[hq]at a;simp[Ex.tx];exact B5H a.1 a.2
  |inp j=>rw[hq]at a;have c:j<p.ks.length:=a;simp[Ex.tx];exact fG (rI (by omega)) (by decide)
  |bi op l r j=>rw[hq]at a;have h1:=a.1;have h2:=a.2.1;have f:=a.2.2.1;have g:=a.2.2.2.1;simp[Ex.tx];exact fG (rI (by omega)) (by decide)
  |po l e j=>rw[hq]at a;have h1:=a.1;have h2:=a.2.1;simp[Ex.tx];exact fG (rI (by omega)) (by decide)
 have d:(p.x.tx.flatMap wB).length<=61:=by
  match hq:p.x.tx with
  |[]=>simp
  |[t]=>have:=a2.1 t (by rw[hq];simp);simp[wB];omega
  |t::u::l=>rw[hq]at a2;simp at a2
 refine⟨λt b=>?_,?_⟩
 ·rcases Zx.1 b with b|b
  ·have:=a1 t b;omega
  ·have:=a2.1 t b;omega
 ·have:=B0J a1;simp only[Pr.ts,l2l,Ez,Po,List.length_range]at this⊢;omega
def Pr.txt(p:Pr):Ha:=tK p.id p.ks p.ts p.out
def lN(h:p.Ok):p.txt.length<390:=by
 have k3:=h.k3;have h1:=B59 p.ks h.k7;have h2:=(B0n h).2;have a:=A0M (JW h);have b:=A4A p.id;simp only[Pr.txt,tK,Ez,Mr,Rk,Sw,B9H];omega
abbrev Pr.cs(p:Pr):Is:=BL p.id (BS p.ks) (Cx p.xs) (uu p.out)
def A1d(a:100<L)(h:p.Ok):CS (r! L (n+44)) FZ [.agg p.cs] (Bo true):=by
 obtain⟨h1,h2,c⟩:=lO h;have:=h.k3;have:=h.i1;have:=h.i2;exact B03 a (B9z h) h1 (λk b=>by have:=h.k7 k b;omega) (by omega) h2 (by omega) (by omega) (by omega)
def B0m(a:100<L)(h:p.Ok):CS (r! L (n+46)) Gw [.agg p.cs] (Bo true):=by
 obtain⟨h1,h2,c⟩:=lO h;have:=h.k3;have:=h.i1;have:=h.i2;exact A8U a (B9y h) rfl h1 (λk b=>by have:=h.k7 k b;omega) (by omega) h2 (by omega) (by omega) (by omega)
def B6g(a:100<L)(h:p.Ok):CS (r! L (n+45)) JI [.agg p.cs] (.tup [S p.txt,I 0]):=by
 obtain⟨h1,h2,e⟩:=lO h;obtain⟨c,d⟩:=B0o (L:=L) (n:=n+3) h;have:=h.k3;exact B04 a h.i2 (A1d a h) (λi hi=>(d i hi).1) (B0n h).1 c (λk b=>by have:=h.k7 k b;omega) (by omega) (by omega) (JW h)
def B6f(a:100<L)(h:p.Ok):CS (r! L (n+47)) Gx [.agg p.cs] (.tup [S p.txt,I 0]):=by
 obtain⟨h1,h2,e⟩:=lO h;obtain⟨c,d⟩:=B0o (L:=L) (n:=n+5) h;have:=h.k3;exact A8V a h.i2 (B0m a h) (λi hi=>(d i hi).2) (B0n h).1 c (λk b=>by have:=h.k7 k b;omega) (by omega) (by omega) (JW h)
end
end
section
variable{L n:Nat}{K:KV}
def B3Y{a b:Ha}(k:10<L)(m:a.length<390)(hb:b.length<390):CS (r! L (n+7)) F1 [.agg [S a,S b]] (S (I5 [a,b])):=by
 intro K g;rw[pP];unfold Un HX;rw[Es (by rfl)];have hr:Ai [(Ar [],c_ Bu [S a,S b])] (Ar [])=some (c_ Bu [S a,S b]):=Ax (H:=[]) (by simp);have f:∀K:K2,CL 0 (.ptr (Ar []) 0 0) K=K (.ptr (Ar []) 0 0):=λK=>id rfl;have f1:∀K:K2,CL 1 (.ptr (Ar []) 0 0) K=K (.ptr (Ar []) 1 0):=λK=>id rfl;have i:∀K:K2,AE Ah (.ptr (Ar []) 0 0) [(Ar [],c_ Bu [S a,S b])] K=K (S a):=λK=>id rfl;have j:∀K:K2,AE Ah (.ptr (Ar []) 1 0) [(Ar [],c_ Bu [S a,S b])] K=K (S b):=λK=>id rfl;have d:∀K:KV,FV Al 1 Ah 2 [(0,1,S a),(1,1,S b)] [(Ar [],c_ Bu [S a,S b])] K=K (.sl 1 1 0 2) ((1,.cells false Al (A9 [a,b]))::[(Ar [],c_ Bu [S a,S b])]):=λK=>id rfl;rw[f,i,f1,j,d];have h:Rm true depth [.sl 1 1 0 2] [.list 2 (A9 [a,b])] ((1,.cells false Al (A9 [a,b]))::[(Ar [],c_ Bu [S a,S b])]) (true||false):=Ao (S? (e:=Al) (.inr ⟨1,false,rfl,rfl,rfl⟩) (by decide) (λs:Ha=>Value.string ⟨⟨s⟩⟩) [a,b] rfl) AI;rw[AQ (A5o (L:=L) (n:=n) (l:=[a,b]) (by simp) (by simp;omega) (λs c=>by simp at c;rcases c with rfl|rfl<;>assumption)) h];exact g _ _ (λb=>⟨false,CA⟩)
end
section
variable{K:K2}{H:Hp}
variable{L n:Nat}
def B06{zs:List Int}(b:100<L)(a:zs.length<100)(hz:∀z∈zs, -10<=z/\z<1090):Aq (r! L (n+7)) Eu [.list zs.length (Fi zs)] H K=K (S (Jn zs)):=
 AQ (yS (n:=n+2) a (by omega) hz) (Ao (q:=false) (q':=false) OD AI)
def A9U{zs:List Ha}(b:100<L)(a:zs.length<100)(hz:∀z∈zs,z.length<390):Aq (r! L (n+7)) Hq [.list zs.length (A9 zs)] H K=K (S (I5 zs)):=
 AQ (A5o (n:=n+1) a (by omega) hz) (Ao (q:=false) (q':=false) OD AI)
def B6c{a b:Ha}(d:100<L)(c:a.length<390)(hb:b.length<390):Aq (r! L (n+7)) F1 [.agg [S a,S b]] H K=K (S (I5 [a,b])):=
 AQ (q:=false) (B3Y (n:=n) (by omega) c hb) (λK=>by kernel_rfl)
def rN{z:Int}:Zc 1 Ac 1 [(0,1,I z)] K=K (.list ([z]:List Int).length (Fi [z])):=id rfl
def B5M{a b c d e f:Int}:Zc 1 Ac 6 [(0,1,I a),(1,1,I b),(2,1,I c),(3,1,I d),(4,1,I e),(5,1,I f)] K=K (.list ([a,b,c,d,e,f]:List Int).length (Fi [a,b,c,d,e,f])):=id rfl
def A6f{z:Ha}:Zc 1 Ah 1 [(0,1,S z)] K=K (.list ([z]:List Ha).length (A9 [z])):=id rfl
def B6E(a b:Ha):R9 [(a,b)]=I5 [a,b]:=by simp[R9]
def C2r{K:KV}{x:Af}{c:Nat}{R0:Row}{cs:Is}{ts:kG}{b:AV->KV}(u:TmsOk ts)(v:100<L)(P:R0=.cells true Ad cs)(d:∀H,Ai H c=some R0->∀K,AE AD (.ptr c 28 0) H K=K (FI ts)){l:Ha}(hb:l.length<100000000)(O:∀m,Ai m c=some R0->Wf m->b (.ptr c 0 0) (S (l++Ro ts)) m=x):∀(f i:Nat)(H:Hp),i<=ts.length->ts.length-i<f->Ai H c=some R0->Wf H->
 TZ (L+20) (r! L (n+7)) K b f (.ptr c 0 0) (S (l++Ro (ts.take i))) (I i) H=x:=by
 have A:=u.len;intro f
 induction f with
 |zero=>intro i H _ h;omega
 |succ f ih=>
  intro i H hi Q hc w;rw[pD];unfold Ua DI UU HV A2;have f26:∀K:K2,CL 26 (.ptr c 0 0) K=K (.ptr c 26 0):=λK=>id rfl;have f2:∀K:K2,CL 2 (.ptr c 26 0) K=K (.ptr c 28 0):=λK=>id rfl;rw[f26,f2,d H hc,Q7];by_cases h:i<ts.length
  ·have hr:=u.rng _ (NT h);have M:=Yq (z:=ts[i].2) (by omega) (by omega);have N:=Yr ts[i].2;rw[FG (by omega),Co,f26,f2,d H hc,Xt h,lTm,Bv (cs:=[zI,zS,zS]) rfl];have k:=Ax (H:=H) (x:=.cells true Bf [zI,zS,zS]) (by simp);rw[BQ (vs:=OZ ts[i]) k rfl rfl rfl];have a:=AC (q:=true) (e:=Bf) (cs:=OZ ts[i]) k;have j:=w.lt hc;have g:Ai (upd ((Ar H,c_ Bf [zI,zS,zS])::H) (Ar H) (c_ Bf (OZ ts[i]))) c=some R0:=by
    rw[Ag (by omega)];exact A6 j hc
   have w1:=Bi (r:=Ar H) (y:=.cells true Bf (OZ ts[i])) (AF (x:=.cells true Bf [zI,zS,zS]) w);generalize upd ((Ar H,c_ Bf [zI,zS,zS])::H) (Ar H) (c_ Bf (OZ ts[i]))=s at a g w1;generalize Ar H=t at a;have F:∀K:K2,CL 0 (.ptr t 0 0) K=K (.ptr t 0 0):=λK=>id rfl;have J:∀K:K2,CL 1 (.ptr t 0 0) K=K (.ptr t 1 0):=λK=>id rfl;have m0:∀K,AE Ac (.ptr t 0 0) s K=K (I ts[i].1):=λK=>AL (p:=0) rfl a (show 0<3 by decide);have m1:∀K,AE A8 (.ptr t 1 0) s K=K (.agg (qa ts[i].2)):=λK=>GE (p:=1) rfl a (show 3<=3 from LH _);have a1:=gC (ts.take i) (λt h=>by have h1:=u.rng t (l29 h);have:=Yq (z:=t.2) (by omega) (by omega);have:=Yr t.2;omega);have a2:(ts.take i).length<=6:=by simp;omega
   have B:=F7 [ts[i].1];have C:=F6 [qn ts[i].2,qd ts[i].2] (by simp;omega);simp only[Mr,Rk]at B C;rw[F,B6,m0,B6,rN,B6,B06 v (by simp) (by simp;omega),B6,B7 (by rw[Ez];omega),B6,J,B6,m1,B6,B6c v (by omega) (by omega),B6,B7 (by simp only[Ez];omega),B6,Dd (by omega)];have D:l++Ro (ts.take i)++Jn [ts[i].1]++I5 [qn ts[i].2,qd ts[i].2]=l++Ro (ts.take (i+1)):=by
    rw[yM ts h];simp[tmB,B6E]
   rw[D];exact ih (i+1) s (by omega) (by omega) g w1
  ·rw[FB (by omega),Ba];have:i=ts.length:=by omega
   subst this;rw[wC];exact O H hc w
end
section
variable{L n:Nat}
section
variable{m:ND}{u o:UD}{ca cb ra rb un pt:Ha}{ts:kG}{ps:List Ha}{ins nds:AV}{kd id vd pe:Int}{r:RD}
def C2t{H:Hp}{K:K2}(c:100<L)(d:ps.length<100)(hz:∀z∈ps,z.length<390):Aq (r! L (n+7)) Hq [DV ps] H K=K (S (I5 ps)):=by
 cases ps with
 |nil=>
  refine AQ (q:=false) (args':=[Av]) ?_ (λK=>by kernel_rfl);exact λK a=>by
   rw[XB];unfold Qj A2;simp only[BH];rw[Vj];unfold Oa HV A2;have el:∀K,Bp Ab Av K=K (I 0):=λK=>r_ rfl;rw[el,FB (by decide),Ba];exact a _ _ (λb=>⟨false,λK=>by kernel_rfl⟩)
 |cons p l=>exact A9U c d hz
set_option maxHeartbeats 2000000 in
def A3A(C:100<L)(hm:m.ok)(ae:kd=1\/kd=2\/kd=3)(ht:TmsOk ts)(hI:Sl ins)(hN:Sl nds)(hp:ps.length<=6)(M:∀s∈ps,s.length<390)(X:un.length<390)(O:pt.length<390)(hr:r.k=0\/r.k=1\/r.k=2\/r.k=3)(A:∀q∈[(r.a1,r.a2),(r.b1,r.b2),(r.c1,r.c2),(r.d1,r.d2)],q.1.length<390/\q.2.length<390)(hv:0<=vd/\vd<=3)(ad:ca.length<10/\cb.length<10/\ra.length<10/\rb.length<10)(ab:PS (r! L (n+61)) JK [.agg (CN u)] (.tup [S un,I 0]))(aa:LS (r! L (n+61)) JI [.agg (BL id ins nds o)] (.tup [S pt,I pe])):
 CS (r! L (n+62)) Ry [.agg (E4 kd m u ca cb (FI ts) ra rb (DV ps) id ins nds o r vd)] (S (NL kd m un ca cb ts ra rb ps pt (if kd=3 then Vh r vd else[]))):=by
 intro K hK;obtain⟨q1,q2,q3,q4,q5,q6,q7,q8,q9,ag⟩:=hm;have hT:=Hw ts;have hP:Sl (DV ps):=by cases ps with|nil=>exact .inl rfl|cons p l=>exact .inr ⟨_,_,rfl⟩
 have af:=ht.len;have a1:=F7 [kd,m.lab,m.num,m.itm,m.tim,m.day];have a2:=F6 [un] (by simpa using X);have a3:=F6 [ca,cb] (by simp;omega);have a4:=F7 [(ts.length:Int)];have a5:=gC ts (λt h=>by have:=ht.rng t h;have:=Yq (z:=t.2) (by omega) (by omega);have:=Yr t.2;omega);have a6:=F6 [ra,rb] (by simp;omega);have a7:=F7 [(ps.length:Int)];have a8:=F6 ps M;have a9:=F6 [pt] (by simpa using O);simp only[Mr,Rk]at a1 a2 a3 a4 a6 a7 a9;rw[tU];unfold Wr DI UU A2;rw[Es (Tl hT hP hI hN)];have d:=Ax (H:=[]) (x:=Lo kd m u ca cb (FI ts) ra rb (DV ps) id ins nds o r vd) (by simp);have w0:=AF (x:=Lo kd m u ca cb (FI ts) ra rb (DV ps) id ins nds o r vd) Fq;generalize ((Ar [],Lo kd m u ca cb (FI ts) ra rb (DV ps) id ins nds o r vd)::([]:Hp))=H0 at d w0;generalize Ar []=c at d;have Y:∀{j:Nat}{K:K2},CL j (.ptr c 0 0) K=K (.ptr c j 0):=λ{j K}=>by rw[fA,Kk]
 have g0:∀{K:K2},CL 0 (.ptr c 26 0) K=K (.ptr c 26 0):=r_ rfl;have g2:∀{K:K2},CL 2 (.ptr c 26 0) K=K (.ptr c 28 0):=r_ rfl;have g3:∀{K:K2},CL 3 (.ptr c 26 0) K=K (.ptr c 29 0):=r_ rfl;have nm:∀{y:List Int}{H:Hp}{K:K2},y.length<100->(∀z∈y, -10<=z/\z<1090)->Aq (r! L (n+61)) Eu [.list y.length (Fi y)] H K=K (S (Jn y)):=λh1 h2=>B06 (n:=n+54) C h1 h2;have tx:∀{y:List Ha}{H:Hp}{K:K2},y.length<100->(∀z∈y,z.length<390)->Aq (r! L (n+61)) Hq [.list y.length (A9 y)] H K=K (S (I5 y)):=λh1 h2=>A9U (n:=n+54) C h1 h2;have i:∀{a b:Ha}{H:Hp}{K:K2},a.length<390->b.length<390->Aq (r! L (n+61)) F1 [.agg [S a,S b]] H K=K (S (I5 [a,b])):=λh1 h2=>B6c (n:=n+54) C h1 h2;simp only[BH];rw[Y,cU d,ab,Fl,Fk];simp only[Y,B6,cI0 d,cI1 d,cI2 d,cI3 d,cI4 d,cI5 d,B5M,A6f,g0,g2,cC d,cT d,Q7,rN];rw[nm (by simp) (by simp only[Xd,List.mem_nil_iff,or_false];rintro z (rfl|rfl|rfl|rfl|rfl|rfl)<;>omega),B6,tx (by simp) (by simpa using X),B6,B7 (by omega),B6,i (by omega) (by omega),B6,B7 (by simp only[Ez];omega),B6,nm (by simp) (by simp;omega),B6,B7 (by simp only[Ez];omega),B6];have e0:(AV.v (.int .i64 0))=I ((0:Nat):Int):=rfl;have et:∀(l:Ha),S l=S (l++Ro (ts.take 0)):=λl=>by rw[show Ro (ts.take 0)=[] from rfl,US]
 rw[e0,et];refine C2r (n:=n+54) ht C (R0:=Lo kd m u ca cb (FI ts) ra rb (DV ps) id ins nds o r vd) rfl (λH h K=>cT h) (by simp only[Ez];omega) ?_ (L+20) 0 H0 (by omega) (by omega) d w0;intro w f w1;have N:∀K,Aq (r! L (n+61)) JI [.agg (BL id ins nds o)] w K=K (.tup [S pt,I pe]):=λK=>by rw[zO];exact aa false _ _ (Wl hI hN) K
 have ac:∀{H:Hp}{K:K2},Aq (r! L (n+61)) Hq [DV ps] H K=K (S (I5 ps)):=C2t (n:=n+54) C (by omega) M;simp only[Y,g3,B6,cR f,cP f,jG,rN,cPr f,N,Fl,Fk,A6f,ac];rw[i (by omega) (by omega),B6,B7 (by simp only[Ez];omega),B6,nm (by simp) (by simp;omega),B6,B7 (by simp only[Ez];omega),B6,B7 (by simp only[Ez];omega),B6,tx (by simp) (by simpa using O),B7 (by simp only[Ez];omega),cI0 f,Cv];by_cases Z:kd=3
 ·rw[GI Z,Co];have jv:∀{j:Nat}{K:K2},CL j (.ptr (Ar w) 0 0) K=K (.ptr (Ar w) j 0):=λ{j K}=>by rw[fA,Kk]
  have J:=Ax (H:=w) (x:=.cells true Kv [zI,zS,zS,zS,zS,zS,zS,zS,zS]) (by simp);have eR:∀{K:K2},AE Ec (.ptr c 55 0) w K=K (.agg r.cs):=λ{K}=>GE (p:=55) rfl f (show 64<=68 by decide);rw[eR,Bv (cs:=[zI,zS,zS,zS,zS,zS,zS,zS,zS]) rfl,BQ (vs:=r.cs) J rfl rfl rfl];have g:=AC (q:=true) (e:=Kv) (cs:=r.cs) J;have F:=w1.lt f;have D:Ai (upd ((Ar w,c_ Kv [zI,zS,zS,zS,zS,zS,zS,zS,zS])::w) (Ar w) (c_ Kv r.cs)) c=some (Lo kd m u ca cb (FI ts) ra rb (DV ps) id ins nds o r vd):=by
   rw[Ag (by omega)];exact A6 F f
  generalize upd ((Ar w,c_ Kv [zI,zS,zS,zS,zS,zS,zS,zS,zS])::w) (Ar w) (c_ Kv r.cs)=B at g D;generalize Ar w=rv at g jv;have l0:∀{K:K2},AE Ac (.ptr rv 0 0) B K=K (I r.k):=λ{K}=>AL (p:=0) rfl g (show 0<9 by decide);have l1:∀{K:K2},AE A8 (.ptr rv 1 0) B K=K (.agg [S r.a1,S r.a2]):=λ{K}=>GE (p:=1) rfl g (show 3<=9 by decide);have l3:∀{K:K2},AE A8 (.ptr rv 3 0) B K=K (.agg [S r.b1,S r.b2]):=λ{K}=>GE (p:=3) rfl g (show 5<=9 by decide);have l5:∀{K:K2},AE A8 (.ptr rv 5 0) B K=K (.agg [S r.c1,S r.c2]):=λ{K}=>GE (p:=5) rfl g (show 7<=9 by decide);have l7:∀{K:K2},AE A8 (.ptr rv 7 0) B K=K (.agg [S r.d1,S r.d2]):=λ{K}=>GE (p:=7) rfl g (show 9<=9 by decide);have b1:=F7 [r.k];have P:r.a1.length<390/\r.a2.length<390:=A (r.a1,r.a2) (by simp);have Q:r.b1.length<390/\r.b2.length<390:=A (r.b1,r.b2) (by simp);have R:r.c1.length<390/\r.c2.length<390:=A (r.c1,r.c2) (by simp);have V:r.d1.length<390/\r.d2.length<390:=A (r.d1,r.d2) (by simp);have b2:=F6 [r.a1,r.a2] (by simp;omega);have b3:=F6 [r.b1,r.b2] (by simp;omega);have b4:=F6 [r.c1,r.c2] (by simp;omega);have b5:=F6 [r.d1,r.d2] (by simp;omega);have b6:=F7 [vd];simp only[Mr,Rk]at b1 b2 b3 b4 b5 b6;simp only[jv,Y,B6,l0,l1,l3,l5,l7,cV D,rN];rw[nm (by simp) (by simp;omega),B6,B7 (by simp only[Ez];omega),B6,i P.1 P.2,B6,B7 (by simp only[Ez];omega),B6,i Q.1 Q.2,B6,B7 (by simp only[Ez];omega),B6,i R.1 R.2,B6,B7 (by simp only[Ez];omega),B6,i V.1 V.2,B6,B7 (by simp only[Ez];omega),B6,nm (by simp) (by simp;omega),B6,B7 (by simp only[Ez];omega),B6];rw[Dr Z]at hK⊢;have e:NL kd m un ca cb ts ra rb ps pt (Vh r vd)=Jn [kd,m.lab,m.num,m.itm,m.tim,m.day]++I5 [un]++I5 [ca,cb]++Jn [(ts.length:Int)]++Ro ts++I5 [ra,rb]++Jn [(ps.length:Int)]++I5 ps++I5 [pt]++Jn [r.k]++I5 [r.a1,r.a2]++I5 [r.b1,r.b2]++I5 [r.c1,r.c2]++I5 [r.d1,r.d2]++Jn [vd]:=by
   unfold NL Vh;simp[R9]
  rw[<-e];exact hK _ _ (λb=>⟨false,λK=>by kernel_rfl⟩)
 ·rw[HN Z,Ba];rw[CD Z]at hK⊢;have e:NL kd m un ca cb ts ra rb ps pt []=Jn [kd,m.lab,m.num,m.itm,m.tim,m.day]++I5 [un]++I5 [ca,cb]++Jn [(ts.length:Int)]++Ro ts++I5 [ra,rb]++Jn [(ps.length:Int)]++I5 ps++I5 [pt]:=by
   unfold NL;simp only[B6E,US,l3b]
  rw[<-e];exact hK _ _ (λb=>⟨false,λK=>by kernel_rfl⟩)
end
end
section
variable{L n:Nat}
def B4l:PS (r! L (n+40)) vA [.agg [I 0,Av,Av]] (.tup [S [],I 200]):=BM (λH K=>by kernel_rfl) (by kernel_rfl)
def B4m:PS (r! L (n+40)) T_ [.agg [I 0,Av,Av]] (.tup [Bo true,Bo false]):=BM (λH K=>by kernel_rfl) (by kernel_rfl)
section
variable{m:ND}{u o:UD}{ca cb ra rb:Ha}{T P ins nds:AV}{kd id vd:Int}{r:RD}{b:Ha}{q:Bool}
def A3B(h:Sl T)(g:Sl P)(e:Sl ins)(f:Sl nds)(hb:b.length<=32768)(v:CS (r! L (n+61)) F0 [.agg (E4 kd m u ca cb T ra rb P id ins nds o r vd)] (.tup [Bo true,Bo q]))(s:CS (r! L (n+61)) Ry [.agg (E4 kd m u ca cb T ra rb P id ins nds o r vd)] (S b)):
 CS (r! L (n+62)) OI [.agg (E4 kd m u ca cb T ra rb P id ins nds o r vd)] (.tup [S b,I 0]):=by
 intro K t;rw[YF];unfold Rr HX;rw[Es (Tl h g e f)];have a:=Ax (H:=[]) (x:=Lo kd m u ca cb T ra rb P id ins nds o r vd) (by simp);generalize ((Ar [],Lo kd m u ca cb T ra rb P id ins nds o r vd)::([]:Hp))=k at a;generalize Ar []=c at a;have p:∀{j:Nat}{K:K2},CL j (.ptr c 0 0) K=K (.ptr c j 0):=λ{j K}=>by rw[fA,Kk]
 have i:∀K,Aq (r! L (n+61)) F0 [.agg (E4 kd m u ca cb T ra rb P id ins nds o r vd)] k K=K (.tup [Bo true,Bo q]):=λK=>AQ v (Xv h g e f);have d:∀K,Aq (r! L (n+61)) Ry [.agg (E4 kd m u ca cb T ra rb P id ins nds o r vd)] k K=K (S b):=λK=>AQ s (Xv h g e f);have w:∀{K:K2},Bp Ah (S b) K=K (I b.length):=λ{K}=>Qf rfl;rw[cA a,i,Fl,Fk,ntT,Ba,cA a,d,p,cS a,B4m (n:=n+21),Fl,Fk,p,cS a,B4l (n:=n+21),Fl,Fk,w,DT,HN (by omega)];simp only[eP,gT,BW,ntT,RF];rw[Ba];exact t _ _ (λb=>⟨false,λK=>by kernel_rfl⟩)
def C4V{cs:Is}(h:40000<L)(h1:cs.all AV.one=true)(hz:cs.length=68)(c:∀H,Rm true depth [.agg cs] [.agg cs] H false)(hb:b.length<=32768)(e:CS (r! L (n+62)) OI [.agg cs] (.tup [S b,I 0])):CS (r! L (n+63)) FH [.agg cs] (S (sha b)):=by
 intro K f;rw[hC];unfold Wu HX;rw[Es h1];have a:=Ax (H:=[]) (x:=.cells true Ad cs) (by simp);generalize ((Ar [],c_ Ad cs)::([]:Hp))=d at a;rw[Br rfl hz.symm a,AQ e (c d),Fl,Fk,I6];show A1 (.v (.bool false)) _ _=_;rw[Ba];have g:∀K,Aq (r! L (n+62)) YY [S b] d K=K (S (sha b)):=λK=>AQ (A9A (L:=L+20) (n:=n+59) (by omega) (by omega)) (Ao (q:=false) (q':=false) CA AI);rw[g];exact f _ _ (λb=>⟨false,λK=>by kernel_rfl⟩)
end
end
section
variable{k:Nat}
variable{L n:Nat}
def C2j(a:k=1\/k=2\/k=3):∀K,eEq J4 BinOp.eql (AV.agg (rr k).cs) (AV.agg [zI,zS,zS,zS,zS,zS,zS,zS,zS]) K=K (Bo false):=λK=>by rw[<-qO];rcases a with rfl|rfl|rfl<;>kernel_rfl
def B79(a:k=1\/k=2\/k=3):PS (r! L (n+40)) YZ [.agg (rr k).cs] (Bo true):=by
 rcases a with rfl|rfl|rfl<;>exact BM (λH K=>by kernel_rfl) (by as_aux_lemma=>kernel_rfl)
def B02(a:k=1\/k=2\/k=3):PS (r! L (n+40)) JH [.agg (rr k).cs] (Bo true):=by
 rcases a with rfl|rfl|rfl<;>exact BM (λH K=>by kernel_rfl) (by as_aux_lemma=>kernel_rfl)
def L?:PS (r! L (n+40)) JH [.agg r0.cs] (Bo false):=BM (λH K=>by kernel_rfl) (by kernel_rfl)
end
section
variable{k:Nat}
variable{L n:Nat}
structure CB where
 m:ND
 c:Int
 r:Int
 ts:kG
structure CB.Ok(b:CB):Prop where
 m:b.m.ok
 c1: -80<=b.c
 c2:b.c<=80
 r1:0<=b.r
 r2:b.r<=8
 ts:TmsOk b.ts
inductive Cd where
 |re (b:CB) (u:Nat)
 |co (b:CB) (p:Pr) (ps:List Ha) (t:Option (Nat×Int))
abbrev eo:=List Cd
def Cd.kd:Cd->Int
 |.re _ _=>1
 |.co _ _ _ none=>2
 |.co _ _ _ (some _)=>3
def Cd.ps:Cd->List Ha
 |.re _ _=>[]
 |.co _ _ ps _=>ps
abbrev cdC(kd:Int)(b:CB)(u:UD)(ps:List Ha)(id:Int)(ins a:AV)(o:UD)(r:RD)(vd:Int):Is:=E4 kd b.m u (qn b.c) (qd b.c) (FI b.ts) (qn b.r) (qd b.r) (DV ps) id ins a o r vd
def Cd.cs:Cd->Is
 |.re b u=>cdC 1 b (uu u) [] 0 Av Av u0 r0 0
 |.co b p ps none=>cdC 2 b (uu p.out) ps p.id (BS p.ks) (Cx p.xs) (uu p.out) r0 0
 |.co b p ps (some (k,vd))=>cdC 3 b (uu p.out) ps p.id (BS p.ks) (Cx p.xs) (uu p.out) (rr k) vd
def Cd.body:Cd->Ha
 |.re b u=>NL 1 b.m (L5 u) (qn b.c) (qd b.c) b.ts (qn b.r) (qd b.r) [] [] []
 |.co b p ps none=>NL 2 b.m (L5 p.out) (qn b.c) (qd b.c) b.ts (qn b.r) (qd b.r) ps p.txt []
 |.co b p ps (some (k,vd))=>NL 3 b.m (L5 p.out) (qn b.c) (qd b.c) b.ts (qn b.r) (qd b.r) ps p.txt (Vh (rr k) vd)
def Cd.Ok:Cd->Prop
 |.re b u=>b.Ok/\u<7
 |.co b p ps t=>b.Ok/\p.Ok/\ps.length=p.ks.length/\(∀s∈ps,s.length=32)/\(match t with|none=>True|some (k,vd)=>(k=1\/k=2\/k=3)/\1<=vd/\vd<=3)
def Cd.id(c:Cd):Ha:=sha c.body
def Og(ps:List Ha):Sl (DV ps):=by cases ps with|nil=>exact .inl rfl|cons p l=>exact .inr ⟨_,_,rfl⟩
def lM{ps:List Ha}(h:1<=ps.length):DV ps=Ls ps:=by cases ps with|nil=>simp at h|cons p l=>rfl
def C2k(h:k=1\/k=2\/k=3):(rr k).k=0\/(rr k).k=1\/(rr k).k=2\/(rr k).k=3:=by rcases h with rfl|rfl|rfl<;>decide
def A3v(h:k=1\/k=2\/k=3):∀q∈[((rr k).a1,(rr k).a2),((rr k).b1,(rr k).b2),((rr k).c1,(rr k).c2),((rr k).d1,(rr k).d2)],q.1.length<390/\q.2.length<390:=by
 rcases h with rfl|rfl|rfl<;>decide
def M':∀q∈[(r0.a1,r0.a2),(r0.b1,r0.b2),(r0.c1,r0.c2),(r0.d1,r0.d2)],q.1.length<390/\q.2.length<390:=by decide
section
variable{b:CB}{p:Pr}{ps:List Ha}{kd:Int}{tail:Ha}{un pt:Ha}
def CB.Ok.cl(h:b.Ok):(qn b.c).length<10/\(qd b.c).length<10/\(qn b.r).length<10/\(qd b.r).length<10:=by
 have h1:=Yq h.c1 (show b.c<81 by have:=h.c2;omega);have h2:=Yq (z:=b.r) (by have:=h.r1;omega) (by have:=h.r2;omega);have a:=Yr b.c;have d:=Yr b.r;omega
def vS(h:b.Ok)(f:un.length<390)(A:ps.length<=6)(a:∀s∈ps,s.length<390)(d:pt.length<390)(e:tail.length<=4000):(NL kd b.m un (qn b.c) (qd b.c) b.ts (qn b.r) (qd b.r) ps pt tail).length<=32768:=by
 obtain⟨q1,q2,q3,q4⟩:=h.cl;have g:=F7 [kd,b.m.lab,b.m.num,b.m.itm,b.m.tim,b.m.day];have i:=F6 [un] (by simpa using f);have j:=OS [(qn b.c,qd b.c)] (by simp;omega);have q:=F7 [(b.ts.length:Int)];have u:=gC b.ts (λt e=>by
  have:=h.ts.rng t e;have:=Yq (z:=t.2) (by omega) (by omega);have:=Yr t.2;omega)
 have v:=OS [(qn b.r,qd b.r)] (by simp;omega);have w:=F7 [(ps.length:Int)];have x:=F6 ps a;have y:=F6 [pt] (by simpa using d);have B:=h.ts.len;simp only[NL,Ez,Mr,Rk]at g i j q u v w x y⊢;omega
def A9E{vd:Int}(h:k=1\/k=2\/k=3):(Vh (rr k) vd).length<=4000:=by
 have a:=F7 [(rr k).k];have d:=OS _ (A3v h);have e:=F7 [vd];simp only[Vh,Ez,Mr,Rk]at a d e⊢;omega
end
section
variable{c:Cd}
def Ma:c.cs.all AV.one=true:=by
 match c with
 |.re b u=>exact Tl (Hw _) (Og _) (.inl rfl) (.inl rfl)
 |.co b p ps none=>exact Tl (Hw _) (Og _) (.inr ⟨_,_,rfl⟩) (.inr ⟨_,_,rfl⟩)
 |.co b p ps (some (k,vd))=>exact Tl (Hw _) (Og _) (.inr ⟨_,_,rfl⟩) (.inr ⟨_,_,rfl⟩)
def Eb:c.cs.length=68:=by
 match c with
 |.re b u=>rfl
 |.co b p ps none=>rfl
 |.co b p ps (some (k,vd))=>rfl
def oR(H:Hp):Rm true depth [.agg c.cs] [.agg c.cs] H false:=by
 match c with
 |.re b u=>exact Xv (Hw _) (Og _) (.inl rfl) (.inl rfl)
 |.co b p ps none=>exact Xv (Hw _) (Og _) (.inr ⟨_,_,rfl⟩) (.inr ⟨_,_,rfl⟩)
 |.co b p ps (some (k,vd))=>exact Xv (Hw _) (Og _) (.inr ⟨_,_,rfl⟩) (.inr ⟨_,_,rfl⟩)
def jO(h:c.Ok):c.body.length<=32768:=by
 match c,h with
 |.re b u,⟨hb,f⟩=>exact vS hb (by have:=G6 u;omega) (by simp) (by simp) (by simp) (by simp)
 |.co b p ps none,⟨hb,a,h1,h2,_⟩=>exact vS hb (by have:=G6 p.out;omega) (by have:=a.k3;omega) (λs d=>by rw[h2 s d];decide) (lN a) (by simp)
 |.co b p ps (some (k,vd)),⟨hb,a,h1,h2,e⟩=>exact vS hb (by have:=G6 p.out;omega) (by have:=a.k3;omega) (λs d=>by rw[h2 s d];decide) (lN a) (A9E e.1)
def C1I:RV (r! L (n+40)) Gx [.agg (BL 0 Av Av u0)] (.tup [S [],I 90]):=λb=>by kernel_rfl
def C2u:RV (r! L (n+40)) JI [.agg (BL 0 Av Av u0)] (.tup [S [],I 90]):=λb=>by kernel_rfl
def B26(t:40000<L)(h:c.Ok)(hn:c.ps.Nodup):CS (r! L (n+63)) FL [.agg c.cs] (S c.id):=by
 refine C4N t Ma Eb oR (jO h) ?_
 match c,h,hn with
 |.re b u,⟨hb,v⟩,_=>
  have st:=A6G (L:=L) (n:=n) (o:=u0) hb.m (Hw b.ts) (A8R (L:=L) (n:=n+20)).o (Yg L (n+20) u (by omega)).o (A37 (L:=L) (n:=n+16) hb.c1 hb.c2 hb.r1 hb.r2 hb.ts).ls;exact A3b (n:=n) (ps:=[]) (vd:=0) (kd:=1) (by omega) hb.m (.inl rfl) hb.ts (.inl rfl) (.inl rfl) (by simp) (by simp) (by have:=G6 u;omega) (by simp) (.inl rfl) M' (by decide) hb.cl st.ls (UV L (n+21) u (by omega)) (C1I (L:=L) (n:=n+21)).ls
 |.co b p ps none,⟨hb,a,h1,h2,_⟩,hn=>
  have k1:=a.k1;have k3:=a.k3;have e:DV ps=.list p.ks.length (A9 ps):=by rw[lM (by omega),Ls,h1]
  have d:=(yH (L:=L) (n:=n+53) (ps:=ps) hn (by omega) (by omega) (by omega) h2).ls;rw[Ls,h1]at d;have g:=sK (L:=L) (n:=n) (kd:=2) (m:=b.m) (ca:=qn b.c) (cb:=qd b.c) (ra:=qn b.r) (rb:=qd b.r) (r:=r0) (vd:=0) (Hw b.ts) ⟨_,_,rfl⟩ d (B0m (L:=L) (n:=n+13) (by omega) a).ls;have st:=A6F (L:=L) (n:=n) hb.m (Hw b.ts) ⟨_,_,rfl⟩ ⟨_,_,rfl⟩ ⟨_,_,rfl⟩ g.ls (Yg L (n+20) p.out (JW a)).o (A37 (L:=L) (n:=n+16) hb.c1 hb.c2 hb.r1 hb.r2 hb.ts).ls;rw[<-e]at st;exact A3b (n:=n) (ps:=ps) (vd:=0) (kd:=2) (by omega) hb.m (.inr (.inl rfl)) hb.ts (.inr ⟨_,_,rfl⟩) (.inr ⟨_,_,rfl⟩) (by omega) (λs i=>by rw[h2 s i];decide) (by have:=G6 p.out;omega) (lN a) (.inl rfl) M' (by decide) hb.cl st.ls (UV L (n+21) _ (JW a)) (B6f (L:=L) (n:=n+14) (by omega) a).ls
 |.co b p ps (some (k,vd)),⟨hb,a,h1,h2,f,j,q⟩,hn=>
  have k1:=a.k1;have k3:=a.k3;have e:DV ps=.list p.ks.length (A9 ps):=by rw[lM (by omega),Ls,h1]
  have d:=(yH (L:=L) (n:=n+53) (ps:=ps) hn (by omega) (by omega) (by omega) h2).ls;rw[Ls,h1]at d;have g:=sK (L:=L) (n:=n) (kd:=3) (m:=b.m) (ca:=qn b.c) (cb:=qd b.c) (ra:=qn b.r) (rb:=qd b.r) (r:=rr k) (vd:=vd) (Hw b.ts) ⟨_,_,rfl⟩ d (B0m (L:=L) (n:=n+13) (by omega) a).ls;have st:=A6E (L:=L) (n:=n) hb.m (Hw b.ts) ⟨_,_,rfl⟩ ⟨_,_,rfl⟩ ⟨_,_,rfl⟩ (C2j f) (B79 (L:=L) (n:=n+20) f).o j q (Yg L (n+20) p.out (JW a)).o (A37 (L:=L) (n:=n+16) hb.c1 hb.c2 hb.r1 hb.r2 hb.ts).ls g.ls;rw[<-e]at st;exact A3b (n:=n) (ps:=ps) (vd:=vd) (kd:=3) (by omega) hb.m (.inr (.inr rfl)) hb.ts (.inr ⟨_,_,rfl⟩) (.inr ⟨_,_,rfl⟩) (by omega) (λs i=>by rw[h2 s i];decide) (by have:=G6 p.out;omega) (lN a) (C2k f) (A3v f) (by omega) hb.cl st.ls (UV L (n+21) _ (JW a)) (B6f (L:=L) (n:=n+14) (by omega) a).ls
end
end
section
variable{c2:Is}{n2:Nat}
variable{L n:Nat}
section
variable{R:Rt}{K:KV}{ps:List Ha}{H:Hp}{y:Af}
def B4J{b:AV->AV->KV}{i:Nat}(hi:i<ps.length)(hb:ps.length<100)(k:K (.tup [Bo false,I ps.length]) H=y)(c:b (Ls ps) (I i) (I i) H=y\/∃m,∃h:m<i,ps[m]'(by omega)=ps[i]):∀(f j:Nat),j<=i->i-j<f->(∀m(_:m<j)(p:m<ps.length),ps[m]≠ps[i])->
 Mg (L+20) R K b f (Ls ps) (I i) (I j) H=y:=by
 intro f
 induction f with
 |zero=>intro j _ h;omega
 |succ f ih=>
  intro j t s a;rw[RZ];unfold Mi Nc A2 Hv;by_cases h:j<i
  ·rw[FG (by omega),Co,Th (by omega),B6,KD,B6,Th hi,B6,KD,B6,Lb];by_cases he:ps[j]=ps[i]
   ·rw[GI he,B6,Co,Nb];exact k
   ·rw[HN he,B6,Ba,Dd (by omega)];exact ih (j+1) (by omega) (by omega) λm hm d=>by
     by_cases g:m=j
     ·subst g;exact he
     ·exact a m (by omega) d
  ·rw[FB (by omega),Ba];obtain rfl:j=i:=by omega
   rcases c with c|⟨m,hm,e⟩
   ·exact c
   ·exact absurd e (a m hm (by omega))
def B4K{b:KV}(hb:ps.length<100)(p:ps.length<L+20)(j:∀s∈ps,s.length=32)(k:K (.tup [Bo false,I ps.length]) H=y):∀(f i:Nat)(v:AV),i<=ps.length->ps.length-i<f->
 (∃t m,i<=t/\∃(h:t<ps.length)(hm:m<t),ps[m]'(by omega)=ps[t])->Mh (L+20) R K b f (Ls ps) (I i) v H=y:=by
 intro f
 induction f with
 |zero=>intro i v _ h;omega
 |succ f ih=>
  intro i v hi w a;obtain⟨t,m,h1,h2,c,d⟩:=a;rw[Sa];unfold Mj HV A2 Hv;rw[Nb];have h:i<ps.length:=by omega
  rw[FG (by omega),Co];simp only[BH];rw[Th h,KD,Qf rfl,j _ (NT h),I6];rw[show(!decide (((32:Nat):Int)=32))=false from rfl,Ba];have e:(AV.v (.int .i64 0))=I ((0:Nat):Int):=rfl;rw[e];refine B4J h hb k ?_ _ 0 (by omega) (by omega) (λm hm _=>by omega);by_cases g:t=i
  ·subst g;exact .inr ⟨m,c,d⟩
  ·left;rw[Dd (by omega)];exact ih (i+1) _ (by omega) (by omega) ⟨t,m,by omega,h2,c,d⟩
def A7m(h:¬ps.Nodup):∃t m,0<=t/\∃(h:t<ps.length)(hm:m<t),ps[m]'(by omega)=ps[t]:=l37 λhc=>h (by
 rw[List.nodup_iff_pairwise_ne,l26];intro i j hi b a e;exact hc ⟨j,i,l1h _,b,a,e⟩)
def tH(hn:¬ps.Nodup)(hb:ps.length<=6)(d:∀s∈ps,s.length=32):CS (rt (L+20) (n+1)) Iz [Ls ps] (.tup [Bo false,I ps.length]):=by
 intro K c;rw[TE];unfold MU Dm A2 Hv;simp only[BH];have a:(AV.v (.int .i64 0))=I ((0:Nat):Int):=rfl;rw[a];exact B4K (by omega) (by omega) d (c _ _ (λb=>⟨false,λK=>by kernel_rfl⟩)) _ 0 _ (by omega) (by omega) (A7m hn)
end
section
variable{m:ND}{u o:UD}{ca cb ra rb:Ha}{T P ins nds:AV}{id vd kd:Int}{r:RD}{q:Bool}
def A5t(h:Sl T)(g:Sl P)(e:Sl ins)(f:Sl nds)(k:CS (rt (L+20) (n+61)) F0 [.agg (E4 kd m u ca cb T ra rb P id ins nds o r vd)] (.tup [Bo false,Bo q])):
 CS (rt (L+20) (n+62)) OI [.agg (E4 kd m u ca cb T ra rb P id ins nds o r vd)] (.tup [S [],I 210]):=by
 intro K j;rw[YF];unfold Rr HX;rw[Es (Tl h g e f)];have a:=Ax (H:=[]) (x:=Lo kd m u ca cb T ra rb P id ins nds o r vd) (by simp);generalize ((Ar [],Lo kd m u ca cb T ra rb P id ins nds o r vd)::([]:Hp))=i at a;generalize Ar []=c at a;have d:∀K,Aq (rt (L+20) (n+61)) F0 [.agg (E4 kd m u ca cb T ra rb P id ins nds o r vd)] i K=K (.tup [Bo false,Bo q]):=λK=>AQ k (Xv h g e f);rw[cA a,d,Fl,Fk,ntF,Co];exact j _ _ (λb=>⟨false,λK=>by kernel_rfl⟩)
def C2w{cs:Is}(h1:cs.all AV.one=true)(hz:cs.length=68)(c:∀H,Rm true depth [.agg cs] [.agg cs] H false)(e:CS (rt (L+20) (n+62)) OI [.agg cs] (.tup [S [],I 210])):CS (rt (L+20) (n+63)) FH [.agg cs] (S []):=by
 intro K f;rw[hC];unfold Wu HX;rw[Es h1];have a:=Ax (H:=[]) (x:=.cells true Ad cs) (by simp);generalize ((Ar [],c_ Ad cs)::([]:Hp))=d at a;rw[Br rfl hz.symm a,AQ e (c d),Fl,Fk,I6];show A1 (.v (.bool true)) _ _=_;rw[Co];exact f _ _ (λb=>⟨false,λK=>by kernel_rfl⟩)
end
attribute [local irreducible] Aq rt oV eBi eEq cnd As XU A1
section
variable{m:ND}{u o:UD}{ca cb ra rb:Ha}{T P ins nds:AV}{id vd:Int}{r:RD}
def A3z(hm:m.ok)(s:Sl T)(hr:PO (rt (L+20) (n+60)) JH [.agg r0.cs] (Bo false))(p:∃n cs,P=.list n cs)(j:∃n cs,nds=.list n cs)(v:LS (rt (L+20) (n+60)) Iz [P] (.tup [Bo false,I n2]))(hv:LS (rt (L+20) (n+60)) FZ [.agg (BL id (.list n2 c2) nds u)] (Bo true))(w:PO (rt (L+20) (n+60)) F3 [.agg (CN u)] (Bo true))(t:LS (rt (L+20) (n+60)) JJ [.agg (dJ ca cb T ra rb)] (Bo true)):
 CS (rt (L+20) (n+61)) F0 [.agg (E4 2 m u ca cb T ra rb P id (.list n2 c2) nds u r0 0)] (.tup [Bo false,Bo false]):=by
 intro K i;obtain⟨h1,h2,e,x,f,A,g,B,h,d⟩:=hm;obtain⟨n1,c1,rfl⟩:=p;obtain⟨C,c3,rfl⟩:=j;have hb:∀{z c hi:Int},c<=z->z<=hi->PO (rt (L+20) (n+60)) IZ [I z,I c,I hi] (Bo true):=λa b=>(Yp a b).o;rcases s with rfl|⟨D,c4,rfl⟩
 all_goals
  rewrite[JZ];unfold IV HX
  try rewrite[zO]
  try rewrite[bO]
  try rewrite[qO]
  try rewrite[cO]
  generalize rt (L+20) (n+60)=R at*
  conv=>lhs;whnf
  rewrite[XG ?hc]
  case hc=>decide
  conv=>lhs;whnf
  rewrite[w]
  conv=>lhs;whnf
  rewrite[(t) false _ _ ?hq]
  case hq=>exact λK=>by kernel_rfl
  conv=>lhs;whnf
  rewrite[hb h1 (by omega)]
  conv=>lhs;whnf
  rewrite[hb e (by omega)]
  conv=>lhs;whnf
  rewrite[hb f (by omega)]
  conv=>lhs;whnf
  rewrite[hb g (by omega)]
  conv=>lhs;whnf
  rewrite[hb h (by omega)]
  conv=>lhs;whnf
  rewrite[GJ]
  conv=>lhs;whnf
  rewrite[hr]
  conv=>lhs;whnf
  rewrite[show∀K,eEq J4 BinOp.neq (AV.agg [I r0.k,S r0.a1,S r0.a2,S r0.b1,S r0.b2,S r0.c1,S r0.c2,S r0.d1,S r0.d2]) (AV.agg [zI,zS,zS,zS,zS,zS,zS,zS,zS]) K=K (Bo false) from λK=>by rw[<-qO];kernel_rfl]
  conv=>lhs;whnf
  rewrite[B0E ?hc]
  case hc=>decide
  conv=>lhs;whnf
  rewrite[GJ]
  conv=>lhs;whnf
  rewrite[XG ?hc]
  case hc=>decide
  conv=>lhs;whnf
  rewrite[GJ]
  conv=>lhs;whnf
  rewrite[Q6 ?hc]
  case hc=>decide
  conv=>lhs;whnf
  rewrite[Qn]
  conv=>lhs;whnf
  rewrite[Qn]
  conv=>lhs;whnf
  rewrite[(v) false _ _ ?hq]
  case hq=>exact λK=>by kernel_rfl
  conv=>lhs;whnf
  rewrite[(hv) false _ _ ?hq]
  case hq=>exact λK=>by kernel_rfl
  conv=>lhs;whnf
  exact i _ _ (λb=>⟨false,λK=>by kernel_rfl⟩)
def A3y(hm:m.ok)(t:Sl T)(hr:PO (rt (L+20) (n+60)) JH [.agg r.cs] (Bo true))(c:1<=vd)(d:vd<=3)(s:∃n cs,P=.list n cs)(p:∃n cs,nds=.list n cs)(w:LS (rt (L+20) (n+60)) Iz [P] (.tup [Bo false,I n2]))(hv:LS (rt (L+20) (n+60)) FZ [.agg (BL id (.list n2 c2) nds u)] (Bo true))(x:PO (rt (L+20) (n+60)) F3 [.agg (CN u)] (Bo true))(v:LS (rt (L+20) (n+60)) JJ [.agg (dJ ca cb T ra rb)] (Bo true)):
 CS (rt (L+20) (n+61)) F0 [.agg (E4 3 m u ca cb T ra rb P id (.list n2 c2) nds u r vd)] (.tup [Bo false,Bo true]):=by
 intro K k;obtain⟨h1,h2,g,A,h,B,i,C,j,f⟩:=hm;obtain⟨n1,c1,rfl⟩:=s;obtain⟨D,c3,rfl⟩:=p;have hb:∀{z e hi:Int},e<=z->z<=hi->PO (rt (L+20) (n+60)) IZ [I z,I e,I hi] (Bo true):=λa b=>(Yp a b).o;rcases t with rfl|⟨F,c4,rfl⟩
 all_goals
  rewrite[JZ];unfold IV HX
  try rewrite[zO]
  try rewrite[bO]
  try rewrite[qO]
  try rewrite[cO]
  generalize rt (L+20) (n+60)=R at*
  conv=>lhs;whnf
  rewrite[Q6 ?hc]
  case hc=>decide
  conv=>lhs;whnf
  rewrite[x]
  conv=>lhs;whnf
  rewrite[(v) false _ _ ?hq]
  case hq=>exact λK=>by kernel_rfl
  conv=>lhs;whnf
  rewrite[hb h1 (by omega)]
  conv=>lhs;whnf
  rewrite[hb g (by omega)]
  conv=>lhs;whnf
  rewrite[hb h (by omega)]
  conv=>lhs;whnf
  rewrite[hb i (by omega)]
  conv=>lhs;whnf
  rewrite[hb j (by omega)]
  conv=>lhs;whnf
  rewrite[GJ]
  conv=>lhs;whnf
  rewrite[hr]
  conv=>lhs;whnf
  rewrite[hb c d]
  conv=>lhs;whnf
  rewrite[GJ]
  conv=>lhs;whnf
  rewrite[XG ?hc]
  case hc=>decide
  conv=>lhs;whnf
  rewrite[GJ]
  conv=>lhs;whnf
  rewrite[XG ?hc]
  case hc=>decide
  conv=>lhs;whnf
  rewrite[GJ]
  conv=>lhs;whnf
  rewrite[Q6 ?hc]
  case hc=>decide
  conv=>lhs;whnf
  rewrite[Qn]
  conv=>lhs;whnf
  rewrite[(w) false _ _ ?hq]
  case hq=>exact λK=>by kernel_rfl
  conv=>lhs;whnf
  rewrite[(hv) false _ _ ?hq]
  case hq=>exact λK=>by kernel_rfl
  conv=>lhs;whnf
  exact k _ _ (λb=>⟨false,λK=>by kernel_rfl⟩)
end
end
section
variable{L n:Nat}
section
variable{c:Cd}
def Y'(q:40000<L)(h:c.Ok)(hn:c.ps.Nodup):CS (r! L (n+64)) FH [.agg c.cs] (S c.id):=by
 refine C4V (n:=n+1) q Ma Eb oR (jO h) ?_
 match c,h,hn with
 |.re b u,⟨hb,r⟩,_=>
  have st:=A74 (L:=L) (n:=n+1) (o:=u0) hb.m (Hw b.ts) (L? (L:=L) (n:=n+21)).o (B00 (L:=L) (n:=n+21)).o (Sv L (n+21) u (by omega)).o (tJ (L:=L) (n:=n+19) hb.c1 hb.c2 hb.r1 hb.r2 (by omega) hb.ts).ls;exact A3B (n:=n+1) (Hw _) (Og []) (.inl rfl) (.inl rfl) (jO (c:=.re b u) ⟨hb,r⟩) st (A3A (n:=n) (ps:=[]) (vd:=0) (kd:=1) (by omega) hb.m (.inl rfl) hb.ts (.inl rfl) (.inl rfl) (by simp) (by simp) (by have:=G6 u;omega) (by simp) (.inl rfl) M' (by decide) hb.cl (Vk L (n+21) u (by omega)) (C2u (L:=L) (n:=n+21)).ls)
 |.co b p ps none,⟨hb,a,h1,h2,f⟩,hn=>
  have k1:=a.k1;have k3:=a.k3;have e:DV ps=Ls ps:=lM (by omega);have d:=(yU (L:=L) (n:=n+60) (ps:=ps) hn (by omega) (by omega) h2).ls;rw[<-e,h1]at d;have st:=A73 (L:=L) (n:=n+1) hb.m (Hw b.ts) (L? (L:=L) (n:=n+21)).o ⟨_,_,e⟩ ⟨_,_,rfl⟩ d (A1d (L:=L) (n:=n+17) (by omega) a).ls (Sv L (n+21) p.out (JW a)).o (tJ (L:=L) (n:=n+19) hb.c1 hb.c2 hb.r1 hb.r2 (by omega) hb.ts).ls;exact A3B (n:=n+1) (Hw _) (Og ps) (.inr ⟨_,_,rfl⟩) (.inr ⟨_,_,rfl⟩) (jO (c:=.co b p ps none) ⟨hb,a,h1,h2,f⟩) st (A3A (n:=n) (ps:=ps) (vd:=0) (kd:=2) (by omega) hb.m (.inr (.inl rfl)) hb.ts (.inr ⟨_,_,rfl⟩) (.inr ⟨_,_,rfl⟩) (by omega) (λs g=>by rw[h2 s g];decide) (by have:=G6 p.out;omega) (lN a) (.inl rfl) M' (by decide) hb.cl (Vk L (n+21) _ (JW a)) (B6g (L:=L) (n:=n+16) (by omega) a).ls)
 |.co b p ps (some (k,vd)),⟨hb,a,h1,h2,f,i,j⟩,hn=>
  have k1:=a.k1;have k3:=a.k3;have e:DV ps=Ls ps:=lM (by omega);have d:=(yU (L:=L) (n:=n+60) (ps:=ps) hn (by omega) (by omega) h2).ls;rw[<-e,h1]at d;have st:=A72 (L:=L) (n:=n+1) hb.m (Hw b.ts) (B02 (L:=L) (n:=n+21) f).o i j ⟨_,_,e⟩ ⟨_,_,rfl⟩ d (A1d (L:=L) (n:=n+17) (by omega) a).ls (Sv L (n+21) p.out (JW a)).o (tJ (L:=L) (n:=n+19) hb.c1 hb.c2 hb.r1 hb.r2 (by omega) hb.ts).ls;exact A3B (n:=n+1) (Hw _) (Og ps) (.inr ⟨_,_,rfl⟩) (.inr ⟨_,_,rfl⟩) (jO (c:=.co b p ps (some (k,vd))) ⟨hb,a,h1,h2,f,i,j⟩) st (A3A (n:=n) (ps:=ps) (vd:=vd) (kd:=3) (by omega) hb.m (.inr (.inr rfl)) hb.ts (.inr ⟨_,_,rfl⟩) (.inr ⟨_,_,rfl⟩) (by omega) (λs g=>by rw[h2 s g];decide) (by have:=G6 p.out;omega) (lN a) (C2k f) (A3v f) (by omega) hb.cl (Vk L (n+21) _ (JW a)) (B6g (L:=L) (n:=n+16) (by omega) a).ls)
def B5J(j:40000<L)(h:c.Ok)(hn:¬c.ps.Nodup):CS (r! L (n+64)) FH [.agg c.cs] (S []):=by
 refine C2w (n:=n+1) Ma Eb oR ?_
 match c,h,hn with
 |.re b u,_,hn=>exact absurd List.nodup_nil hn
 |.co b p ps none,⟨hb,e,h1,h2,f⟩,hn=>
  have k1:=e.k1;have k3:=e.k3;have d:DV ps=Ls ps:=lM (by omega);have a:=(tH (L:=L) (n:=n+60) (ps:=ps) hn (by omega) h2).ls;rw[<-d,h1]at a;have st:=A3z (L:=L) (n:=n+1) hb.m (Hw b.ts) (L? (L:=L) (n:=n+21)).o ⟨_,_,d⟩ ⟨_,_,rfl⟩ a (A1d (L:=L) (n:=n+17) (by omega) e).ls (Sv L (n+21) p.out (JW e)).o (tJ (L:=L) (n:=n+19) hb.c1 hb.c2 hb.r1 hb.r2 (by omega) hb.ts).ls;exact A5t (n:=n+1) (Hw _) (Og ps) (.inr ⟨_,_,rfl⟩) (.inr ⟨_,_,rfl⟩) st
 |.co b p ps (some (k,vd)),⟨hb,e,h1,h2,f,g,i⟩,hn=>
  have k1:=e.k1;have k3:=e.k3;have d:DV ps=Ls ps:=lM (by omega);have a:=(tH (L:=L) (n:=n+60) (ps:=ps) hn (by omega) h2).ls;rw[<-d,h1]at a;have st:=A3y (L:=L) (n:=n+1) hb.m (Hw b.ts) (B02 (L:=L) (n:=n+21) f).o g i ⟨_,_,d⟩ ⟨_,_,rfl⟩ a (A1d (L:=L) (n:=n+17) (by omega) e).ls (Sv L (n+21) p.out (JW e)).o (tJ (L:=L) (n:=n+19) hb.c1 hb.c2 hb.r1 hb.r2 (by omega) hb.ts).ls;exact A5t (n:=n+1) (Hw _) (Og ps) (.inr ⟨_,_,rfl⟩) (.inr ⟨_,_,rfl⟩) st
end
end
section
variable{D r:Nat}{α:Type}
variable{L n:Nat}
def B3X(s:Ha):(sha s).length=32:=Yw _ 8
def A4G(c:Cd):c.id.length=32:=B3X _
def nP(c:Cd):c.id≠[]:=λh=>by have:=A4G c;rw[h]at this;cases this
def LA(gs:eo)(a:AV):Prop:=a=.list gs.length (gs.flatMap Cd.cs)\/(gs=[]/\a=Av)
section
variable{gs:eo}{a:AV}{c:Cd}{K:K2}{i:Nat}{H:Hp}
def LA.len(h:LA gs a):Bp Ak a K=K (I gs.length):=by
 rcases h with rfl|⟨rfl,rfl⟩<;>exact id rfl
def LA.ia(h:LA gs a)(hi:i<gs.length):D1 Ak a (I i) K=K (.iptr gs[i].cs):=by
 rcases h with rfl|⟨rfl,rfl⟩
 ·exact Xu (f:=Cd.cs) rfl (λ_=>Eb) hi
 ·simp at hi
def nH:AE Ae (.iptr c.cs) H K=K (.agg c.cs):=by
 match c with
 |.re b u=>exact id rfl
 |.co b p ps none=>exact id rfl
 |.co b p ps (some (k,vd))=>exact id rfl
abbrev C7:Is:=E4 0 ⟨0,0,0,0,0⟩ u0 [] [] Av [] [] Av 0 Av Av u0 r0 0
abbrev C42(c:Cd):Row:=.cells true Ad c.cs
def gE(gs:eo):List (Ha×Cd):=gs.map λc=>(c.id,c)
def YV{b:List (Ha×α)}{x:Ha}(h:x∉b.map (·.1)):MG b x=none:=by
 induction b with
 |nil=>rfl
 |cons e b ih=>
  simp only[XC,Xd,not_or]at h;unfold MG;rw[CD (Ne.symm h.1)];exact ih h.2
def Zr{b:List (Ha×α)}{x:Ha}{v:α}(h:x∉b.map (·.1)):Ml b x v=b++[(x,v)]:=by
 induction b with
 |nil=>rfl
 |cons e b ih=>
  simp only[XC,Xd,not_or]at h;unfold Ml;rw[CD (Ne.symm h.1),ih h.2];rfl
def Xi(gs:eo):(gE gs).map (·.1)=gs.map Cd.id:=by simp[gE]
end
structure GOk(gs:eo):Prop where
 ok:∀c∈gs,c.Ok
 nd:∀c∈gs,c.ps.Nodup
 ids:(gs.map Cd.id).Nodup
 len:gs.length<=8
section
variable{K:KV}{x:Af}{gs:eo}{a:AV}
abbrev DU(c:Cd):AV:=.agg c.cs
def C2E{k12:AV->KV}{w:AV}(m:GOk gs)(M:40000<L)(N:LA gs a)(Q:∀H,Ai H r=some (.map false (Df DU (gE gs)) none)->k12 w (.mp r) H=x):∀(f i:Nat)(H:Hp),i<=gs.length->gs.length-i<f->Ai H r=some (.map false (Df DU (gE (gs.take i))) none)->Wf H->
 YQ (L+20) (r! L (n+63)) K k12 f w (.mp r) a (I gs.length) (I i) H=x:=by
 intro f
 induction f with
 |zero=>intro i H _ h;omega
 |succ f ih=>
  intro i H hi X s wf;rw[xV];unfold YR HV G8 A2 MF Hv;by_cases h:i<gs.length
  ·have hm:=NT h;have q:=B26 (L:=L) (n:=n) M (m.ok _ hm) (m.nd _ hm);have d:gs[i].id∉(gE (gs.take i)).map (·.1):=λhc=>by
    rw[Xi]at hc;have u:=m.ids;rw[<-l38 i gs,XS,l36]at u;have P:gs[i].id∈(gs.drop i).map Cd.id:=PW.2 ⟨_,by rw[rF h];exact List.mem_cons_self,rfl⟩;exact u.2.2 _ hc _ P rfl
   rw[FG (by omega),Co,N.ia h,nH,Bv (cs:=C7) rfl,BQ (cs:=C7) (vs:=gs[i].cs) (Ax (by simp)) Eb rfl Ma];obtain⟨A,B,g,w1,k1⟩:=HF (e:=Ad) (zs:=C7) (vs:=gs[i].cs) wf Eb;rw[<-B,Br rfl Eb.symm g,AQ q (oR A)];have j:=(k1 _ _ s).1;have t:∀(F:Value->Af),Mt (S gs[i].id) F=F (SV gs[i].id):=λF=>id rfl;rw[t,A4p (f:=DU) (b:=gE (gs.take i)) (λK=>Z8 j),YV d];simp only[];rw[Fl,Fk,Bv (cs:=C7) rfl]
   erw[BQ (cs:=C7) (vs:=C7) (Ax (by simp)) rfl rfl rfl]
   obtain⟨V,C,O,R,y⟩:=HF (e:=Ad) (zs:=C7) (vs:=C7) w1 rfl;rw[<-C];have k:=(y _ _ j).1;have p:=(y _ _ g).1;have q1:∀{K},As Ah .eql (S gs[i].id) (S []) K=K (Bo false):=λ{K}=>by rw[Lb,HN (nP _)]
   simp only[gT,BW,q1,RF];rw[Ba,Br rfl Eb.symm p,t,jE (f:=DU) (v:=gs[i]) k,Zr d,Dd (by have:=m.len;omega)];have J:gE (gs.take i)++[(gs[i].id,gs[i])]=gE (gs.take (i+1)):=by
    rw[oJ h,gE,gE,XS];rfl
   rw[J];exact ih (i+1) _ (by omega) (by omega) ((BF k).trans rfl) (Bi R)
  ·rw[FB (by omega),Ba];have:i=gs.length:=by omega
   subst this;rw[wC]at s;exact Q H s
abbrev gV(gs:eo):AV:=.imap (Df DU (gE gs))
def vP{m:ND}{u o:UD}{ca cb ra rb:Ha}{T P ins b:AV}{kd id vd:Int}{r:RD}{H:Hp}(g:Sl T)(f:Sl P)(d:Sl ins)(e:Sl b):Fx true (D+3) (.agg (E4 kd m u ca cb T ra rb P id ins b o r vd)) (.agg (E4 kd m u ca cb T ra rb P id ins b o r vd)) H false:=by
 rcases g with rfl|⟨_,_,rfl⟩<;>rcases f with rfl|⟨_,_,rfl⟩<;>rcases d with rfl|⟨_,_,rfl⟩<;>rcases e with rfl|⟨_,_,rfl⟩<;>exact λK=>by kernel_rfl
def A4H{c:Cd}{H:Hp}:Fx true (D+3) (.agg c.cs) (.agg c.cs) H false:=by
 match c with
 |.re b u=>exact vP (Hw _) (Og _) (.inl rfl) (.inl rfl)
 |.co b p ps none=>exact vP (Hw _) (Og _) (.inr ⟨_,_,rfl⟩) (.inr ⟨_,_,rfl⟩)
 |.co b p ps (some (k,vd))=>exact vP (Hw _) (Og _) (.inr ⟨_,_,rfl⟩) (.inr ⟨_,_,rfl⟩)
def C3F{H:Hp}{es:List (Ha×Cd)}(h:Ai H r=some (.map false (Df DU es) none)):Fx true (D+4) (.mp r) (.imap (Df DU es)) H true:=by
 intro K;show IQ H r (λx=>qI x λes=>Rj (Ia true H (D+3)) es λ_ b=>K true (.imap b))=_;rw[Bn h];show Rj (Ia true H (D+3)) (Df DU es) _=_;have e:∀(es:List (Ha×Cd))(F:Bool->IH->Af),Rj (Ia true H (D+3)) (Df DU es) F=F false (Df DU es):=by
  intro es
  induction es with
  |nil=>intro F;rfl
  |cons a es ih=>
   intro F;show Ia true H (D+3) (.agg a.2.cs) (λq d=>Rj (Ia true H (D+3)) (Df DU es) λg f=>F (@Bool.rec (λ_=>Bool) g true q) ((SV a.1,d)::f))=_;rw[A4H,ih];rfl
 rw[e]
def B3j(e:GOk gs)(k:40000<L)(b:LA gs a)(K:KV)(j:∀g f,(∃q,Fx true depth g (.tup [gV gs,Bo true]) f q)->K g f=some (.tup [gV gs,Bo true],[])):(r! L (n+64)).call KB [a] [] K=some (.tup [gV gs,Bo true],[]):=by
 rw[O?];unfold eB A2 MF Hv;have em:∀(H:Hp)(K:KV),LX Ae H K=K (.mp (Ar H)) ((Ar H,.map false [] none)::H):=λH K=>by
  show It H (λs=>K (.mp s) ((s,.map false [] (mF Ae.d))::H))=_;rw[Ca];rfl
 rw[em];simp only[BH];have h:(AV.v (.int .i64 0))=I ((0:Nat):Int):=rfl;rw[b.len,h];refine C2E e k b (λH m=>?_) (L+20) 0 _ (by omega) (by have:=e.len;omega) (Ax (by simp)) (AF Fq);rw[b.len,DT,HN (by have:=e.len;omega),Ba];exact j _ _ ⟨_,eQ (D:=depth-1) (Ao (C3F (D:=depth-5) m) (Ao (q:=false) CA AI))⟩
end
end
section
variable{L n:Nat}
def cE(c:Cd):Ce Ha:=⟨decide (c.kd=1),c.ps⟩
def gr(gs:eo):List (Ha×Ce Ha):=gs.map λc=>(c.id,cE c)
def C0l{gs:eo}{s:Ha}:MG (gr gs) s=(MG (gE gs) s).map cE:=by
 unfold gr gE
 induction gs with
 |nil=>rfl
 |cons c gs ih=>
  simp only[XC];unfold MG;by_cases h:c.id=s
  ·simp[h]
  ·simp[h,ih]
def gU{q:Bool}{y:Bool->Af}:gdV q (.v undef) y=y false:=by cases q<;>exact id rfl
section
variable{gs:eo}{y m x z:Nat}{b:List (Ha×Bool)}{H H':Hp}{K:KV}
def B2b{c:Cd}{r:Nat}(h:Ai H r=some (C42 c)){K:K2}:AE Ab (.ptr r 31 0) H K=K (DV c.ps):=by
 match c with
 |.re b u=>exact AL (p:=31) rfl h (show 31<68 by decide)
 |.co b p ps none=>exact AL (p:=31) rfl h (show 31<68 by decide)
 |.co b p ps (some (k,vd))=>exact AL (p:=31) rfl h (show 31<68 by decide)
end
end
end Go.Abs
end
noncomputable section
end
noncomputable section
namespace Go.Abs
open Go.RowKit Go.Proofs
set_option maxRecDepth 100000
section
variable{L n:Nat}
def SA(l:List Ha)(a:AV):Prop:=a=Ls l\/(l=[]/\a=Av)
def My(l:List Ha):SA l (DV l):=by cases l with|nil=>exact .inr ⟨rfl,rfl⟩|cons p l=>exact .inl rfl
section
variable{l:List Ha}{a:AV}{i:Nat}{K:K2}{s:Ha}
def SA.len(h:SA l a):Bp Ab a K=K (I l.length):=by
 rcases h with rfl|⟨rfl,rfl⟩
 ·exact Nb
 ·exact id rfl
def SA.ia(h:SA l a)(hi:i<l.length):D1 Ab a (I i) K=K (.iptr [S l[i]]):=by
 rcases h with rfl|⟨rfl,rfl⟩
 ·exact Th hi
 ·simp at hi
def SA.fx(h:SA l a)(H:Hp):Fx true depth a a H false:=by
 rcases h with rfl|⟨rfl,rfl⟩<;>exact λK=>by kernel_rfl
def mN(s:Ha):List Ha->Nat->AV
 |[],_=>.tup [Bo false,I (-1)]
 |a::l,i=>if a=s then .tup [Bo true,I i] else mN s l (i+1)
def iS:∀(l:List Ha)(i:Nat),s∉l->mN s l i=.tup [Bo false,I (-1)]:=by
 intro l
 induction l with
 |nil=>intro i _;rfl
 |cons a l ih=>
  intro i h;simp only[Xd,not_or]at h;unfold mN;rw[CD (Ne.symm h.1)];exact ih _ h.2
def iR:∀(l:List Ha)(i:Nat),s∈l->∃k,∃h:k<l.length,l[k]=s/\(∀m(hm:m<k),l[m]≠s)/\mN s l i=.tup [Bo true,I ((i+k:Nat):Int)]:=by
 intro l
 induction l with
 |nil=>intro i h;cases h
 |cons a l ih=>
  intro i h;unfold mN;by_cases e:a=s
  ·exact⟨0,by simp,e,λm hm=>by omega,by rw[Dr e];rfl⟩
  ·obtain⟨k,c,h1,h2,b⟩:=ih (i+1) ((Xd.1 h).resolve_left (Ne.symm e));refine⟨k+1,by simp;omega,by simpa using h1,λm hm=>?_,by rw[CD e,b];congr 4;omega⟩;cases m with
   |zero=>exact e
   |succ m=>exact h2 m (by omega)
end
section
variable{K:KV}{x:Af}{l:List Ha}{a:AV}{s:Ha}{gs:eo}
def C08{k3:Ru}{H:Hp}(c:SA l a)(hb:l.length<1000){v:AV}(hv:K v H=x)(d:v=.tup [Bo false,I (-1)]->k3 H=x):∀(f i:Nat),i<=l.length->l.length-i<f->mN s (l.drop i) i=v->
 Wd (L+20) (r! L n) K k3 f a (S s) (I i) H=x:=by
 intro f
 induction f with
 |zero=>intro i _ h;omega
 |succ f ih=>
  intro i hi g b;rw[tD];unfold We HV A2 MF;rw[c.len];by_cases h:i<l.length
  ·rw[rF h]at b;unfold mN at b;rw[FG (by omega),Co,c.ia h,KD,Lb];by_cases e:l[i]=s
   ·rw[Dr e]at b;rw[GI e,Co,b];exact hv
   ·rw[CD e]at b;rw[HN e,Ba,Dd (by omega)];exact ih (i+1) (by omega) (by omega) b
  ·rw[FB (by omega),Ba];have:i=l.length:=by omega
   subst this;rw[List.drop_length]at b;exact d b.symm
def B6d(f:SA l a)(hb:l.length<1000)(g:2000<L):CS (r! L (n+1)) TJ [a,S s] (mN s l 0):=by
 intro K d;have fin:∀H,K (mN s l 0) H=some (mN s l 0,[]):=λH=>d _ _ (λb=>⟨false,by
  by_cases h:s∈l
  ·obtain⟨k,_,_,_,e⟩:=iR l 0 h;rw[e];exact λK=>by kernel_rfl
  ·rw[iS l 0 h];exact λK=>by kernel_rfl⟩)
 rw[xE];unfold YD A2 Hv;simp only[BH];have c:(AV.v (.int .i64 0))=I ((0:Nat):Int):=rfl;rw[c];refine C08 f hb (fin []) (λe=>?_) (L+20) 0 (by omega) (by omega) (by rw[rC]);have:=fin [];rw[e]at this;rw[e];exact this
end
end
section
variable{L n:Nat}
def CT(R:Rt)(f:Nat)(args:Is)(v:AV):Prop:=∀K:KV,(∀e d,(∃q,Fx true depth e v d q)->K e d=some (v,[]))->R.call f args [] K=some (v,[])
def CT.z{R:Rt}{f:Nat}{args args':Is}{v:AV}{H:Hp}{K:K2}(hc:CT R f args' v)(d:Rm true depth args args' H false):Aq R f args H K=K v:=JT hc d
def pk(c n:Int):Int:=(if c<0 then-(c+1) else c)%n
def Ft{c n:Int}(h:0<n):0<=pk c n/\pk c n<n:=⟨Int.emod_nonneg _ (by omega),Int.emod_lt_of_pos _ h⟩
section
variable{K:KV}{x:Af}{a b:AV}{s:Ha}{gs:eo}{H:Hp}
def LA.fx(h:LA gs a)(H:Hp):Fx true depth a a H false:=by rcases h with rfl|⟨_,rfl⟩<;>exact λK=>by kernel_rfl
def A5W:(∃h:s∈gs.map Cd.id,∃k,∃d:k<gs.length,MG (gE gs) s=some gs[k]/\mN s (gs.map Cd.id) 0=.tup [Bo true,I (k:Int)])\/(s∉gs.map Cd.id/\MG (gE gs) s=none/\mN s (gs.map Cd.id) 0=.tup [Bo false,I (-1)]):=by
 by_cases h:s∈gs.map Cd.id
 ·left;obtain⟨k,d,h1,h2,f⟩:=iR _ 0 h;refine⟨h,k,by simpa using d,?_,by rw[f,Kk]⟩;clear h f
  induction gs generalizing k with
  |nil=>simp at d
  |cons c gs ih=>
   show MG ((c.id,c)::gE gs) s=_;unfold MG;cases k with
   |zero=>simp at h1;rw[Dr h1];rfl
   |succ k=>
    have e:=h2 0 (by omega);simp at e;rw[CD e];exact ih k (by simpa using d) (by simpa using h1) (λm hm=>by simpa using h2 (m+1) (by omega))
 ·exact .inr ⟨h,YV (by rw[Xi];exact h),iS _ 0 h⟩
def zZ{z:Int}{K:K2}(h1: -9223372036854775808<z)(h2:z<9223372036854775808):MB .neg (I z) K=K (I (-z)):=by
 have e:MB .neg (I z) K=MQ .i64 (0-z) λz=>K (.v (.int .i64 z)):=rfl;rw[e,HP,Int.zero_sub,CX (by omega) (by omega)]
end
def J8(z:Int):Prop:= -9223372036854775808<=z/\z<9223372036854775808
section
variable{c m:Int}
def tL{K:K2}(hc:J8 c)(hm:0<m)(e:m<9223372036854775808){k1:K2}(d:k1= λv=>As Ac .rem v (I m) K):
 (As Ac .lss (I c) (.v (.int .i64 0)) λf=>A1 f (As Ac .add (I c) (.v (.int .i64 1)) λg=>MB .neg g λi=>k1 i) (k1 (I c)))=K (I (pk c m)):=by
 subst d;obtain⟨h1,h2⟩:=hc;rw[Dk];by_cases h:c<0
 ·rw[GI h,Co,Dl,CX (by omega) (by omega),zZ (by omega) (by omega)];show As Ac .rem (I (-(c+1))) (I m) K=_;rw[Q9 (by omega),Int.tmod_eq_emod_of_nonneg (by omega)];unfold pk;rw[Dr h]
 ·rw[HN h,Ba];show As Ac .rem (I c) (I m) K=_;rw[Q9 (by omega),Int.tmod_eq_emod_of_nonneg (by omega)];unfold pk;rw[CD h]
def gP(hc:J8 c)(hm:0<m)(d:m<9223372036854775808):PS (r! L (n+1)) Ht [I c,I m] (I (pk c m)):=by
 refine CS.ps (λK e=>?_) (λH=>λK=>by kernel_rfl);rw[uF];unfold WS A2;simp only[BH];exact(tL (K:=λv=>K v []) hc hm d rfl).trans (e _ _ (λb=>⟨false,λK=>by kernel_rfl⟩))
def A1e(hc:J8 c)(hm:0<m)(d:m<9223372036854775808):PS (r! L (n+1)) Mv [I c,I m] (I (pk c m)):=by
 refine CS.ps (λK e=>?_) (λH=>λK=>by kernel_rfl);rw[tR];unfold Wo A2;simp only[BH];exact(tL (K:=λv=>K v []) hc hm d rfl).trans (e _ _ (λb=>⟨false,λK=>by kernel_rfl⟩))
def MN(hc:J8 c)(hm:0<m)(d:m<9223372036854775808):PS (r! L (n+1)) BN [I c,I m] (I (pk c m)):=by
 refine CS.ps (λK e=>?_) (λH=>λK=>by kernel_rfl);rw[tT];unfold Wq A2;simp only[BH];exact(tL (K:=λv=>K v []) hc hm d rfl).trans (e _ _ (λb=>⟨false,λK=>by kernel_rfl⟩))
def tM(hc:J8 c)(hm:0<m)(d:m<9223372036854775808):PS (r! L (n+1)) J1 [I c,I m] (I (pk c m)):=by
 refine CS.ps (λK e=>?_) (λH=>λK=>by kernel_rfl);rw[tZ];unfold Wz A2;simp only[BH];exact(tL (K:=λv=>K v []) hc hm d rfl).trans (e _ _ (λb=>⟨false,λK=>by kernel_rfl⟩))
def MO(hc:J8 c)(hm:0<m)(d:m<9223372036854775808):PS (r! L (n+1)) Ct [I c,I m] (I (pk c m)):=by
 refine CS.ps (λK e=>?_) (λH=>λK=>by kernel_rfl);rw[tW];unfold Wv A2;simp only[BH];exact(tL (K:=λv=>K v []) hc hm d rfl).trans (e _ _ (λb=>⟨false,λK=>by kernel_rfl⟩))
end
section
variable{K:KV}{x:Af}{a:AV}{s:Ha}{gs:eo}{H:Hp}
def NA(ws:List Int)(w:AV):Prop:=(w=.list ws.length (Fi ws)\/(ws=[]/\w=Av))/\ws.length<9223372036854775808/\∀z∈ws,J8 z
def NA.len{ws:List Int}{w:AV}{K:K2}(h:NA ws w):Bp Bs w K=K (I ws.length):=by
 rcases h.1 with rfl|⟨rfl,rfl⟩<;>exact id rfl
end
end
section
variable{L n:Nat}
section
variable{c:Int}
def B6h{k m:Int}(a:0<=k)(h1:k<m):pk k m=k:=by
 unfold pk;rw[CD (by omega),Int.emod_eq_of_lt a h1]
def A9O:((List.range 7).all λi=>JQ (Bc (Du (r! L (n+42)) Gu [I (i:Nat)]) (.agg (uu i).cs)))=true:=by kernel_rfl
def A3x(hc:J8 c):PS (r! L (n+42)) Gu [I c] (.agg (CN (uu (pk c 7).toNat))):=by
 have pr:=Ft (c:=c) (n:=7) (by decide);obtain⟨k,b⟩:∃k:Nat,pk c 7=k:=⟨(pk c 7).toNat,by omega⟩
 have a:k<7:=by omega
 refine BM (λH K=>by kernel_rfl) ?_;have e:Du (r! L (n+42)) Gu [I c]=Du (r! L (n+42)) Gu [I (k:Nat)]:=by
  unfold Du;rw[YG,YG];unfold Ww HX;have h1:∀H K,Aq (r! L (n+41)) Ct [I c,.v (.int .i64 7)] H K=K (I (pk c 7)):=MO (n:=n+40) hc (by decide) (by decide);have h2:∀H K,Aq (r! L (n+41)) Ct [I (k:Int),.v (.int .i64 7)] H K=K (I (pk k 7)):=MO (n:=n+40) (by unfold J8;omega) (by decide) (by decide);simp only[h1,h2,b,B6h (k:=(k:Int)) (m:=7) (by omega) (by omega)]
 rw[e,b,mI];exact G9.1 A9O k (KT.2 a)
def B01:((List.range 3).all λi=>JQ (Bc (Du (r! L (n+2)) K8 [I (i:Nat)]) (.agg (rr (1+i)).cs)))=true:=by kernel_rfl
def B4o(hc:J8 c):PS (r! L (n+2)) K8 [I c] (.agg (rr (1+(pk c 3).toNat)).cs):=by
 have pr:=Ft (c:=c) (n:=3) (by decide);obtain⟨k,b⟩:∃k:Nat,pk c 3=k:=⟨(pk c 3).toNat,by omega⟩
 have a:k<3:=by omega
 refine BM (λH K=>by kernel_rfl) ?_;have e:Du (r! L (n+2)) K8 [I c]=Du (r! L (n+2)) K8 [I (k:Nat)]:=by
  unfold Du;rw[YE,YE];unfold Ws DI A2;have h1:∀H K,Aq (r! L (n+1)) BN [I c,.v (.int .i64 3)] H K=K (I (pk c 3)):=MN (n:=n) hc (by decide) (by decide);have h2:∀H K,Aq (r! L (n+1)) BN [I (k:Int),.v (.int .i64 3)] H K=K (I (pk k 3)):=MN (n:=n) (by unfold J8;omega) (by decide) (by decide);simp only[h1,h2,b,B6h (k:=(k:Int)) (m:=3) (by omega) (by omega)]
 rw[e,b,mI];exact G9.1 B01 k (KT.2 a)
def M_(c:Int):Ha:=sha (Jn [c])
def A15(e:40000<L)(h1: -10<=c)(h2:c<1090):PS (r! L (n+20)) Gt [I c] (S (M_ c)):=by
 refine CS.ps (λK d=>?_) (λH=>λK=>by kernel_rfl);rw[Vq];unfold Ol HX;have a:=F7 [c];have fx:Rm true depth [.sl 1 (Ar []) 0 1] [.list 1 (Fi [c])] ((Ar [],.cells false GL (Fi [c]))::[]) true:=
  Ao (q:=true) (q':=false) (VA (D:=depth-1) (q':=false) (Ax (by simp)) rfl (K7 (λz:Int=>Value.int .i64 z) [c])) AI
 rw[Xx,AQ (yS (L:=L) (n:=n+14) (l:=[c]) (by simp) (by simp;omega) (by simp;omega)) fx,AQ (A9A (L:=L+20) (n:=n+16) (s:=Jn [c]) (by simp only[Mr,Rk]at a;omega) (by simp only[Mr,Rk]at a;omega)) (q:=false) (λK=>by kernel_rfl)];exact d _ _ (λb=>⟨false,λK=>by kernel_rfl⟩)
end
end
section
variable{v:AV}{H:Hp}{i2 ie:TI}
variable{L n:Nat}
def vU{e sz n:Nat}{cs ys:Is}(h:AU H e sz v n cs)(w:Wf H)(u:ys.length=sz)(h1:ys.all AV.one=true)(hsz:sz≠0)(hz:(B0 ie.zero).length=sz)(t:∀s,(dG i2.d&&RW sz (.sl sz s 0 1))=true)(hb:(n+1)*ie.bytes<=70368744177664)(j:n+1<=70368744177664):
 ∃g a,(∀K:KV,Dy e sz ie i2 v (.sl sz (Ar H) 0 1) ((Ar H,.cells false e ys)::H) K=K g a)/\AU a e sz g (n+1) (cs++ys)/\Wf a/\Ar H<=Ar a/\(∀s x,Ai H s=some x->¬A4 v s->Ai a s=some x)/\(∀s,A4 g s->Ar H<=s):=by
 have m:AU ((Ar H,.cells false e ys)::H) e sz v n cs:=h.lat w (Lat.cons H _ (λ_=>False)) (λ_ _ h=>h);have f:AU ((Ar H,.cells false e ys)::H) e sz (.sl sz (Ar H) 0 1) 1 ys:=.inr ⟨Ar H,false,rfl,Ax (by simp),by omega⟩;obtain⟨g,a,h1,h2,p,q⟩:=apt (ie:=ie) (i2:=i2) m (λK=>OT (K:=K) f) (by omega) h1 hsz hz (t _) hb j;have i:=(Lat.cons H (.cells false e ys) (A4 v)).trans q (R:=A4 v) (λ_ _ h=>h) (λ_ _ h=>h);refine⟨g,a,h1,h2,i.wf w,i.nx,λs x k hn=>i.keep w s x k hn,λs k=>?_⟩;rw[p s k];exact l1u _
def C18{e sz n:Nat}{v x:AV}{cs ys:Is}(i:∀K:KV,FV e sz ie 1 [(0,sz,x)] H K=K (.sl sz (Ar H) 0 1) ((Ar H,.cells false e ys)::H))(h:AU H e sz v n cs)(w:Wf H)(k:ys.length=sz)(h1:ys.all AV.one=true)(hsz:sz≠0)(hz:(B0 ie.zero).length=sz)(m:∀s,(dG i2.d&&RW sz (.sl sz s 0 1))=true)(hb:(n+1)*ie.bytes<=70368744177664)(g:n+1<=70368744177664):
 ∃f a,(∀K:KV,(FV e sz ie 1 [(0,sz,x)] H λv1 j=>Dy e sz ie i2 v v1 j K)=K f a)/\AU a e sz f (n+1) (cs++ys)/\Wf a/\Ar H<=Ar a/\(∀s x,Ai H s=some x->¬A4 v s->Ai a s=some x)/\(∀s,A4 f s->Ar H<=s):=by
 obtain⟨f,a,a1,a2⟩:=vU (ie:=ie) (i2:=i2) h w k h1 hsz hz m hb g;exact⟨f,a,λK=>by rw[i];exact a1 K,a2⟩
def mY{i:TI}{s p e:Nat}{q:Bool}{cs vs:Is}{K:Ru}(f:Ai H s=some (.cells q e cs))(g:p+vs.length<=cs.length)(hz:i.size=vs.length)(h1:vs.all AV.one=true):DN i (.ptr s p 0) (.agg vs) H K=K (upd H s (.cells q e (splice cs p vs))):=by
 have d:DN i (.ptr s p 0) (.agg vs) H K=IQ H s λx=>gH x λq e cs=>He (.agg vs) λvs=>HQ vs 0 λn=>ck (Nat.beq n i.size) (ck (NQ vs) (Ey (Nat.add p 0) vs cs λa=>LJ H s (.cells q e a) K)):=rfl;rw[d,Bn f];show(He (.agg vs) λvs=>HQ vs 0 λn=>ck (Nat.beq n i.size) (ck (NQ vs) (Ey p vs cs λa=>LJ H s (.cells q e a) K)))=_;have hc:B0 (.agg vs)=vs:=rfl;rw[CM,hc,Cs,hz,FN,h1,Kk,oH];show Ey p vs cs _=_;rw[Ix _ _ _ _ (by omega),Dg]
theorem AU.one{e sz n:Nat}{cs:Is}(h:AU H e sz v n cs):AV.one v=true:=by
 rcases h with⟨rfl,_⟩|⟨r,q,rfl,_⟩<;>rfl
def AU.cell{e sz n:Nat}{cs:Is}(h:AU H e sz v n cs):B0 v=[v]:=by
 rcases h with⟨rfl,_⟩|⟨r,q,rfl,_⟩<;>rfl
def tmV(t:Int×Int):Hx:=[.int .i64 t.1,.string ⟨⟨qn t.2⟩⟩,.string ⟨⟨qd t.2⟩⟩]
def C1Y(l:kG):l.flatMap OZ=(l.flatMap tmV).map λx=>.v x:=by
 induction l with
 |nil=>rfl
 |cons k l ih=>rw[oK,oK,XS,ih];rfl
def C0d{D:Nat}{b:Bool}{l:kG}(h:AU H Bf 3 v l.length (l.flatMap OZ))(f:l=[]->v=Av):∃q,Fx b (D+1) v (FI l) H q:=by
 rcases h with⟨rfl,h2,_⟩|⟨r,q,rfl,h2,d⟩
 ·cases l with
  |nil=>exact⟨false,CA⟩
  |cons a l=>simp at h2
 ·cases l with
  |nil=>have:=f rfl;cases this
  |cons a l=>
   refine⟨true,?_⟩;show Fx b (D+1) _ (.list (a::l).length ((a::l).flatMap OZ)) H true;rw[C1Y]at h2 d⊢;exact VA (q':=false) h2 d (K7 _root_.id _)
def L7(x:List Int):Nat->kG
 |0=>[]
 |i+1=>if pk (x.getD i 0) 17-8≠0/\(L7 x i).length<5 then L7 x i++[(1+(i:Int),pk (x.getD i 0) 17-8)] else L7 x i
def A5l(x:List Int):∀i,i<=6->TmsOk (L7 x i)/\(L7 x i).length<=5/\∀t∈L7 x i,t.1<=i:=by
 intro i
 induction i with
 |zero=>intro _;exact⟨⟨by simp[L7],by simp[L7],by simp[L7]⟩,by simp[L7],by simp[L7]⟩
 |succ i ih=>
  intro hi;obtain⟨h1,h2,f⟩:=ih (by omega);have pr:=Ft (c:=x.getD i 0) (n:=17) (by decide);unfold L7;by_cases h:pk (x.getD i 0) 17-8≠0/\(L7 x i).length<5
  ·rw[Dr h];refine⟨⟨by simp;omega,λt d=>?_,?_⟩,by simp;omega,λt d=>?_⟩
   ·rcases Zx.1 d with d|d
    ·exact h1.rng t d
    ·rw[XR]at d;subst d;simp only;omega
   ·rw[List.pairwise_append];refine⟨h1.asc,by simp,λa g b hb=>?_⟩;rw[XR]at hb;subst hb;have:=f a g;simp only;omega
   ·rcases Zx.1 d with d|d
    ·have:=f t d;omega
    ·rw[XR]at d;subst d;simp only;omega
  ·rw[CD h];exact⟨h1,h2,λt d=>by have:=f t d;omega⟩
def C5V{t:Int×Int}{K:KV}:FV Bf 3 BY 1 [(0,3,.agg (OZ t))] H K=K (.sl 3 (Ar H) 0 1) ((Ar H,.cells false Bf (OZ t))::H):=by
 have e:FV Bf 3 BY 1 [(0,3,.agg (OZ t))] H K=It H (λs=>K (.sl 3 s 0 1) ((s,.cells false Bf (OZ t))::H)):=r_ rfl;rw[e,Ca]
section
variable{K:KV}{x:Af}{xs:List Int}{ca cb ra rb:Ha}{b r z:Nat}{c e:Int}
abbrev C3O(ca cb ra rb:Ha)(v:AV):Row:=.cells true EI [S ca,S cb,v,S ra,S rb]
structure FmH(b r z:Nat)(xs:List Int)(ca cb ra rb:Ha)(ts:kG)(v:AV)(H:Hp):Prop where
 hb:Ai H b=some (c_ Jr (Fi xs))
 hr:Ai H r=some (C3O ca cb ra rb v)
 hz:∃cs,cs.length=5/\Ai H z=some (c_ EI cs)
 sl:AU H Bf 3 v ts.length (ts.flatMap OZ)
 nl:ts=[]->v=Av
 nb:¬A4 v b
 nr:¬A4 v r
 nz:¬A4 v z
 wf:Wf H
def B1F{t:TI}{e sz n:Nat}{cs:Is}{K:K2}(a:t.d=.slice e sz)(h:AU H e sz v n cs):Bp t v K=K (I n):=Ly a h
def C3N{C:AV->KV}(hL:100<L)(P:b≠r)(Z:z≠r)(hx:xs.length=6)(w:∀c∈xs,J8 c)(u:∀v H,FmH b r z xs ca cb ra rb (L7 xs 6) v H->C (.ptr z 0 0) (.ptr r 0 0) H=x):
 ∀(f i:Nat)(v:AV)(H:Hp),i<=6->6-i<f->FmH b r z xs ca cb ra rb (L7 xs i) v H->
 Uj (L+20) (r! L (n+40)) K C f (.ptr b 0 0) (.ptr z 0 0) (.ptr r 0 0) (I i) H=x:=by
 intro f
 induction f with
 |zero=>intro i v H _ h;omega
 |succ f ih=>
  intro i v H hi hf a;rw[pJ];unfold Uk DI XT HV Dm A2 Hv;have e6:(AV.v (.int .i64 6))=I ((6:Nat):Int):=rfl;rw[e6];by_cases h:i<6
  ·have g:i<xs.length:=by omega
   have R:(Fi xs).getD i .dk=I (xs.getD i 0):=by rw[Xg g];simp[List.getD,KL g]
   have hc:J8 (xs.getD i 0):=by simp only[List.getD,KL g,l1q];exact w _ (NT g)
   have pr:=Ft (c:=xs.getD i 0) (n:=17) (by decide);have ld:∀{K},AE Ac (.ptr b i 0) H K=K (I (xs.getD i 0)):=λ{K}=>by rw[AL (p:=i) rfl a.hb (by simp[Fi];omega),R]
   have Y:∀H K,Aq (r! L (n+40)) J1 [I (xs.getD i 0),.v (.int .i64 17)] H K=K (I (pk (xs.getD i 0) 17)):=tM (n:=n+39) hc (by decide) (by decide);have ia:∀{K:K2},D1 B8 (.ptr b 0 0) (I i) K=K (.ptr b i 0):=λ{K}=>EO i rfl rfl h;rw[FG (by omega),Co];simp only[BH];rw[ia,ld,Y,J6,CX (by omega) (by omega)];have V:∀{K:K2},As Ac .neq (I (pk (xs.getD i 0) 17-8)) (.v (.int .i64 0)) K=K (Bo (decide (pk (xs.getD i 0) 17-8≠0))):=λ{K}=>by rw[I6];simp
   rw[V];have d:L7 xs (i+1)=if pk (xs.getD i 0) 17-8≠0/\(L7 xs i).length<5 then L7 xs i++[(1+(i:Int),pk (xs.getD i 0) 17-8)] else L7 xs i:=rfl
   have add:∀{K:K2},As Ac .add (I i) (.v (.int .i64 1)) K=K (I ((i+1:Nat):Int)):=λ{K}=>Dd (by omega);by_cases F:pk (xs.getD i 0) 17-8=0
   ·rw[HN (by simpa using F)];simp only[eP,BW,RF];rw[Ba,add];rw[CD λa=>a.1 F]at d;exact ih (i+1) v H (by omega) (by omega) (by rw[d];exact a)
   ·have ab:=(A5l xs i (by omega)).2.1;have f2:∀K:K2,CL 2 (.ptr r 0 0) K=K (.ptr r 2 0):=λK=>id rfl;have l2:∀K,AE AD (.ptr r 2 0) H K=K v:=λK=>AL (p:=2) rfl a.hr (by simp);rw[GI (by simpa using F)];simp only[gT,BW,Ul,f2,l2,B1F (t:=AD) rfl a.sl];have e5:(AV.v (.int .i64 5))=I ((5:Nat):Int):=rfl;rw[e5];by_cases h5:(L7 xs i).length<5
    ·rw[FG (by omega),BW,Co];rw[Dr ⟨F,h5⟩]at d;have X:∀H K,Aq (r! L (n+40)) Gv [I (pk (xs.getD i 0) 17-8),.v (.int .i64 4)] H K=K (.tup [.agg (qa (pk (xs.getD i 0) 17-8)),I 0]):=B05 (by omega) (by omega);rw[X,Fl,Fk,Bv (cs:=[zS,zS]) rfl];have A:=Ax (H:=H) (x:=.cells true Bu [zS,zS]) (by simp);have w1:=AF (x:=.cells true Bu [zS,zS]) a.wf;rw[BQ (vs:=qa (pk (xs.getD i 0) 17-8)) A rfl rfl rfl];have k:=AC (q:=true) (e:=Bu) (cs:=qa (pk (xs.getD i 0) 17-8)) A;have kp:∀s x,Ai H s=some x->Ai (upd ((Ar H,c_ Bu [zS,zS])::H) (Ar H) (c_ Bu (qa (pk (xs.getD i 0) 17-8)))) s=some x:=λs x j=>by
      have:=a.wf.lt j;rw[Ag (by omega)];exact A6 this j
     have w2:=Bi (r:=Ar H) (y:=.cells true Bu (qa (pk (xs.getD i 0) 17-8))) w1;generalize upd ((Ar H,c_ Bu [zS,zS])::H) (Ar H) (c_ Bu (qa (pk (xs.getD i 0) 17-8)))=D at k kp w2;generalize Ar H=r1 at k;have l3:∀K,AE AD (.ptr r 2 0) D K=K v:=λK=>AL (p:=2) rfl (kp _ _ a.hr) (by simp);have l4:∀K,AE A8 (.ptr r1 0 0) D K=K (.agg (qa (pk (xs.getD i 0) 17-8))):=λK=>Br rfl rfl k;have M:∀{K:K2},As Ac .add (.v (.int .i64 1)) (I i) K=K (I (1+(i:Int))):=λ{K}=>by rw[Dl,CX (by omega) (by omega)]
     have bd:∀{K:K2},BR BY [(0,1,I (1+(i:Int))),(1,2,.agg (qa (pk (xs.getD i 0) 17-8)))] K=K (.agg (OZ (1+(i:Int),pk (xs.getD i 0) 17-8))):=λ{K}=>id rfl;rw[l3,M,l4,bd];have aa:AU D Bf 3 v (L7 xs i).length ((L7 xs i).flatMap OZ):=by
      rcases a.sl with j|⟨r2,q,h2,N,O⟩
      ·exact .inl j
      ·exact .inr ⟨r2,q,h2,kp _ _ N,O⟩
     obtain⟨v',H',a1,a2,a3,a4,J,a6⟩:=C18 (ie:=BY) (i2:=AD) (λK=>C5V (t:=(1+(i:Int),pk (xs.getD i 0) 17-8)) (H:=D) (K:=K)) aa w2 rfl rfl (by decide) rfl (λ_=>rfl) (by show _*40<=_;omega) (by omega);have B:Ai H' r=some (C3O ca cb ra rb v):=J _ _ (kp _ _ a.hr) a.nr;rw[a1,D5 B (by simp) rfl (AU.cell a2) (AU.one a2),add];obtain⟨cs,Q,m⟩:=a.hz;have new:∀{s x},Ai H s=some x->¬A4 v' s:=λ{s x}j hv=>by
      have h1:=w2.lt (kp _ _ j);have h2:=a6 _ hv;omega
     refine ih (i+1) v' _ (by omega) (by omega) ⟨?_,AC B,⟨cs,Q,?_⟩,?_,?_,new a.hb,new a.hr,new m,Bi a3⟩
     ·rw[Ag P];exact J _ _ (kp _ _ a.hb) a.nb
     ·rw[Ag Z];exact J _ _ (kp _ _ m) a.nz
     ·rw[d,Ez,l2l];have:(List.flatMap OZ [(1+(i:Int),pk (xs.getD i 0) 17-8)])=OZ (1+(i:Int),pk (xs.getD i 0) 17-8):=by simp
      rw[this];rcases a2 with j|⟨r2,q,h2,N,O⟩
      ·exact .inl j
      ·refine .inr ⟨r2,q,h2,?_,O⟩;rw[Ag (λe=>new a.hr (by rw[h2,<-e];exact⟨_,_,_,rfl⟩))];exact N
     ·rw[d];intro hc;simp at hc
    ·rw[FB (by omega),BW,Ba,add];rw[CD λa=>h5 a.2]at d;exact ih (i+1) v H (by omega) (by omega) (by rw[d];exact a)
  ·have:i=6:=by omega
   subst this;rw[FB (by omega),Ba];exact u v H a
def zJ(l:List Int):(Fi l).all AV.one=true:=by
 rw[G9];intro a d;obtain⟨z,_,rfl⟩:=PW.1 d;rfl
def B09(N:100<L)(hc:J8 c)(hr:J8 e)(P:xs.length=6)(hi:∀c∈xs,J8 c):CS (r! L (n+41)) R4 [I c,I e,.agg (Fi xs)] (.agg [S (qn (pk c 161-80)),S (qd (pk c 161-80)),FI (L7 xs 6),S (qn (pk e 9)),S (qd (pk e 9))]):=by
 intro K M;rw[uA];unfold W0 A2;have p1:=Ft (c:=c) (n:=161) (by decide);have p2:=Ft (c:=e) (n:=9) (by decide);have k1:∀H K,Aq (r! L (n+40)) J1 [I c,.v (.int .i64 161)] H K=K (I (pk c 161)):=tM (n:=n+39) hc (by decide) (by decide);have Q:∀H K,Aq (r! L (n+40)) J1 [I e,.v (.int .i64 9)] H K=K (I (pk e 9)):=tM (n:=n+39) hr (by decide) (by decide);have R:∀H K,Aq (r! L (n+40)) Gv [I (pk c 161-80),.v (.int .i64 4)] H K=K (.tup [.agg (qa (pk c 161-80)),I 0]):=B05 (by omega) (by omega);have V:∀H K,Aq (r! L (n+40)) Gv [I (pk e 9),.v (.int .i64 4)] H K=K (.tup [.agg (qa (pk e 9)),I 0]):=B05 (by omega) (by omega);rw[Es (zJ xs)];have hb:=Ax (H:=[]) (x:=.cells true Jr (Fi xs)) (by simp);have w0:=AF (x:=.cells true Jr (Fi xs)) Fq;generalize ((Ar [],c_ Jr (Fi xs))::([]:Hp))=j at hb w0;generalize Ar []=b at hb;rw[Bv (cs:=[zS,zS,Av,zS,zS]) rfl];have hz:=Ax (H:=j) (x:=.cells true EI [zS,zS,Av,zS,zS]) (by simp);have b1:=A6 (x:=.cells true EI [zS,zS,Av,zS,zS]) (w0.lt hb) hb;have nb:=w0.lt hb;have w1:=AF (x:=.cells true EI [zS,zS,Av,zS,zS]) w0;generalize ((Ar j,c_ EI [zS,zS,Av,zS,zS])::j)=w at hz w1 b1;generalize Ar j=z at hz nb;have A:∀{K:K2},BR Fh [] K=K (.agg [zS,zS,Av,zS,zS]):=λ{K}=>id rfl;rw[A,Bv (cs:=[zS,zS,Av,zS,zS]) rfl];obtain⟨k,B,r2,X,kp⟩:=HF (e:=EI) (zs:=[zS,zS,Av,zS,zS]) (vs:=[zS,zS,Av,zS,zS]) w1 rfl;rw[BQ (vs:=[zS,zS,Av,zS,zS]) (Ax (by simp)) rfl rfl rfl,<-B];obtain⟨b2,a⟩:=kp _ _ b1;obtain⟨Y,d⟩:=kp _ _ hz;generalize Ar w=r at r2 a d;have C:∀K:K2,CL 0 (.ptr r 0 0) K=K (.ptr r 0 0):=λK=>id rfl;have f3:∀K:K2,CL 3 (.ptr r 0 0) K=K (.ptr r 3 0):=λK=>id rfl;rw[k1,J6,CX (by omega) (by omega),R,Fl,Fk,C,mY (vs:=qa (pk c 161-80)) r2 (show 0+2<=5 by decide) rfl rfl];have p:=AC (q:=true) (e:=EI) (cs:=splice [zS,zS,Av,zS,zS] 0 (qa (pk c 161-80))) r2;have m:=b2;have t:=Y;rw[<-Ag (H:=k) (r:=r) (y:=.cells true EI (splice [zS,zS,Av,zS,zS] 0 (qa (pk c 161-80)))) a]at m;rw[<-Ag (H:=k) (r:=r) (y:=.cells true EI (splice [zS,zS,Av,zS,zS] 0 (qa (pk c 161-80)))) d]at t;have u:=Bi (r:=r) (y:=.cells true EI (splice [zS,zS,Av,zS,zS] 0 (qa (pk c 161-80)))) X;generalize upd k r (c_ EI (splice [zS,zS,Av,zS,zS] 0 (qa (pk c 161-80))))=Z at p m t u;rw[Q,V,Fl,Fk,f3,mY (vs:=qa (pk e 9)) p (show 3+2<=5 by decide) rfl rfl];simp only[BH];refine C3N (n:=n) (b:=b) (r:=r) (z:=z) (ca:=qn (pk c 161-80)) (cb:=qd (pk c 161-80)) (ra:=qn (pk e 9)) (rb:=qd (pk e 9)) N a d P hi ?_ (L+20) 0 Av _ (by omega) (by omega) ⟨?_,AC p,⟨[zS,zS,Av,zS,zS],rfl,?_⟩,.inl ⟨rfl,rfl,rfl⟩,λ_=>rfl,?_,?_,?_,Bi u⟩
 ·intro v H f;obtain⟨cs,g,i⟩:=f.hz;have o:[S (qn (pk c 161-80)),S (qd (pk c 161-80)),v,S (qn (pk e 9)),S (qd (pk e 9))].all AV.one=true:=by
   show(true&&(true&&(AV.one v&&(true&&(true&&true)))))=true;rw[AU.one f.sl];rfl
  rw[Br rfl rfl f.hr,BQ i (by exact g.symm) (by exact g.symm) o,Br rfl rfl (AC i)];refine M _ _ (λq=>?_);have s:AU (upd H z (c_ EI [S (qn (pk c 161-80)),S (qd (pk c 161-80)),v,S (qn (pk e 9)),S (qd (pk e 9))])) Bf 3 v (L7 xs 6).length ((L7 xs 6).flatMap OZ):=by
   rcases f.sl with O|⟨r2,q,h2,F,J⟩
   ·exact .inl O
   ·refine .inr ⟨r2,q,h2,?_,J⟩;rw[Ag (λe=>f.nz (by rw[h2,<-e];exact⟨_,_,_,rfl⟩))];exact F
  obtain⟨q',hq⟩:=C0d (D:=depth-2) (b:=q) s f.nl;exact⟨_,LL (D:=depth-1) (Ao (q:=false) CA (Ao (q:=false) CA (Ao hq (Ao (q:=false) CA (Ao (q:=false) CA AI)))))⟩
 ·rw[Ag a];exact m
 ·rw[Ag d];exact t
 all_goals (rintro⟨_,_,_,h⟩;cases h)
end
end
end Go.Abs
end
