import Derived.Test.YtdaajghondabnaaGreatDoorP16
import Derived.Test.YtdaajghondabnaaGreatDoorP17
import Derived.Test.YtdaajghondabnaaGreatDoorP18
import Derived.Test.YtdaajghondabnaaGreatDoorP19
import Derived.Test.YtdaajghondabnaaGreatDoorP20
import Derived.Test.YtdaajghondabnaaGreatDoorP21
import Derived.Test.YtdaajghondabnaaGreatDoorP22
import Derived.Test.YtdaajghondabnaaGreatDoorP23
import Derived.Test.YtdaajghondabnaaGreatDoorP24
import Derived.Test.YtdaajghondabnaaGreatDoorP25
import Derived.Test.YtdaajghondabnaaGreatDoorP26
set_option linter.all false
set_option maxHeartbeats 100000000
noncomputable section
namespace Go.Abs
open Go.RowKit Go.Proofs
set_option maxRecDepth 100000
section
variable{a b:Nat}
variable{L n:Nat}
def RV.ls{R:Rt}{f:Nat}{args':Is}{v:AV}(h:RV R f args' v):LS R f args' v:=λq args H c K=>by rw[<-zO];exact rR h c
def wS(op l r:Nat):Nd:=⟨op,[],[],u0,0,l,r⟩
def poN(l e:Nat):Nd:=⟨7,[],[],u0,mV e,l,0⟩
def A3n:Option Nat->AV
 |some k=>.tup [.agg (Cx (uu k)),I 0]
 |none=>.tup [.agg Gf,I 90]
section
variable{id:Int}{o:UD}{xs:List Nd}{ks:Hb}{l r e i k:Nat}{q:Option Nat}{I1:AV}
def vB(h1:1<=ks.length)(d:ks.length<=3):(∃a,ks=[a])\/(∃a b,ks=[a,b])\/∃a b c,ks=[a,b,c]:=by
 match ks,h1,d with
 |[a],_,_=>exact .inl ⟨a,rfl⟩
 |[a,b],_,_=>exact .inr (.inl ⟨a,b,rfl⟩)
 |[a,b,c],_,_=>exact .inr (.inr ⟨a,b,c,rfl⟩)
def Xd(h:l<[a].length):l=0:=by simpa using h
def Xc(h:l<[a,b].length):l=0\/l=1:=by simp at h;omega
def Xb{a b c:Nat}(h:l<[a,b,c].length):l=0\/l=1\/l=2:=by simp at h;omega
def lt5(h:e<5):e=0\/e=1\/e=2\/e=3\/e=4:=by omega
def A9Q(h1:1<=ks.length)(f:ks.length<=3)(d:l<ks.length)(hr:r<ks.length):RV (rt (L+20) (n+2)) F4 [.agg (B0 id (BC ks) (Ci xs) o),.agg (wS 3 l r).cs,I ks.length] (.tup [Bo true,Bo true]):=by
 rcases vB h1 f with⟨a,rfl⟩|⟨a,b,rfl⟩|⟨a,b,c,rfl⟩
 ·obtain rfl:=Xd d;obtain rfl:=Xd hr;exact λb=>by kernel_rfl
 ·rcases Xc d with rfl|rfl<;>rcases Xc hr with rfl|rfl<;>(exact λb=>by kernel_rfl)
 ·rcases Xb d with rfl|rfl|rfl<;>rcases Xb hr with rfl|rfl|rfl<;>(exact λb=>by kernel_rfl)
attribute [local irreducible] oP rt in
def A9K(h1:1<=ks.length)(j:ks.length<=3)(g:l<ks.length)(hr:r<ks.length)(f:PO (rt (L+20) (n+41)) TF [.agg (uu (ks.getD l 0)).cs,.agg (uu (ks.getD r 0)).cs] (Kh q)):CS (rt (L+20) (n+42)) CK [.agg (B0 id (BC ks) (Ci xs) o),.agg (wS 3 l r).cs,I ks.length,RM ks] (A3n q):=by
 intro K h;have d:=(A9Q (L:=L) (n:=n+39) (id:=id) (o:=o) (xs:=xs) h1 j g hr).ls;rewrite[HC];unfold Hj q4N;rewrite[zO];generalize rt (L+20) (n+41)=R at*
 revert f d
 rcases vB h1 j with⟨a,rfl⟩|⟨a,b,rfl⟩|⟨a,b,c,rfl⟩
 ·obtain rfl:=Xd g;obtain rfl:=Xd hr;intro f d;simp only[VQ,VP]at f;(conv=>lhs;whnf);rewrite[d false _ _ ?hq];(case hq=>exact λK=>by kernel_rfl);(conv=>lhs;whnf);rewrite[f];cases q<;>(conv=>lhs;whnf)<;>exact h _ _ (λb=>⟨false,λK=>by kernel_rfl⟩)
 ·rcases Xc g with rfl|rfl<;>rcases Xc hr with rfl|rfl<;>(intro f d;simp only[VQ,VP]at f;(conv=>lhs;whnf);rewrite[d false _ _ ?hq];(case hq=>exact λK=>by kernel_rfl);(conv=>lhs;whnf);rewrite[f];cases q<;>(conv=>lhs;whnf)<;>exact h _ _ (λb=>⟨false,λK=>by kernel_rfl⟩))
 ·rcases Xb g with rfl|rfl|rfl<;>rcases Xb hr with rfl|rfl|rfl<;>(intro f d;simp only[VQ,VP]at f;(conv=>lhs;whnf);rewrite[d false _ _ ?hq];(case hq=>exact λK=>by kernel_rfl);(conv=>lhs;whnf);rewrite[f];cases q<;>(conv=>lhs;whnf)<;>exact h _ _ (λb=>⟨false,λK=>by kernel_rfl⟩))
def A9U(h1:1<=ks.length)(f:ks.length<=3)(d:l<ks.length)(hr:r<ks.length):RV (rt (L+20) (n+2)) F4 [.agg (B0 id (BC ks) (Ci xs) o),.agg (wS 4 l r).cs,I ks.length] (.tup [Bo true,Bo true]):=by
 rcases vB h1 f with⟨a,rfl⟩|⟨a,b,rfl⟩|⟨a,b,c,rfl⟩
 ·obtain rfl:=Xd d;obtain rfl:=Xd hr;exact λb=>by kernel_rfl
 ·rcases Xc d with rfl|rfl<;>rcases Xc hr with rfl|rfl<;>(exact λb=>by kernel_rfl)
 ·rcases Xb d with rfl|rfl|rfl<;>rcases Xb hr with rfl|rfl|rfl<;>(exact λb=>by kernel_rfl)
attribute [local irreducible] oP rt in
def A9O(h1:1<=ks.length)(j:ks.length<=3)(g:l<ks.length)(hr:r<ks.length)(f:PO (rt (L+20) (n+41)) K5 [.agg (uu (ks.getD l 0)).cs,.agg (uu (ks.getD r 0)).cs] (Kh q)):CS (rt (L+20) (n+42)) CK [.agg (B0 id (BC ks) (Ci xs) o),.agg (wS 4 l r).cs,I ks.length,RM ks] (A3n q):=by
 intro K h;have d:=(A9U (L:=L) (n:=n+39) (id:=id) (o:=o) (xs:=xs) h1 j g hr).ls;rewrite[HC];unfold Hj q4N;rewrite[zO];generalize rt (L+20) (n+41)=R at*
 revert f d
 rcases vB h1 j with⟨a,rfl⟩|⟨a,b,rfl⟩|⟨a,b,c,rfl⟩
 ·obtain rfl:=Xd g;obtain rfl:=Xd hr;intro f d;simp only[VQ,VP]at f;(conv=>lhs;whnf);rewrite[d false _ _ ?hq];(case hq=>exact λK=>by kernel_rfl);(conv=>lhs;whnf);rewrite[f];cases q<;>(conv=>lhs;whnf)<;>exact h _ _ (λb=>⟨false,λK=>by kernel_rfl⟩)
 ·rcases Xc g with rfl|rfl<;>rcases Xc hr with rfl|rfl<;>(intro f d;simp only[VQ,VP]at f;(conv=>lhs;whnf);rewrite[d false _ _ ?hq];(case hq=>exact λK=>by kernel_rfl);(conv=>lhs;whnf);rewrite[f];cases q<;>(conv=>lhs;whnf)<;>exact h _ _ (λb=>⟨false,λK=>by kernel_rfl⟩))
 ·rcases Xb g with rfl|rfl|rfl<;>rcases Xb hr with rfl|rfl|rfl<;>(intro f d;simp only[VQ,VP]at f;(conv=>lhs;whnf);rewrite[d false _ _ ?hq];(case hq=>exact λK=>by kernel_rfl);(conv=>lhs;whnf);rewrite[f];cases q<;>(conv=>lhs;whnf)<;>exact h _ _ (λb=>⟨false,λK=>by kernel_rfl⟩))
def A9S(h1:1<=ks.length)(f:ks.length<=3)(d:l<ks.length)(hr:r<ks.length):RV (rt (L+20) (n+2)) F4 [.agg (B0 id (BC ks) (Ci xs) o),.agg (wS 5 l r).cs,I ks.length] (.tup [Bo true,Bo true]):=by
 rcases vB h1 f with⟨a,rfl⟩|⟨a,b,rfl⟩|⟨a,b,c,rfl⟩
 ·obtain rfl:=Xd d;obtain rfl:=Xd hr;exact λb=>by kernel_rfl
 ·rcases Xc d with rfl|rfl<;>rcases Xc hr with rfl|rfl<;>(exact λb=>by kernel_rfl)
 ·rcases Xb d with rfl|rfl|rfl<;>rcases Xb hr with rfl|rfl|rfl<;>(exact λb=>by kernel_rfl)
attribute [local irreducible] oP rt in
def A9M(h1:1<=ks.length)(j:ks.length<=3)(g:l<ks.length)(hr:r<ks.length)(f:PO (rt (L+20) (n+41)) TG [.agg (uu (ks.getD l 0)).cs,.agg (uu (ks.getD r 0)).cs] (Kh q)):CS (rt (L+20) (n+42)) CK [.agg (B0 id (BC ks) (Ci xs) o),.agg (wS 5 l r).cs,I ks.length,RM ks] (A3n q):=by
 intro K h;have d:=(A9S (L:=L) (n:=n+39) (id:=id) (o:=o) (xs:=xs) h1 j g hr).ls;rewrite[HC];unfold Hj q4N;rewrite[zO];generalize rt (L+20) (n+41)=R at*
 revert f d
 rcases vB h1 j with⟨a,rfl⟩|⟨a,b,rfl⟩|⟨a,b,c,rfl⟩
 ·obtain rfl:=Xd g;obtain rfl:=Xd hr;intro f d;simp only[VQ,VP]at f;(conv=>lhs;whnf);rewrite[d false _ _ ?hq];(case hq=>exact λK=>by kernel_rfl);(conv=>lhs;whnf);rewrite[f];cases q<;>(conv=>lhs;whnf)<;>exact h _ _ (λb=>⟨false,λK=>by kernel_rfl⟩)
 ·rcases Xc g with rfl|rfl<;>rcases Xc hr with rfl|rfl<;>(intro f d;simp only[VQ,VP]at f;(conv=>lhs;whnf);rewrite[d false _ _ ?hq];(case hq=>exact λK=>by kernel_rfl);(conv=>lhs;whnf);rewrite[f];cases q<;>(conv=>lhs;whnf)<;>exact h _ _ (λb=>⟨false,λK=>by kernel_rfl⟩))
 ·rcases Xb g with rfl|rfl|rfl<;>rcases Xb hr with rfl|rfl|rfl<;>(intro f d;simp only[VQ,VP]at f;(conv=>lhs;whnf);rewrite[d false _ _ ?hq];(case hq=>exact λK=>by kernel_rfl);(conv=>lhs;whnf);rewrite[f];cases q<;>(conv=>lhs;whnf)<;>exact h _ _ (λb=>⟨false,λK=>by kernel_rfl⟩))
def A9T(h1:1<=ks.length)(f:ks.length<=3)(d:l<ks.length)(hr:r<ks.length):RV (rt (L+20) (n+2)) F4 [.agg (B0 id (BC ks) (Ci xs) o),.agg (wS 6 l r).cs,I ks.length] (.tup [Bo true,Bo true]):=by
 rcases vB h1 f with⟨a,rfl⟩|⟨a,b,rfl⟩|⟨a,b,c,rfl⟩
 ·obtain rfl:=Xd d;obtain rfl:=Xd hr;exact λb=>by kernel_rfl
 ·rcases Xc d with rfl|rfl<;>rcases Xc hr with rfl|rfl<;>(exact λb=>by kernel_rfl)
 ·rcases Xb d with rfl|rfl|rfl<;>rcases Xb hr with rfl|rfl|rfl<;>(exact λb=>by kernel_rfl)
attribute [local irreducible] oP rt in
def A9N(h1:1<=ks.length)(j:ks.length<=3)(g:l<ks.length)(hr:r<ks.length)(f:PO (rt (L+20) (n+41)) TH [.agg (uu (ks.getD l 0)).cs,.agg (uu (ks.getD r 0)).cs] (Kh q)):CS (rt (L+20) (n+42)) CK [.agg (B0 id (BC ks) (Ci xs) o),.agg (wS 6 l r).cs,I ks.length,RM ks] (A3n q):=by
 intro K h;have d:=(A9T (L:=L) (n:=n+39) (id:=id) (o:=o) (xs:=xs) h1 j g hr).ls;rewrite[HC];unfold Hj q4N;rewrite[zO];generalize rt (L+20) (n+41)=R at*
 revert f d
 rcases vB h1 j with⟨a,rfl⟩|⟨a,b,rfl⟩|⟨a,b,c,rfl⟩
 ·obtain rfl:=Xd g;obtain rfl:=Xd hr;intro f d;simp only[VQ,VP]at f;(conv=>lhs;whnf);rewrite[d false _ _ ?hq];(case hq=>exact λK=>by kernel_rfl);(conv=>lhs;whnf);rewrite[f];cases q<;>(conv=>lhs;whnf)<;>exact h _ _ (λb=>⟨false,λK=>by kernel_rfl⟩)
 ·rcases Xc g with rfl|rfl<;>rcases Xc hr with rfl|rfl<;>(intro f d;simp only[VQ,VP]at f;(conv=>lhs;whnf);rewrite[d false _ _ ?hq];(case hq=>exact λK=>by kernel_rfl);(conv=>lhs;whnf);rewrite[f];cases q<;>(conv=>lhs;whnf)<;>exact h _ _ (λb=>⟨false,λK=>by kernel_rfl⟩))
 ·rcases Xb g with rfl|rfl|rfl<;>rcases Xb hr with rfl|rfl|rfl<;>(intro f d;simp only[VQ,VP]at f;(conv=>lhs;whnf);rewrite[d false _ _ ?hq];(case hq=>exact λK=>by kernel_rfl);(conv=>lhs;whnf);rewrite[f];cases q<;>(conv=>lhs;whnf)<;>exact h _ _ (λb=>⟨false,λK=>by kernel_rfl⟩))
def A9R(h1:1<=ks.length)(f:ks.length<=3)(d:l<ks.length)(he:e<5):RV (rt (L+20) (n+2)) F4 [.agg (B0 id (BC ks) (Ci xs) o),.agg (poN l e).cs,I ks.length] (.tup [Bo true,Bo true]):=by
 rcases vB h1 f with⟨a,rfl⟩|⟨a,b,rfl⟩|⟨a,b,c,rfl⟩
 ·obtain rfl:=Xd d;rcases lt5 he with rfl|rfl|rfl|rfl|rfl<;>(exact λb=>by kernel_rfl)
 ·rcases Xc d with rfl|rfl<;>rcases lt5 he with rfl|rfl|rfl|rfl|rfl<;>(exact λb=>by kernel_rfl)
 ·rcases Xb d with rfl|rfl|rfl<;>rcases lt5 he with rfl|rfl|rfl|rfl|rfl<;>(exact λb=>by kernel_rfl)
attribute [local irreducible] oP rt in
def A9L(h1:1<=ks.length)(j:ks.length<=3)(g:l<ks.length)(he:e<5)(f:PO (rt (L+20) (n+41)) LH [.agg (uu (ks.getD l 0)).cs,.agg [I (mV e),I 1]] (Kh q)):CS (rt (L+20) (n+42)) CK [.agg (B0 id (BC ks) (Ci xs) o),.agg (poN l e).cs,I ks.length,RM ks] (A3n q):=by
 intro K h;have d:=(A9R (L:=L) (n:=n+39) (id:=id) (o:=o) (xs:=xs) h1 j g he).ls;rewrite[HC];unfold Hj q4N;rewrite[zO];generalize rt (L+20) (n+41)=R at*
 revert f d
 rcases vB h1 j with⟨a,rfl⟩|⟨a,b,rfl⟩|⟨a,b,c,rfl⟩
 ·obtain rfl:=Xd g;rcases lt5 he with rfl|rfl|rfl|rfl|rfl<;>(intro f d;simp only[VQ,VP]at f;(conv=>lhs;whnf);rewrite[d false _ _ ?hq];(case hq=>exact λK=>by kernel_rfl);(conv=>lhs;whnf);refine T_ (f _ _) ?_;cases q<;>(conv=>lhs;whnf)<;>exact h _ _ (λb=>⟨false,λK=>by kernel_rfl⟩))
 ·rcases Xc g with rfl|rfl<;>rcases lt5 he with rfl|rfl|rfl|rfl|rfl<;>(intro f d;simp only[VQ,VP]at f;(conv=>lhs;whnf);rewrite[d false _ _ ?hq];(case hq=>exact λK=>by kernel_rfl);(conv=>lhs;whnf);refine T_ (f _ _) ?_;cases q<;>(conv=>lhs;whnf)<;>exact h _ _ (λb=>⟨false,λK=>by kernel_rfl⟩))
 ·rcases Xb g with rfl|rfl|rfl<;>rcases lt5 he with rfl|rfl|rfl|rfl|rfl<;>(intro f d;simp only[VQ,VP]at f;(conv=>lhs;whnf);rewrite[d false _ _ ?hq];(case hq=>exact λK=>by kernel_rfl);(conv=>lhs;whnf);refine T_ (f _ _) ?_;cases q<;>(conv=>lhs;whnf)<;>exact h _ _ (λb=>⟨false,λK=>by kernel_rfl⟩))
def A6O(h1:1<=ks.length)(f:ks.length<=3)(d:l<ks.length)(hr:r<ks.length):RV (rt (L+20) (n+2)) BW [XY I1 (RM ks),fM (GI.getD 3 []) oQ Fh,.agg (wS 3 l r).cs] (Bo true):=by
 rcases vB h1 f with⟨a,rfl⟩|⟨a,b,rfl⟩|⟨a,b,c,rfl⟩
 ·obtain rfl:=Xd d;obtain rfl:=Xd hr;exact λb=>by kernel_rfl
 ·rcases Xc d with rfl|rfl<;>rcases Xc hr with rfl|rfl<;>(exact λb=>by kernel_rfl)
 ·rcases Xb d with rfl|rfl|rfl<;>rcases Xb hr with rfl|rfl|rfl<;>(exact λb=>by kernel_rfl)
attribute [local irreducible] oP rt in
def A8K(h1:1<=ks.length)(h:ks.length<=3)(g:l<ks.length)(hr:r<ks.length)(d:PO (rt (L+20) (n+40)) Xp [.agg (uu (ks.getD l 0)).cs,.agg (uu (ks.getD r 0)).cs] (Kh (some k))):CS (rt (L+20) (n+41)) Fh [XY I1 (RM ks),.agg (wS 3 l r).cs] (.tup [.agg (Cx (uu k)),I 0]):=by
 intro K f;rewrite[Rm];unfold Jk LR;rewrite[zO];generalize rt (L+20) (n+40)=R at*
 revert d
 rcases vB h1 h with⟨a,rfl⟩|⟨a,b,rfl⟩|⟨a,b,c,rfl⟩
 ·obtain rfl:=Xd g;obtain rfl:=Xd hr;intro d;simp only[VQ,VP]at d;(conv=>lhs;whnf);rewrite[d];(conv=>lhs;whnf);exact f _ _ (λb=>⟨false,λK=>by kernel_rfl⟩)
 ·rcases Xc g with rfl|rfl<;>rcases Xc hr with rfl|rfl<;>(intro d;simp only[VQ,VP]at d;(conv=>lhs;whnf);rewrite[d];(conv=>lhs;whnf);exact f _ _ (λb=>⟨false,λK=>by kernel_rfl⟩))
 ·rcases Xb g with rfl|rfl|rfl<;>rcases Xb hr with rfl|rfl|rfl<;>(intro d;simp only[VQ,VP]at d;(conv=>lhs;whnf);rewrite[d];(conv=>lhs;whnf);exact f _ _ (λb=>⟨false,λK=>by kernel_rfl⟩))
def A6S(h1:1<=ks.length)(f:ks.length<=3)(d:l<ks.length)(hr:r<ks.length):RV (rt (L+20) (n+2)) BW [XY I1 (RM ks),fM (GI.getD 4 []) oQ D5,.agg (wS 4 l r).cs] (Bo true):=by
 rcases vB h1 f with⟨a,rfl⟩|⟨a,b,rfl⟩|⟨a,b,c,rfl⟩
 ·obtain rfl:=Xd d;obtain rfl:=Xd hr;exact λb=>by kernel_rfl
 ·rcases Xc d with rfl|rfl<;>rcases Xc hr with rfl|rfl<;>(exact λb=>by kernel_rfl)
 ·rcases Xb d with rfl|rfl|rfl<;>rcases Xb hr with rfl|rfl|rfl<;>(exact λb=>by kernel_rfl)
attribute [local irreducible] oP rt in
def A8O(h1:1<=ks.length)(h:ks.length<=3)(g:l<ks.length)(hr:r<ks.length)(d:PO (rt (L+20) (n+40)) Lm [.agg (uu (ks.getD l 0)).cs,.agg (uu (ks.getD r 0)).cs] (Kh (some k))):CS (rt (L+20) (n+41)) D5 [XY I1 (RM ks),.agg (wS 4 l r).cs] (.tup [.agg (Cx (uu k)),I 0]):=by
 intro K f;rewrite[Nt];unfold Gn LR;rewrite[zO];generalize rt (L+20) (n+40)=R at*
 revert d
 rcases vB h1 h with⟨a,rfl⟩|⟨a,b,rfl⟩|⟨a,b,c,rfl⟩
 ·obtain rfl:=Xd g;obtain rfl:=Xd hr;intro d;simp only[VQ,VP]at d;(conv=>lhs;whnf);rewrite[d];(conv=>lhs;whnf);exact f _ _ (λb=>⟨false,λK=>by kernel_rfl⟩)
 ·rcases Xc g with rfl|rfl<;>rcases Xc hr with rfl|rfl<;>(intro d;simp only[VQ,VP]at d;(conv=>lhs;whnf);rewrite[d];(conv=>lhs;whnf);exact f _ _ (λb=>⟨false,λK=>by kernel_rfl⟩))
 ·rcases Xb g with rfl|rfl|rfl<;>rcases Xb hr with rfl|rfl|rfl<;>(intro d;simp only[VQ,VP]at d;(conv=>lhs;whnf);rewrite[d];(conv=>lhs;whnf);exact f _ _ (λb=>⟨false,λK=>by kernel_rfl⟩))
def A6Q(h1:1<=ks.length)(f:ks.length<=3)(d:l<ks.length)(hr:r<ks.length):RV (rt (L+20) (n+2)) BW [XY I1 (RM ks),fM (GI.getD 5 []) oQ Ed,.agg (wS 5 l r).cs] (Bo true):=by
 rcases vB h1 f with⟨a,rfl⟩|⟨a,b,rfl⟩|⟨a,b,c,rfl⟩
 ·obtain rfl:=Xd d;obtain rfl:=Xd hr;exact λb=>by kernel_rfl
 ·rcases Xc d with rfl|rfl<;>rcases Xc hr with rfl|rfl<;>(exact λb=>by kernel_rfl)
 ·rcases Xb d with rfl|rfl|rfl<;>rcases Xb hr with rfl|rfl|rfl<;>(exact λb=>by kernel_rfl)
attribute [local irreducible] oP rt in
def A8M(h1:1<=ks.length)(h:ks.length<=3)(g:l<ks.length)(hr:r<ks.length)(d:PO (rt (L+20) (n+40)) Xq [.agg (uu (ks.getD l 0)).cs,.agg (uu (ks.getD r 0)).cs] (Kh (some k))):CS (rt (L+20) (n+41)) Ed [XY I1 (RM ks),.agg (wS 5 l r).cs] (.tup [.agg (Cx (uu k)),I 0]):=by
 intro K f;rewrite[Pj];unfold HE LR;rewrite[zO];generalize rt (L+20) (n+40)=R at*
 revert d
 rcases vB h1 h with⟨a,rfl⟩|⟨a,b,rfl⟩|⟨a,b,c,rfl⟩
 ·obtain rfl:=Xd g;obtain rfl:=Xd hr;intro d;simp only[VQ,VP]at d;(conv=>lhs;whnf);rewrite[d];(conv=>lhs;whnf);exact f _ _ (λb=>⟨false,λK=>by kernel_rfl⟩)
 ·rcases Xc g with rfl|rfl<;>rcases Xc hr with rfl|rfl<;>(intro d;simp only[VQ,VP]at d;(conv=>lhs;whnf);rewrite[d];(conv=>lhs;whnf);exact f _ _ (λb=>⟨false,λK=>by kernel_rfl⟩))
 ·rcases Xb g with rfl|rfl|rfl<;>rcases Xb hr with rfl|rfl|rfl<;>(intro d;simp only[VQ,VP]at d;(conv=>lhs;whnf);rewrite[d];(conv=>lhs;whnf);exact f _ _ (λb=>⟨false,λK=>by kernel_rfl⟩))
def A6R(h1:1<=ks.length)(f:ks.length<=3)(d:l<ks.length)(hr:r<ks.length):RV (rt (L+20) (n+2)) BW [XY I1 (RM ks),fM (GI.getD 6 []) oQ DU,.agg (wS 6 l r).cs] (Bo true):=by
 rcases vB h1 f with⟨a,rfl⟩|⟨a,b,rfl⟩|⟨a,b,c,rfl⟩
 ·obtain rfl:=Xd d;obtain rfl:=Xd hr;exact λb=>by kernel_rfl
 ·rcases Xc d with rfl|rfl<;>rcases Xc hr with rfl|rfl<;>(exact λb=>by kernel_rfl)
 ·rcases Xb d with rfl|rfl|rfl<;>rcases Xb hr with rfl|rfl|rfl<;>(exact λb=>by kernel_rfl)
attribute [local irreducible] oP rt in
def A8N(h1:1<=ks.length)(h:ks.length<=3)(g:l<ks.length)(hr:r<ks.length)(d:PO (rt (L+20) (n+40)) Xr [.agg (uu (ks.getD l 0)).cs,.agg (uu (ks.getD r 0)).cs] (Kh (some k))):CS (rt (L+20) (n+41)) DU [XY I1 (RM ks),.agg (wS 6 l r).cs] (.tup [.agg (Cx (uu k)),I 0]):=by
 intro K f;rewrite[O0];unfold GS LR;rewrite[zO];generalize rt (L+20) (n+40)=R at*
 revert d
 rcases vB h1 h with⟨a,rfl⟩|⟨a,b,rfl⟩|⟨a,b,c,rfl⟩
 ·obtain rfl:=Xd g;obtain rfl:=Xd hr;intro d;simp only[VQ,VP]at d;(conv=>lhs;whnf);rewrite[d];(conv=>lhs;whnf);exact f _ _ (λb=>⟨false,λK=>by kernel_rfl⟩)
 ·rcases Xc g with rfl|rfl<;>rcases Xc hr with rfl|rfl<;>(intro d;simp only[VQ,VP]at d;(conv=>lhs;whnf);rewrite[d];(conv=>lhs;whnf);exact f _ _ (λb=>⟨false,λK=>by kernel_rfl⟩))
 ·rcases Xb g with rfl|rfl|rfl<;>rcases Xb hr with rfl|rfl|rfl<;>(intro d;simp only[VQ,VP]at d;(conv=>lhs;whnf);rewrite[d];(conv=>lhs;whnf);exact f _ _ (λb=>⟨false,λK=>by kernel_rfl⟩))
def A6P(h1:1<=ks.length)(f:ks.length<=3)(d:l<ks.length)(he:e<5):RV (rt (L+20) (n+2)) BW [XY I1 (RM ks),fM (GI.getD 7 []) B9z ED,.agg (poN l e).cs] (Bo true):=by
 rcases vB h1 f with⟨a,rfl⟩|⟨a,b,rfl⟩|⟨a,b,c,rfl⟩
 ·obtain rfl:=Xd d;rcases lt5 he with rfl|rfl|rfl|rfl|rfl<;>(exact λb=>by kernel_rfl)
 ·rcases Xc d with rfl|rfl<;>rcases lt5 he with rfl|rfl|rfl|rfl|rfl<;>(exact λb=>by kernel_rfl)
 ·rcases Xb d with rfl|rfl|rfl<;>rcases lt5 he with rfl|rfl|rfl|rfl|rfl<;>(exact λb=>by kernel_rfl)
attribute [local irreducible] oP rt in
def A8L(h1:1<=ks.length)(h:ks.length<=3)(g:l<ks.length)(he:e<5)(d:PO (rt (L+20) (n+40)) SY [.agg (uu (ks.getD l 0)).cs,.agg [I (mV e),I 1]] (Kh (some k))):CS (rt (L+20) (n+41)) ED [XY I1 (RM ks),.agg (poN l e).cs] (.tup [.agg (Cx (uu k)),I 0]):=by
 intro K f;rewrite[Qs];unfold I6 Dz QY Qa Km FQ A3 Kn;rewrite[zO];generalize rt (L+20) (n+40)=R at*
 revert d
 rcases vB h1 h with⟨a,rfl⟩|⟨a,b,rfl⟩|⟨a,b,c,rfl⟩
 ·obtain rfl:=Xd g;rcases lt5 he with rfl|rfl|rfl|rfl|rfl<;>(intro d;simp only[VQ,VP]at d;(conv=>lhs;whnf);dsimp only[poN];rewrite[d];(conv=>lhs;whnf);exact f _ _ (λb=>⟨false,λK=>by kernel_rfl⟩))
 ·rcases Xc g with rfl|rfl<;>rcases lt5 he with rfl|rfl|rfl|rfl|rfl<;>(intro d;simp only[VQ,VP]at d;(conv=>lhs;whnf);dsimp only[poN];rewrite[d];(conv=>lhs;whnf);exact f _ _ (λb=>⟨false,λK=>by kernel_rfl⟩))
 ·rcases Xb g with rfl|rfl|rfl<;>rcases lt5 he with rfl|rfl|rfl|rfl|rfl<;>(intro d;simp only[VQ,VP]at d;(conv=>lhs;whnf);dsimp only[poN];rewrite[d];(conv=>lhs;whnf);exact f _ _ (λb=>⟨false,λK=>by kernel_rfl⟩))
end
end
section
variable(L n:Nat)
def A0O:((List.range 11).all λk=>(λi=>JQ (Ba (Du (r! L (n+40)) Ez [.agg (fR i)]) (Bo true))) (k+0))=true:=by kernel_rfl
def A0N:((List.range 11).all λk=>(λi=>JQ (Ba (Du (r! L (n+40)) Ez [.agg (fR i)]) (Bo true))) (k+11))=true:=by kernel_rfl
def A0M:((List.range 11).all λk=>(λi=>JQ (Ba (Du (r! L (n+40)) Ez [.agg (fR i)]) (Bo true))) (k+22))=true:=by kernel_rfl
def A6T(i:Nat)(h:i<33):PS (r! L (n+40)) Ez [.agg (fR i)] (Bo true):=by
 refine BJ (λH=>by first|exact λK=>by kernel_rfl) ?_;by_cases a:i<11
 ·have:=GG.1 (A0O L n) (i-0) (KR.2 (by omega));have e:i-0+0=i:=by omega
  simp only[e]at this;exact this
 by_cases h1:i<22
 ·have:=GG.1 (A0N L n) (i-11) (KR.2 (by omega));have e:i-11+11=i:=by omega
  simp only[e]at this;exact this
 by_cases h2:i<33
 ·have:=GG.1 (A0M L n) (i-22) (KR.2 (by omega));have e:i-22+22=i:=by omega
  simp only[e]at this;exact this
 ·omega
def A0R:((List.range 11).all λk=>(λi=>JQ (Ba (Du (r! L (n+40)) IP [.agg (fR i)]) (S (frt i)))) (k+0))=true:=by kernel_rfl
def A0Q:((List.range 11).all λk=>(λi=>JQ (Ba (Du (r! L (n+40)) IP [.agg (fR i)]) (S (frt i)))) (k+11))=true:=by kernel_rfl
def A0P:((List.range 11).all λk=>(λi=>JQ (Ba (Du (r! L (n+40)) IP [.agg (fR i)]) (S (frt i)))) (k+22))=true:=by kernel_rfl
def A6U(i:Nat)(h:i<33):PS (r! L (n+40)) IP [.agg (fR i)] (S (frt i)):=by
 refine BJ (λH=>by first|exact λK=>by kernel_rfl) ?_;by_cases a:i<11
 ·have:=GG.1 (A0R L n) (i-0) (KR.2 (by omega));have e:i-0+0=i:=by omega
  simp only[e]at this;exact this
 by_cases h1:i<22
 ·have:=GG.1 (A0Q L n) (i-11) (KR.2 (by omega));have e:i-11+11=i:=by omega
  simp only[e]at this;exact this
 by_cases h2:i<33
 ·have:=GG.1 (A0P L n) (i-22) (KR.2 (by omega));have e:i-22+22=i:=by omega
  simp only[e]at this;exact this
 ·omega
end
section
variable{at_:Int}
variable{L n:Nat}
section
variable{id:Int}{o:UD}{xs:List Nd}{ks:Hb}{i j k:Nat}{I1:AV}
def A91(d:ks.length<=3):RV (rt (L+20) (n+2)) BW [XY I1 (RM ks),fM (GI.getD 2 []) B9K FR,.agg (dC i).cs] (Bo true):=by
 match ks,d with
 |[],_=>exact λb=>by kernel_rfl
 |[a],_=>exact λb=>by kernel_rfl
 |[a,b],_=>exact λb=>by kernel_rfl
 |[a,b,c],_=>exact λb=>by kernel_rfl
def A92(d:ks.length<=3):RV (rt (L+20) (n+2)) BW [XY I1 (RM ks),fM (GI.getD 1 []) Av DV,.agg (cnN i k).cs] (Bo true):=by
 match ks,d with
 |[],_=>exact λb=>by kernel_rfl
 |[a],_=>exact λb=>by kernel_rfl
 |[a,b],_=>exact λb=>by kernel_rfl
 |[a,b,c],_=>exact λb=>by kernel_rfl
def B33{U:AV}(h1:1<=ks.length)(e:ks.length<=3)(d:j<ks.length):RV (rt (L+20) (n+2)) FR [XY (BC ks) U,.agg (dC j).cs] (.tup [.agg (Cx (uu (ks.getD j 0))),I 0]):=by
 rcases vB h1 e with⟨a,rfl⟩|⟨a,b,rfl⟩|⟨a,b,c,rfl⟩
 ·obtain rfl:=Xd d;exact λb=>by kernel_rfl
 ·rcases Xc d with rfl|rfl<;>exact λb=>by kernel_rfl
 ·rcases Xb d with rfl|rfl|rfl<;>exact λb=>by kernel_rfl
attribute [local irreducible] oP rt in
def B34{C:Is}(hv:PO (rt (L+20) (n+40)) Ez [.agg (fR i)] (Bo true))(c:PO (rt (L+20) (n+40)) Mk [.agg (uu k).cs] (Bo true)):CS (rt (L+20) (n+41)) DV [.iptr C,.agg (cnN i k).cs] (.tup [.agg (Cx (uu k)),I 0]):=by
 intro K a;rewrite[O8];unfold GT LR;rewrite[zO];generalize rt (L+20) (n+40)=R at*
 conv=>lhs;whnf
 refine T_ (hv _ _) ?_
 conv=>lhs;whnf
 simp only[Dy]
 dsimp only[cnN]
 rewrite[c]
 conv=>lhs;whnf
 exact a _ _ (λb=>⟨false,λK=>by kernel_rfl⟩)
attribute [local irreducible] oP rt R7 in
def B4d(hv:PO (rt (L+20) (n+40)) F6 [.agg (fR i)] (Bo true))(c:PO (rt (L+20) (n+40)) F5 [.agg (uu k).cs] (Bo true)):CS (rt (L+20) (n+41)) F4 [.agg (B0 id (BC ks) (Ci xs) o),.agg (cnN i k).cs,I at_] (.tup [Bo true,Bo false]):=by
 intro K a;rewrite[Vt];unfold Ot Dz XW Dk A3 Kn Ga;rewrite[zO];generalize rt (L+20) (n+40)=R at*
 conv=>lhs;whnf
 refine T_ (hv _ _) ?_
 conv=>lhs;whnf
 refine T_ (c _ _) ?_
 conv=>lhs;whnf
 refine T_ (C48 (x:=cnN i k)) ?_
 conv=>lhs;whnf
 exact a _ _ (λb=>⟨false,λK=>by kernel_rfl⟩)
attribute [local irreducible] oP rt in
def B4b(hv:PO (rt (L+20) (n+40)) F6 [.agg (fR i)] (Bo true))(c:PO (rt (L+20) (n+40)) F5 [.agg (uu k).cs] (Bo true)){w:AV}:CS (rt (L+20) (n+42)) CK [.agg (B0 id (BC ks) (Ci xs) o),.agg (cnN i k).cs,I at_,w] (.tup [.agg (Cx (uu k)),I 0]):=by
 intro K d;have a:=(B4d (id:=id) (o:=o) (xs:=xs) (ks:=ks) (at_:=at_) hv c).ls;clear hv c;rewrite[HC];unfold Hj q4N;rewrite[zO];generalize rt (L+20) (n+41)=R at*
 conv=>lhs;whnf
 rewrite[a false _ _ ?hq]
 case hq=>exact λK=>by kernel_rfl
 conv=>lhs;whnf
 exact d _ _ (λb=>⟨false,λK=>by kernel_rfl⟩)
end
end
section
section
variable(L n:Nat)
def C50:List (UD×Int):=[(⟨1,2,0,1,0,1,0,1,0,1,0,1,0,1,[49],[49],[48],[49],0,1⟩,0),(⟨0,1,0,1,1,2,0,1,0,1,0,1,0,1,[49],[49],[48],[49],0,1⟩,0),(u0,70),(⟨0,1,0,1,0,1,0,1,0,1,0,1,0,1,[49],[49],[48],[49],0,2⟩,0),
 (u0,70),(⟨0,1,0,1,0,1,0,1,1,2,0,1,0,1,[49],[49],[48],[49],0,1⟩,0),(⟨1,1,0,1,0,1,0,1,0,1,0,1,0,1,[49],[49],[48],[49],0,1⟩,0)]
def usq(k:Nat):UD×Int:=C50.getD k (u0,0)
def B45:((List.range 7).all λi=>JQ (Ba (Du (rt (L+20) (n+40)) LH [.agg (uu i).cs,.agg [I 1,I 2]]) (.tup [.agg (usq i).1.cs,I (usq i).2])))=true:=by kernel_rfl
def C2w(i:Nat)(h:i<7):PS (rt (L+20) (n+40)) LH [.agg (uu i).cs,.agg [I 1,I 2]] (.tup [.agg (usq i).1.cs,I (usq i).2]):=by
 refine BJ (λH=>by first|exact λK=>by kernel_rfl) ?_;exact GG.1 (B45 L n) i (KR.2 h)
end
variable{L n:Nat}
section
variable{id:Int}{o:UD}{xs:List Nd}{ks:Hb}{i j k l:Nat}{I1:AV}
def sqN(l:Nat):Nd:=⟨8,[],[],u0,0,l,0⟩
def B4c(h1:1<=ks.length)(e:ks.length<=3)(d:l<ks.length):RV (rt (L+20) (n+2)) F4 [.agg (B0 id (BC ks) (Ci xs) o),.agg (sqN l).cs,I ks.length] (.tup [Bo true,Bo true]):=by
 rcases vB h1 e with⟨a,rfl⟩|⟨a,b,rfl⟩|⟨a,b,c,rfl⟩
 ·obtain rfl:=Xd d;exact λb=>by kernel_rfl
 ·rcases Xc d with rfl|rfl<;>exact λb=>by kernel_rfl
 ·rcases Xb d with rfl|rfl|rfl<;>exact λb=>by kernel_rfl
attribute [local irreducible] oP rt in
def B4a{u:UD}{e:Int}(he:e=0\/e=70)(h1:1<=ks.length)(m:ks.length<=3)(g:l<ks.length)(f:PO (rt (L+20) (n+41)) LH [.agg (uu (ks.getD l 0)).cs,.agg [I 1,I 2]] (.tup [.agg u.cs,I e])):CS (rt (L+20) (n+42)) CK [.agg (B0 id (BC ks) (Ci xs) o),.agg (sqN l).cs,I ks.length,RM ks] (if e=0 then .tup [.agg u.cs,I 0] else .tup [.agg Gf,I 90]):=by
 intro K h;have d:=(B4c (L:=L) (n:=n+39) (id:=id) (o:=o) (xs:=xs) h1 m g).ls;rewrite[HC];unfold Hj q4N;rewrite[zO];generalize rt (L+20) (n+41)=R at*
 revert f d
 rcases vB h1 m with⟨a,rfl⟩|⟨a,b,rfl⟩|⟨a,b,c,rfl⟩
 ·obtain rfl:=Xd g;(intro f d;simp only[VQ,VP]at f;(conv=>lhs;whnf);rewrite[d false _ _ ?hq];(case hq=>exact λK=>by kernel_rfl);(conv=>lhs;whnf);refine T_ (f _ _) ?_;rcases he with rfl|rfl<;>(conv=>lhs;whnf)<;>exact h _ _ (λb=>⟨false,λK=>by kernel_rfl⟩))
 ·rcases Xc g with rfl|rfl<;>(intro f d;simp only[VQ,VP]at f;(conv=>lhs;whnf);rewrite[d false _ _ ?hq];(case hq=>exact λK=>by kernel_rfl);(conv=>lhs;whnf);refine T_ (f _ _) ?_;rcases he with rfl|rfl<;>(conv=>lhs;whnf)<;>exact h _ _ (λb=>⟨false,λK=>by kernel_rfl⟩))
 ·rcases Xb g with rfl|rfl|rfl<;>(intro f d;simp only[VQ,VP]at f;(conv=>lhs;whnf);rewrite[d false _ _ ?hq];(case hq=>exact λK=>by kernel_rfl);(conv=>lhs;whnf);refine T_ (f _ _) ?_;rcases he with rfl|rfl<;>(conv=>lhs;whnf)<;>exact h _ _ (λb=>⟨false,λK=>by kernel_rfl⟩))
end
section
variable{i k:Nat}
def V?(h:i<33):(frt i).length<10:=by
 have:=GG.1 (show((List.range 33).all λi=>decide ((frt i).length<10))=true by kernel_rfl) i (KR.2 h);simpa using this
def B43:PS (rt (L+20) (n+1)) dP [] (.list 9 (GI.map λw=>S w)):=BJ (λH K=>by kernel_rfl) (by kernel_rfl)
attribute [local irreducible] oP rt Ar in
def B04(e:i<33)(h:PO (rt (L+20) (n+40)) D4 [I 1,I 1,I 8] (Bo true))(c:PO (rt (L+20) (n+40)) dP [] (.list 9 (GI.map λw=>S w)))(g:PO (rt (L+20) (n+40)) JJ [.agg (uu k).cs] (.tup [S (Ly k),I 0]))(f:PO (rt (L+20) (n+40)) MO [.agg (fR i)] (S (frt i))):CS (rt (L+20) (n+41)) J0 [.agg (cnN i k).cs] (S (cnT i k)):=by
 intro K d;rewrite[uE];unfold WO Ih;rewrite[zO];generalize rt (L+20) (n+40)=R at*
 conv=>lhs;whnf
 refine T_ (h _ _) ?_
 conv=>lhs;whnf
 rewrite[c]
 conv=>lhs;whnf
 refine T_ B? ?_
 conv=>lhs;whnf
 refine T_ (g _ _) ?_
 conv=>lhs;whnf
 have h1:=V? e;have h2:=G8 k;refine T_ (B9 (a:=GI.getD 1 []) (by decide)) ?_
 conv=>lhs;whnf
 refine T_ (f _ _) ?_
 conv=>lhs;whnf
 rewrite[B9 (by simp only[EK,GI,VP,VQ,Mi,Re];omega)];rewrite[B9 (by simp only[EK,GI,VP,VQ,Mi,Re];omega)];rewrite[B9 (by simp only[EK,GI,VP,VQ,Mi,Re];omega)];exact d _ _ (λb=>⟨false,λK=>by kernel_rfl⟩)
attribute [local irreducible] oP rt Ar in
def A8Y(e:i<33)(c:PO (rt (L+20) (n+40)) IC [] YC)(g:PO (rt (L+20) (n+40)) Jy [.agg (uu k).cs] (.tup [S (Ly k),I 0]))(f:PO (rt (L+20) (n+40)) IP [.agg (fR i)] (S (frt i))):CS (rt (L+20) (n+41)) FL [.agg (cnN i k).cs] (S (cnT i k)):=by
 intro K d;rewrite[eI];unfold PH Dz A3;rewrite[zO];generalize rt (L+20) (n+40)=R at*
 conv=>lhs;whnf
 rewrite[c]
 conv=>lhs;whnf
 rewrite[c]
 conv=>lhs;whnf
 refine T_ (B? (a:=1)) ?_
 conv=>lhs;whnf
 refine T_ (g _ _) ?_
 conv=>lhs;whnf
 have h1:=V? e;have h2:=G8 k;refine T_ (B9 (a:=GI.getD 1 []) (by decide)) ?_
 conv=>lhs;whnf
 refine T_ (f _ _) ?_
 conv=>lhs;whnf
 rewrite[B9 (by simp only[EK,GI,VP,VQ,Mi,Re];omega)];rewrite[B9 (by simp only[EK,GI,VP,VQ,Mi,Re];omega)];rewrite[B9 (by simp only[EK,GI,VP,VQ,Mi,Re];omega)];exact d _ _ (λb=>⟨false,λK=>by kernel_rfl⟩)
end
end
section
variable{L n:Nat}
inductive Ex where
 |no
 |cn (i k:Nat)
 |inp (j:Nat)
 |bi (op l r k:Nat)
 |po (l e k:Nat)
def Ex.nd:Ex->List Nd
 |.no=>[]
 |.cn i k=>[cnN i k]
 |.inp j=>[dC j]
 |.bi op l r _=>[wS op l r]
 |.po l e _=>[poN l e]
def Ex.ty(ks:Hb):Ex->Hb
 |.no=>[]
 |.cn _ k=>[k]
 |.inp j=>[ks.getD j 0]
 |.bi _ _ _ k=>[k]
 |.po _ _ k=>[k]
def Ex.tx:Ex->List Ha
 |.no=>[]
 |.cn i k=>[cnT i k]
 |.inp j=>[exT j]
 |.bi op l r _=>[exT (3+9*(op-3)+3*l+r)]
 |.po l e _=>[exT (39+5*l+e)]
def Ex.Ok(ks:Hb):Ex->Prop
 |.no=>True
 |.cn i k=>i<33/\k<7
 |.inp j=>j<ks.length
 |.bi op l r k=>3<=op/\op<7/\l<ks.length/\r<ks.length/\VO (op-3) (ks.getD l 0) (ks.getD r 0)=some k
 |.po l e k=>l<ks.length/\e<5/\Yk (ks.getD l 0) e=some k
structure Pr where
 id:Nat
 ks:Hb
 x:Ex
structure Pr.Ok(p:Pr):Prop where
 i1:1<=p.id
 i2:p.id<950
 k1:1<=p.ks.length
 k3:p.ks.length<=3
 k7:∀k∈p.ks,k<7
 x:p.x.Ok p.ks
def Pr.xs(p:Pr):List Nd:=Lg p.ks++p.x.nd
def Pr.ty(p:Pr):Hb:=p.ks++p.x.ty p.ks
def Pr.ts(p:Pr):List Ha:=(List.range p.ks.length).map exT++p.x.tx
def Pr.out(p:Pr):Nat:=p.ty.getD (p.xs.length-1) 0
section
variable{a b l r e i j k op:Nat}{ks:Hb}{xs:List Nd}{id:Int}{o:UD}
def MW{N:Nat}(h:∀k∈ks,k<N)(c:l<ks.length):ks.getD l 0<N:=by
 have e:ks.getD l 0=ks[l]:=by simp[List.getD,KL c]
 rw[e];exact h _ (Qk c)
def B44(c:a<7)(hb:b<7):PO (r! L (n+41)) TF [.agg (uu a).cs,.agg (uu b).cs] (Kh (VO 0 a b)):=by
 have:=(B9b L (n+1) (7*a+b) (by omega)).o;rwa[show(7*a+b)/7=a by omega,show(7*a+b)%7=b by omega]at this
def B49(c:a<7)(hb:b<7):PO (r! L (n+41)) K5 [.agg (uu a).cs,.agg (uu b).cs] (Kh (VO 1 a b)):=by
 have:=(B9f L (n+1) (7*a+b) (by omega)).o;rwa[show(7*a+b)/7=a by omega,show(7*a+b)%7=b by omega]at this
def B47(c:a<7)(hb:b<7):PO (r! L (n+41)) TG [.agg (uu a).cs,.agg (uu b).cs] (Kh (VO 2 a b)):=by
 have:=(B9d L (n+1) (7*a+b) (by omega)).o;rwa[show(7*a+b)/7=a by omega,show(7*a+b)%7=b by omega]at this
def B48(c:a<7)(hb:b<7):PO (r! L (n+41)) TH [.agg (uu a).cs,.agg (uu b).cs] (Kh (VO 3 a b)):=by
 have:=(B9e L (n+1) (7*a+b) (by omega)).o;rwa[show(7*a+b)/7=a by omega,show(7*a+b)%7=b by omega]at this
def B46(c:a<7)(hb:e<5):PO (r! L (n+41)) LH [.agg (uu a).cs,.agg [I (mV e),I 1]] (Kh (Yk a e)):=by
 have:=(B9c L (n+1) (5*a+e) (by omega)).o;rwa[show(5*a+e)/5=a by omega,show(5*a+e)%5=e by omega]at this
def B2Y(f:a<7)(hb:b<7)(h:VO 0 a b=some k):PO (r! L (n+40)) Xp [.agg (uu a).cs,.agg (uu b).cs] (Kh (some k)):=by
 have c:(7*a+b)/7=a:=by omega
 have d:(7*a+b)%7=b:=by omega
 have:=(B70 L n (7*a+b) (by omega) (by rw[c,d,h];rfl)).o;rwa[c,d,h]at this
def B32(f:a<7)(hb:b<7)(h:VO 1 a b=some k):PO (r! L (n+40)) Lm [.agg (uu a).cs,.agg (uu b).cs] (Kh (some k)):=by
 have c:(7*a+b)/7=a:=by omega
 have d:(7*a+b)%7=b:=by omega
 have:=(B74 L n (7*a+b) (by omega) (by rw[c,d,h];rfl)).o;rwa[c,d,h]at this
def B30(f:a<7)(hb:b<7)(h:VO 2 a b=some k):PO (r! L (n+40)) Xq [.agg (uu a).cs,.agg (uu b).cs] (Kh (some k)):=by
 have c:(7*a+b)/7=a:=by omega
 have d:(7*a+b)%7=b:=by omega
 have:=(B72 L n (7*a+b) (by omega) (by rw[c,d,h];rfl)).o;rwa[c,d,h]at this
def B31(f:a<7)(hb:b<7)(h:VO 3 a b=some k):PO (r! L (n+40)) Xr [.agg (uu a).cs,.agg (uu b).cs] (Kh (some k)):=by
 have c:(7*a+b)/7=a:=by omega
 have d:(7*a+b)%7=b:=by omega
 have:=(B73 L n (7*a+b) (by omega) (by rw[c,d,h];rfl)).o;rwa[c,d,h]at this
def B2Z(f:a<7)(hb:e<5)(h:Yk a e=some k):PO (r! L (n+40)) SY [.agg (uu a).cs,.agg [I (mV e),I 1]] (Kh (some k)):=by
 have c:(5*a+e)/5=a:=by omega
 have d:(5*a+e)%5=e:=by omega
 have:=(B71 L n (5*a+e) (by omega) (by rw[c,d,h];rfl)).o;rwa[c,d,h]at this
def A5w(h1:1<=ks.length)(d:ks.length<=3)(g:∀k∈ks,k<7)(c:l<ks.length)(hr:r<ks.length)(m:3<=op)(h:op<7):
 CS (r! L (n+42)) CK [.agg (B0 id (BC ks) (Ci xs) o),.agg (wS op l r).cs,I ks.length,RM ks] (A3n (VO (op-3) (ks.getD l 0) (ks.getD r 0))):=by
 have f:=MW g c;have hb:=MW g hr;obtain rfl|rfl|rfl|rfl:op=3\/op=4\/op=5\/op=6:=by omega
 ·exact A9K h1 d c hr (B44 f hb)
 ·exact A9O h1 d c hr (B49 f hb)
 ·exact A9M h1 d c hr (B47 f hb)
 ·exact A9N h1 d c hr (B48 f hb)
def A5v(h1:1<=ks.length)(d:ks.length<=3)(f:∀k∈ks,k<7)(c:l<ks.length)(he:e<5):
 CS (r! L (n+42)) CK [.agg (B0 id (BC ks) (Ci xs) o),.agg (poN l e).cs,I ks.length,RM ks] (A3n (Yk (ks.getD l 0) e)):=
 A9L h1 d c he (B46 (MW f c) he)
def A1d{at_:Int}{w:AV}(c:i<33)(d:k<7):CS (r! L (n+42)) CK [.agg (B0 id (BC ks) (Ci xs) o),.agg (cnN i k).cs,I at_,w] (.tup [.agg (Cx (uu k)),I 0]):=
 B4b (A78 L n i c).o (Sq L n k (by omega)).o
end
section
variable{p:Pr}{o:UD}
def B9y(h:p.Ok):RTy L n p.id p.ks p.xs o p.ty:=by
 obtain⟨pid,ks,x⟩:=p;obtain⟨i1,i2,k1,k3,k7,c⟩:=h;unfold Pr.xs Pr.ty;cases x with
 |no=>
  simp only[Ex.nd,Ex.ty,V0];exact B93 (XV k3 (by decide))
 |cn i k=>exact qU (XV k3 (by decide)) (A1d c.1 c.2)
 |inp j=>
  refine qU (XV k3 (by decide)) ?_;have f:j<ks.length:=c;have e:ks.getD j 0=ks[j]:=by simp[List.getD,KL f]
  rw[e];exact Zt (n:=n+39) (XV k3 (by decide)) f
 |bi op l r k=>
  obtain⟨h1,h2,d,g,m⟩:=c;refine qU (XV k3 (by decide)) ?_;have:=A5w (L:=L) (n:=n) (id:=pid) (xs:=Lg ks++[wS op l r]) (o:=o) k1 k3 k7 d g h1 h2;rw[m]at this;exact this
 |po l e k=>
  obtain⟨h1,h2,d⟩:=c;refine qU (XV k3 (by decide)) ?_;have:=A5v (L:=L) (n:=n) (id:=pid) (xs:=Lg ks++[poN l e]) (o:=o) k1 k3 k7 h1 h2;rw[d]at this;exact this
def A8F{ks:Hb}{i:Nat}(k1:1<=ks.length)(k3:ks.length<=3){l:Hb}(d:l.length<=3)(c:i<ks.length):WNd L n (BC ks) l (dC i) (ks.getD i 0):=
 ⟨GI.getD 2 [],B9K,FR,.inr ⟨_,_,rfl⟩,λH K=>by kernel_rfl,by kernel_rfl,rfl,rfl,A91 (n:=n+39) d,B33 (n:=n+39) k1 k3 c⟩
def B9x(h:p.Ok):WTy L n p.ks p.xs p.ty:=by
 obtain⟨pid,ks,x⟩:=p;obtain⟨i1,i2,k1,k3,k7,q⟩:=h;simp only at k1 k3 k7 q;intro i u;simp only[Pr.xs,Pr.ty]at u⊢;by_cases f:i<ks.length
 ·have g:(Lg ks++x.nd)[i]=dC i:=by
   rw[List.getElem_append_left (by rw[DT];exact f)];exact iT _
  have m:(ks++x.ty ks).getD i 0=ks.getD i 0:=by simp[List.getD,l0m f]
  rw[g,m];exact A8F k1 k3 (by rw[l0h];omega) f
 ·have B:x.nd.length<=1:=by cases x<;>simp[Ex.nd]
  rw[EK,DT]at u;obtain rfl:i=ks.length:=by omega
  have g:∀y,x.nd=[y]->(Lg ks++x.nd)[ks.length]'(by rw[EK,DT];exact u)=y:=λy A=>by
   rw[List.getElem_append_right (by rw[DT];omega)];simp[A,DT]
  have m:∀k,x.ty ks=[k]->(ks++x.ty ks).getD ks.length 0=k:=λk w=>by simp[List.getD,w]
  have v:(ks++x.ty ks).take ks.length=ks:=List.take_left' rfl;rw[v];cases x with
  |no=>simp[Ex.nd]at u
  |cn i k=>
   rw[g _ rfl,m _ rfl];exact⟨GI.getD 1 [],Av,DV,.inl rfl,λH K=>by kernel_rfl,by kernel_rfl,rfl,rfl,A92 (n:=n+39) k3,(B34 (A6T L n i q.1).o (Yj L n k (by have:=q.2;omega)).o).rv⟩
  |inp j=>
   rw[g _ rfl,m _ rfl];exact A8F k1 k3 k3 q
  |bi op l r k=>
   obtain⟨h1,h2,c,d,s⟩:=q;have t:=MW k7 c;have hb:=MW k7 d;rw[g _ rfl,m _ rfl];obtain rfl|rfl|rfl|rfl:op=3\/op=4\/op=5\/op=6:=by omega
   ·exact⟨GI.getD 3 [],oQ,Fh,.inr ⟨_,_,rfl⟩,λH K=>by kernel_rfl,by kernel_rfl,rfl,rfl,A6O (n:=n+39) k1 k3 c d,(A8K k1 k3 c d (B2Y t hb s)).rv⟩
   ·exact⟨GI.getD 4 [],oQ,D5,.inr ⟨_,_,rfl⟩,λH K=>by kernel_rfl,by kernel_rfl,rfl,rfl,A6S (n:=n+39) k1 k3 c d,(A8O k1 k3 c d (B32 t hb s)).rv⟩
   ·exact⟨GI.getD 5 [],oQ,Ed,.inr ⟨_,_,rfl⟩,λH K=>by kernel_rfl,by kernel_rfl,rfl,rfl,A6Q (n:=n+39) k1 k3 c d,(A8M k1 k3 c d (B30 t hb s)).rv⟩
   ·exact⟨GI.getD 6 [],oQ,DU,.inr ⟨_,_,rfl⟩,λH K=>by kernel_rfl,by kernel_rfl,rfl,rfl,A6R (n:=n+39) k1 k3 c d,(A8N k1 k3 c d (B31 t hb s)).rv⟩
  |po l e k=>
   obtain⟨h1,h2,c⟩:=q;rw[g _ rfl,m _ rfl];exact⟨GI.getD 7 [],B9z,ED,.inr ⟨_,_,rfl⟩,λH K=>by kernel_rfl,by kernel_rfl,rfl,rfl,A6P (n:=n+39) k1 k3 h1 h2,(A8L k1 k3 h1 h2 (B2Z (MW k7 h1) h2 c)).rv⟩
def B9j{j:Nat}(h:j<54):PS (r! L (n+41)) J0 [.agg (exN j).cs] (S (exT j)):=
 BJ (λH=>by first|exact λK=>by kernel_rfl) (GG.1 (B05 L n) j (KR.2 h))
def B79{j:Nat}(h:j<54):PS (r! L (n+41)) FL [.agg (exN j).cs] (S (exT j)):=
 BJ (λH=>by first|exact λK=>by kernel_rfl) (GG.1 (A8Z L n) j (KR.2 h))
def B6B{j:Nat}(h:j<3):dC j=exN j:=by unfold exN;rw[Dq h]
def C3X{op l r:Nat}(h1:3<=op)(h2:op<7)(c:l<3)(d:r<3):wS op l r=exN (3+9*(op-3)+3*l+r):=by
 obtain rfl|rfl|rfl|rfl:op=3\/op=4\/op=5\/op=6:=by omega
 all_goals obtain rfl|rfl|rfl:l=0\/l=1\/l=2:=by omega
 all_goals obtain rfl|rfl|rfl:r=0\/r=1\/r=2:=by omega
 all_goals rfl
def C3W{l e:Nat}(d:l<3)(c:e<5):poN l e=exN (39+5*l+e):=by
 obtain rfl|rfl|rfl:l=0\/l=1\/l=2:=by omega
 all_goals obtain rfl|rfl|rfl|rfl|rfl:=lt5 c
 all_goals rfl
def NdT(L n:Nat)(y:Nd)(t:Ha):Prop:=PS (r! L (n+41)) J0 [.agg y.cs] (S t)/\PS (r! L (n+41)) FL [.agg y.cs] (S t)
def P_{j:Nat}(h:j<54):NdT L n (exN j) (exT j):=⟨B9j h,B79 h⟩
def B6j{y:Nd}(H:Hp):R9 true depth [.agg y.cs] [.agg y.cs] H false:=λK=>by kernel_rfl
def B9L{i k:Nat}(c:i<33)(d:k<7):NdT L n (cnN i k) (cnT i k):=
 ⟨(B04 c (Zu (n:=n+39) (by decide) (by decide)).o (B43 (n:=n+39)).o (Vn L n k (by omega)).o (A79 L n i c).o).ps B6j,
  (A8Y c (B60 (n:=n+39)).o (UY L n k (by omega)).o (A6U L n i c).o).ps B6j⟩
def B0k(h:p.Ok):p.ts.length=p.xs.length/\∀i(m:i<p.xs.length),NdT L n p.xs[i] (p.ts.getD i []):=by
 obtain⟨pid,ks,x⟩:=p;obtain⟨i1,i2,k1,k3,k7,g⟩:=h;simp only at k1 k3 k7 g;have q:x.tx.length=x.nd.length:=by cases x<;>rfl
 refine⟨by simp[Pr.ts,Pr.xs,DT,q],λi m=>?_⟩;simp only[Pr.xs,Pr.ts]at m⊢;by_cases c:i<ks.length
 ·have d:(Lg ks++x.nd)[i]=dC i:=by
   rw[List.getElem_append_left (by rw[DT];exact c)];exact iT _
  have f:((List.range ks.length).map exT++x.tx).getD i []=exT i:=by
   rw[List.getD,l0m (by simpa using c)];simp[List.getElem?_range c]
  rw[d,f,B6B (by omega)];exact P_ (by omega)
 ·have w:x.nd.length<=1:=by cases x<;>simp[Ex.nd]
  rw[EK,DT]at m;obtain rfl:i=ks.length:=by omega
  have d:∀y,x.nd=[y]->(Lg ks++x.nd)[ks.length]'(by rw[EK,DT];exact m)=y:=λy v=>by
   rw[List.getElem_append_right (by rw[DT];omega)];simp[v,DT]
  have f:∀t,x.tx=[t]->((List.range ks.length).map exT++x.tx).getD ks.length []=t:=λt u=>by simp[List.getD,u]
  cases x with
  |no=>simp[Ex.nd]at m
  |cn i k=>rw[d _ rfl,f _ rfl];exact B9L g.1 g.2
  |inp j=>
   have C:j<ks.length:=g;rw[d _ rfl,f _ rfl,B6B (by omega)];exact P_ (by omega)
  |bi op l r k=>
   obtain⟨h1,h2,s,A,B⟩:=g;rw[d _ rfl,f _ rfl,C3X h1 h2 (by omega) (by omega)];exact P_ (by omega)
  |po l e k=>
   obtain⟨h1,h2,s⟩:=g;rw[d _ rfl,f _ rfl,C3W (by omega) h2];exact P_ (by omega)
end
end
section
variable{k:Nat}
variable{L n:Nat}
def sO(h:k<7):(Ly k).length<=44:=by
 have:=GG.1 (show((List.range 7).all λk=>decide ((Ly k).length<=44))=true by kernel_rfl) k (KR.2 h);simpa using this
def A0W(h:k<52):(Ly k).length<=50:=by
 have:=GG.1 (show((List.range 52).all λk=>decide ((Ly k).length<=50))=true by kernel_rfl) k (KR.2 h);simpa using this
def rJ{j:Nat}(h:j<54):(exT j).length<=10:=by
 have:=GG.1 (show((List.range 54).all λk=>decide ((exT k).length<=10))=true by kernel_rfl) j (KR.2 h);simpa using this
def B5G{i k:Nat}(a:i<33)(b:k<7):(cnT i k).length<=60:=by
 have h1:=V? a;have h2:=sO b;simp only[cnT,GI,VP,VQ,EK,Mi,Re];omega
def B58(ks:Hb)(h:∀k∈ks,k<7):(ks.flatMap rG).length<=51*ks.length:=by
 induction ks with
 |nil=>simp
 |cons k ks ih=>
  have h1:=sO (h k (by simp));have h2:=ih λx a=>h x (by simp[a]);simp only[rE,EK,Mi,rG,tR,Re]at h2⊢;omega
def B0F{ts:List Ha}(h:∀t∈ts,t.length<=10):(ts.flatMap wO).length<=11*ts.length:=by
 induction ts with
 |nil=>simp
 |cons t ts ih=>
  have h1:=h t (by simp);have h2:=ih λu a=>h u (by simp[a]);simp only[rE,EK,Mi,wO,Re]at h2⊢;omega
def B7o{o a b k:Nat}(d:o<4)(c:a<7)(hb:b<7)(h:VO o a b=some k):k<52:=by
 have:=GG.1 (show((List.range 196).all λj=>(match VO (j/49) (j/7%7) (j%7) with|some k=>decide (k<52)|none=>true))=true by kernel_rfl) (49*o+7*a+b) (KR.2 (by omega));rw[show(49*o+7*a+b)/49=o by omega,show(49*o+7*a+b)/7%7=a by omega,show(49*o+7*a+b)%7=b by omega,h]at this;simpa using this
def B3r{a e k:Nat}(b:a<7)(he:e<5)(h:Yk a e=some k):k<52:=by
 have:=GG.1 (show((List.range 35).all λj=>(match Yk (j/5) (j%5) with|some k=>decide (k<52)|none=>true))=true by kernel_rfl) (5*a+e) (KR.2 (by omega));rw[show(5*a+e)/5=a by omega,show(5*a+e)%5=e by omega,h]at this;simpa using this
section
variable{p:Pr}
def lN(h:p.Ok):p.ty.length=p.xs.length/\1<=p.xs.length/\p.xs.length<=4:=by
 have h1:=h.k1;have b:=h.k3;have e:(p.x.ty p.ks).length=p.x.nd.length:=by cases p.x<;>rfl
 have a:p.x.nd.length<=1:=by cases p.x<;>simp[Ex.nd]
 simp only[Pr.ty,Pr.xs,EK,DT];omega
def B4y(h:p.Ok):∀k∈p.ty,k<52:=by
 intro k a;rcases kB.1 a with a|a
 ·have:=h.k7 k a;omega
 ·have b:=h.x;cases hq:p.x with
  |no=>rw[hq]at a;simp[Ex.ty]at a
  |cn i j=>rw[hq]at a b;simp[Ex.ty]at a;have:=b.2;omega
  |inp j=>rw[hq]at a b;simp only[Ex.ty,YR]at a;have:=MW h.k7 b;omega
  |bi op l r j=>rw[hq]at a b;simp[Ex.ty]at a;subst a;exact B7o (by have:=b.1;have:=b.2.1;omega) (MW h.k7 b.2.2.1) (MW h.k7 b.2.2.2.1) b.2.2.2.2
  |po l e j=>rw[hq]at a b;simp[Ex.ty]at a;subst a;exact B3r (MW h.k7 b.1) b.2.1 b.2.2
def JU(h:p.Ok):p.out<52:=by
 obtain⟨h1,h2,a⟩:=lN h;exact MW (B4y h) (by omega)
def B0j(h:p.Ok):(∀t∈p.ts,t.length<100)/\(p.ts.flatMap wO).length<=11*p.ks.length+61:=by
 have k3:=h.k3;have a:=h.x;have a1:∀t∈(List.range p.ks.length).map exT,t.length<=10:=λt b=>by
  obtain⟨j,c,rfl⟩:=Rc.1 b;exact rJ (by have:=KR.1 c;omega)
 have a2:(∀t∈p.x.tx,t.length<=60)/\p.x.tx.length<=1:=by
  cases hq:p.x with
  |no=>simp[Ex.tx]
  |cn i j=>rw[hq]at a;simp[Ex.tx];exact B5G a.1 a.2
  |inp j=>rw[hq]at a;have c:j<p.ks.length:=a;simp[Ex.tx];exact XV (rJ (by omega)) (by decide)
  |bi op l r j=>rw[hq]at a;have h1:=a.1;have h2:=a.2.1;have f:=a.2.2.1;have g:=a.2.2.2.1;simp[Ex.tx];exact XV (rJ (by omega)) (by decide)
  |po l e j=>rw[hq]at a;have h1:=a.1;have h2:=a.2.1;simp[Ex.tx];exact XV (rJ (by omega)) (by decide)
 have d:(p.x.tx.flatMap wO).length<=61:=by
  match hq:p.x.tx with
  |[]=>simp
  |[t]=>have:=a2.1 t (by rw[hq];simp);simp[wO];omega
  |t::u::l=>rw[hq]at a2;simp at a2
 refine⟨λt b=>?_,?_⟩
 ·rcases kB.1 b with b|b
  ·have:=a1 t b;omega
  ·have:=a2.1 t b;omega
 ·have:=B0F a1;simp only[Pr.ts,l2l,EK,UH,List.length_range]at this⊢;omega
def Pr.txt(p:Pr):Ha:=tL p.id p.ks p.ts p.out
def lM(h:p.Ok):p.txt.length<390:=by
 have k3:=h.k3;have h1:=B58 p.ks h.k7;have h2:=(B0j h).2;have a:=A0W (JU h);have b:=A4I p.id;simp only[Pr.txt,tL,EK,Mi,Re,Ss,B9G];omega
abbrev Pr.cs(p:Pr):Is:=B0 p.id (BC p.ks) (Ci p.xs) (uu p.out)
def A1q(a:100<L)(h:p.Ok):CS (r! L (n+44)) Ge [.agg p.cs] (Bo true):=by
 obtain⟨h1,h2,c⟩:=lN h;have:=h.k3;have:=h.i1;have:=h.i2;exact A9X a (B9y h) h1 (λk b=>by have:=h.k7 k b;omega) (by omega) h2 (by omega) (by omega) (by omega)
def B0i(a:100<L)(h:p.Ok):CS (r! L (n+46)) Gz [.agg p.cs] (Bo true):=by
 obtain⟨h1,h2,c⟩:=lN h;have:=h.k3;have:=h.i1;have:=h.i2;exact A8U a (B9x h) rfl h1 (λk b=>by have:=h.k7 k b;omega) (by omega) h2 (by omega) (by omega) (by omega)
def B6f(a:100<L)(h:p.Ok):CS (r! L (n+45)) JH [.agg p.cs] (.tup [S p.txt,I 0]):=by
 obtain⟨h1,h2,f⟩:=lN h;obtain⟨d,e⟩:=B0k (L:=L) (n:=n+3) h;have:=h.k3;exact A9Y a h.i2 (A1q a h) (λi b=>(e i b).1) (B0j h).1 d (λk c=>by have:=h.k7 k c;omega) (by omega) (by omega) (JU h)
def B6e(a:100<L)(h:p.Ok):CS (r! L (n+47)) G6 [.agg p.cs] (.tup [S p.txt,I 0]):=by
 obtain⟨h1,h2,f⟩:=lN h;obtain⟨d,e⟩:=B0k (L:=L) (n:=n+5) h;have:=h.k3;exact A8W a h.i2 (B0i a h) (λi b=>(e i b).2) (B0j h).1 d (λk c=>by have:=h.k7 k c;omega) (by omega) (by omega) (JU h)
end
end
section
variable{L n:Nat}{K:KV}
def B3R{a b:Ha}(k:10<L)(m:a.length<390)(hb:b.length<390):CS (r! L (n+7)) F2 [.agg [S a,S b]] (S (I2 [a,b])):=by
 intro K g;rw[pO];unfold Us Ih;rw[DN (by rfl)];have hr:Ai [(As [],c_ Bv [S a,S b])] (As [])=some (c_ Bv [S a,S b]):=Ax (H:=[]) (by simp);have f:∀K:K2,CD 0 (.ptr (As []) 0 0) K=K (.ptr (As []) 0 0):=λK=>id rfl;have f1:∀K:K2,CD 1 (.ptr (As []) 0 0) K=K (.ptr (As []) 1 0):=λK=>id rfl;have i:∀K:K2,AD Ah (.ptr (As []) 0 0) [(As [],c_ Bv [S a,S b])] K=K (S a):=λK=>id rfl;have j:∀K:K2,AD Ah (.ptr (As []) 1 0) [(As [],c_ Bv [S a,S b])] K=K (S b):=λK=>id rfl;have d:∀K:KV,FU Aq 1 Ah 2 [(0,1,S a),(1,1,S b)] [(As [],c_ Bv [S a,S b])] K=K (.sl 1 1 0 2) ((1,.cells false Aq (AE [a,b]))::[(As [],c_ Bv [S a,S b])]):=λK=>id rfl;rw[f,i,f1,j,d];have h:R9 true depth [.sl 1 1 0 2] [.list 2 (AE [a,b])] ((1,.cells false Aq (AE [a,b]))::[(As [],c_ Bv [S a,S b])]) (true||false):=Ao (V! (e:=Aq) (.inr ⟨1,false,rfl,rfl,rfl⟩) (by decide) (λs:Ha=>Value.string ⟨⟨s⟩⟩) [a,b] rfl) AH;rw[AP (A5s (L:=L) (n:=n) (l:=[a,b]) (by simp) (by simp;omega) (λs c=>by simp at c;rcases c with rfl|rfl<;>assumption)) h];exact g _ _ (λb=>⟨false,CC⟩)
end
section
variable{K:K2}{H:Hp}
variable{L n:Nat}
def B00{zs:List Int}(b:100<L)(a:zs.length<100)(hz:∀z∈zs, -10<=z/\z<1090):Ap (r! L (n+7)) Eu [.list zs.length (Fl zs)] H K=K (S (Jp zs)):=
 AP (zE (n:=n+2) a (by omega) hz) (Ao (q:=false) (q':=false) OI AH)
def A9P{zs:List Ha}(b:100<L)(a:zs.length<100)(hz:∀z∈zs,z.length<390):Ap (r! L (n+7)) Hl [.list zs.length (AE zs)] H K=K (S (I2 zs)):=
 AP (A5s (n:=n+1) a (by omega) hz) (Ao (q:=false) (q':=false) OI AH)
def B68{a b:Ha}(d:100<L)(c:a.length<390)(hb:b.length<390):Ap (r! L (n+7)) F2 [.agg [S a,S b]] H K=K (S (I2 [a,b])):=
 AP (q:=false) (B3R (n:=n) (by omega) c hb) (λK=>by kernel_rfl)
def rM{z:Int}:Zh 1 Ab 1 [(0,1,I z)] K=K (.list ([z]:List Int).length (Fl [z])):=id rfl
def B5M{a b c d e f:Int}:Zh 1 Ab 6 [(0,1,I a),(1,1,I b),(2,1,I c),(3,1,I d),(4,1,I e),(5,1,I f)] K=K (.list ([a,b,c,d,e,f]:List Int).length (Fl [a,b,c,d,e,f])):=id rfl
def A6i{z:Ha}:Zh 1 Ah 1 [(0,1,S z)] K=K (.list ([z]:List Ha).length (AE [z])):=id rfl
def B6E(a b:Ha):Rz [(a,b)]=I2 [a,b]:=by simp[Rz]
def C2v{K:KV}{x:Af}{c:Nat}{R0:Row}{cs:Is}{ts:dQ}{b:AV->KV}(u:TmsOk ts)(v:100<L)(P:R0=.cells true Ad cs)(d:∀H,Ai H c=some R0->∀K,AD A2 (.ptr c 28 0) H K=K (E4 ts)){l:Ha}(hb:l.length<100000000)(O:∀m,Ai m c=some R0->Wf m->b (.ptr c 0 0) (S (l++Rh ts)) m=x):∀(f i:Nat)(H:Hp),i<=ts.length->ts.length-i<f->Ai H c=some R0->Wf H->
 TW (L+20) (r! L (n+7)) K b f (.ptr c 0 0) (S (l++Rh (ts.take i))) (I i) H=x:=by
 have A:=u.len;intro f
 induction f with
 |zero=>intro i H _ h;omega
 |succ f ih=>
  intro i H R Q hc w;rw[oX];unfold TX Dz QY IA A3;have f26:∀K:K2,CD 26 (.ptr c 0 0) K=K (.ptr c 26 0):=λK=>id rfl;have f2:∀K:K2,CD 2 (.ptr c 26 0) K=K (.ptr c 28 0):=λK=>id rfl;rw[f26,f2,d H hc,MP];by_cases h:i<ts.length
  ·have hr:=u.rng _ (Qk h);have M:=Yt (z:=ts[i].2) (by omega) (by omega);have N:=Yu ts[i].2;rw[Fz (by omega),Cu,f26,f2,d H hc,TM h,lTm,B1 (cs:=[zI,zS,zS]) rfl];have k:=Ax (H:=H) (x:=.cells true Be [zI,zS,zS]) (by simp);rw[BX (vs:=NC ts[i]) k rfl rfl rfl];have a:=AC (q:=true) (e:=Be) (cs:=NC ts[i]) k;have j:=w.lt hc;have g:Ai (upd ((As H,c_ Be [zI,zS,zS])::H) (As H) (c_ Be (NC ts[i]))) c=some R0:=by
    rw[Ag (by omega)];exact A7 j hc
   have w1:=Bj (r:=As H) (y:=.cells true Be (NC ts[i])) (AG (x:=.cells true Be [zI,zS,zS]) w);generalize upd ((As H,c_ Be [zI,zS,zS])::H) (As H) (c_ Be (NC ts[i]))=s at a g w1;generalize As H=t at a;have F:∀K:K2,CD 0 (.ptr t 0 0) K=K (.ptr t 0 0):=λK=>id rfl;have J:∀K:K2,CD 1 (.ptr t 0 0) K=K (.ptr t 1 0):=λK=>id rfl;have m0:∀K,AD Ab (.ptr t 0 0) s K=K (I ts[i].1):=λK=>AF (p:=0) rfl a (show 0<3 by decide);have m1:∀K,AD A4 (.ptr t 1 0) s K=K (.agg (qa ts[i].2)):=λK=>D7 (p:=1) rfl a (show 3<=3 from Mh _);have a1:=gI (ts.take i) (λt h=>by have h1:=u.rng t (l29 h);have:=Yt (z:=t.2) (by omega) (by omega);have:=Yu t.2;omega);have a2:(ts.take i).length<=6:=by simp;omega
   have B:=F9 [ts[i].1];have C:=F8 [qn ts[i].2,qd ts[i].2] (by simp;omega);simp only[Mi,Re]at B C;rw[F,Bw,m0,Bw,rM,Bw,B00 v (by simp) (by simp;omega),Bw,B9 (by rw[EK];omega),Bw,J,Bw,m1,Bw,B68 v (by omega) (by omega),Bw,B9 (by simp only[EK];omega),Bw,Db (by omega)];have D:l++Rh (ts.take i)++Jp [ts[i].1]++I2 [qn ts[i].2,qd ts[i].2]=l++Rh (ts.take (i+1)):=by
    rw[yX ts h];simp[tmB,B6E]
   rw[D];exact ih (i+1) s (by omega) (by omega) g w1
  ·rw[Fp (by omega),AZ];have:i=ts.length:=by omega
   subst this;rw[wQ];exact O H hc w
end
section
variable{L n:Nat}
section
variable{m:ND}{u o:UD}{ca cb ra rb un pt:Ha}{ts:dQ}{ps:List Ha}{ins nds:AV}{kd id vd pe:Int}{r:RD}
def C2x{H:Hp}{K:K2}(c:100<L)(d:ps.length<100)(hz:∀z∈ps,z.length<390):Ap (r! L (n+7)) Hl [DD ps] H K=K (S (I2 ps)):=by
 cases ps with
 |nil=>
  refine AP (q:=false) (args':=[Av]) ?_ (λK=>by kernel_rfl);exact λK a=>by
   rw[XH];unfold Qj A3;simp only[BE];rw[Vm];unfold Od IA A3;have el:∀K,Bh Ac Av K=K (I 0):=λK=>r_ rfl;rw[el,Fp (by decide),AZ];exact a _ _ (λb=>⟨false,λK=>by kernel_rfl⟩)
 |cons p l=>exact A9P c d hz
set_option maxHeartbeats 2000000 in
def A3I(C:100<L)(hm:m.ok)(ae:kd=1\/kd=2\/kd=3)(ht:TmsOk ts)(hI:Sl ins)(hN:Sl nds)(hp:ps.length<=6)(M:∀s∈ps,s.length<390)(X:un.length<390)(O:pt.length<390)(hr:r.k=0\/r.k=1\/r.k=2\/r.k=3)(A:∀q∈[(r.a1,r.a2),(r.b1,r.b2),(r.c1,r.c2),(r.d1,r.d2)],q.1.length<390/\q.2.length<390)(hv:0<=vd/\vd<=3)(ad:ca.length<10/\cb.length<10/\ra.length<10/\rb.length<10)(ab:PS (r! L (n+61)) JJ [.agg (Cx u)] (.tup [S un,I 0]))(aa:LS (r! L (n+61)) JH [.agg (B0 id ins nds o)] (.tup [S pt,I pe])):
 CS (r! L (n+62)) Rr [.agg (DW kd m u ca cb (E4 ts) ra rb (DD ps) id ins nds o r vd)] (S (NN kd m un ca cb ts ra rb ps pt (if kd=3 then Vk r vd else[]))):=by
 intro K hK;obtain⟨q1,q2,q3,q4,q5,q6,q7,q8,q9,ag⟩:=hm;have hT:=Hr ts;have hP:Sl (DD ps):=by cases ps with|nil=>exact .inl rfl|cons p l=>exact .inr ⟨_,_,rfl⟩
 have af:=ht.len;have a1:=F9 [kd,m.lab,m.num,m.itm,m.tim,m.day];have a2:=F8 [un] (by simpa using X);have a3:=F8 [ca,cb] (by simp;omega);have a4:=F9 [(ts.length:Int)];have a5:=gI ts (λt h=>by have:=ht.rng t h;have:=Yt (z:=t.2) (by omega) (by omega);have:=Yu t.2;omega);have a6:=F8 [ra,rb] (by simp;omega);have a7:=F9 [(ps.length:Int)];have a8:=F8 ps M;have a9:=F8 [pt] (by simpa using O);simp only[Mi,Re]at a1 a2 a3 a4 a6 a7 a9;rw[tW];unfold Wt Dz QY A3;rw[DN (Tg hT hP hI hN)];have d:=Ax (H:=[]) (x:=Lh kd m u ca cb (E4 ts) ra rb (DD ps) id ins nds o r vd) (by simp);have w0:=AG (x:=Lh kd m u ca cb (E4 ts) ra rb (DD ps) id ins nds o r vd) FH;generalize ((As [],Lh kd m u ca cb (E4 ts) ra rb (DD ps) id ins nds o r vd)::([]:Hp))=H0 at d w0;generalize As []=c at d;have Y:∀{j:Nat}{K:K2},CD j (.ptr c 0 0) K=K (.ptr c j 0):=λ{j K}=>by rw[fA,Kd]
 have g0:∀{K:K2},CD 0 (.ptr c 26 0) K=K (.ptr c 26 0):=r_ rfl;have g2:∀{K:K2},CD 2 (.ptr c 26 0) K=K (.ptr c 28 0):=r_ rfl;have g3:∀{K:K2},CD 3 (.ptr c 26 0) K=K (.ptr c 29 0):=r_ rfl;have nm:∀{y:List Int}{H:Hp}{K:K2},y.length<100->(∀z∈y, -10<=z/\z<1090)->Ap (r! L (n+61)) Eu [.list y.length (Fl y)] H K=K (S (Jp y)):=λh1 h2=>B00 (n:=n+54) C h1 h2;have tx:∀{y:List Ha}{H:Hp}{K:K2},y.length<100->(∀z∈y,z.length<390)->Ap (r! L (n+61)) Hl [.list y.length (AE y)] H K=K (S (I2 y)):=λh1 h2=>A9P (n:=n+54) C h1 h2;have i:∀{a b:Ha}{H:Hp}{K:K2},a.length<390->b.length<390->Ap (r! L (n+61)) F2 [.agg [S a,S b]] H K=K (S (I2 [a,b])):=λh1 h2=>B68 (n:=n+54) C h1 h2;simp only[BE];rw[Y,cU d,ab,FB,FA];simp only[Y,Bw,cI0 d,cI1 d,cI2 d,cI3 d,cI4 d,cI5 d,B5M,A6i,g0,g2,cC d,cT d,MP,rM];rw[nm (by simp) (by simp only[Xh,List.mem_nil_iff,or_false];rintro z (rfl|rfl|rfl|rfl|rfl|rfl)<;>omega),Bw,tx (by simp) (by simpa using X),Bw,B9 (by omega),Bw,i (by omega) (by omega),Bw,B9 (by simp only[EK];omega),Bw,nm (by simp) (by simp;omega),Bw,B9 (by simp only[EK];omega),Bw];have e0:(AV.v (.int .i64 0))=I ((0:Nat):Int):=rfl;have et:∀(l:Ha),S l=S (l++Rh (ts.take 0)):=λl=>by rw[show Rh (ts.take 0)=[] from rfl,V0]
 rw[e0,et];refine C2v (n:=n+54) ht C (R0:=Lh kd m u ca cb (E4 ts) ra rb (DD ps) id ins nds o r vd) rfl (λH h K=>cT h) (by simp only[EK];omega) ?_ (L+20) 0 H0 (by omega) (by omega) d w0;intro w f w1;have N:∀K,Ap (r! L (n+61)) JH [.agg (B0 id ins nds o)] w K=K (.tup [S pt,I pe]):=λK=>by rw[zO];exact aa false _ _ (Wn hI hN) K
 have ac:∀{H:Hp}{K:K2},Ap (r! L (n+61)) Hl [DD ps] H K=K (S (I2 ps)):=C2x (n:=n+54) C (by omega) M;simp only[Y,g3,Bw,cR f,cP f,jI,rM,cPr f,N,FB,FA,A6i,ac];rw[i (by omega) (by omega),Bw,B9 (by simp only[EK];omega),Bw,nm (by simp) (by simp;omega),Bw,B9 (by simp only[EK];omega),Bw,B9 (by simp only[EK];omega),Bw,tx (by simp) (by simpa using O),B9 (by simp only[EK];omega),cI0 f,Cl];by_cases Z:kd=3
 ·rw[HR Z,Cu];have jv:∀{j:Nat}{K:K2},CD j (.ptr (As w) 0 0) K=K (.ptr (As w) j 0):=λ{j K}=>by rw[fA,Kd]
  have J:=Ax (H:=w) (x:=.cells true Kr [zI,zS,zS,zS,zS,zS,zS,zS,zS]) (by simp);have eR:∀{K:K2},AD D2 (.ptr c 55 0) w K=K (.agg r.cs):=λ{K}=>D7 (p:=55) rfl f (show 64<=68 by decide);rw[eR,B1 (cs:=[zI,zS,zS,zS,zS,zS,zS,zS,zS]) rfl,BX (vs:=r.cs) J rfl rfl rfl];have g:=AC (q:=true) (e:=Kr) (cs:=r.cs) J;have F:=w1.lt f;have D:Ai (upd ((As w,c_ Kr [zI,zS,zS,zS,zS,zS,zS,zS,zS])::w) (As w) (c_ Kr r.cs)) c=some (Lh kd m u ca cb (E4 ts) ra rb (DD ps) id ins nds o r vd):=by
   rw[Ag (by omega)];exact A7 F f
  generalize upd ((As w,c_ Kr [zI,zS,zS,zS,zS,zS,zS,zS,zS])::w) (As w) (c_ Kr r.cs)=B at g D;generalize As w=rv at g jv;have l0:∀{K:K2},AD Ab (.ptr rv 0 0) B K=K (I r.k):=λ{K}=>AF (p:=0) rfl g (show 0<9 by decide);have l1:∀{K:K2},AD A4 (.ptr rv 1 0) B K=K (.agg [S r.a1,S r.a2]):=λ{K}=>D7 (p:=1) rfl g (show 3<=9 by decide);have l3:∀{K:K2},AD A4 (.ptr rv 3 0) B K=K (.agg [S r.b1,S r.b2]):=λ{K}=>D7 (p:=3) rfl g (show 5<=9 by decide);have l5:∀{K:K2},AD A4 (.ptr rv 5 0) B K=K (.agg [S r.c1,S r.c2]):=λ{K}=>D7 (p:=5) rfl g (show 7<=9 by decide);have l7:∀{K:K2},AD A4 (.ptr rv 7 0) B K=K (.agg [S r.d1,S r.d2]):=λ{K}=>D7 (p:=7) rfl g (show 9<=9 by decide);have b1:=F9 [r.k];have P:r.a1.length<390/\r.a2.length<390:=A (r.a1,r.a2) (by simp);have Q:r.b1.length<390/\r.b2.length<390:=A (r.b1,r.b2) (by simp);have R:r.c1.length<390/\r.c2.length<390:=A (r.c1,r.c2) (by simp);have V:r.d1.length<390/\r.d2.length<390:=A (r.d1,r.d2) (by simp);have b2:=F8 [r.a1,r.a2] (by simp;omega);have b3:=F8 [r.b1,r.b2] (by simp;omega);have b4:=F8 [r.c1,r.c2] (by simp;omega);have b5:=F8 [r.d1,r.d2] (by simp;omega);have b6:=F9 [vd];simp only[Mi,Re]at b1 b2 b3 b4 b5 b6;simp only[jv,Y,Bw,l0,l1,l3,l5,l7,cV D,rM];rw[nm (by simp) (by simp;omega),Bw,B9 (by simp only[EK];omega),Bw,i P.1 P.2,Bw,B9 (by simp only[EK];omega),Bw,i Q.1 Q.2,Bw,B9 (by simp only[EK];omega),Bw,i R.1 R.2,Bw,B9 (by simp only[EK];omega),Bw,i V.1 V.2,Bw,B9 (by simp only[EK];omega),Bw,nm (by simp) (by simp;omega),Bw,B9 (by simp only[EK];omega),Bw];rw[Dq Z]at hK⊢;have e:NN kd m un ca cb ts ra rb ps pt (Vk r vd)=Jp [kd,m.lab,m.num,m.itm,m.tim,m.day]++I2 [un]++I2 [ca,cb]++Jp [(ts.length:Int)]++Rh ts++I2 [ra,rb]++Jp [(ps.length:Int)]++I2 ps++I2 [pt]++Jp [r.k]++I2 [r.a1,r.a2]++I2 [r.b1,r.b2]++I2 [r.c1,r.c2]++I2 [r.d1,r.d2]++Jp [vd]:=by
   unfold NN Vk;simp[Rz]
  rw[<-e];exact hK _ _ (λb=>⟨false,λK=>by kernel_rfl⟩)
 ·rw[HW Z,AZ];rw[CF Z]at hK⊢;have e:NN kd m un ca cb ts ra rb ps pt []=Jp [kd,m.lab,m.num,m.itm,m.tim,m.day]++I2 [un]++I2 [ca,cb]++Jp [(ts.length:Int)]++Rh ts++I2 [ra,rb]++Jp [(ps.length:Int)]++I2 ps++I2 [pt]:=by
   unfold NN;simp only[B6E,V0,l3b]
  rw[<-e];exact hK _ _ (λb=>⟨false,λK=>by kernel_rfl⟩)
end
end
section
variable{L n:Nat}
def B4e:PS (r! L (n+40)) vK [.agg [I 0,Av,Av]] (.tup [S [],I 200]):=BJ (λH K=>by kernel_rfl) (by kernel_rfl)
def B4f:PS (r! L (n+40)) W? [.agg [I 0,Av,Av]] (.tup [Bo true,Bo false]):=BJ (λH K=>by kernel_rfl) (by kernel_rfl)
section
variable{m:ND}{u o:UD}{ca cb ra rb:Ha}{T P ins nds:AV}{kd id vd:Int}{r:RD}{b:Ha}{q:Bool}
def A3J(h:Sl T)(g:Sl P)(e:Sl ins)(f:Sl nds)(hb:b.length<=32768)(v:CS (r! L (n+61)) F1 [.agg (DW kd m u ca cb T ra rb P id ins nds o r vd)] (.tup [Bo true,Bo q]))(s:CS (r! L (n+61)) Rr [.agg (DW kd m u ca cb T ra rb P id ins nds o r vd)] (S b)):
 CS (r! L (n+62)) ON [.agg (DW kd m u ca cb T ra rb P id ins nds o r vd)] (.tup [S b,I 0]):=by
 intro K t;rw[YI];unfold Rl Ih;rw[DN (Tg h g e f)];have a:=Ax (H:=[]) (x:=Lh kd m u ca cb T ra rb P id ins nds o r vd) (by simp);generalize ((As [],Lh kd m u ca cb T ra rb P id ins nds o r vd)::([]:Hp))=k at a;generalize As []=c at a;have p:∀{j:Nat}{K:K2},CD j (.ptr c 0 0) K=K (.ptr c j 0):=λ{j K}=>by rw[fA,Kd]
 have i:∀K,Ap (r! L (n+61)) F1 [.agg (DW kd m u ca cb T ra rb P id ins nds o r vd)] k K=K (.tup [Bo true,Bo q]):=λK=>AP v (Xy h g e f);have d:∀K,Ap (r! L (n+61)) Rr [.agg (DW kd m u ca cb T ra rb P id ins nds o r vd)] k K=K (S b):=λK=>AP s (Xy h g e f);have w:∀{K:K2},Bh Ah (S b) K=K (I b.length):=λ{K}=>Qf rfl;rw[cA a,i,FB,FA,ntT,AZ,cA a,d,p,cS a,B4f (n:=n+21),FB,FA,p,cS a,B4e (n:=n+21),FB,FA,w,Ef,HW (by omega)];simp only[iW,gT,Cb,ntT,RC];rw[AZ];exact t _ _ (λb=>⟨false,λK=>by kernel_rfl⟩)
def C56{cs:Is}(h:40000<L)(h1:cs.all AV.one=true)(hz:cs.length=68)(c:∀H,R9 true depth [.agg cs] [.agg cs] H false)(hb:b.length<=32768)(e:CS (r! L (n+62)) ON [.agg cs] (.tup [S b,I 0])):CS (r! L (n+63)) FK [.agg cs] (S (sha b)):=by
 intro K f;rw[iC];unfold Wx Ih;rw[DN h1];have a:=Ax (H:=[]) (x:=.cells true Ad cs) (by simp);generalize ((As [],c_ Ad cs)::([]:Hp))=d at a;rw[Bu rfl hz.symm a,AP e (c d),FB,FA,I3];show A1 (.v (.bool false)) _ _=_;rw[AZ];have g:∀K,Ap (r! L (n+62)) Zb [S b] d K=K (S (sha b)):=λK=>AP (A9v (L:=L+20) (n:=n+59) (by omega) (by omega)) (Ao (q:=false) (q':=false) CC AH);rw[g];exact f _ _ (λb=>⟨false,λK=>by kernel_rfl⟩)
end
end
section
variable{k:Nat}
variable{L n:Nat}
def C2n(a:k=1\/k=2\/k=3):∀K,eEq HO BinOp.eql (AV.agg (rr k).cs) (AV.agg [zI,zS,zS,zS,zS,zS,zS,zS,zS]) K=K (Bo false):=λK=>by rw[<-qO];rcases a with rfl|rfl|rfl<;>kernel_rfl
def B77(a:k=1\/k=2\/k=3):PS (r! L (n+40)) Zc [.agg (rr k).cs] (Bo true):=by
 rcases a with rfl|rfl|rfl<;>exact BJ (λH K=>by kernel_rfl) (by as_aux_lemma=>kernel_rfl)
def A9W(a:k=1\/k=2\/k=3):PS (r! L (n+40)) JG [.agg (rr k).cs] (Bo true):=by
 rcases a with rfl|rfl|rfl<;>exact BJ (λH K=>by kernel_rfl) (by as_aux_lemma=>kernel_rfl)
def N_:PS (r! L (n+40)) JG [.agg r0.cs] (Bo false):=BJ (λH K=>by kernel_rfl) (by kernel_rfl)
end
section
variable{k:Nat}
variable{L n:Nat}
structure CB where
 m:ND
 c:Int
 r:Int
 ts:dQ
structure CB.Ok(b:CB):Prop where
 m:b.m.ok
 c1: -80<=b.c
 c2:b.c<=80
 r1:0<=b.r
 r2:b.r<=8
 ts:TmsOk b.ts
inductive Cd where
 |re (b:CB) (u:Nat)
 |co (b:CB) (p:Pr) (ps:List Ha) (t:Option (Nat×Int))
abbrev ed:=List Cd
def Cd.kd:Cd->Int
 |.re _ _=>1
 |.co _ _ _ none=>2
 |.co _ _ _ (some _)=>3
def Cd.ps:Cd->List Ha
 |.re _ _=>[]
 |.co _ _ ps _=>ps
abbrev cdC(kd:Int)(b:CB)(u:UD)(ps:List Ha)(id:Int)(ins a:AV)(o:UD)(r:RD)(vd:Int):Is:=DW kd b.m u (qn b.c) (qd b.c) (E4 b.ts) (qn b.r) (qd b.r) (DD ps) id ins a o r vd
def Cd.cs:Cd->Is
 |.re b u=>cdC 1 b (uu u) [] 0 Av Av u0 r0 0
 |.co b p ps none=>cdC 2 b (uu p.out) ps p.id (BC p.ks) (Ci p.xs) (uu p.out) r0 0
 |.co b p ps (some (k,vd))=>cdC 3 b (uu p.out) ps p.id (BC p.ks) (Ci p.xs) (uu p.out) (rr k) vd
def Cd.body:Cd->Ha
 |.re b u=>NN 1 b.m (Ly u) (qn b.c) (qd b.c) b.ts (qn b.r) (qd b.r) [] [] []
 |.co b p ps none=>NN 2 b.m (Ly p.out) (qn b.c) (qd b.c) b.ts (qn b.r) (qd b.r) ps p.txt []
 |.co b p ps (some (k,vd))=>NN 3 b.m (Ly p.out) (qn b.c) (qd b.c) b.ts (qn b.r) (qd b.r) ps p.txt (Vk (rr k) vd)
def Cd.Ok:Cd->Prop
 |.re b u=>b.Ok/\u<7
 |.co b p ps t=>b.Ok/\p.Ok/\ps.length=p.ks.length/\(∀s∈ps,s.length=32)/\(match t with|none=>True|some (k,vd)=>(k=1\/k=2\/k=3)/\1<=vd/\vd<=3)
def Cd.id(c:Cd):Ha:=sha c.body
def Oj(ps:List Ha):Sl (DD ps):=by cases ps with|nil=>exact .inl rfl|cons p l=>exact .inr ⟨_,_,rfl⟩
def lL{ps:List Ha}(h:1<=ps.length):DD ps=Ls ps:=by cases ps with|nil=>simp at h|cons p l=>rfl
def C2o(h:k=1\/k=2\/k=3):(rr k).k=0\/(rr k).k=1\/(rr k).k=2\/(rr k).k=3:=by rcases h with rfl|rfl|rfl<;>decide
def A3D(h:k=1\/k=2\/k=3):∀q∈[((rr k).a1,(rr k).a2),((rr k).b1,(rr k).b2),((rr k).c1,(rr k).c2),((rr k).d1,(rr k).d2)],q.1.length<390/\q.2.length<390:=by
 rcases h with rfl|rfl|rfl<;>decide
def O! :∀q∈[(r0.a1,r0.a2),(r0.b1,r0.b2),(r0.c1,r0.c2),(r0.d1,r0.d2)],q.1.length<390/\q.2.length<390:=by decide
section
variable{b:CB}{p:Pr}{ps:List Ha}{kd:Int}{tail:Ha}{un pt:Ha}
def CB.Ok.cl(h:b.Ok):(qn b.c).length<10/\(qd b.c).length<10/\(qn b.r).length<10/\(qd b.r).length<10:=by
 have h1:=Yt h.c1 (show b.c<81 by have:=h.c2;omega);have h2:=Yt (z:=b.r) (by have:=h.r1;omega) (by have:=h.r2;omega);have a:=Yu b.c;have d:=Yu b.r;omega
def wC(h:b.Ok)(f:un.length<390)(A:ps.length<=6)(a:∀s∈ps,s.length<390)(d:pt.length<390)(e:tail.length<=4000):(NN kd b.m un (qn b.c) (qd b.c) b.ts (qn b.r) (qd b.r) ps pt tail).length<=32768:=by
 obtain⟨q1,q2,q3,q4⟩:=h.cl;have g:=F9 [kd,b.m.lab,b.m.num,b.m.itm,b.m.tim,b.m.day];have i:=F8 [un] (by simpa using f);have j:=OY [(qn b.c,qd b.c)] (by simp;omega);have q:=F9 [(b.ts.length:Int)];have u:=gI b.ts (λt e=>by
  have:=h.ts.rng t e;have:=Yt (z:=t.2) (by omega) (by omega);have:=Yu t.2;omega)
 have v:=OY [(qn b.r,qd b.r)] (by simp;omega);have w:=F9 [(ps.length:Int)];have x:=F8 ps a;have y:=F8 [pt] (by simpa using d);have B:=h.ts.len;simp only[NN,EK,Mi,Re]at g i j q u v w x y⊢;omega
def A9z{vd:Int}(h:k=1\/k=2\/k=3):(Vk (rr k) vd).length<=4000:=by
 have a:=F9 [(rr k).k];have d:=OY _ (A3D h);have e:=F9 [vd];simp only[Vk,EK,Mi,Re]at a d e⊢;omega
end
section
variable{c:Cd}
def MA:c.cs.all AV.one=true:=by
 match c with
 |.re b u=>exact Tg (Hr _) (Oj _) (.inl rfl) (.inl rfl)
 |.co b p ps none=>exact Tg (Hr _) (Oj _) (.inr ⟨_,_,rfl⟩) (.inr ⟨_,_,rfl⟩)
 |.co b p ps (some (k,vd))=>exact Tg (Hr _) (Oj _) (.inr ⟨_,_,rfl⟩) (.inr ⟨_,_,rfl⟩)
def EH:c.cs.length=68:=by
 match c with
 |.re b u=>rfl
 |.co b p ps none=>rfl
 |.co b p ps (some (k,vd))=>rfl
def oN(H:Hp):R9 true depth [.agg c.cs] [.agg c.cs] H false:=by
 match c with
 |.re b u=>exact Xy (Hr _) (Oj _) (.inl rfl) (.inl rfl)
 |.co b p ps none=>exact Xy (Hr _) (Oj _) (.inr ⟨_,_,rfl⟩) (.inr ⟨_,_,rfl⟩)
 |.co b p ps (some (k,vd))=>exact Xy (Hr _) (Oj _) (.inr ⟨_,_,rfl⟩) (.inr ⟨_,_,rfl⟩)
def jR(h:c.Ok):c.body.length<=32768:=by
 match c,h with
 |.re b u,⟨hb,f⟩=>exact wC hb (by have:=G8 u;omega) (by simp) (by simp) (by simp) (by simp)
 |.co b p ps none,⟨hb,a,h1,h2,_⟩=>exact wC hb (by have:=G8 p.out;omega) (by have:=a.k3;omega) (λs d=>by rw[h2 s d];decide) (lM a) (by simp)
 |.co b p ps (some (k,vd)),⟨hb,a,h1,h2,e⟩=>exact wC hb (by have:=G8 p.out;omega) (by have:=a.k3;omega) (λs d=>by rw[h2 s d];decide) (lM a) (A9z e.1)
def C1K:RV (r! L (n+40)) G6 [.agg (B0 0 Av Av u0)] (.tup [S [],I 90]):=λb=>by kernel_rfl
def C2y:RV (r! L (n+40)) JH [.agg (B0 0 Av Av u0)] (.tup [S [],I 90]):=λb=>by kernel_rfl
def B22(t:40000<L)(h:c.Ok)(hn:c.ps.Nodup):CS (r! L (n+63)) IQ [.agg c.cs] (S c.id):=by
 refine C4Y t MA EH oN (jR h) ?_
 match c,h,hn with
 |.re b u,⟨hb,v⟩,_=>
  have st:=A6J (L:=L) (n:=n) (o:=u0) hb.m (Hr b.ts) (A8R (L:=L) (n:=n+20)).o (Yj L (n+20) u (by omega)).o (A3f (L:=L) (n:=n+16) hb.c1 hb.c2 hb.r1 hb.r2 hb.ts).ls;exact A3j (n:=n) (ps:=[]) (vd:=0) (kd:=1) (by omega) hb.m (.inl rfl) hb.ts (.inl rfl) (.inl rfl) (by simp) (by simp) (by have:=G8 u;omega) (by simp) (.inl rfl) O! (by decide) hb.cl st.ls (UY L (n+21) u (by omega)) (C1K (L:=L) (n:=n+21)).ls
 |.co b p ps none,⟨hb,a,h1,h2,_⟩,hn=>
  have k1:=a.k1;have k3:=a.k3;have e:DD ps=.list p.ks.length (AE ps):=by rw[lL (by omega),Ls,h1]
  have d:=(yU (L:=L) (n:=n+53) (ps:=ps) hn (by omega) (by omega) (by omega) h2).ls;rw[Ls,h1]at d;have g:=sL (L:=L) (n:=n) (kd:=2) (m:=b.m) (ca:=qn b.c) (cb:=qd b.c) (ra:=qn b.r) (rb:=qd b.r) (r:=r0) (vd:=0) (Hr b.ts) ⟨_,_,rfl⟩ d (B0i (L:=L) (n:=n+13) (by omega) a).ls;have st:=A6I (L:=L) (n:=n) hb.m (Hr b.ts) ⟨_,_,rfl⟩ ⟨_,_,rfl⟩ ⟨_,_,rfl⟩ g.ls (Yj L (n+20) p.out (JU a)).o (A3f (L:=L) (n:=n+16) hb.c1 hb.c2 hb.r1 hb.r2 hb.ts).ls;rw[<-e]at st;exact A3j (n:=n) (ps:=ps) (vd:=0) (kd:=2) (by omega) hb.m (.inr (.inl rfl)) hb.ts (.inr ⟨_,_,rfl⟩) (.inr ⟨_,_,rfl⟩) (by omega) (λs i=>by rw[h2 s i];decide) (by have:=G8 p.out;omega) (lM a) (.inl rfl) O! (by decide) hb.cl st.ls (UY L (n+21) _ (JU a)) (B6e (L:=L) (n:=n+14) (by omega) a).ls
 |.co b p ps (some (k,vd)),⟨hb,a,h1,h2,f,j,q⟩,hn=>
  have k1:=a.k1;have k3:=a.k3;have e:DD ps=.list p.ks.length (AE ps):=by rw[lL (by omega),Ls,h1]
  have d:=(yU (L:=L) (n:=n+53) (ps:=ps) hn (by omega) (by omega) (by omega) h2).ls;rw[Ls,h1]at d;have g:=sL (L:=L) (n:=n) (kd:=3) (m:=b.m) (ca:=qn b.c) (cb:=qd b.c) (ra:=qn b.r) (rb:=qd b.r) (r:=rr k) (vd:=vd) (Hr b.ts) ⟨_,_,rfl⟩ d (B0i (L:=L) (n:=n+13) (by omega) a).ls;have st:=A6H (L:=L) (n:=n) hb.m (Hr b.ts) ⟨_,_,rfl⟩ ⟨_,_,rfl⟩ ⟨_,_,rfl⟩ (C2n f) (B77 (L:=L) (n:=n+20) f).o j q (Yj L (n+20) p.out (JU a)).o (A3f (L:=L) (n:=n+16) hb.c1 hb.c2 hb.r1 hb.r2 hb.ts).ls g.ls;rw[<-e]at st;exact A3j (n:=n) (ps:=ps) (vd:=vd) (kd:=3) (by omega) hb.m (.inr (.inr rfl)) hb.ts (.inr ⟨_,_,rfl⟩) (.inr ⟨_,_,rfl⟩) (by omega) (λs i=>by rw[h2 s i];decide) (by have:=G8 p.out;omega) (lM a) (C2o f) (A3D f) (by omega) hb.cl st.ls (UY L (n+21) _ (JU a)) (B6e (L:=L) (n:=n+14) (by omega) a).ls
end
end
section
variable{c2:Is}{n2:Nat}
variable{L n:Nat}
section
variable{R:Rt}{K:KV}{ps:List Ha}{H:Hp}{y:Af}
def B4G{b:AV->AV->KV}{i:Nat}(k:i<ps.length)(hb:ps.length<100)(p:K (.tup [Bo false,I ps.length]) H=y)(c:b (Ls ps) (I i) (I i) H=y\/∃m,∃h:m<i,ps[m]'(by omega)=ps[i]):∀(f j:Nat),j<=i->i-j<f->(∀m(_:m<j)(s:m<ps.length),ps[m]≠ps[i])->
 LV (L+20) R K b f (Ls ps) (I i) (I j) H=y:=by
 intro f
 induction f with
 |zero=>intro j _ h;omega
 |succ f ih=>
  intro j v t a;rw[RW];unfold LX Km A3 Ga;by_cases h:j<i
  ·rw[Fz (by omega),Cu,Td (by omega),Bw,Ke,Bw,Td k,Bw,Ke,Bw,Mn];by_cases he:ps[j]=ps[i]
   ·rw[HR he,Bw,Cu,Na];exact p
   ·rw[HW he,Bw,AZ,Db (by omega)];exact ih (j+1) (by omega) (by omega) λm hm d=>by
     by_cases g:m=j
     ·subst g;exact he
     ·exact a m (by omega) d
  ·rw[Fp (by omega),AZ];obtain rfl:j=i:=by omega
   rcases c with c|⟨m,hm,e⟩
   ·exact c
   ·exact absurd e (a m hm (by omega))
def B4H{b:KV}(hb:ps.length<100)(p:ps.length<L+20)(j:∀s∈ps,s.length=32)(k:K (.tup [Bo false,I ps.length]) H=y):∀(f i:Nat)(v:AV),i<=ps.length->ps.length-i<f->
 (∃t m,i<=t/\∃(h:t<ps.length)(hm:m<t),ps[m]'(by omega)=ps[t])->LW (L+20) R K b f (Ls ps) (I i) v H=y:=by
 intro f
 induction f with
 |zero=>intro i v _ h;omega
 |succ f ih=>
  intro i v x w a;obtain⟨t,m,h1,h2,c,d⟩:=a;rw[RX];unfold LY IA A3 Ga;rw[Na];have h:i<ps.length:=by omega
  rw[Fz (by omega),Cu];simp only[BE];rw[Td h,Ke,Qf rfl,j _ (Qk h),I3];rw[show(!decide (((32:Nat):Int)=32))=false from rfl,AZ];have e:(AV.v (.int .i64 0))=I ((0:Nat):Int):=rfl;rw[e];refine B4G h hb k ?_ _ 0 (by omega) (by omega) (λm hm _=>by omega);by_cases g:t=i
  ·subst g;exact .inr ⟨m,c,d⟩
  ·left;rw[Db (by omega)];exact ih (i+1) _ (by omega) (by omega) ⟨t,m,by omega,h2,c,d⟩
def A7p(h:¬ps.Nodup):∃t m,0<=t/\∃(h:t<ps.length)(hm:m<t),ps[m]'(by omega)=ps[t]:=l37 λhc=>h (by
 rw[List.nodup_iff_pairwise_ne,l26];intro i j c b a e;exact hc ⟨j,i,l1h _,b,a,e⟩)
def tI(hn:¬ps.Nodup)(hb:ps.length<=6)(d:∀s∈ps,s.length=32):CS (rt (L+20) (n+1)) Iw [Ls ps] (.tup [Bo false,I ps.length]):=by
 intro K c;rw[T9];unfold MS Dk A3 Ga;simp only[BE];have a:(AV.v (.int .i64 0))=I ((0:Nat):Int):=rfl;rw[a];exact B4H (by omega) (by omega) d (c _ _ (λb=>⟨false,λK=>by kernel_rfl⟩)) _ 0 _ (by omega) (by omega) (A7p hn)
end
section
variable{m:ND}{u o:UD}{ca cb ra rb:Ha}{T P ins nds:AV}{id vd kd:Int}{r:RD}{q:Bool}
def A5x(h:Sl T)(g:Sl P)(e:Sl ins)(f:Sl nds)(k:CS (rt (L+20) (n+61)) F1 [.agg (DW kd m u ca cb T ra rb P id ins nds o r vd)] (.tup [Bo false,Bo q])):
 CS (rt (L+20) (n+62)) ON [.agg (DW kd m u ca cb T ra rb P id ins nds o r vd)] (.tup [S [],I 210]):=by
 intro K j;rw[YI];unfold Rl Ih;rw[DN (Tg h g e f)];have a:=Ax (H:=[]) (x:=Lh kd m u ca cb T ra rb P id ins nds o r vd) (by simp);generalize ((As [],Lh kd m u ca cb T ra rb P id ins nds o r vd)::([]:Hp))=i at a;generalize As []=c at a;have d:∀K,Ap (rt (L+20) (n+61)) F1 [.agg (DW kd m u ca cb T ra rb P id ins nds o r vd)] i K=K (.tup [Bo false,Bo q]):=λK=>AP k (Xy h g e f);rw[cA a,d,FB,FA,ntF,Cu];exact j _ _ (λb=>⟨false,λK=>by kernel_rfl⟩)
def C2A{cs:Is}(h1:cs.all AV.one=true)(hz:cs.length=68)(c:∀H,R9 true depth [.agg cs] [.agg cs] H false)(e:CS (rt (L+20) (n+62)) ON [.agg cs] (.tup [S [],I 210])):CS (rt (L+20) (n+63)) FK [.agg cs] (S []):=by
 intro K f;rw[iC];unfold Wx Ih;rw[DN h1];have a:=Ax (H:=[]) (x:=.cells true Ad cs) (by simp);generalize ((As [],c_ Ad cs)::([]:Hp))=d at a;rw[Bu rfl hz.symm a,AP e (c d),FB,FA,I3];show A1 (.v (.bool true)) _ _=_;rw[Cu];exact f _ _ (λb=>⟨false,λK=>by kernel_rfl⟩)
end
attribute [local irreducible] Ap rt oP eBi eEq cnd Ar R7 A1
section
variable{m:ND}{u o:UD}{ca cb ra rb:Ha}{T P ins nds:AV}{id vd:Int}{r:RD}
def A3H(hm:m.ok)(t:Sl T)(hr:PO (rt (L+20) (n+60)) JG [.agg r0.cs] (Bo false))(s:∃n cs,P=.list n cs)(p:∃n cs,nds=.list n cs)(w:LS (rt (L+20) (n+60)) Iw [P] (.tup [Bo false,I n2]))(hv:LS (rt (L+20) (n+60)) Ge [.agg (B0 id (.list n2 c2) nds u)] (Bo true))(x:PO (rt (L+20) (n+60)) F5 [.agg (Cx u)] (Bo true))(v:LS (rt (L+20) (n+60)) JI [.agg (NJ ca cb T ra rb)] (Bo true)):
 CS (rt (L+20) (n+61)) F1 [.agg (DW 2 m u ca cb T ra rb P id (.list n2 c2) nds u r0 0)] (.tup [Bo false,Bo false]):=by
 intro K j;obtain⟨h1,h2,f,A,g,B,h,C,i,e⟩:=hm;obtain⟨n1,c1,rfl⟩:=s;obtain⟨D,c3,rfl⟩:=p;have hb:∀{z d c:Int},d<=z->z<=c->PO (rt (L+20) (n+60)) IY [I z,I d,I c] (Bo true):=λa b=>(Ys a b).o;rcases t with rfl|⟨F,c4,rfl⟩
 all_goals
  rewrite[JX];unfold IU Ih
  try rewrite[zO]
  try rewrite[bO]
  try rewrite[qO]
  try rewrite[cO]
  generalize rt (L+20) (n+60)=R at*
  conv=>lhs;whnf
  rewrite[XL ?hc]
  case hc=>decide
  conv=>lhs;whnf
  rewrite[x]
  conv=>lhs;whnf
  rewrite[(v) false _ _ ?hq]
  case hq=>exact λK=>by kernel_rfl
  conv=>lhs;whnf
  rewrite[hb h1 (by omega)]
  conv=>lhs;whnf
  rewrite[hb f (by omega)]
  conv=>lhs;whnf
  rewrite[hb g (by omega)]
  conv=>lhs;whnf
  rewrite[hb h (by omega)]
  conv=>lhs;whnf
  rewrite[hb i (by omega)]
  conv=>lhs;whnf
  rewrite[GH]
  conv=>lhs;whnf
  rewrite[hr]
  conv=>lhs;whnf
  rewrite[show∀K,eEq HO BinOp.neq (AV.agg [I r0.k,S r0.a1,S r0.a2,S r0.b1,S r0.b2,S r0.c1,S r0.c2,S r0.d1,S r0.d2]) (AV.agg [zI,zS,zS,zS,zS,zS,zS,zS,zS]) K=K (Bo false) from λK=>by rw[<-qO];kernel_rfl]
  conv=>lhs;whnf
  rewrite[B0A ?hc]
  case hc=>decide
  conv=>lhs;whnf
  rewrite[GH]
  conv=>lhs;whnf
  rewrite[XL ?hc]
  case hc=>decide
  conv=>lhs;whnf
  rewrite[GH]
  conv=>lhs;whnf
  rewrite[Q7 ?hc]
  case hc=>decide
  conv=>lhs;whnf
  rewrite[Qn]
  conv=>lhs;whnf
  rewrite[Qn]
  conv=>lhs;whnf
  rewrite[(w) false _ _ ?hq]
  case hq=>exact λK=>by kernel_rfl
  conv=>lhs;whnf
  rewrite[(hv) false _ _ ?hq]
  case hq=>exact λK=>by kernel_rfl
  conv=>lhs;whnf
  exact j _ _ (λb=>⟨false,λK=>by kernel_rfl⟩)
def A3G(hm:m.ok)(v:Sl T)(hr:PO (rt (L+20) (n+60)) JG [.agg r.cs] (Bo true))(c:1<=vd)(d:vd<=3)(t:∃n cs,P=.list n cs)(s:∃n cs,nds=.list n cs)(x:LS (rt (L+20) (n+60)) Iw [P] (.tup [Bo false,I n2]))(hv:LS (rt (L+20) (n+60)) Ge [.agg (B0 id (.list n2 c2) nds u)] (Bo true))(A:PO (rt (L+20) (n+60)) F5 [.agg (Cx u)] (Bo true))(w:LS (rt (L+20) (n+60)) JI [.agg (NJ ca cb T ra rb)] (Bo true)):
 CS (rt (L+20) (n+61)) F1 [.agg (DW 3 m u ca cb T ra rb P id (.list n2 c2) nds u r vd)] (.tup [Bo false,Bo true]):=by
 intro K p;obtain⟨h1,h2,h,B,i,C,j,D,k,g⟩:=hm;obtain⟨n1,c1,rfl⟩:=t;obtain⟨F,c3,rfl⟩:=s;have hb:∀{z f e:Int},f<=z->z<=e->PO (rt (L+20) (n+60)) IY [I z,I f,I e] (Bo true):=λa b=>(Ys a b).o;rcases v with rfl|⟨J,c4,rfl⟩
 all_goals
  rewrite[JX];unfold IU Ih
  try rewrite[zO]
  try rewrite[bO]
  try rewrite[qO]
  try rewrite[cO]
  generalize rt (L+20) (n+60)=R at*
  conv=>lhs;whnf
  rewrite[Q7 ?hc]
  case hc=>decide
  conv=>lhs;whnf
  rewrite[A]
  conv=>lhs;whnf
  rewrite[(w) false _ _ ?hq]
  case hq=>exact λK=>by kernel_rfl
  conv=>lhs;whnf
  rewrite[hb h1 (by omega)]
  conv=>lhs;whnf
  rewrite[hb h (by omega)]
  conv=>lhs;whnf
  rewrite[hb i (by omega)]
  conv=>lhs;whnf
  rewrite[hb j (by omega)]
  conv=>lhs;whnf
  rewrite[hb k (by omega)]
  conv=>lhs;whnf
  rewrite[GH]
  conv=>lhs;whnf
  rewrite[hr]
  conv=>lhs;whnf
  rewrite[hb c d]
  conv=>lhs;whnf
  rewrite[GH]
  conv=>lhs;whnf
  rewrite[XL ?hc]
  case hc=>decide
  conv=>lhs;whnf
  rewrite[GH]
  conv=>lhs;whnf
  rewrite[XL ?hc]
  case hc=>decide
  conv=>lhs;whnf
  rewrite[GH]
  conv=>lhs;whnf
  rewrite[Q7 ?hc]
  case hc=>decide
  conv=>lhs;whnf
  rewrite[Qn]
  conv=>lhs;whnf
  rewrite[(x) false _ _ ?hq]
  case hq=>exact λK=>by kernel_rfl
  conv=>lhs;whnf
  rewrite[(hv) false _ _ ?hq]
  case hq=>exact λK=>by kernel_rfl
  conv=>lhs;whnf
  exact p _ _ (λb=>⟨false,λK=>by kernel_rfl⟩)
end
end
section
variable{L n:Nat}
section
variable{c:Cd}
def A02(q:40000<L)(h:c.Ok)(hn:c.ps.Nodup):CS (r! L (n+64)) FK [.agg c.cs] (S c.id):=by
 refine C56 (n:=n+1) q MA EH oN (jR h) ?_
 match c,h,hn with
 |.re b u,⟨hb,r⟩,_=>
  have st:=A77 (L:=L) (n:=n+1) (o:=u0) hb.m (Hr b.ts) (N_ (L:=L) (n:=n+21)).o (A1f (L:=L) (n:=n+21)).o (Sq L (n+21) u (by omega)).o (tK (L:=L) (n:=n+19) hb.c1 hb.c2 hb.r1 hb.r2 (by omega) hb.ts).ls;exact A3J (n:=n+1) (Hr _) (Oj []) (.inl rfl) (.inl rfl) (jR (c:=.re b u) ⟨hb,r⟩) st (A3I (n:=n) (ps:=[]) (vd:=0) (kd:=1) (by omega) hb.m (.inl rfl) hb.ts (.inl rfl) (.inl rfl) (by simp) (by simp) (by have:=G8 u;omega) (by simp) (.inl rfl) O! (by decide) hb.cl (Vn L (n+21) u (by omega)) (C2y (L:=L) (n:=n+21)).ls)
 |.co b p ps none,⟨hb,a,h1,h2,f⟩,hn=>
  have k1:=a.k1;have k3:=a.k3;have e:DD ps=Ls ps:=lL (by omega);have d:=(zG (L:=L) (n:=n+60) (ps:=ps) hn (by omega) (by omega) h2).ls;rw[<-e,h1]at d;have st:=A76 (L:=L) (n:=n+1) hb.m (Hr b.ts) (N_ (L:=L) (n:=n+21)).o ⟨_,_,e⟩ ⟨_,_,rfl⟩ d (A1q (L:=L) (n:=n+17) (by omega) a).ls (Sq L (n+21) p.out (JU a)).o (tK (L:=L) (n:=n+19) hb.c1 hb.c2 hb.r1 hb.r2 (by omega) hb.ts).ls;exact A3J (n:=n+1) (Hr _) (Oj ps) (.inr ⟨_,_,rfl⟩) (.inr ⟨_,_,rfl⟩) (jR (c:=.co b p ps none) ⟨hb,a,h1,h2,f⟩) st (A3I (n:=n) (ps:=ps) (vd:=0) (kd:=2) (by omega) hb.m (.inr (.inl rfl)) hb.ts (.inr ⟨_,_,rfl⟩) (.inr ⟨_,_,rfl⟩) (by omega) (λs g=>by rw[h2 s g];decide) (by have:=G8 p.out;omega) (lM a) (.inl rfl) O! (by decide) hb.cl (Vn L (n+21) _ (JU a)) (B6f (L:=L) (n:=n+16) (by omega) a).ls)
 |.co b p ps (some (k,vd)),⟨hb,a,h1,h2,f,i,j⟩,hn=>
  have k1:=a.k1;have k3:=a.k3;have e:DD ps=Ls ps:=lL (by omega);have d:=(zG (L:=L) (n:=n+60) (ps:=ps) hn (by omega) (by omega) h2).ls;rw[<-e,h1]at d;have st:=A75 (L:=L) (n:=n+1) hb.m (Hr b.ts) (A9W (L:=L) (n:=n+21) f).o i j ⟨_,_,e⟩ ⟨_,_,rfl⟩ d (A1q (L:=L) (n:=n+17) (by omega) a).ls (Sq L (n+21) p.out (JU a)).o (tK (L:=L) (n:=n+19) hb.c1 hb.c2 hb.r1 hb.r2 (by omega) hb.ts).ls;exact A3J (n:=n+1) (Hr _) (Oj ps) (.inr ⟨_,_,rfl⟩) (.inr ⟨_,_,rfl⟩) (jR (c:=.co b p ps (some (k,vd))) ⟨hb,a,h1,h2,f,i,j⟩) st (A3I (n:=n) (ps:=ps) (vd:=vd) (kd:=3) (by omega) hb.m (.inr (.inr rfl)) hb.ts (.inr ⟨_,_,rfl⟩) (.inr ⟨_,_,rfl⟩) (by omega) (λs g=>by rw[h2 s g];decide) (by have:=G8 p.out;omega) (lM a) (C2o f) (A3D f) (by omega) hb.cl (Vn L (n+21) _ (JU a)) (B6f (L:=L) (n:=n+16) (by omega) a).ls)
def B5J(j:40000<L)(h:c.Ok)(hn:¬c.ps.Nodup):CS (r! L (n+64)) FK [.agg c.cs] (S []):=by
 refine C2A (n:=n+1) MA EH oN ?_
 match c,h,hn with
 |.re b u,_,hn=>exact absurd List.nodup_nil hn
 |.co b p ps none,⟨hb,e,h1,h2,f⟩,hn=>
  have k1:=e.k1;have k3:=e.k3;have d:DD ps=Ls ps:=lL (by omega);have a:=(tI (L:=L) (n:=n+60) (ps:=ps) hn (by omega) h2).ls;rw[<-d,h1]at a;have st:=A3H (L:=L) (n:=n+1) hb.m (Hr b.ts) (N_ (L:=L) (n:=n+21)).o ⟨_,_,d⟩ ⟨_,_,rfl⟩ a (A1q (L:=L) (n:=n+17) (by omega) e).ls (Sq L (n+21) p.out (JU e)).o (tK (L:=L) (n:=n+19) hb.c1 hb.c2 hb.r1 hb.r2 (by omega) hb.ts).ls;exact A5x (n:=n+1) (Hr _) (Oj ps) (.inr ⟨_,_,rfl⟩) (.inr ⟨_,_,rfl⟩) st
 |.co b p ps (some (k,vd)),⟨hb,e,h1,h2,f,g,i⟩,hn=>
  have k1:=e.k1;have k3:=e.k3;have d:DD ps=Ls ps:=lL (by omega);have a:=(tI (L:=L) (n:=n+60) (ps:=ps) hn (by omega) h2).ls;rw[<-d,h1]at a;have st:=A3G (L:=L) (n:=n+1) hb.m (Hr b.ts) (A9W (L:=L) (n:=n+21) f).o g i ⟨_,_,d⟩ ⟨_,_,rfl⟩ a (A1q (L:=L) (n:=n+17) (by omega) e).ls (Sq L (n+21) p.out (JU e)).o (tK (L:=L) (n:=n+19) hb.c1 hb.c2 hb.r1 hb.r2 (by omega) hb.ts).ls;exact A5x (n:=n+1) (Hr _) (Oj ps) (.inr ⟨_,_,rfl⟩) (.inr ⟨_,_,rfl⟩) st
end
end
section
variable{D r:Nat}{α:Type}
variable{L n:Nat}
def B3Q(s:Ha):(sha s).length=32:=Yz _ 8
def A4N(c:Cd):c.id.length=32:=B3Q _
def wA(c:Cd):c.id≠[]:=λh=>by have:=A4N c;rw[h]at this;cases this
def LA(gs:ed)(a:AV):Prop:=a=.list gs.length (gs.flatMap Cd.cs)\/(gs=[]/\a=Av)
section
variable{gs:ed}{a:AV}{c:Cd}{K:K2}{i:Nat}{H:Hp}
def LA.len(h:LA gs a):Bh Ak a K=K (I gs.length):=by
 rcases h with rfl|⟨rfl,rfl⟩<;>exact id rfl
def LA.ia(h:LA gs a)(b:i<gs.length):DC Ak a (I i) K=K (.iptr gs[i].cs):=by
 rcases h with rfl|⟨rfl,rfl⟩
 ·exact Zf (f:=Cd.cs) rfl (λ_=>EH) b
 ·simp at b
def nH:AD Ae (.iptr c.cs) H K=K (.agg c.cs):=by
 match c with
 |.re b u=>exact id rfl
 |.co b p ps none=>exact id rfl
 |.co b p ps (some (k,vd))=>exact id rfl
abbrev CN:Is:=DW 0 ⟨0,0,0,0,0⟩ u0 [] [] Av [] [] Av 0 Av Av u0 r0 0
abbrev C4c(c:Cd):Row:=.cells true Ad c.cs
def gE(gs:ed):List (Ha×Cd):=gs.map λc=>(c.id,c)
def YY{b:List (Ha×α)}{x:Ha}(h:x∉b.map (·.1)):MB b x=none:=by
 induction b with
 |nil=>rfl
 |cons e b ih=>
  simp only[XI,Xh,not_or]at h;unfold MB;rw[CF (Ne.symm h.1)];exact ih h.2
def Zv{b:List (Ha×α)}{x:Ha}{v:α}(h:x∉b.map (·.1)):Ma b x v=b++[(x,v)]:=by
 induction b with
 |nil=>rfl
 |cons e b ih=>
  simp only[XI,Xh,not_or]at h;unfold Ma;rw[CF (Ne.symm h.1),ih h.2];rfl
def Xm(gs:ed):(gE gs).map (·.1)=gs.map Cd.id:=by simp[gE]
end
structure GOk(gs:ed):Prop where
 ok:∀c∈gs,c.Ok
 nd:∀c∈gs,c.ps.Nodup
 ids:(gs.map Cd.id).Nodup
 len:gs.length<=8
section
variable{K:KV}{x:Af}{gs:ed}{a:AV}
abbrev DX(c:Cd):AV:=.agg c.cs
def C2J{k12:AV->KV}{w:AV}(m:GOk gs)(M:40000<L)(N:LA gs a)(Q:∀H,Ai H r=some (.map false (Di DX (gE gs)) none)->k12 w (.mp r) H=x):∀(f i:Nat)(H:Hp),i<=gs.length->gs.length-i<f->Ai H r=some (.map false (Di DX (gE (gs.take i))) none)->Wf H->
 YT (L+20) (r! L (n+63)) K k12 f w (.mp r) a (I gs.length) (I i) H=x:=by
 intro f
 induction f with
 |zero=>intro i H _ h;omega
 |succ f ih=>
  intro i H Y X s wf;rw[yJ];unfold YU IA FQ A3 Kn Ga;by_cases h:i<gs.length
  ·have hm:=Qk h;have q:=B22 (L:=L) (n:=n) M (m.ok _ hm) (m.nd _ hm);have d:gs[i].id∉(gE (gs.take i)).map (·.1):=λhc=>by
    rw[Xm]at hc;have u:=m.ids;rw[<-l38 i gs,Z6,l36]at u;have P:gs[i].id∈(gs.drop i).map Cd.id:=Rc.2 ⟨_,by rw[uZ h];exact List.mem_cons_self,rfl⟩;exact u.2.2 _ hc _ P rfl
   rw[Fz (by omega),Cu,N.ia h,nH,B1 (cs:=CN) rfl,BX (cs:=CN) (vs:=gs[i].cs) (Ax (by simp)) EH rfl MA];obtain⟨A,B,g,w1,k1⟩:=Ip (e:=Ad) (zs:=CN) (vs:=gs[i].cs) wf EH;rw[<-B,Bu rfl EH.symm g,AP q (oN A)];have j:=(k1 _ _ s).1;have t:∀(F:Value->Af),Mj (S gs[i].id) F=F (SV gs[i].id):=λF=>id rfl;rw[t,A4x (f:=DX) (b:=gE (gs.take i)) (λK=>ZA j),YY d];simp only[];rw[FB,FA,B1 (cs:=CN) rfl]
   erw[BX (cs:=CN) (vs:=CN) (Ax (by simp)) rfl rfl rfl]
   obtain⟨V,C,O,R,y⟩:=Ip (e:=Ad) (zs:=CN) (vs:=CN) w1 rfl;rw[<-C];have k:=(y _ _ j).1;have p:=(y _ _ g).1;have q1:∀{K},Ar Ah .eql (S gs[i].id) (S []) K=K (Bo false):=λ{K}=>by rw[Mn,HW (wA _)]
   simp only[gT,Cb,q1,RC];rw[AZ,Bu rfl EH.symm p,t,jG (f:=DX) (v:=gs[i]) k,Zv d,Db (by have:=m.len;omega)];have J:gE (gs.take i)++[(gs[i].id,gs[i])]=gE (gs.take (i+1)):=by
    rw[oH h,gE,gE,Z6];rfl
   rw[J];exact ih (i+1) _ (by omega) (by omega) ((BH k).trans rfl) (Bj R)
  ·rw[Fp (by omega),AZ];have:i=gs.length:=by omega
   subst this;rw[wQ]at s;exact Q H s
abbrev gV(gs:ed):AV:=.imap (Di DX (gE gs))
def vY{m:ND}{u o:UD}{ca cb ra rb:Ha}{T P ins b:AV}{kd id vd:Int}{r:RD}{H:Hp}(g:Sl T)(f:Sl P)(d:Sl ins)(e:Sl b):Fx true (D+3) (.agg (DW kd m u ca cb T ra rb P id ins b o r vd)) (.agg (DW kd m u ca cb T ra rb P id ins b o r vd)) H false:=by
 rcases g with rfl|⟨_,_,rfl⟩<;>rcases f with rfl|⟨_,_,rfl⟩<;>rcases d with rfl|⟨_,_,rfl⟩<;>rcases e with rfl|⟨_,_,rfl⟩<;>exact λK=>by kernel_rfl
def A4O{c:Cd}{H:Hp}:Fx true (D+3) (.agg c.cs) (.agg c.cs) H false:=by
 match c with
 |.re b u=>exact vY (Hr _) (Oj _) (.inl rfl) (.inl rfl)
 |.co b p ps none=>exact vY (Hr _) (Oj _) (.inr ⟨_,_,rfl⟩) (.inr ⟨_,_,rfl⟩)
 |.co b p ps (some (k,vd))=>exact vY (Hr _) (Oj _) (.inr ⟨_,_,rfl⟩) (.inr ⟨_,_,rfl⟩)
def C3L{H:Hp}{es:List (Ha×Cd)}(h:Ai H r=some (.map false (Di DX es) none)):Fx true (D+4) (.mp r) (.imap (Di DX es)) H true:=by
 intro K;show IR H r (λx=>qG x λes=>Rb (HV true H (D+3)) es λ_ b=>K true (.imap b))=_;rw[Bp h];show Rb (HV true H (D+3)) (Di DX es) _=_;have e:∀(es:List (Ha×Cd))(F:Bool->IH->Af),Rb (HV true H (D+3)) (Di DX es) F=F false (Di DX es):=by
  intro es
  induction es with
  |nil=>intro F;rfl
  |cons a es ih=>
   intro F;show HV true H (D+3) (.agg a.2.cs) (λq d=>Rb (HV true H (D+3)) (Di DX es) λg f=>F (@Bool.rec (λ_=>Bool) g true q) ((SV a.1,d)::f))=_;rw[A4O,ih];rfl
 rw[e]
def B78(e:GOk gs)(k:40000<L)(b:LA gs a)(K:KV)(j:∀g f,(∃q,Fx true depth g (.tup [gV gs,Bo true]) f q)->K g f=some (.tup [gV gs,Bo true],[])):(r! L (n+64)).call LL [a] [] K=some (.tup [gV gs,Bo true],[]):=by
 rw[R!];unfold eJ A3 Kn Ga;have em:∀(H:Hp)(K:KV),LN Ae H K=K (.mp (As H)) ((As H,.map false [] none)::H):=λH K=>by
  show Io H (λs=>K (.mp s) ((s,.map false [] (mD Ae.d))::H))=_;rw[Ca];rfl
 rw[em];simp only[BE];have h:(AV.v (.int .i64 0))=I ((0:Nat):Int):=rfl;rw[b.len,h];refine C2J e k b (λH m=>?_) (L+20) 0 _ (by omega) (by have:=e.len;omega) (Ax (by simp)) (AG FH);rw[b.len,Ef,HW (by have:=e.len;omega),AZ];exact j _ _ ⟨_,eV (D:=depth-1) (Ao (C3L (D:=depth-5) m) (Ao (q:=false) CC AH))⟩
end
end
section
variable{L n:Nat}
def cE(c:Cd):Ce Ha:=⟨decide (c.kd=1),c.ps⟩
def gr(gs:ed):List (Ha×Ce Ha):=gs.map λc=>(c.id,cE c)
def C0l{gs:ed}{s:Ha}:MB (gr gs) s=(MB (gE gs) s).map cE:=by
 unfold gr gE
 induction gs with
 |nil=>rfl
 |cons c gs ih=>
  simp only[XI];unfold MB;by_cases h:c.id=s
  ·simp[h]
  ·simp[h,ih]
def gU{q:Bool}{y:Bool->Af}:gdV q (.v undef) y=y false:=by cases q<;>exact id rfl
section
variable{gs:ed}{y m x z:Nat}{b:List (Ha×Bool)}{H H':Hp}{K:KV}
def B27{c:Cd}{r:Nat}(h:Ai H r=some (C4c c)){K:K2}:AD Ac (.ptr r 31 0) H K=K (DD c.ps):=by
 match c with
 |.re b u=>exact AF (p:=31) rfl h (show 31<68 by decide)
 |.co b p ps none=>exact AF (p:=31) rfl h (show 31<68 by decide)
 |.co b p ps (some (k,vd))=>exact AF (p:=31) rfl h (show 31<68 by decide)
end
end
end Go.Abs
end
noncomputable section
end
noncomputable section
namespace Go.Abs
open Go.RowKit Go.Proofs
set_option maxRecDepth 100000
section
variable{L n:Nat}
def SA(l:List Ha)(a:AV):Prop:=a=Ls l\/(l=[]/\a=Av)
def Mt(l:List Ha):SA l (DD l):=by cases l with|nil=>exact .inr ⟨rfl,rfl⟩|cons p l=>exact .inl rfl
section
variable{l:List Ha}{a:AV}{i:Nat}{K:K2}{s:Ha}
def SA.len(h:SA l a):Bh Ac a K=K (I l.length):=by
 rcases h with rfl|⟨rfl,rfl⟩
 ·exact Na
 ·exact id rfl
def SA.ia(h:SA l a)(b:i<l.length):DC Ac a (I i) K=K (.iptr [S l[i]]):=by
 rcases h with rfl|⟨rfl,rfl⟩
 ·exact Td b
 ·simp at b
def SA.fx(h:SA l a)(H:Hp):Fx true depth a a H false:=by
 rcases h with rfl|⟨rfl,rfl⟩<;>exact λK=>by kernel_rfl
def mM(s:Ha):List Ha->Nat->AV
 |[],_=>.tup [Bo false,I (-1)]
 |a::l,i=>if a=s then .tup [Bo true,I i] else mM s l (i+1)
def rF:∀(l:List Ha)(i:Nat),s∉l->mM s l i=.tup [Bo false,I (-1)]:=by
 intro l
 induction l with
 |nil=>intro i _;rfl
 |cons a l ih=>
  intro i h;simp only[Xh,not_or]at h;unfold mM;rw[CF (Ne.symm h.1)];exact ih _ h.2
def vG:∀(l:List Ha)(i:Nat),s∈l->∃k,∃h:k<l.length,l[k]=s/\(∀m(hm:m<k),l[m]≠s)/\mM s l i=.tup [Bo true,I ((i+k:Nat):Int)]:=by
 intro l
 induction l with
 |nil=>intro i h;cases h
 |cons a l ih=>
  intro i h;unfold mM;by_cases e:a=s
  ·exact⟨0,by simp,e,λm hm=>by omega,by rw[Dq e];rfl⟩
  ·obtain⟨k,c,h1,h2,b⟩:=ih (i+1) ((Xh.1 h).resolve_left (Ne.symm e));refine⟨k+1,by simp;omega,by simpa using h1,λm hm=>?_,by rw[CF e,b];congr 4;omega⟩;cases m with
   |zero=>exact e
   |succ m=>exact h2 m (by omega)
end
section
variable{K:KV}{x:Af}{l:List Ha}{a:AV}{s:Ha}{gs:ed}
def C08{k3:Ru}{H:Hp}(c:SA l a)(hb:l.length<1000){v:AV}(hv:K v H=x)(d:v=.tup [Bo false,I (-1)]->k3 H=x):∀(f i:Nat),i<=l.length->l.length-i<f->mM s (l.drop i) i=v->
 Wg (L+20) (r! L n) K k3 f a (S s) (I i) H=x:=by
 intro f
 induction f with
 |zero=>intro i _ h;omega
 |succ f ih=>
  intro i j g b;rw[tE];unfold Wh IA A3 Kn;rw[c.len];by_cases h:i<l.length
  ·rw[uZ h]at b;unfold mM at b;rw[Fz (by omega),Cu,c.ia h,Ke,Mn];by_cases e:l[i]=s
   ·rw[Dq e]at b;rw[HR e,Cu,b];exact hv
   ·rw[CF e]at b;rw[HW e,AZ,Db (by omega)];exact ih (i+1) (by omega) (by omega) b
  ·rw[Fp (by omega),AZ];have:i=l.length:=by omega
   subst this;rw[List.drop_length]at b;exact d b.symm
def C2B(f:SA l a)(hb:l.length<1000)(g:2000<L):CS (r! L (n+1)) TE [a,S s] (mM s l 0):=by
 intro K d;have fin:∀H,K (mM s l 0) H=some (mM s l 0,[]):=λH=>d _ _ (λb=>⟨false,by
  by_cases h:s∈l
  ·obtain⟨k,_,_,_,e⟩:=vG l 0 h;rw[e];exact λK=>by kernel_rfl
  ·rw[rF l 0 h];exact λK=>by kernel_rfl⟩)
 rw[xR];unfold YG A3 Ga;simp only[BE];have c:(AV.v (.int .i64 0))=I ((0:Nat):Int):=rfl;rw[c];refine C08 f hb (fin []) (λe=>?_) (L+20) 0 (by omega) (by omega) (by rw[rB]);have:=fin [];rw[e]at this;rw[e];exact this
end
end
section
variable{L n:Nat}
def CT(R:Rt)(f:Nat)(args:Is)(v:AV):Prop:=∀K:KV,(∀e d,(∃q,Fx true depth e v d q)->K e d=some (v,[]))->R.call f args [] K=some (v,[])
def CT.z{R:Rt}{f:Nat}{args args':Is}{v:AV}{H:Hp}{K:K2}(hc:CT R f args' v)(d:R9 true depth args args' H false):Ap R f args H K=K v:=KG hc d
def pk(c n:Int):Int:=(if c<0 then-(c+1) else c)%n
def EN{c n:Int}(h:0<n):0<=pk c n/\pk c n<n:=⟨Int.emod_nonneg _ (by omega),Int.emod_lt_of_pos _ h⟩
section
variable{K:KV}{x:Af}{a b:AV}{s:Ha}{gs:ed}{H:Hp}
def LA.fx(h:LA gs a)(H:Hp):Fx true depth a a H false:=by rcases h with rfl|⟨_,rfl⟩<;>exact λK=>by kernel_rfl
def A5Z:(∃h:s∈gs.map Cd.id,∃k,∃d:k<gs.length,MB (gE gs) s=some gs[k]/\mM s (gs.map Cd.id) 0=.tup [Bo true,I (k:Int)])\/(s∉gs.map Cd.id/\MB (gE gs) s=none/\mM s (gs.map Cd.id) 0=.tup [Bo false,I (-1)]):=by
 by_cases h:s∈gs.map Cd.id
 ·left;obtain⟨k,d,h1,h2,f⟩:=vG _ 0 h;refine⟨h,k,by simpa using d,?_,by rw[f,Kd]⟩;clear h f
  induction gs generalizing k with
  |nil=>simp at d
  |cons c gs ih=>
   show MB ((c.id,c)::gE gs) s=_;unfold MB;cases k with
   |zero=>simp at h1;rw[Dq h1];rfl
   |succ k=>
    have e:=h2 0 (by omega);simp at e;rw[CF e];exact ih k (by simpa using d) (by simpa using h1) (λm hm=>by simpa using h2 (m+1) (by omega))
 ·exact .inr ⟨h,YY (by rw[Xm];exact h),rF _ 0 h⟩
def mX{z:Int}{K:K2}(h1: -9223372036854775808<z)(h2:z<9223372036854775808):MC .neg (I z) K=K (I (-z)):=by
 have e:MC .neg (I z) K=MM .i64 (0-z) λz=>K (.v (.int .i64 z)):=rfl;rw[e,HJ,Int.zero_sub,CQ (by omega) (by omega)]
end
def J7(z:Int):Prop:= -9223372036854775808<=z/\z<9223372036854775808
section
variable{c m:Int}
def tM{K:K2}(hc:J7 c)(hm:0<m)(e:m<9223372036854775808){k1:K2}(d:k1= λv=>Ar Ab .rem v (I m) K):
 (Ar Ab .lss (I c) (.v (.int .i64 0)) λf=>A1 f (Ar Ab .add (I c) (.v (.int .i64 1)) λg=>MC .neg g λi=>k1 i) (k1 (I c)))=K (I (pk c m)):=by
 subst d;obtain⟨h1,h2⟩:=hc;rw[D8];by_cases h:c<0
 ·rw[HR h,Cu,CY,CQ (by omega) (by omega),mX (by omega) (by omega)];show Ar Ab .rem (I (-(c+1))) (I m) K=_;rw[Q9 (by omega),Int.tmod_eq_emod_of_nonneg (by omega)];unfold pk;rw[Dq h]
 ·rw[HW h,AZ];show Ar Ab .rem (I c) (I m) K=_;rw[Q9 (by omega),Int.tmod_eq_emod_of_nonneg (by omega)];unfold pk;rw[CF h]
def gZ(hc:J7 c)(hm:0<m)(d:m<9223372036854775808):PS (r! L (n+1)) EE [I c,I m] (I (pk c m)):=by
 refine CS.ps (λK e=>?_) (λH=>λK=>by kernel_rfl);rw[uO];unfold WV A3;simp only[BE];exact(tM (K:=λv=>K v []) hc hm d rfl).trans (e _ _ (λb=>⟨false,λK=>by kernel_rfl⟩))
def A1r(hc:J7 c)(hm:0<m)(d:m<9223372036854775808):PS (r! L (n+1)) Ml [I c,I m] (I (pk c m)):=by
 refine CS.ps (λK e=>?_) (λH=>λK=>by kernel_rfl);rw[tT];unfold Wq A3;simp only[BE];exact(tM (K:=λv=>K v []) hc hm d rfl).trans (e _ _ (λb=>⟨false,λK=>by kernel_rfl⟩))
def MJ(hc:J7 c)(hm:0<m)(d:m<9223372036854775808):PS (r! L (n+1)) BQ [I c,I m] (I (pk c m)):=by
 refine CS.ps (λK e=>?_) (λH=>λK=>by kernel_rfl);rw[tV];unfold Ws A3;simp only[BE];exact(tM (K:=λv=>K v []) hc hm d rfl).trans (e _ _ (λb=>⟨false,λK=>by kernel_rfl⟩))
def tN(hc:J7 c)(hm:0<m)(d:m<9223372036854775808):PS (r! L (n+1)) J1 [I c,I m] (I (pk c m)):=by
 refine CS.ps (λK e=>?_) (λH=>λK=>by kernel_rfl);rw[uF];unfold XA8 A3;simp only[BE];exact(tM (K:=λv=>K v []) hc hm d rfl).trans (e _ _ (λb=>⟨false,λK=>by kernel_rfl⟩))
def MK(hc:J7 c)(hm:0<m)(d:m<9223372036854775808):PS (r! L (n+1)) Cz [I c,I m] (I (pk c m)):=by
 refine CS.ps (λK e=>?_) (λH=>λK=>by kernel_rfl);rw[tZ];unfold Wy A3;simp only[BE];exact(tM (K:=λv=>K v []) hc hm d rfl).trans (e _ _ (λb=>⟨false,λK=>by kernel_rfl⟩))
end
section
variable{K:KV}{x:Af}{a:AV}{s:Ha}{gs:ed}{H:Hp}
def NA(ws:List Int)(w:AV):Prop:=(w=.list ws.length (Fl ws)\/(ws=[]/\w=Av))/\ws.length<9223372036854775808/\∀z∈ws,J7 z
def NA.len{ws:List Int}{w:AV}{K:K2}(h:NA ws w):Bh Bs w K=K (I ws.length):=by
 rcases h.1 with rfl|⟨rfl,rfl⟩<;>exact id rfl
end
end
section
variable{L n:Nat}
section
variable{c:Int}
def B6g{k m:Int}(a:0<=k)(h1:k<m):pk k m=k:=by
 unfold pk;rw[CF (by omega),Int.emod_eq_of_lt a h1]
def A9J:((List.range 7).all λi=>JQ (Ba (Du (r! L (n+42)) Gx [I (i:Nat)]) (.agg (uu i).cs)))=true:=by kernel_rfl
def A3F(hc:J7 c):PS (r! L (n+42)) Gx [I c] (.agg (Cx (uu (pk c 7).toNat))):=by
 have pr:=EN (c:=c) (n:=7) (by decide);obtain⟨k,b⟩:∃k:Nat,pk c 7=k:=⟨(pk c 7).toNat,by omega⟩
 have a:k<7:=by omega
 refine BJ (λH K=>by kernel_rfl) ?_;have e:Du (r! L (n+42)) Gx [I c]=Du (r! L (n+42)) Gx [I (k:Nat)]:=by
  unfold Du;rw[YJ,YJ];unfold Wz Ih;have h1:∀H K,Ap (r! L (n+41)) Cz [I c,.v (.int .i64 7)] H K=K (I (pk c 7)):=MK (n:=n+40) hc (by decide) (by decide);have h2:∀H K,Ap (r! L (n+41)) Cz [I (k:Int),.v (.int .i64 7)] H K=K (I (pk k 7)):=MK (n:=n+40) (by unfold J7;omega) (by decide) (by decide);simp only[h1,h2,b,B6g (k:=(k:Int)) (m:=7) (by omega) (by omega)]
 rw[e,b,mG];exact GG.1 A9J k (KR.2 a)
def A9V:((List.range 3).all λi=>JQ (Ba (Du (r! L (n+2)) K3 [I (i:Nat)]) (.agg (rr (1+i)).cs)))=true:=by kernel_rfl
def B4h(hc:J7 c):PS (r! L (n+2)) K3 [I c] (.agg (rr (1+(pk c 3).toNat)).cs):=by
 have pr:=EN (c:=c) (n:=3) (by decide);obtain⟨k,b⟩:∃k:Nat,pk c 3=k:=⟨(pk c 3).toNat,by omega⟩
 have a:k<3:=by omega
 refine BJ (λH K=>by kernel_rfl) ?_;have e:Du (r! L (n+2)) K3 [I c]=Du (r! L (n+2)) K3 [I (k:Nat)]:=by
  unfold Du;rw[YH,YH];unfold Wv Dz A3;have h1:∀H K,Ap (r! L (n+1)) BQ [I c,.v (.int .i64 3)] H K=K (I (pk c 3)):=MJ (n:=n) hc (by decide) (by decide);have h2:∀H K,Ap (r! L (n+1)) BQ [I (k:Int),.v (.int .i64 3)] H K=K (I (pk k 3)):=MJ (n:=n) (by unfold J7;omega) (by decide) (by decide);simp only[h1,h2,b,B6g (k:=(k:Int)) (m:=3) (by omega) (by omega)]
 rw[e,b,mG];exact GG.1 A9V k (KR.2 a)
def P?(c:Int):Ha:=sha (Jp [c])
def A1i(e:40000<L)(h1: -10<=c)(h2:c<1090):PS (r! L (n+20)) F3 [I c] (S (P? c)):=by
 refine CS.ps (λK d=>?_) (λH=>λK=>by kernel_rfl);rw[Vs];unfold Oq Ih;have a:=F9 [c];have fx:R9 true depth [.sl 1 (As []) 0 1] [.list 1 (Fl [c])] ((As [],.cells false GJ (Fl [c]))::[]) true:=
  Ao (q:=true) (q':=false) (VE (D:=depth-1) (q':=false) (Ax (by simp)) rfl (K1 (λz:Int=>Value.int .i64 z) [c])) AH
 rw[XB,AP (zE (L:=L) (n:=n+14) (l:=[c]) (by simp) (by simp;omega) (by simp;omega)) fx,AP (A9v (L:=L+20) (n:=n+16) (s:=Jp [c]) (by simp only[Mi,Re]at a;omega) (by simp only[Mi,Re]at a;omega)) (q:=false) (λK=>by kernel_rfl)];exact d _ _ (λb=>⟨false,λK=>by kernel_rfl⟩)
end
end
section
variable{v:AV}{H:Hp}{i2 ie:TI}
variable{L n:Nat}
def wE{e sz n:Nat}{cs ys:Is}(h:Bk H e sz v n cs)(w:Wf H)(u:ys.length=sz)(h1:ys.all AV.one=true)(hsz:sz≠0)(hz:(B3 ie.zero).length=sz)(t:∀s,(dJ i2.d&&T6 sz (.sl sz s 0 1))=true)(hb:(n+1)*ie.bytes<=70368744177664)(j:n+1<=70368744177664):
 ∃g a,(∀K:KV,DK e sz ie i2 v (.sl sz (As H) 0 1) ((As H,.cells false e ys)::H) K=K g a)/\Bk a e sz g (n+1) (cs++ys)/\Wf a/\As H<=As a/\(∀s x,Ai H s=some x->¬A9 v s->Ai a s=some x)/\(∀s,A9 g s->As H<=s):=by
 have m:Bk ((As H,.cells false e ys)::H) e sz v n cs:=h.lat w (Lat.cons H _ (λ_=>False)) (λ_ _ h=>h);have f:Bk ((As H,.cells false e ys)::H) e sz (.sl sz (As H) 0 1) 1 ys:=.inr ⟨As H,false,rfl,Ax (by simp),by omega⟩;obtain⟨g,a,h1,h2,p,q⟩:=apt (ie:=ie) (i2:=i2) m (λK=>R4 (K:=K) f) (by omega) h1 hsz hz (t _) hb j;have i:=(Lat.cons H (.cells false e ys) (A9 v)).trans q (R:=A9 v) (λ_ _ h=>h) (λ_ _ h=>h);refine⟨g,a,h1,h2,i.wf w,i.nx,λs x k hn=>i.keep w s x k hn,λs k=>?_⟩;rw[p s k];exact l1u _
def C1a{e sz n:Nat}{v x:AV}{cs ys:Is}(i:∀K:KV,FU e sz ie 1 [(0,sz,x)] H K=K (.sl sz (As H) 0 1) ((As H,.cells false e ys)::H))(h:Bk H e sz v n cs)(w:Wf H)(k:ys.length=sz)(h1:ys.all AV.one=true)(hsz:sz≠0)(hz:(B3 ie.zero).length=sz)(m:∀s,(dJ i2.d&&T6 sz (.sl sz s 0 1))=true)(hb:(n+1)*ie.bytes<=70368744177664)(g:n+1<=70368744177664):
 ∃f a,(∀K:KV,(FU e sz ie 1 [(0,sz,x)] H λv1 j=>DK e sz ie i2 v v1 j K)=K f a)/\Bk a e sz f (n+1) (cs++ys)/\Wf a/\As H<=As a/\(∀s x,Ai H s=some x->¬A9 v s->Ai a s=some x)/\(∀s,A9 f s->As H<=s):=by
 obtain⟨f,a,a1,a2⟩:=wE (ie:=ie) (i2:=i2) h w k h1 hsz hz m hb g;exact⟨f,a,λK=>by rw[i];exact a1 K,a2⟩
def mY{i:TI}{s p e:Nat}{q:Bool}{cs vs:Is}{K:Ru}(f:Ai H s=some (.cells q e cs))(g:p+vs.length<=cs.length)(hz:i.size=vs.length)(h1:vs.all AV.one=true):DF i (.ptr s p 0) (.agg vs) H K=K (upd H s (.cells q e (splice cs p vs))):=by
 have d:DF i (.ptr s p 0) (.agg vs) H K=IR H s λx=>gM x λq e cs=>GY (.agg vs) λvs=>HK vs 0 λn=>ck (Nat.beq n i.size) (ck (NT vs) (Ey (Nat.add p 0) vs cs λa=>XA4 H s (.cells q e a) K)):=rfl;rw[d,Bp f];show(GY (.agg vs) λvs=>HK vs 0 λn=>ck (Nat.beq n i.size) (ck (NT vs) (Ey p vs cs λa=>XA4 H s (.cells q e a) K)))=_;have hc:B3 (.agg vs)=vs:=rfl;rw[CP,hc,Cy,hz,FP,h1,Kd,oG];show Ey p vs cs _=_;rw[Iu _ _ _ _ (by omega),Dg]
theorem Bk.one{e sz n:Nat}{cs:Is}(h:Bk H e sz v n cs):AV.one v=true:=by
 rcases h with⟨rfl,_⟩|⟨r,q,rfl,_⟩<;>rfl
def Bk.cell{e sz n:Nat}{cs:Is}(h:Bk H e sz v n cs):B3 v=[v]:=by
 rcases h with⟨rfl,_⟩|⟨r,q,rfl,_⟩<;>rfl
def tmV(t:Int×Int):Hx:=[.int .i64 t.1,.string ⟨⟨qn t.2⟩⟩,.string ⟨⟨qd t.2⟩⟩]
def C22(l:dQ):l.flatMap NC=(l.flatMap tmV).map λx=>.v x:=by
 induction l with
 |nil=>rfl
 |cons k l ih=>rw[rE,rE,Z6,ih];rfl
def C0d{D:Nat}{b:Bool}{l:dQ}(h:Bk H Be 3 v l.length (l.flatMap NC))(f:l=[]->v=Av):∃q,Fx b (D+1) v (E4 l) H q:=by
 rcases h with⟨rfl,h2,_⟩|⟨r,q,rfl,h2,d⟩
 ·cases l with
  |nil=>exact⟨false,CC⟩
  |cons a l=>simp at h2
 ·cases l with
  |nil=>have:=f rfl;cases this
  |cons a l=>
   refine⟨true,?_⟩;show Fx b (D+1) _ (.list (a::l).length ((a::l).flatMap NC)) H true;rw[C22]at h2 d⊢;exact VE (q':=false) h2 d (K1 _root_.id _)
def L1(x:List Int):Nat->dQ
 |0=>[]
 |i+1=>if pk (x.getD i 0) 17-8≠0/\(L1 x i).length<5 then L1 x i++[(1+(i:Int),pk (x.getD i 0) 17-8)] else L1 x i
def A5p(x:List Int):∀i,i<=6->TmsOk (L1 x i)/\(L1 x i).length<=5/\∀t∈L1 x i,t.1<=i:=by
 intro i
 induction i with
 |zero=>intro _;exact⟨⟨by simp[L1],by simp[L1],by simp[L1]⟩,by simp[L1],by simp[L1]⟩
 |succ i ih=>
  intro j;obtain⟨h1,h2,f⟩:=ih (by omega);have pr:=EN (c:=x.getD i 0) (n:=17) (by decide);unfold L1;by_cases h:pk (x.getD i 0) 17-8≠0/\(L1 x i).length<5
  ·rw[Dq h];refine⟨⟨by simp;omega,λt d=>?_,?_⟩,by simp;omega,λt d=>?_⟩
   ·rcases kB.1 d with d|d
    ·exact h1.rng t d
    ·rw[YR]at d;subst d;simp only;omega
   ·rw[List.pairwise_append];refine⟨h1.asc,by simp,λa g b hb=>?_⟩;rw[YR]at hb;subst hb;have:=f a g;simp only;omega
   ·rcases kB.1 d with d|d
    ·have:=f t d;omega
    ·rw[YR]at d;subst d;simp only;omega
  ·rw[CF h];exact⟨h1,h2,λt d=>by have:=f t d;omega⟩
def C65{t:Int×Int}{K:KV}:FU Be 3 BG 1 [(0,3,.agg (NC t))] H K=K (.sl 3 (As H) 0 1) ((As H,.cells false Be (NC t))::H):=by
 have e:FU Be 3 BG 1 [(0,3,.agg (NC t))] H K=Io H (λs=>K (.sl 3 s 0 1) ((s,.cells false Be (NC t))::H)):=r_ rfl;rw[e,Ca]
section
variable{K:KV}{x:Af}{xs:List Int}{ca cb ra rb:Ha}{b r z:Nat}{c e:Int}
abbrev C3U(ca cb ra rb:Ha)(v:AV):Row:=.cells true Ei [S ca,S cb,v,S ra,S rb]
structure FmH(b r z:Nat)(xs:List Int)(ca cb ra rb:Ha)(ts:dQ)(v:AV)(H:Hp):Prop where
 hb:Ai H b=some (c_ Js (Fl xs))
 hr:Ai H r=some (C3U ca cb ra rb v)
 hz:∃cs,cs.length=5/\Ai H z=some (c_ Ei cs)
 sl:Bk H Be 3 v ts.length (ts.flatMap NC)
 nl:ts=[]->v=Av
 nb:¬A9 v b
 nr:¬A9 v r
 nz:¬A9 v z
 wf:Wf H
def B1D{t:TI}{e sz n:Nat}{cs:Is}{K:K2}(a:t.d=.slice e sz)(h:Bk H e sz v n cs):Bh t v K=K (I n):=Lr a h
def C3T{C:AV->KV}(hL:100<L)(P:b≠r)(Z:z≠r)(hx:xs.length=6)(w:∀c∈xs,J7 c)(u:∀v H,FmH b r z xs ca cb ra rb (L1 xs 6) v H->C (.ptr z 0 0) (.ptr r 0 0) H=x):
 ∀(f i:Nat)(v:AV)(H:Hp),i<=6->6-i<f->FmH b r z xs ca cb ra rb (L1 xs i) v H->
 Um (L+20) (r! L (n+40)) K C f (.ptr b 0 0) (.ptr z 0 0) (.ptr r 0 0) (I i) H=x:=by
 intro f
 induction f with
 |zero=>intro i v H _ h;omega
 |succ f ih=>
  intro i v H hi hf a;rw[pG];unfold Un Dz XW IA Dk A3 Ga;have e6:(AV.v (.int .i64 6))=I ((6:Nat):Int):=rfl;rw[e6];by_cases h:i<6
  ·have g:i<xs.length:=by omega
   have R:(Fl xs).getD i .dk=I (xs.getD i 0):=by rw[Xk g];simp[List.getD,KL g]
   have hc:J7 (xs.getD i 0):=by simp only[List.getD,KL g,l1q];exact w _ (Qk g)
   have pr:=EN (c:=xs.getD i 0) (n:=17) (by decide);have ld:∀{K},AD Ab (.ptr b i 0) H K=K (I (xs.getD i 0)):=λ{K}=>by rw[AF (p:=i) rfl a.hb (by simp[Fl];omega),R]
   have Y:∀H K,Ap (r! L (n+40)) J1 [I (xs.getD i 0),.v (.int .i64 17)] H K=K (I (pk (xs.getD i 0) 17)):=tN (n:=n+39) hc (by decide) (by decide);have ia:∀{K:K2},DC BA (.ptr b 0 0) (I i) K=K (.ptr b i 0):=λ{K}=>ER i rfl rfl h;rw[Fz (by omega),Cu];simp only[BE];rw[ia,ld,Y,J6,CQ (by omega) (by omega)];have V:∀{K:K2},Ar Ab .neq (I (pk (xs.getD i 0) 17-8)) (.v (.int .i64 0)) K=K (Bo (decide (pk (xs.getD i 0) 17-8≠0))):=λ{K}=>by rw[I3];simp
   rw[V];have d:L1 xs (i+1)=if pk (xs.getD i 0) 17-8≠0/\(L1 xs i).length<5 then L1 xs i++[(1+(i:Int),pk (xs.getD i 0) 17-8)] else L1 xs i:=rfl
   have add:∀{K:K2},Ar Ab .add (I i) (.v (.int .i64 1)) K=K (I ((i+1:Nat):Int)):=λ{K}=>Db (by omega);by_cases F:pk (xs.getD i 0) 17-8=0
   ·rw[HW (by simpa using F)];simp only[iW,Cb,RC];rw[AZ,add];rw[CF λa=>a.1 F]at d;exact ih (i+1) v H (by omega) (by omega) (by rw[d];exact a)
   ·have ab:=(A5p xs i (by omega)).2.1;have f2:∀K:K2,CD 2 (.ptr r 0 0) K=K (.ptr r 2 0):=λK=>id rfl;have l2:∀K,AD A2 (.ptr r 2 0) H K=K v:=λK=>AF (p:=2) rfl a.hr (by simp);rw[HR (by simpa using F)];simp only[gT,Cb,UV,f2,l2,B1D (t:=A2) rfl a.sl];have e5:(AV.v (.int .i64 5))=I ((5:Nat):Int):=rfl;rw[e5];by_cases h5:(L1 xs i).length<5
    ·rw[Fz (by omega),Cb,Cu];rw[Dq ⟨F,h5⟩]at d;have X:∀H K,Ap (r! L (n+40)) Gy [I (pk (xs.getD i 0) 17-8),.v (.int .i64 4)] H K=K (.tup [.agg (qa (pk (xs.getD i 0) 17-8)),I 0]):=A9Z (by omega) (by omega);rw[X,FB,FA,B1 (cs:=[zS,zS]) rfl];have A:=Ax (H:=H) (x:=.cells true Bv [zS,zS]) (by simp);have w1:=AG (x:=.cells true Bv [zS,zS]) a.wf;rw[BX (vs:=qa (pk (xs.getD i 0) 17-8)) A rfl rfl rfl];have k:=AC (q:=true) (e:=Bv) (cs:=qa (pk (xs.getD i 0) 17-8)) A;have kp:∀s x,Ai H s=some x->Ai (upd ((As H,c_ Bv [zS,zS])::H) (As H) (c_ Bv (qa (pk (xs.getD i 0) 17-8)))) s=some x:=λs x j=>by
      have:=a.wf.lt j;rw[Ag (by omega)];exact A7 this j
     have w2:=Bj (r:=As H) (y:=.cells true Bv (qa (pk (xs.getD i 0) 17-8))) w1;generalize upd ((As H,c_ Bv [zS,zS])::H) (As H) (c_ Bv (qa (pk (xs.getD i 0) 17-8)))=D at k kp w2;generalize As H=r1 at k;have l3:∀K,AD A2 (.ptr r 2 0) D K=K v:=λK=>AF (p:=2) rfl (kp _ _ a.hr) (by simp);have l4:∀K,AD A4 (.ptr r1 0 0) D K=K (.agg (qa (pk (xs.getD i 0) 17-8))):=λK=>Bu rfl rfl k;have M:∀{K:K2},Ar Ab .add (.v (.int .i64 1)) (I i) K=K (I (1+(i:Int))):=λ{K}=>by rw[CY,CQ (by omega) (by omega)]
     have bd:∀{K:K2},BP BG [(0,1,I (1+(i:Int))),(1,2,.agg (qa (pk (xs.getD i 0) 17-8)))] K=K (.agg (NC (1+(i:Int),pk (xs.getD i 0) 17-8))):=λ{K}=>id rfl;rw[l3,M,l4,bd];have aa:Bk D Be 3 v (L1 xs i).length ((L1 xs i).flatMap NC):=by
      rcases a.sl with j|⟨r2,q,h2,N,O⟩
      ·exact .inl j
      ·exact .inr ⟨r2,q,h2,kp _ _ N,O⟩
     obtain⟨v',H',a1,a2,a3,a4,J,a6⟩:=C1a (ie:=BG) (i2:=A2) (λK=>C65 (t:=(1+(i:Int),pk (xs.getD i 0) 17-8)) (H:=D) (K:=K)) aa w2 rfl rfl (by decide) rfl (λ_=>rfl) (by show _*40<=_;omega) (by omega);have B:Ai H' r=some (C3U ca cb ra rb v):=J _ _ (kp _ _ a.hr) a.nr;rw[a1,D6 B (by simp) rfl (Bk.cell a2) (Bk.one a2),add];obtain⟨cs,Q,m⟩:=a.hz;have new:∀{s x},Ai H s=some x->¬A9 v' s:=λ{s x}j hv=>by
      have h1:=w2.lt (kp _ _ j);have h2:=a6 _ hv;omega
     refine ih (i+1) v' _ (by omega) (by omega) ⟨?_,AC B,⟨cs,Q,?_⟩,?_,?_,new a.hb,new a.hr,new m,Bj a3⟩
     ·rw[Ag P];exact J _ _ (kp _ _ a.hb) a.nb
     ·rw[Ag Z];exact J _ _ (kp _ _ m) a.nz
     ·rw[d,EK,l2l];have:(List.flatMap NC [(1+(i:Int),pk (xs.getD i 0) 17-8)])=NC (1+(i:Int),pk (xs.getD i 0) 17-8):=by simp
      rw[this];rcases a2 with j|⟨r2,q,h2,N,O⟩
      ·exact .inl j
      ·refine .inr ⟨r2,q,h2,?_,O⟩;rw[Ag (λe=>new a.hr (by rw[h2,<-e];exact⟨_,_,_,rfl⟩))];exact N
     ·rw[d];intro hc;simp at hc
    ·rw[Fp (by omega),Cb,AZ,add];rw[CF λa=>h5 a.2]at d;exact ih (i+1) v H (by omega) (by omega) (by rw[d];exact a)
  ·have:i=6:=by omega
   subst this;rw[Fp (by omega),AZ];exact u v H a
def zW(l:List Int):(Fl l).all AV.one=true:=by
 rw[GG];intro a d;obtain⟨z,_,rfl⟩:=Rc.1 d;rfl
def B03(N:100<L)(hc:J7 c)(hr:J7 e)(Q:xs.length=6)(O:∀c∈xs,J7 c):CS (r! L (n+41)) Rv [I c,I e,.agg (Fl xs)] (.agg [S (qn (pk c 161-80)),S (qd (pk c 161-80)),E4 (L1 xs 6),S (qn (pk e 9)),S (qd (pk e 9))]):=by
 intro K M;rw[uI];unfold WR A3;have p1:=EN (c:=c) (n:=161) (by decide);have p2:=EN (c:=e) (n:=9) (by decide);have k1:∀H K,Ap (r! L (n+40)) J1 [I c,.v (.int .i64 161)] H K=K (I (pk c 161)):=tN (n:=n+39) hc (by decide) (by decide);have R:∀H K,Ap (r! L (n+40)) J1 [I e,.v (.int .i64 9)] H K=K (I (pk e 9)):=tN (n:=n+39) hr (by decide) (by decide);have V:∀H K,Ap (r! L (n+40)) Gy [I (pk c 161-80),.v (.int .i64 4)] H K=K (.tup [.agg (qa (pk c 161-80)),I 0]):=A9Z (by omega) (by omega);have X:∀H K,Ap (r! L (n+40)) Gy [I (pk e 9),.v (.int .i64 4)] H K=K (.tup [.agg (qa (pk e 9)),I 0]):=A9Z (by omega) (by omega);rw[DN (zW xs)];have hb:=Ax (H:=[]) (x:=.cells true Js (Fl xs)) (by simp);have w0:=AG (x:=.cells true Js (Fl xs)) FH;generalize ((As [],c_ Js (Fl xs))::([]:Hp))=j at hb w0;generalize As []=b at hb;rw[B1 (cs:=[zS,zS,Av,zS,zS]) rfl];have hz:=Ax (H:=j) (x:=.cells true Ei [zS,zS,Av,zS,zS]) (by simp);have b1:=A7 (x:=.cells true Ei [zS,zS,Av,zS,zS]) (w0.lt hb) hb;have nb:=w0.lt hb;have w1:=AG (x:=.cells true Ei [zS,zS,Av,zS,zS]) w0;generalize ((As j,c_ Ei [zS,zS,Av,zS,zS])::j)=w at hz w1 b1;generalize As j=z at hz nb;have A:∀{K:K2},BP E0 [] K=K (.agg [zS,zS,Av,zS,zS]):=λ{K}=>id rfl;rw[A,B1 (cs:=[zS,zS,Av,zS,zS]) rfl];obtain⟨k,B,r2,Y,kp⟩:=Ip (e:=Ei) (zs:=[zS,zS,Av,zS,zS]) (vs:=[zS,zS,Av,zS,zS]) w1 rfl;rw[BX (vs:=[zS,zS,Av,zS,zS]) (Ax (by simp)) rfl rfl rfl,<-B];obtain⟨b2,a⟩:=kp _ _ b1;obtain⟨Z,d⟩:=kp _ _ hz;generalize As w=r at r2 a d;have C:∀K:K2,CD 0 (.ptr r 0 0) K=K (.ptr r 0 0):=λK=>id rfl;have f3:∀K:K2,CD 3 (.ptr r 0 0) K=K (.ptr r 3 0):=λK=>id rfl;rw[k1,J6,CQ (by omega) (by omega),V,FB,FA,C,mY (vs:=qa (pk c 161-80)) r2 (show 0+2<=5 by decide) rfl rfl];have p:=AC (q:=true) (e:=Ei) (cs:=splice [zS,zS,Av,zS,zS] 0 (qa (pk c 161-80))) r2;have m:=b2;have t:=Z;rw[<-Ag (H:=k) (r:=r) (y:=.cells true Ei (splice [zS,zS,Av,zS,zS] 0 (qa (pk c 161-80)))) a]at m;rw[<-Ag (H:=k) (r:=r) (y:=.cells true Ei (splice [zS,zS,Av,zS,zS] 0 (qa (pk c 161-80)))) d]at t;have u:=Bj (r:=r) (y:=.cells true Ei (splice [zS,zS,Av,zS,zS] 0 (qa (pk c 161-80)))) Y;generalize upd k r (c_ Ei (splice [zS,zS,Av,zS,zS] 0 (qa (pk c 161-80))))=H3 at p m t u;rw[R,X,FB,FA,f3,mY (vs:=qa (pk e 9)) p (show 3+2<=5 by decide) rfl rfl];simp only[BE];refine C3T (n:=n) (b:=b) (r:=r) (z:=z) (ca:=qn (pk c 161-80)) (cb:=qd (pk c 161-80)) (ra:=qn (pk e 9)) (rb:=qd (pk e 9)) N a d Q O ?_ (L+20) 0 Av _ (by omega) (by omega) ⟨?_,AC p,⟨[zS,zS,Av,zS,zS],rfl,?_⟩,.inl ⟨rfl,rfl,rfl⟩,λ_=>rfl,?_,?_,?_,Bj u⟩
 ·intro v H f;obtain⟨cs,g,i⟩:=f.hz;have o:[S (qn (pk c 161-80)),S (qd (pk c 161-80)),v,S (qn (pk e 9)),S (qd (pk e 9))].all AV.one=true:=by
   show(true&&(true&&(AV.one v&&(true&&(true&&true)))))=true;rw[Bk.one f.sl];rfl
  rw[Bu rfl rfl f.hr,BX i (by exact g.symm) (by exact g.symm) o,Bu rfl rfl (AC i)];refine M _ _ (λq=>?_);have s:Bk (upd H z (c_ Ei [S (qn (pk c 161-80)),S (qd (pk c 161-80)),v,S (qn (pk e 9)),S (qd (pk e 9))])) Be 3 v (L1 xs 6).length ((L1 xs 6).flatMap NC):=by
   rcases f.sl with P|⟨r2,q,h2,F,J⟩
   ·exact .inl P
   ·refine .inr ⟨r2,q,h2,?_,J⟩;rw[Ag (λe=>f.nz (by rw[h2,<-e];exact⟨_,_,_,rfl⟩))];exact F
  obtain⟨q',hq⟩:=C0d (D:=depth-2) (b:=q) s f.nl;exact⟨_,LF (D:=depth-1) (Ao (q:=false) CC (Ao (q:=false) CC (Ao hq (Ao (q:=false) CC (Ao (q:=false) CC AH)))))⟩
 ·rw[Ag a];exact m
 ·rw[Ag d];exact t
 all_goals (rintro⟨_,_,_,h⟩;cases h)
end
end
end Go.Abs
end
