import Derived.Test.YtobbbklaopaiaaaGreatDoorP16
import Derived.Test.YtobbbklaopaiaaaGreatDoorP17
import Derived.Test.YtobbbklaopaiaaaGreatDoorP18
import Derived.Test.YtobbbklaopaiaaaGreatDoorP19
import Derived.Test.YtobbbklaopaiaaaGreatDoorP20
import Derived.Test.YtobbbklaopaiaaaGreatDoorP21
import Derived.Test.YtobbbklaopaiaaaGreatDoorP22
import Derived.Test.YtobbbklaopaiaaaGreatDoorP23
import Derived.Test.YtobbbklaopaiaaaGreatDoorP24
import Derived.Test.YtobbbklaopaiaaaGreatDoorP25
import Derived.Test.YtobbbklaopaiaaaGreatDoorP26
set_option linter.all false
set_option maxHeartbeats 100000000
noncomputable section
namespace Go.Abs
open Go.RowKit Go.Proofs
set_option maxRecDepth 100000
section
variable{a b:Nat}
variable{L n:Nat}
def RV.ls{R:Rt}{f:Nat}{args':Is}{v:AV}(h:RV R f args' v):LS R f args' v:=λq args H c K=>by rw[<-zO];exact qM h c
def vQ(op l r:Nat):Nd:=⟨op,[],[],u0,0,l,r⟩
def poN(l e:Nat):Nd:=⟨7,[],[],u0,mC e,l,0⟩
def A2X:Option Nat->AV
 |some k=>.tup [.agg (CL (uu k)),I 0]
 |none=>.tup [.agg FZ,I 90]
section
variable{id:Int}{o:UD}{xs:List Nd}{ks:Hb}{l r e i k:Nat}{q:Option Nat}{I1:AV}
def tU(h1:1<=ks.length)(d:ks.length<=3):(∃a,ks=[a])\/(∃a b,ks=[a,b])\/∃a b c,ks=[a,b,c]:=by
 match ks,h1,d with
 |[a],_,_=>exact .inl ⟨a,rfl⟩
 |[a,b],_,_=>exact .inr (.inl ⟨a,b,rfl⟩)
 |[a,b,c],_,_=>exact .inr (.inr ⟨a,b,c,rfl⟩)
def Wp(h:l<[a].length):l=0:=by simpa using h
def Wo(h:l<[a,b].length):l=0\/l=1:=by simp at h;omega
def Wn{a b c:Nat}(h:l<[a,b,c].length):l=0\/l=1\/l=2:=by simp at h;omega
def lt5(h:e<5):e=0\/e=1\/e=2\/e=3\/e=4:=by omega
def A9v(h1:1<=ks.length)(f:ks.length<=3)(d:l<ks.length)(hr:r<ks.length):RV (rt (L+20) (n+2)) Fw [.agg (BI id (BP ks) (Cu xs) o),.agg (vQ 3 l r).cs,I ks.length] (.tup [Bo true,Bo true]):=by
 rcases tU h1 f with⟨a,rfl⟩|⟨a,b,rfl⟩|⟨a,b,c,rfl⟩
 ·obtain rfl:=Wp d;obtain rfl:=Wp hr;exact λb=>by kernel_rfl
 ·rcases Wo d with rfl|rfl<;>rcases Wo hr with rfl|rfl<;>(exact λb=>by kernel_rfl)
 ·rcases Wn d with rfl|rfl|rfl<;>rcases Wn hr with rfl|rfl|rfl<;>(exact λb=>by kernel_rfl)
attribute [local irreducible] nM rt in
def A9p(h1:1<=ks.length)(j:ks.length<=3)(g:l<ks.length)(hr:r<ks.length)(f:PO (rt (L+20) (n+41)) T4 [.agg (uu (ks.getD l 0)).cs,.agg (uu (ks.getD r 0)).cs] (JX q)):CS (rt (L+20) (n+42)) CF [.agg (BI id (BP ks) (Cu xs) o),.agg (vQ 3 l r).cs,I ks.length,R9 ks] (A2X q):=by
 intro K h;have d:=(A9v (L:=L) (n:=n+39) (id:=id) (o:=o) (xs:=xs) h1 j g hr).ls;rewrite[HD];unfold Hi q4N;rewrite[zO];generalize rt (L+20) (n+41)=R at*
 revert f d
 rcases tU h1 j with⟨a,rfl⟩|⟨a,b,rfl⟩|⟨a,b,c,rfl⟩
 ·obtain rfl:=Wp g;obtain rfl:=Wp hr;intro f d;simp only[Vu,Vt]at f;(conv=>lhs;whnf);rewrite[d false _ _ ?hq];(case hq=>exact λK=>by kernel_rfl);(conv=>lhs;whnf);rewrite[f];cases q<;>(conv=>lhs;whnf)<;>exact h _ _ (λb=>⟨false,λK=>by kernel_rfl⟩)
 ·rcases Wo g with rfl|rfl<;>rcases Wo hr with rfl|rfl<;>(intro f d;simp only[Vu,Vt]at f;(conv=>lhs;whnf);rewrite[d false _ _ ?hq];(case hq=>exact λK=>by kernel_rfl);(conv=>lhs;whnf);rewrite[f];cases q<;>(conv=>lhs;whnf)<;>exact h _ _ (λb=>⟨false,λK=>by kernel_rfl⟩))
 ·rcases Wn g with rfl|rfl|rfl<;>rcases Wn hr with rfl|rfl|rfl<;>(intro f d;simp only[Vu,Vt]at f;(conv=>lhs;whnf);rewrite[d false _ _ ?hq];(case hq=>exact λK=>by kernel_rfl);(conv=>lhs;whnf);rewrite[f];cases q<;>(conv=>lhs;whnf)<;>exact h _ _ (λb=>⟨false,λK=>by kernel_rfl⟩))
def A9z(h1:1<=ks.length)(f:ks.length<=3)(d:l<ks.length)(hr:r<ks.length):RV (rt (L+20) (n+2)) Fw [.agg (BI id (BP ks) (Cu xs) o),.agg (vQ 4 l r).cs,I ks.length] (.tup [Bo true,Bo true]):=by
 rcases tU h1 f with⟨a,rfl⟩|⟨a,b,rfl⟩|⟨a,b,c,rfl⟩
 ·obtain rfl:=Wp d;obtain rfl:=Wp hr;exact λb=>by kernel_rfl
 ·rcases Wo d with rfl|rfl<;>rcases Wo hr with rfl|rfl<;>(exact λb=>by kernel_rfl)
 ·rcases Wn d with rfl|rfl|rfl<;>rcases Wn hr with rfl|rfl|rfl<;>(exact λb=>by kernel_rfl)
attribute [local irreducible] nM rt in
def A9t(h1:1<=ks.length)(j:ks.length<=3)(g:l<ks.length)(hr:r<ks.length)(f:PO (rt (L+20) (n+41)) Kr [.agg (uu (ks.getD l 0)).cs,.agg (uu (ks.getD r 0)).cs] (JX q)):CS (rt (L+20) (n+42)) CF [.agg (BI id (BP ks) (Cu xs) o),.agg (vQ 4 l r).cs,I ks.length,R9 ks] (A2X q):=by
 intro K h;have d:=(A9z (L:=L) (n:=n+39) (id:=id) (o:=o) (xs:=xs) h1 j g hr).ls;rewrite[HD];unfold Hi q4N;rewrite[zO];generalize rt (L+20) (n+41)=R at*
 revert f d
 rcases tU h1 j with⟨a,rfl⟩|⟨a,b,rfl⟩|⟨a,b,c,rfl⟩
 ·obtain rfl:=Wp g;obtain rfl:=Wp hr;intro f d;simp only[Vu,Vt]at f;(conv=>lhs;whnf);rewrite[d false _ _ ?hq];(case hq=>exact λK=>by kernel_rfl);(conv=>lhs;whnf);rewrite[f];cases q<;>(conv=>lhs;whnf)<;>exact h _ _ (λb=>⟨false,λK=>by kernel_rfl⟩)
 ·rcases Wo g with rfl|rfl<;>rcases Wo hr with rfl|rfl<;>(intro f d;simp only[Vu,Vt]at f;(conv=>lhs;whnf);rewrite[d false _ _ ?hq];(case hq=>exact λK=>by kernel_rfl);(conv=>lhs;whnf);rewrite[f];cases q<;>(conv=>lhs;whnf)<;>exact h _ _ (λb=>⟨false,λK=>by kernel_rfl⟩))
 ·rcases Wn g with rfl|rfl|rfl<;>rcases Wn hr with rfl|rfl|rfl<;>(intro f d;simp only[Vu,Vt]at f;(conv=>lhs;whnf);rewrite[d false _ _ ?hq];(case hq=>exact λK=>by kernel_rfl);(conv=>lhs;whnf);rewrite[f];cases q<;>(conv=>lhs;whnf)<;>exact h _ _ (λb=>⟨false,λK=>by kernel_rfl⟩))
def A9x(h1:1<=ks.length)(f:ks.length<=3)(d:l<ks.length)(hr:r<ks.length):RV (rt (L+20) (n+2)) Fw [.agg (BI id (BP ks) (Cu xs) o),.agg (vQ 5 l r).cs,I ks.length] (.tup [Bo true,Bo true]):=by
 rcases tU h1 f with⟨a,rfl⟩|⟨a,b,rfl⟩|⟨a,b,c,rfl⟩
 ·obtain rfl:=Wp d;obtain rfl:=Wp hr;exact λb=>by kernel_rfl
 ·rcases Wo d with rfl|rfl<;>rcases Wo hr with rfl|rfl<;>(exact λb=>by kernel_rfl)
 ·rcases Wn d with rfl|rfl|rfl<;>rcases Wn hr with rfl|rfl|rfl<;>(exact λb=>by kernel_rfl)
attribute [local irreducible] nM rt in
def A9r(h1:1<=ks.length)(j:ks.length<=3)(g:l<ks.length)(hr:r<ks.length)(f:PO (rt (L+20) (n+41)) T6 [.agg (uu (ks.getD l 0)).cs,.agg (uu (ks.getD r 0)).cs] (JX q)):CS (rt (L+20) (n+42)) CF [.agg (BI id (BP ks) (Cu xs) o),.agg (vQ 5 l r).cs,I ks.length,R9 ks] (A2X q):=by
 intro K h;have d:=(A9x (L:=L) (n:=n+39) (id:=id) (o:=o) (xs:=xs) h1 j g hr).ls;rewrite[HD];unfold Hi q4N;rewrite[zO];generalize rt (L+20) (n+41)=R at*
 revert f d
 rcases tU h1 j with⟨a,rfl⟩|⟨a,b,rfl⟩|⟨a,b,c,rfl⟩
 ·obtain rfl:=Wp g;obtain rfl:=Wp hr;intro f d;simp only[Vu,Vt]at f;(conv=>lhs;whnf);rewrite[d false _ _ ?hq];(case hq=>exact λK=>by kernel_rfl);(conv=>lhs;whnf);rewrite[f];cases q<;>(conv=>lhs;whnf)<;>exact h _ _ (λb=>⟨false,λK=>by kernel_rfl⟩)
 ·rcases Wo g with rfl|rfl<;>rcases Wo hr with rfl|rfl<;>(intro f d;simp only[Vu,Vt]at f;(conv=>lhs;whnf);rewrite[d false _ _ ?hq];(case hq=>exact λK=>by kernel_rfl);(conv=>lhs;whnf);rewrite[f];cases q<;>(conv=>lhs;whnf)<;>exact h _ _ (λb=>⟨false,λK=>by kernel_rfl⟩))
 ·rcases Wn g with rfl|rfl|rfl<;>rcases Wn hr with rfl|rfl|rfl<;>(intro f d;simp only[Vu,Vt]at f;(conv=>lhs;whnf);rewrite[d false _ _ ?hq];(case hq=>exact λK=>by kernel_rfl);(conv=>lhs;whnf);rewrite[f];cases q<;>(conv=>lhs;whnf)<;>exact h _ _ (λb=>⟨false,λK=>by kernel_rfl⟩))
def A9y(h1:1<=ks.length)(f:ks.length<=3)(d:l<ks.length)(hr:r<ks.length):RV (rt (L+20) (n+2)) Fw [.agg (BI id (BP ks) (Cu xs) o),.agg (vQ 6 l r).cs,I ks.length] (.tup [Bo true,Bo true]):=by
 rcases tU h1 f with⟨a,rfl⟩|⟨a,b,rfl⟩|⟨a,b,c,rfl⟩
 ·obtain rfl:=Wp d;obtain rfl:=Wp hr;exact λb=>by kernel_rfl
 ·rcases Wo d with rfl|rfl<;>rcases Wo hr with rfl|rfl<;>(exact λb=>by kernel_rfl)
 ·rcases Wn d with rfl|rfl|rfl<;>rcases Wn hr with rfl|rfl|rfl<;>(exact λb=>by kernel_rfl)
attribute [local irreducible] nM rt in
def A9s(h1:1<=ks.length)(j:ks.length<=3)(g:l<ks.length)(hr:r<ks.length)(f:PO (rt (L+20) (n+41)) T7 [.agg (uu (ks.getD l 0)).cs,.agg (uu (ks.getD r 0)).cs] (JX q)):CS (rt (L+20) (n+42)) CF [.agg (BI id (BP ks) (Cu xs) o),.agg (vQ 6 l r).cs,I ks.length,R9 ks] (A2X q):=by
 intro K h;have d:=(A9y (L:=L) (n:=n+39) (id:=id) (o:=o) (xs:=xs) h1 j g hr).ls;rewrite[HD];unfold Hi q4N;rewrite[zO];generalize rt (L+20) (n+41)=R at*
 revert f d
 rcases tU h1 j with⟨a,rfl⟩|⟨a,b,rfl⟩|⟨a,b,c,rfl⟩
 ·obtain rfl:=Wp g;obtain rfl:=Wp hr;intro f d;simp only[Vu,Vt]at f;(conv=>lhs;whnf);rewrite[d false _ _ ?hq];(case hq=>exact λK=>by kernel_rfl);(conv=>lhs;whnf);rewrite[f];cases q<;>(conv=>lhs;whnf)<;>exact h _ _ (λb=>⟨false,λK=>by kernel_rfl⟩)
 ·rcases Wo g with rfl|rfl<;>rcases Wo hr with rfl|rfl<;>(intro f d;simp only[Vu,Vt]at f;(conv=>lhs;whnf);rewrite[d false _ _ ?hq];(case hq=>exact λK=>by kernel_rfl);(conv=>lhs;whnf);rewrite[f];cases q<;>(conv=>lhs;whnf)<;>exact h _ _ (λb=>⟨false,λK=>by kernel_rfl⟩))
 ·rcases Wn g with rfl|rfl|rfl<;>rcases Wn hr with rfl|rfl|rfl<;>(intro f d;simp only[Vu,Vt]at f;(conv=>lhs;whnf);rewrite[d false _ _ ?hq];(case hq=>exact λK=>by kernel_rfl);(conv=>lhs;whnf);rewrite[f];cases q<;>(conv=>lhs;whnf)<;>exact h _ _ (λb=>⟨false,λK=>by kernel_rfl⟩))
def A9w(h1:1<=ks.length)(f:ks.length<=3)(d:l<ks.length)(he:e<5):RV (rt (L+20) (n+2)) Fw [.agg (BI id (BP ks) (Cu xs) o),.agg (poN l e).cs,I ks.length] (.tup [Bo true,Bo true]):=by
 rcases tU h1 f with⟨a,rfl⟩|⟨a,b,rfl⟩|⟨a,b,c,rfl⟩
 ·obtain rfl:=Wp d;rcases lt5 he with rfl|rfl|rfl|rfl|rfl<;>(exact λb=>by kernel_rfl)
 ·rcases Wo d with rfl|rfl<;>rcases lt5 he with rfl|rfl|rfl|rfl|rfl<;>(exact λb=>by kernel_rfl)
 ·rcases Wn d with rfl|rfl|rfl<;>rcases lt5 he with rfl|rfl|rfl|rfl|rfl<;>(exact λb=>by kernel_rfl)
attribute [local irreducible] nM rt in
def A9q(h1:1<=ks.length)(j:ks.length<=3)(g:l<ks.length)(he:e<5)(f:PO (rt (L+20) (n+41)) L3 [.agg (uu (ks.getD l 0)).cs,.agg [I (mC e),I 1]] (JX q)):CS (rt (L+20) (n+42)) CF [.agg (BI id (BP ks) (Cu xs) o),.agg (poN l e).cs,I ks.length,R9 ks] (A2X q):=by
 intro K h;have d:=(A9w (L:=L) (n:=n+39) (id:=id) (o:=o) (xs:=xs) h1 j g he).ls;rewrite[HD];unfold Hi q4N;rewrite[zO];generalize rt (L+20) (n+41)=R at*
 revert f d
 rcases tU h1 j with⟨a,rfl⟩|⟨a,b,rfl⟩|⟨a,b,c,rfl⟩
 ·obtain rfl:=Wp g;rcases lt5 he with rfl|rfl|rfl|rfl|rfl<;>(intro f d;simp only[Vu,Vt]at f;(conv=>lhs;whnf);rewrite[d false _ _ ?hq];(case hq=>exact λK=>by kernel_rfl);(conv=>lhs;whnf);refine O' (f _ _) ?_;cases q<;>(conv=>lhs;whnf)<;>exact h _ _ (λb=>⟨false,λK=>by kernel_rfl⟩))
 ·rcases Wo g with rfl|rfl<;>rcases lt5 he with rfl|rfl|rfl|rfl|rfl<;>(intro f d;simp only[Vu,Vt]at f;(conv=>lhs;whnf);rewrite[d false _ _ ?hq];(case hq=>exact λK=>by kernel_rfl);(conv=>lhs;whnf);refine O' (f _ _) ?_;cases q<;>(conv=>lhs;whnf)<;>exact h _ _ (λb=>⟨false,λK=>by kernel_rfl⟩))
 ·rcases Wn g with rfl|rfl|rfl<;>rcases lt5 he with rfl|rfl|rfl|rfl|rfl<;>(intro f d;simp only[Vu,Vt]at f;(conv=>lhs;whnf);rewrite[d false _ _ ?hq];(case hq=>exact λK=>by kernel_rfl);(conv=>lhs;whnf);refine O' (f _ _) ?_;cases q<;>(conv=>lhs;whnf)<;>exact h _ _ (λb=>⟨false,λK=>by kernel_rfl⟩))
def A6n(h1:1<=ks.length)(f:ks.length<=3)(d:l<ks.length)(hr:r<ks.length):RV (rt (L+20) (n+2)) BR [Xr I1 (R9 ks),eG (GH.getD 3 []) nN Fb,.agg (vQ 3 l r).cs] (Bo true):=by
 rcases tU h1 f with⟨a,rfl⟩|⟨a,b,rfl⟩|⟨a,b,c,rfl⟩
 ·obtain rfl:=Wp d;obtain rfl:=Wp hr;exact λb=>by kernel_rfl
 ·rcases Wo d with rfl|rfl<;>rcases Wo hr with rfl|rfl<;>(exact λb=>by kernel_rfl)
 ·rcases Wn d with rfl|rfl|rfl<;>rcases Wn hr with rfl|rfl|rfl<;>(exact λb=>by kernel_rfl)
attribute [local irreducible] nM rt in
def A8m(h1:1<=ks.length)(h:ks.length<=3)(g:l<ks.length)(hr:r<ks.length)(d:PO (rt (L+20) (n+40)) Wz [.agg (uu (ks.getD l 0)).cs,.agg (uu (ks.getD r 0)).cs] (JX (some k))):CS (rt (L+20) (n+41)) Fb [Xr I1 (R9 ks),.agg (vQ 3 l r).cs] (.tup [.agg (CL (uu k)),I 0]):=by
 intro K f;rewrite[Rc];unfold Jf Lr;rewrite[zO];generalize rt (L+20) (n+40)=R at*
 revert d
 rcases tU h1 h with⟨a,rfl⟩|⟨a,b,rfl⟩|⟨a,b,c,rfl⟩
 ·obtain rfl:=Wp g;obtain rfl:=Wp hr;intro d;simp only[Vu,Vt]at d;(conv=>lhs;whnf);rewrite[d];(conv=>lhs;whnf);exact f _ _ (λb=>⟨false,λK=>by kernel_rfl⟩)
 ·rcases Wo g with rfl|rfl<;>rcases Wo hr with rfl|rfl<;>(intro d;simp only[Vu,Vt]at d;(conv=>lhs;whnf);rewrite[d];(conv=>lhs;whnf);exact f _ _ (λb=>⟨false,λK=>by kernel_rfl⟩))
 ·rcases Wn g with rfl|rfl|rfl<;>rcases Wn hr with rfl|rfl|rfl<;>(intro d;simp only[Vu,Vt]at d;(conv=>lhs;whnf);rewrite[d];(conv=>lhs;whnf);exact f _ _ (λb=>⟨false,λK=>by kernel_rfl⟩))
def A6r(h1:1<=ks.length)(f:ks.length<=3)(d:l<ks.length)(hr:r<ks.length):RV (rt (L+20) (n+2)) BR [Xr I1 (R9 ks),eG (GH.getD 4 []) nN D4,.agg (vQ 4 l r).cs] (Bo true):=by
 rcases tU h1 f with⟨a,rfl⟩|⟨a,b,rfl⟩|⟨a,b,c,rfl⟩
 ·obtain rfl:=Wp d;obtain rfl:=Wp hr;exact λb=>by kernel_rfl
 ·rcases Wo d with rfl|rfl<;>rcases Wo hr with rfl|rfl<;>(exact λb=>by kernel_rfl)
 ·rcases Wn d with rfl|rfl|rfl<;>rcases Wn hr with rfl|rfl|rfl<;>(exact λb=>by kernel_rfl)
attribute [local irreducible] nM rt in
def A8q(h1:1<=ks.length)(h:ks.length<=3)(g:l<ks.length)(hr:r<ks.length)(d:PO (rt (L+20) (n+40)) La [.agg (uu (ks.getD l 0)).cs,.agg (uu (ks.getD r 0)).cs] (JX (some k))):CS (rt (L+20) (n+41)) D4 [Xr I1 (R9 ks),.agg (vQ 4 l r).cs] (.tup [.agg (CL (uu k)),I 0]):=by
 intro K f;rewrite[Nb];unfold Gg Lr;rewrite[zO];generalize rt (L+20) (n+40)=R at*
 revert d
 rcases tU h1 h with⟨a,rfl⟩|⟨a,b,rfl⟩|⟨a,b,c,rfl⟩
 ·obtain rfl:=Wp g;obtain rfl:=Wp hr;intro d;simp only[Vu,Vt]at d;(conv=>lhs;whnf);rewrite[d];(conv=>lhs;whnf);exact f _ _ (λb=>⟨false,λK=>by kernel_rfl⟩)
 ·rcases Wo g with rfl|rfl<;>rcases Wo hr with rfl|rfl<;>(intro d;simp only[Vu,Vt]at d;(conv=>lhs;whnf);rewrite[d];(conv=>lhs;whnf);exact f _ _ (λb=>⟨false,λK=>by kernel_rfl⟩))
 ·rcases Wn g with rfl|rfl|rfl<;>rcases Wn hr with rfl|rfl|rfl<;>(intro d;simp only[Vu,Vt]at d;(conv=>lhs;whnf);rewrite[d];(conv=>lhs;whnf);exact f _ _ (λb=>⟨false,λK=>by kernel_rfl⟩))
def A6p(h1:1<=ks.length)(f:ks.length<=3)(d:l<ks.length)(hr:r<ks.length):RV (rt (L+20) (n+2)) BR [Xr I1 (R9 ks),eG (GH.getD 5 []) nN DY,.agg (vQ 5 l r).cs] (Bo true):=by
 rcases tU h1 f with⟨a,rfl⟩|⟨a,b,rfl⟩|⟨a,b,c,rfl⟩
 ·obtain rfl:=Wp d;obtain rfl:=Wp hr;exact λb=>by kernel_rfl
 ·rcases Wo d with rfl|rfl<;>rcases Wo hr with rfl|rfl<;>(exact λb=>by kernel_rfl)
 ·rcases Wn d with rfl|rfl|rfl<;>rcases Wn hr with rfl|rfl|rfl<;>(exact λb=>by kernel_rfl)
attribute [local irreducible] nM rt in
def A8o(h1:1<=ks.length)(h:ks.length<=3)(g:l<ks.length)(hr:r<ks.length)(d:PO (rt (L+20) (n+40)) W0 [.agg (uu (ks.getD l 0)).cs,.agg (uu (ks.getD r 0)).cs] (JX (some k))):CS (rt (L+20) (n+41)) DY [Xr I1 (R9 ks),.agg (vQ 5 l r).cs] (.tup [.agg (CL (uu k)),I 0]):=by
 intro K f;rewrite[OQ];unfold HF Lr;rewrite[zO];generalize rt (L+20) (n+40)=R at*
 revert d
 rcases tU h1 h with⟨a,rfl⟩|⟨a,b,rfl⟩|⟨a,b,c,rfl⟩
 ·obtain rfl:=Wp g;obtain rfl:=Wp hr;intro d;simp only[Vu,Vt]at d;(conv=>lhs;whnf);rewrite[d];(conv=>lhs;whnf);exact f _ _ (λb=>⟨false,λK=>by kernel_rfl⟩)
 ·rcases Wo g with rfl|rfl<;>rcases Wo hr with rfl|rfl<;>(intro d;simp only[Vu,Vt]at d;(conv=>lhs;whnf);rewrite[d];(conv=>lhs;whnf);exact f _ _ (λb=>⟨false,λK=>by kernel_rfl⟩))
 ·rcases Wn g with rfl|rfl|rfl<;>rcases Wn hr with rfl|rfl|rfl<;>(intro d;simp only[Vu,Vt]at d;(conv=>lhs;whnf);rewrite[d];(conv=>lhs;whnf);exact f _ _ (λb=>⟨false,λK=>by kernel_rfl⟩))
def A6q(h1:1<=ks.length)(f:ks.length<=3)(d:l<ks.length)(hr:r<ks.length):RV (rt (L+20) (n+2)) BR [Xr I1 (R9 ks),eG (GH.getD 6 []) nN DM,.agg (vQ 6 l r).cs] (Bo true):=by
 rcases tU h1 f with⟨a,rfl⟩|⟨a,b,rfl⟩|⟨a,b,c,rfl⟩
 ·obtain rfl:=Wp d;obtain rfl:=Wp hr;exact λb=>by kernel_rfl
 ·rcases Wo d with rfl|rfl<;>rcases Wo hr with rfl|rfl<;>(exact λb=>by kernel_rfl)
 ·rcases Wn d with rfl|rfl|rfl<;>rcases Wn hr with rfl|rfl|rfl<;>(exact λb=>by kernel_rfl)
attribute [local irreducible] nM rt in
def A8p(h1:1<=ks.length)(h:ks.length<=3)(g:l<ks.length)(hr:r<ks.length)(d:PO (rt (L+20) (n+40)) WH [.agg (uu (ks.getD l 0)).cs,.agg (uu (ks.getD r 0)).cs] (JX (some k))):CS (rt (L+20) (n+41)) DM [Xr I1 (R9 ks),.agg (vQ 6 l r).cs] (.tup [.agg (CL (uu k)),I 0]):=by
 intro K f;rewrite[Oc];unfold GR Lr;rewrite[zO];generalize rt (L+20) (n+40)=R at*
 revert d
 rcases tU h1 h with⟨a,rfl⟩|⟨a,b,rfl⟩|⟨a,b,c,rfl⟩
 ·obtain rfl:=Wp g;obtain rfl:=Wp hr;intro d;simp only[Vu,Vt]at d;(conv=>lhs;whnf);rewrite[d];(conv=>lhs;whnf);exact f _ _ (λb=>⟨false,λK=>by kernel_rfl⟩)
 ·rcases Wo g with rfl|rfl<;>rcases Wo hr with rfl|rfl<;>(intro d;simp only[Vu,Vt]at d;(conv=>lhs;whnf);rewrite[d];(conv=>lhs;whnf);exact f _ _ (λb=>⟨false,λK=>by kernel_rfl⟩))
 ·rcases Wn g with rfl|rfl|rfl<;>rcases Wn hr with rfl|rfl|rfl<;>(intro d;simp only[Vu,Vt]at d;(conv=>lhs;whnf);rewrite[d];(conv=>lhs;whnf);exact f _ _ (λb=>⟨false,λK=>by kernel_rfl⟩))
def A6o(h1:1<=ks.length)(f:ks.length<=3)(d:l<ks.length)(he:e<5):RV (rt (L+20) (n+2)) BR [Xr I1 (R9 ks),eG (GH.getD 7 []) B8X E9,.agg (poN l e).cs] (Bo true):=by
 rcases tU h1 f with⟨a,rfl⟩|⟨a,b,rfl⟩|⟨a,b,c,rfl⟩
 ·obtain rfl:=Wp d;rcases lt5 he with rfl|rfl|rfl|rfl|rfl<;>(exact λb=>by kernel_rfl)
 ·rcases Wo d with rfl|rfl<;>rcases lt5 he with rfl|rfl|rfl|rfl|rfl<;>(exact λb=>by kernel_rfl)
 ·rcases Wn d with rfl|rfl|rfl<;>rcases lt5 he with rfl|rfl|rfl|rfl|rfl<;>(exact λb=>by kernel_rfl)
attribute [local irreducible] nM rt in
def A8n(h1:1<=ks.length)(h:ks.length<=3)(g:l<ks.length)(he:e<5)(d:PO (rt (L+20) (n+40)) SO [.agg (uu (ks.getD l 0)).cs,.agg [I (mC e),I 1]] (JX (some k))):CS (rt (L+20) (n+41)) E9 [Xr I1 (R9 ks),.agg (poN l e).cs] (.tup [.agg (CL (uu k)),I 0]):=by
 intro K f;rewrite[Qj];unfold I2 Em Xh dP OG Hl A3 Mf;rewrite[zO];generalize rt (L+20) (n+40)=R at*
 revert d
 rcases tU h1 h with⟨a,rfl⟩|⟨a,b,rfl⟩|⟨a,b,c,rfl⟩
 ·obtain rfl:=Wp g;rcases lt5 he with rfl|rfl|rfl|rfl|rfl<;>(intro d;simp only[Vu,Vt]at d;(conv=>lhs;whnf);dsimp only[poN];rewrite[d];(conv=>lhs;whnf);exact f _ _ (λb=>⟨false,λK=>by kernel_rfl⟩))
 ·rcases Wo g with rfl|rfl<;>rcases lt5 he with rfl|rfl|rfl|rfl|rfl<;>(intro d;simp only[Vu,Vt]at d;(conv=>lhs;whnf);dsimp only[poN];rewrite[d];(conv=>lhs;whnf);exact f _ _ (λb=>⟨false,λK=>by kernel_rfl⟩))
 ·rcases Wn g with rfl|rfl|rfl<;>rcases lt5 he with rfl|rfl|rfl|rfl|rfl<;>(intro d;simp only[Vu,Vt]at d;(conv=>lhs;whnf);dsimp only[poN];rewrite[d];(conv=>lhs;whnf);exact f _ _ (λb=>⟨false,λK=>by kernel_rfl⟩))
end
end
section
variable(L n:Nat)
def A0s:((List.range 11).all λk=>(λi=>JM (Bc (Dt (r! L (n+40)) Es [.agg (eI i)]) (Bo true))) (k+0))=true:=by kernel_rfl
def A0r:((List.range 11).all λk=>(λi=>JM (Bc (Dt (r! L (n+40)) Es [.agg (eI i)]) (Bo true))) (k+11))=true:=by kernel_rfl
def A0q:((List.range 11).all λk=>(λi=>JM (Bc (Dt (r! L (n+40)) Es [.agg (eI i)]) (Bo true))) (k+22))=true:=by kernel_rfl
def A6s(i:Nat)(h:i<33):PS (r! L (n+40)) Es [.agg (eI i)] (Bo true):=by
 refine BK (λH=>by first|exact λK=>by kernel_rfl) ?_;by_cases a:i<11
 ·have:=GE.1 (A0s L n) (i-0) (KE.2 (by omega));have e:i-0+0=i:=by omega
  simp only[e]at this;exact this
 by_cases h1:i<22
 ·have:=GE.1 (A0r L n) (i-11) (KE.2 (by omega));have e:i-11+11=i:=by omega
  simp only[e]at this;exact this
 by_cases h2:i<33
 ·have:=GE.1 (A0q L n) (i-22) (KE.2 (by omega));have e:i-22+22=i:=by omega
  simp only[e]at this;exact this
 ·omega
def A0v:((List.range 11).all λk=>(λi=>JM (Bc (Dt (r! L (n+40)) IJ [.agg (eI i)]) (S (frt i)))) (k+0))=true:=by kernel_rfl
def A0u:((List.range 11).all λk=>(λi=>JM (Bc (Dt (r! L (n+40)) IJ [.agg (eI i)]) (S (frt i)))) (k+11))=true:=by kernel_rfl
def A0t:((List.range 11).all λk=>(λi=>JM (Bc (Dt (r! L (n+40)) IJ [.agg (eI i)]) (S (frt i)))) (k+22))=true:=by kernel_rfl
def A6t(i:Nat)(h:i<33):PS (r! L (n+40)) IJ [.agg (eI i)] (S (frt i)):=by
 refine BK (λH=>by first|exact λK=>by kernel_rfl) ?_;by_cases a:i<11
 ·have:=GE.1 (A0v L n) (i-0) (KE.2 (by omega));have e:i-0+0=i:=by omega
  simp only[e]at this;exact this
 by_cases h1:i<22
 ·have:=GE.1 (A0u L n) (i-11) (KE.2 (by omega));have e:i-11+11=i:=by omega
  simp only[e]at this;exact this
 by_cases h2:i<33
 ·have:=GE.1 (A0t L n) (i-22) (KE.2 (by omega));have e:i-22+22=i:=by omega
  simp only[e]at this;exact this
 ·omega
end
section
variable{at_:Int}
variable{L n:Nat}
section
variable{id:Int}{o:UD}{xs:List Nd}{ks:Hb}{i j k:Nat}{I1:AV}
def A8E(d:ks.length<=3):RV (rt (L+20) (n+2)) BR [Xr I1 (R9 ks),eG (GH.getD 2 []) B98 FL,.agg (ZA i).cs] (Bo true):=by
 match ks,d with
 |[],_=>exact λb=>by kernel_rfl
 |[a],_=>exact λb=>by kernel_rfl
 |[a,b],_=>exact λb=>by kernel_rfl
 |[a,b,c],_=>exact λb=>by kernel_rfl
def A8F(d:ks.length<=3):RV (rt (L+20) (n+2)) BR [Xr I1 (R9 ks),eG (GH.getD 1 []) Aw DN,.agg (cnN i k).cs] (Bo true):=by
 match ks,d with
 |[],_=>exact λb=>by kernel_rfl
 |[a],_=>exact λb=>by kernel_rfl
 |[a,b],_=>exact λb=>by kernel_rfl
 |[a,b,c],_=>exact λb=>by kernel_rfl
def B2F{U:AV}(h1:1<=ks.length)(e:ks.length<=3)(d:j<ks.length):RV (rt (L+20) (n+2)) FL [Xr (BP ks) U,.agg (ZA j).cs] (.tup [.agg (CL (uu (ks.getD j 0))),I 0]):=by
 rcases tU h1 e with⟨a,rfl⟩|⟨a,b,rfl⟩|⟨a,b,c,rfl⟩
 ·obtain rfl:=Wp d;exact λb=>by kernel_rfl
 ·rcases Wo d with rfl|rfl<;>exact λb=>by kernel_rfl
 ·rcases Wn d with rfl|rfl|rfl<;>exact λb=>by kernel_rfl
attribute [local irreducible] nM rt in
def B2G{C:Is}(hv:PO (rt (L+20) (n+40)) Es [.agg (eI i)] (Bo true))(c:PO (rt (L+20) (n+40)) LX [.agg (uu k).cs] (Bo true)):CS (rt (L+20) (n+41)) DN [.iptr C,.agg (cnN i k).cs] (.tup [.agg (CL (uu k)),I 0]):=by
 intro K a;rewrite[Od];unfold GS Lr;rewrite[zO];generalize rt (L+20) (n+40)=R at*
 conv=>lhs;whnf
 refine O' (hv _ _) ?_
 conv=>lhs;whnf
 simp only[D5]
 dsimp only[cnN]
 rewrite[c]
 conv=>lhs;whnf
 exact a _ _ (λb=>⟨false,λK=>by kernel_rfl⟩)
attribute [local irreducible] nM rt Xp in
def B3N(hv:PO (rt (L+20) (n+40)) Fz [.agg (eI i)] (Bo true))(c:PO (rt (L+20) (n+40)) Fy [.agg (uu k).cs] (Bo true)):CS (rt (L+20) (n+41)) Fw [.agg (BI id (BP ks) (Cu xs) o),.agg (cnN i k).cs,I at_] (.tup [Bo true,Bo false]):=by
 intro K a;rewrite[UY];unfold NV Em Xo Dk A3 Mf HS;rewrite[zO];generalize rt (L+20) (n+40)=R at*
 conv=>lhs;whnf
 refine O' (hv _ _) ?_
 conv=>lhs;whnf
 refine O' (c _ _) ?_
 conv=>lhs;whnf
 refine O' (C3c (x:=cnN i k)) ?_
 conv=>lhs;whnf
 exact a _ _ (λb=>⟨false,λK=>by kernel_rfl⟩)
attribute [local irreducible] nM rt in
def B3L(hv:PO (rt (L+20) (n+40)) Fz [.agg (eI i)] (Bo true))(c:PO (rt (L+20) (n+40)) Fy [.agg (uu k).cs] (Bo true)){w:AV}:CS (rt (L+20) (n+42)) CF [.agg (BI id (BP ks) (Cu xs) o),.agg (cnN i k).cs,I at_,w] (.tup [.agg (CL (uu k)),I 0]):=by
 intro K d;have a:=(B3N (id:=id) (o:=o) (xs:=xs) (ks:=ks) (at_:=at_) hv c).ls;clear hv c;rewrite[HD];unfold Hi q4N;rewrite[zO];generalize rt (L+20) (n+41)=R at*
 conv=>lhs;whnf
 rewrite[a false _ _ ?hq]
 case hq=>exact λK=>by kernel_rfl
 conv=>lhs;whnf
 exact d _ _ (λb=>⟨false,λK=>by kernel_rfl⟩)
end
end
section
section
variable(L n:Nat)
def C46:List (UD×Int):=[(⟨1,2,0,1,0,1,0,1,0,1,0,1,0,1,[49],[49],[48],[49],0,1⟩,0),(⟨0,1,0,1,1,2,0,1,0,1,0,1,0,1,[49],[49],[48],[49],0,1⟩,0),(u0,70),(⟨0,1,0,1,0,1,0,1,0,1,0,1,0,1,[49],[49],[48],[49],0,2⟩,0),
 (u0,70),(⟨0,1,0,1,0,1,0,1,1,2,0,1,0,1,[49],[49],[48],[49],0,1⟩,0),(⟨1,1,0,1,0,1,0,1,0,1,0,1,0,1,[49],[49],[48],[49],0,1⟩,0)]
def usq(k:Nat):UD×Int:=C46.getD k (u0,0)
def B3F:((List.range 7).all λi=>JM (Bc (Dt (rt (L+20) (n+40)) L3 [.agg (uu i).cs,.agg [I 1,I 2]]) (.tup [.agg (usq i).1.cs,I (usq i).2])))=true:=by kernel_rfl
def C1K(i:Nat)(h:i<7):PS (rt (L+20) (n+40)) L3 [.agg (uu i).cs,.agg [I 1,I 2]] (.tup [.agg (usq i).1.cs,I (usq i).2]):=by
 refine BK (λH=>by first|exact λK=>by kernel_rfl) ?_;exact GE.1 (B3F L n) i (KE.2 h)
end
variable{L n:Nat}
section
variable{id:Int}{o:UD}{xs:List Nd}{ks:Hb}{i j k l:Nat}{I1:AV}
def sqN(l:Nat):Nd:=⟨8,[],[],u0,0,l,0⟩
def B3M(h1:1<=ks.length)(e:ks.length<=3)(d:l<ks.length):RV (rt (L+20) (n+2)) Fw [.agg (BI id (BP ks) (Cu xs) o),.agg (sqN l).cs,I ks.length] (.tup [Bo true,Bo true]):=by
 rcases tU h1 e with⟨a,rfl⟩|⟨a,b,rfl⟩|⟨a,b,c,rfl⟩
 ·obtain rfl:=Wp d;exact λb=>by kernel_rfl
 ·rcases Wo d with rfl|rfl<;>exact λb=>by kernel_rfl
 ·rcases Wn d with rfl|rfl|rfl<;>exact λb=>by kernel_rfl
attribute [local irreducible] nM rt in
def B3K{u:UD}{e:Int}(he:e=0\/e=70)(h1:1<=ks.length)(m:ks.length<=3)(g:l<ks.length)(f:PO (rt (L+20) (n+41)) L3 [.agg (uu (ks.getD l 0)).cs,.agg [I 1,I 2]] (.tup [.agg u.cs,I e])):CS (rt (L+20) (n+42)) CF [.agg (BI id (BP ks) (Cu xs) o),.agg (sqN l).cs,I ks.length,R9 ks] (if e=0 then .tup [.agg u.cs,I 0] else .tup [.agg FZ,I 90]):=by
 intro K h;have d:=(B3M (L:=L) (n:=n+39) (id:=id) (o:=o) (xs:=xs) h1 m g).ls;rewrite[HD];unfold Hi q4N;rewrite[zO];generalize rt (L+20) (n+41)=R at*
 revert f d
 rcases tU h1 m with⟨a,rfl⟩|⟨a,b,rfl⟩|⟨a,b,c,rfl⟩
 ·obtain rfl:=Wp g;(intro f d;simp only[Vu,Vt]at f;(conv=>lhs;whnf);rewrite[d false _ _ ?hq];(case hq=>exact λK=>by kernel_rfl);(conv=>lhs;whnf);refine O' (f _ _) ?_;rcases he with rfl|rfl<;>(conv=>lhs;whnf)<;>exact h _ _ (λb=>⟨false,λK=>by kernel_rfl⟩))
 ·rcases Wo g with rfl|rfl<;>(intro f d;simp only[Vu,Vt]at f;(conv=>lhs;whnf);rewrite[d false _ _ ?hq];(case hq=>exact λK=>by kernel_rfl);(conv=>lhs;whnf);refine O' (f _ _) ?_;rcases he with rfl|rfl<;>(conv=>lhs;whnf)<;>exact h _ _ (λb=>⟨false,λK=>by kernel_rfl⟩))
 ·rcases Wn g with rfl|rfl|rfl<;>(intro f d;simp only[Vu,Vt]at f;(conv=>lhs;whnf);rewrite[d false _ _ ?hq];(case hq=>exact λK=>by kernel_rfl);(conv=>lhs;whnf);refine O' (f _ _) ?_;rcases he with rfl|rfl<;>(conv=>lhs;whnf)<;>exact h _ _ (λb=>⟨false,λK=>by kernel_rfl⟩))
end
section
variable{i k:Nat}
def P?(h:i<33):(frt i).length<10:=by
 have:=GE.1 (show((List.range 33).all λi=>decide ((frt i).length<10))=true by kernel_rfl) i (KE.2 h);simpa using this
def B3D:PS (rt (L+20) (n+1)) ZP [] (.list 9 (GH.map λw=>S w)):=BK (λH K=>by kernel_rfl) (by kernel_rfl)
attribute [local irreducible] nM rt Ap in
def A9K(e:i<33)(h:PO (rt (L+20) (n+40)) D3 [I 1,I 1,I 8] (Bo true))(c:PO (rt (L+20) (n+40)) ZP [] (.list 9 (GH.map λw=>S w)))(g:PO (rt (L+20) (n+40)) JH [.agg (uu k).cs] (.tup [S (Lo k),I 0]))(f:PO (rt (L+20) (n+40)) MF [.agg (eI i)] (S (frt i))):CS (rt (L+20) (n+41)) Jy [.agg (cnN i k).cs] (S (cnT i k)):=by
 intro K d;rewrite[sY];unfold Wa Iu;rewrite[zO];generalize rt (L+20) (n+40)=R at*
 conv=>lhs;whnf
 refine O' (h _ _) ?_
 conv=>lhs;whnf
 rewrite[c]
 conv=>lhs;whnf
 refine O' zC ?_
 conv=>lhs;whnf
 refine O' (g _ _) ?_
 conv=>lhs;whnf
 have h1:=P? e;have h2:=Gx k;refine O' (B6 (a:=GH.getD 1 []) (by decide)) ?_
 conv=>lhs;whnf
 refine O' (f _ _) ?_
 conv=>lhs;whnf
 rewrite[B6 (by simp only[EC,GH,Vt,Vu,LV,QT];omega)];rewrite[B6 (by simp only[EC,GH,Vt,Vu,LV,QT];omega)];rewrite[B6 (by simp only[EC,GH,Vt,Vu,LV,QT];omega)];exact d _ _ (λb=>⟨false,λK=>by kernel_rfl⟩)
attribute [local irreducible] nM rt Ap in
def A8A(e:i<33)(c:PO (rt (L+20) (n+40)) I8 [] XV)(g:PO (rt (L+20) (n+40)) Jw [.agg (uu k).cs] (.tup [S (Lo k),I 0]))(f:PO (rt (L+20) (n+40)) IJ [.agg (eI i)] (S (frt i))):CS (rt (L+20) (n+41)) FG [.agg (cnN i k).cs] (S (cnT i k)):=by
 intro K d;rewrite[dG];unfold Pt Em A3;rewrite[zO];generalize rt (L+20) (n+40)=R at*
 conv=>lhs;whnf
 rewrite[c]
 conv=>lhs;whnf
 rewrite[c]
 conv=>lhs;whnf
 refine O' (zC (a:=1)) ?_
 conv=>lhs;whnf
 refine O' (g _ _) ?_
 conv=>lhs;whnf
 have h1:=P? e;have h2:=Gx k;refine O' (B6 (a:=GH.getD 1 []) (by decide)) ?_
 conv=>lhs;whnf
 refine O' (f _ _) ?_
 conv=>lhs;whnf
 rewrite[B6 (by simp only[EC,GH,Vt,Vu,LV,QT];omega)];rewrite[B6 (by simp only[EC,GH,Vt,Vu,LV,QT];omega)];rewrite[B6 (by simp only[EC,GH,Vt,Vu,LV,QT];omega)];exact d _ _ (λb=>⟨false,λK=>by kernel_rfl⟩)
end
end
section
variable{L n:Nat}
inductive Ex where
 |no
 |cn (i k:Nat)
 |inp (j:Nat)
 |bi (op l r k:Nat)
 |po (l e k:Nat)
def Ex.nd:Ex->List Nd
 |.no=>[]
 |.cn i k=>[cnN i k]
 |.inp j=>[ZA j]
 |.bi op l r _=>[vQ op l r]
 |.po l e _=>[poN l e]
def Ex.ty(ks:Hb):Ex->Hb
 |.no=>[]
 |.cn _ k=>[k]
 |.inp j=>[ks.getD j 0]
 |.bi _ _ _ k=>[k]
 |.po _ _ k=>[k]
def Ex.tx:Ex->List Ha
 |.no=>[]
 |.cn i k=>[cnT i k]
 |.inp j=>[exT j]
 |.bi op l r _=>[exT (3+9*(op-3)+3*l+r)]
 |.po l e _=>[exT (39+5*l+e)]
def Ex.Ok(ks:Hb):Ex->Prop
 |.no=>True
 |.cn i k=>i<33/\k<7
 |.inp j=>j<ks.length
 |.bi op l r k=>3<=op/\op<7/\l<ks.length/\r<ks.length/\Vs (op-3) (ks.getD l 0) (ks.getD r 0)=some k
 |.po l e k=>l<ks.length/\e<5/\XB (ks.getD l 0) e=some k
structure Pr where
 id:Nat
 ks:Hb
 x:Ex
structure Pr.Ok(p:Pr):Prop where
 i1:1<=p.id
 i2:p.id<950
 k1:1<=p.ks.length
 k3:p.ks.length<=3
 k7:∀k∈p.ks,k<7
 x:p.x.Ok p.ks
def Pr.xs(p:Pr):List Nd:=Lj p.ks++p.x.nd
def Pr.ty(p:Pr):Hb:=p.ks++p.x.ty p.ks
def Pr.ts(p:Pr):List Ha:=(List.range p.ks.length).map exT++p.x.tx
def Pr.out(p:Pr):Nat:=p.ty.getD (p.xs.length-1) 0
section
variable{a b l r e i j k op:Nat}{ks:Hb}{xs:List Nd}{id:Int}{o:UD}
def MJ{N:Nat}(h:∀k∈ks,k<N)(c:l<ks.length):ks.getD l 0<N:=by
 have e:ks.getD l 0=ks[l]:=by simp[List.getD,K8 c]
 rw[e];exact h _ (PD c)
def B3E(c:a<7)(hb:b<7):PO (r! L (n+41)) T4 [.agg (uu a).cs,.agg (uu b).cs] (JX (Vs 0 a b)):=by
 have:=(B8B L (n+1) (7*a+b) (by omega)).o;rwa[show(7*a+b)/7=a by omega,show(7*a+b)%7=b by omega]at this
def B3J(c:a<7)(hb:b<7):PO (r! L (n+41)) Kr [.agg (uu a).cs,.agg (uu b).cs] (JX (Vs 1 a b)):=by
 have:=(B8F L (n+1) (7*a+b) (by omega)).o;rwa[show(7*a+b)/7=a by omega,show(7*a+b)%7=b by omega]at this
def B3H(c:a<7)(hb:b<7):PO (r! L (n+41)) T6 [.agg (uu a).cs,.agg (uu b).cs] (JX (Vs 2 a b)):=by
 have:=(B8D L (n+1) (7*a+b) (by omega)).o;rwa[show(7*a+b)/7=a by omega,show(7*a+b)%7=b by omega]at this
def B3I(c:a<7)(hb:b<7):PO (r! L (n+41)) T7 [.agg (uu a).cs,.agg (uu b).cs] (JX (Vs 3 a b)):=by
 have:=(B8E L (n+1) (7*a+b) (by omega)).o;rwa[show(7*a+b)/7=a by omega,show(7*a+b)%7=b by omega]at this
def B3G(c:a<7)(hb:e<5):PO (r! L (n+41)) L3 [.agg (uu a).cs,.agg [I (mC e),I 1]] (JX (XB a e)):=by
 have:=(B8C L (n+1) (5*a+e) (by omega)).o;rwa[show(5*a+e)/5=a by omega,show(5*a+e)%5=e by omega]at this
def B2A(f:a<7)(hb:b<7)(h:Vs 0 a b=some k):PO (r! L (n+40)) Wz [.agg (uu a).cs,.agg (uu b).cs] (JX (some k)):=by
 have c:(7*a+b)/7=a:=by omega
 have d:(7*a+b)%7=b:=by omega
 have:=(B6o L n (7*a+b) (by omega) (by rw[c,d,h];rfl)).o;rwa[c,d,h]at this
def B2E(f:a<7)(hb:b<7)(h:Vs 1 a b=some k):PO (r! L (n+40)) La [.agg (uu a).cs,.agg (uu b).cs] (JX (some k)):=by
 have c:(7*a+b)/7=a:=by omega
 have d:(7*a+b)%7=b:=by omega
 have:=(B6s L n (7*a+b) (by omega) (by rw[c,d,h];rfl)).o;rwa[c,d,h]at this
def B2C(f:a<7)(hb:b<7)(h:Vs 2 a b=some k):PO (r! L (n+40)) W0 [.agg (uu a).cs,.agg (uu b).cs] (JX (some k)):=by
 have c:(7*a+b)/7=a:=by omega
 have d:(7*a+b)%7=b:=by omega
 have:=(B6q L n (7*a+b) (by omega) (by rw[c,d,h];rfl)).o;rwa[c,d,h]at this
def B2D(f:a<7)(hb:b<7)(h:Vs 3 a b=some k):PO (r! L (n+40)) WH [.agg (uu a).cs,.agg (uu b).cs] (JX (some k)):=by
 have c:(7*a+b)/7=a:=by omega
 have d:(7*a+b)%7=b:=by omega
 have:=(B6r L n (7*a+b) (by omega) (by rw[c,d,h];rfl)).o;rwa[c,d,h]at this
def B2B(f:a<7)(hb:e<5)(h:XB a e=some k):PO (r! L (n+40)) SO [.agg (uu a).cs,.agg [I (mC e),I 1]] (JX (some k)):=by
 have c:(5*a+e)/5=a:=by omega
 have d:(5*a+e)%5=e:=by omega
 have:=(B6p L n (5*a+e) (by omega) (by rw[c,d,h];rfl)).o;rwa[c,d,h]at this
def A5a(h1:1<=ks.length)(d:ks.length<=3)(g:∀k∈ks,k<7)(c:l<ks.length)(hr:r<ks.length)(m:3<=op)(h:op<7):
 CS (r! L (n+42)) CF [.agg (BI id (BP ks) (Cu xs) o),.agg (vQ op l r).cs,I ks.length,R9 ks] (A2X (Vs (op-3) (ks.getD l 0) (ks.getD r 0))):=by
 have f:=MJ g c;have hb:=MJ g hr;obtain rfl|rfl|rfl|rfl:op=3\/op=4\/op=5\/op=6:=by omega
 ·exact A9p h1 d c hr (B3E f hb)
 ·exact A9t h1 d c hr (B3J f hb)
 ·exact A9r h1 d c hr (B3H f hb)
 ·exact A9s h1 d c hr (B3I f hb)
def A59(h1:1<=ks.length)(d:ks.length<=3)(f:∀k∈ks,k<7)(c:l<ks.length)(he:e<5):
 CS (r! L (n+42)) CF [.agg (BI id (BP ks) (Cu xs) o),.agg (poN l e).cs,I ks.length,R9 ks] (A2X (XB (ks.getD l 0) e)):=
 A9q h1 d c he (B3G (MJ f c) he)
def A0N{at_:Int}{w:AV}(c:i<33)(d:k<7):CS (r! L (n+42)) CF [.agg (BI id (BP ks) (Cu xs) o),.agg (cnN i k).cs,I at_,w] (.tup [.agg (CL (uu k)),I 0]):=
 B3L (A6I L n i c).o (Se L n k (by omega)).o
end
section
variable{p:Pr}{o:UD}
def B8W(h:p.Ok):RTy L n p.id p.ks p.xs o p.ty:=by
 obtain⟨pid,ks,x⟩:=p;obtain⟨i1,i2,k1,k3,k7,c⟩:=h;unfold Pr.xs Pr.ty;cases x with
 |no=>
  simp only[Ex.nd,Ex.ty,UC];exact B8u (ZK k3 (by decide))
 |cn i k=>exact pS (ZK k3 (by decide)) (A0N c.1 c.2)
 |inp j=>
  refine pS (ZK k3 (by decide)) ?_;have f:j<ks.length:=c;have e:ks.getD j 0=ks[j]:=by simp[List.getD,K8 f]
  rw[e];exact YS (n:=n+39) (ZK k3 (by decide)) f
 |bi op l r k=>
  obtain⟨h1,h2,d,g,m⟩:=c;refine pS (ZK k3 (by decide)) ?_;have:=A5a (L:=L) (n:=n) (id:=pid) (xs:=Lj ks++[vQ op l r]) (o:=o) k1 k3 k7 d g h1 h2;rw[m]at this;exact this
 |po l e k=>
  obtain⟨h1,h2,d⟩:=c;refine pS (ZK k3 (by decide)) ?_;have:=A59 (L:=L) (n:=n) (id:=pid) (xs:=Lj ks++[poN l e]) (o:=o) k1 k3 k7 h1 h2;rw[d]at this;exact this
def A8h{ks:Hb}{i:Nat}(k1:1<=ks.length)(k3:ks.length<=3){l:Hb}(d:l.length<=3)(c:i<ks.length):WNd L n (BP ks) l (ZA i) (ks.getD i 0):=
 ⟨GH.getD 2 [],B98,FL,.inr ⟨_,_,rfl⟩,λH K=>by kernel_rfl,by kernel_rfl,rfl,rfl,A8E (n:=n+39) d,B2F (n:=n+39) k1 k3 c⟩
def B8V(h:p.Ok):WTy L n p.ks p.xs p.ty:=by
 obtain⟨pid,ks,x⟩:=p;obtain⟨i1,i2,k1,k3,k7,q⟩:=h;simp only at k1 k3 k7 q;intro i u;simp only[Pr.xs,Pr.ty]at u⊢;by_cases f:i<ks.length
 ·have g:(Lj ks++x.nd)[i]=ZA i:=by
   rw[List.getElem_append_left (by rw[DX];exact f)];exact gW _
  have m:(ks++x.ty ks).getD i 0=ks.getD i 0:=by simp[List.getD,l0m f]
  rw[g,m];exact A8h k1 k3 (by rw[vN];omega) f
 ·have B:x.nd.length<=1:=by cases x<;>simp[Ex.nd]
  rw[EC,DX]at u;obtain rfl:i=ks.length:=by omega
  have g:∀y,x.nd=[y]->(Lj ks++x.nd)[ks.length]'(by rw[EC,DX];exact u)=y:=λy A=>by
   rw[List.getElem_append_right (by rw[DX];omega)];simp[A,DX]
  have m:∀k,x.ty ks=[k]->(ks++x.ty ks).getD ks.length 0=k:=λk w=>by simp[List.getD,w]
  have v:(ks++x.ty ks).take ks.length=ks:=List.take_left' rfl;rw[v];cases x with
  |no=>simp[Ex.nd]at u
  |cn i k=>
   rw[g _ rfl,m _ rfl];exact⟨GH.getD 1 [],Aw,DN,.inl rfl,λH K=>by kernel_rfl,by kernel_rfl,rfl,rfl,A8F (n:=n+39) k3,(B2G (A6s L n i q.1).o (X0 L n k (by have:=q.2;omega)).o).rv⟩
  |inp j=>
   rw[g _ rfl,m _ rfl];exact A8h k1 k3 k3 q
  |bi op l r k=>
   obtain⟨h1,h2,c,d,s⟩:=q;have t:=MJ k7 c;have hb:=MJ k7 d;rw[g _ rfl,m _ rfl];obtain rfl|rfl|rfl|rfl:op=3\/op=4\/op=5\/op=6:=by omega
   ·exact⟨GH.getD 3 [],nN,Fb,.inr ⟨_,_,rfl⟩,λH K=>by kernel_rfl,by kernel_rfl,rfl,rfl,A6n (n:=n+39) k1 k3 c d,(A8m k1 k3 c d (B2A t hb s)).rv⟩
   ·exact⟨GH.getD 4 [],nN,D4,.inr ⟨_,_,rfl⟩,λH K=>by kernel_rfl,by kernel_rfl,rfl,rfl,A6r (n:=n+39) k1 k3 c d,(A8q k1 k3 c d (B2E t hb s)).rv⟩
   ·exact⟨GH.getD 5 [],nN,DY,.inr ⟨_,_,rfl⟩,λH K=>by kernel_rfl,by kernel_rfl,rfl,rfl,A6p (n:=n+39) k1 k3 c d,(A8o k1 k3 c d (B2C t hb s)).rv⟩
   ·exact⟨GH.getD 6 [],nN,DM,.inr ⟨_,_,rfl⟩,λH K=>by kernel_rfl,by kernel_rfl,rfl,rfl,A6q (n:=n+39) k1 k3 c d,(A8p k1 k3 c d (B2D t hb s)).rv⟩
  |po l e k=>
   obtain⟨h1,h2,c⟩:=q;rw[g _ rfl,m _ rfl];exact⟨GH.getD 7 [],B8X,E9,.inr ⟨_,_,rfl⟩,λH K=>by kernel_rfl,by kernel_rfl,rfl,rfl,A6o (n:=n+39) k1 k3 h1 h2,(A8n k1 k3 h1 h2 (B2B (MJ k7 h1) h2 c)).rv⟩
def B8H{j:Nat}(h:j<54):PS (r! L (n+41)) Jy [.agg (exN j).cs] (S (exT j)):=
 BK (λH=>by first|exact λK=>by kernel_rfl) (GE.1 (A9L L n) j (KE.2 h))
def B6y{j:Nat}(h:j<54):PS (r! L (n+41)) FG [.agg (exN j).cs] (S (exT j)):=
 BK (λH=>by first|exact λK=>by kernel_rfl) (GE.1 (A8B L n) j (KE.2 h))
def B63{j:Nat}(h:j<3):ZA j=exN j:=by unfold exN;rw[Dl h]
def C36{op l r:Nat}(h1:3<=op)(h2:op<7)(c:l<3)(d:r<3):vQ op l r=exN (3+9*(op-3)+3*l+r):=by
 obtain rfl|rfl|rfl|rfl:op=3\/op=4\/op=5\/op=6:=by omega
 all_goals obtain rfl|rfl|rfl:l=0\/l=1\/l=2:=by omega
 all_goals obtain rfl|rfl|rfl:r=0\/r=1\/r=2:=by omega
 all_goals rfl
def C35{l e:Nat}(d:l<3)(c:e<5):poN l e=exN (39+5*l+e):=by
 obtain rfl|rfl|rfl:l=0\/l=1\/l=2:=by omega
 all_goals obtain rfl|rfl|rfl|rfl|rfl:=lt5 c
 all_goals rfl
def NdT(L n:Nat)(y:Nd)(t:Ha):Prop:=PS (r! L (n+41)) Jy [.agg y.cs] (S t)/\PS (r! L (n+41)) FG [.agg y.cs] (S t)
def J_{j:Nat}(h:j<54):NdT L n (exN j) (exT j):=⟨B8H h,B6y h⟩
def B5K{y:Nd}(H:Hp):R5 true depth [.agg y.cs] [.agg y.cs] H false:=λK=>by kernel_rfl
def B99{i k:Nat}(c:i<33)(d:k<7):NdT L n (cnN i k) (cnT i k):=
 ⟨(A9K c (YT (n:=n+39) (by decide) (by decide)).o (B3D (n:=n+39)).o (US L n k (by omega)).o (A6J L n i c).o).ps B5K,
  (A8A c (B5r (n:=n+39)).o (UF L n k (by omega)).o (A6t L n i c).o).ps B5K⟩
def A9X(h:p.Ok):p.ts.length=p.xs.length/\∀i(m:i<p.xs.length),NdT L n p.xs[i] (p.ts.getD i []):=by
 obtain⟨pid,ks,x⟩:=p;obtain⟨i1,i2,k1,k3,k7,g⟩:=h;simp only at k1 k3 k7 g;have q:x.tx.length=x.nd.length:=by cases x<;>rfl
 refine⟨by simp[Pr.ts,Pr.xs,DX,q],λi m=>?_⟩;simp only[Pr.xs,Pr.ts]at m⊢;by_cases c:i<ks.length
 ·have d:(Lj ks++x.nd)[i]=ZA i:=by
   rw[List.getElem_append_left (by rw[DX];exact c)];exact gW _
  have f:((List.range ks.length).map exT++x.tx).getD i []=exT i:=by
   rw[List.getD,l0m (by simpa using c)];simp[List.getElem?_range c]
  rw[d,f,B63 (by omega)];exact J_ (by omega)
 ·have w:x.nd.length<=1:=by cases x<;>simp[Ex.nd]
  rw[EC,DX]at m;obtain rfl:i=ks.length:=by omega
  have d:∀y,x.nd=[y]->(Lj ks++x.nd)[ks.length]'(by rw[EC,DX];exact m)=y:=λy v=>by
   rw[List.getElem_append_right (by rw[DX];omega)];simp[v,DX]
  have f:∀t,x.tx=[t]->((List.range ks.length).map exT++x.tx).getD ks.length []=t:=λt u=>by simp[List.getD,u]
  cases x with
  |no=>simp[Ex.nd]at m
  |cn i k=>rw[d _ rfl,f _ rfl];exact B99 g.1 g.2
  |inp j=>
   have C:j<ks.length:=g;rw[d _ rfl,f _ rfl,B63 (by omega)];exact J_ (by omega)
  |bi op l r k=>
   obtain⟨h1,h2,s,A,B⟩:=g;rw[d _ rfl,f _ rfl,C36 h1 h2 (by omega) (by omega)];exact J_ (by omega)
  |po l e k=>
   obtain⟨h1,h2,s⟩:=g;rw[d _ rfl,f _ rfl,C35 (by omega) h2];exact J_ (by omega)
end
end
section
variable{k:Nat}
variable{L n:Nat}
def rL(h:k<7):(Lo k).length<=44:=by
 have:=GE.1 (show((List.range 7).all λk=>decide ((Lo k).length<=44))=true by kernel_rfl) k (KE.2 h);simpa using this
def A0z(h:k<52):(Lo k).length<=50:=by
 have:=GE.1 (show((List.range 52).all λk=>decide ((Lo k).length<=50))=true by kernel_rfl) k (KE.2 h);simpa using this
def qE{j:Nat}(h:j<54):(exT j).length<=10:=by
 have:=GE.1 (show((List.range 54).all λk=>decide ((exT k).length<=10))=true by kernel_rfl) j (KE.2 h);simpa using this
def B56{i k:Nat}(a:i<33)(b:k<7):(cnT i k).length<=60:=by
 have h1:=P? a;have h2:=rL b;simp only[cnT,GH,Vt,Vu,EC,LV,QT];omega
def B4z(ks:Hb)(h:∀k∈ks,k<7):(ks.flatMap qC).length<=51*ks.length:=by
 induction ks with
 |nil=>simp
 |cons k ks ih=>
  have h1:=rL (h k (by simp));have h2:=ih λx a=>h x (by simp[a]);simp only[qB,EC,LV,qC,sP,QT]at h2⊢;omega
def B0i{ts:List Ha}(h:∀t∈ts,t.length<=10):(ts.flatMap vL).length<=11*ts.length:=by
 induction ts with
 |nil=>simp
 |cons t ts ih=>
  have h1:=h t (by simp);have h2:=ih λu a=>h u (by simp[a]);simp only[qB,EC,LV,vL,QT]at h2⊢;omega
def B6O{o a b k:Nat}(d:o<4)(c:a<7)(hb:b<7)(h:Vs o a b=some k):k<52:=by
 have:=GE.1 (show((List.range 196).all λj=>(match Vs (j/49) (j/7%7) (j%7) with|some k=>decide (k<52)|none=>true))=true by kernel_rfl) (49*o+7*a+b) (KE.2 (by omega));rw[show(49*o+7*a+b)/49=o by omega,show(49*o+7*a+b)/7%7=a by omega,show(49*o+7*a+b)%7=b by omega,h]at this;simpa using this
def B2Z{a e k:Nat}(b:a<7)(he:e<5)(h:XB a e=some k):k<52:=by
 have:=GE.1 (show((List.range 35).all λj=>(match XB (j/5) (j%5) with|some k=>decide (k<52)|none=>true))=true by kernel_rfl) (5*a+e) (KE.2 (by omega));rw[show(5*a+e)/5=a by omega,show(5*a+e)%5=e by omega,h]at this;simpa using this
section
variable{p:Pr}
def kT(h:p.Ok):p.ty.length=p.xs.length/\1<=p.xs.length/\p.xs.length<=4:=by
 have h1:=h.k1;have b:=h.k3;have e:(p.x.ty p.ks).length=p.x.nd.length:=by cases p.x<;>rfl
 have a:p.x.nd.length<=1:=by cases p.x<;>simp[Ex.nd]
 simp only[Pr.ty,Pr.xs,EC,DX];omega
def B43(h:p.Ok):∀k∈p.ty,k<52:=by
 intro k a;rcases Yn.1 a with a|a
 ·have:=h.k7 k a;omega
 ·have b:=h.x;cases hq:p.x with
  |no=>rw[hq]at a;simp[Ex.ty]at a
  |cn i j=>rw[hq]at a b;simp[Ex.ty]at a;have:=b.2;omega
  |inp j=>rw[hq]at a b;simp only[Ex.ty,Tx]at a;have:=MJ h.k7 b;omega
  |bi op l r j=>rw[hq]at a b;simp[Ex.ty]at a;subst a;exact B6O (by have:=b.1;have:=b.2.1;omega) (MJ h.k7 b.2.2.1) (MJ h.k7 b.2.2.2.1) b.2.2.2.2
  |po l e j=>rw[hq]at a b;simp[Ex.ty]at a;subst a;exact B2Z (MJ h.k7 b.1) b.2.1 b.2.2
def JN(h:p.Ok):p.out<52:=by
 obtain⟨h1,h2,a⟩:=kT h;exact MJ (B43 h) (by omega)
def A9W(h:p.Ok):(∀t∈p.ts,t.length<100)/\(p.ts.flatMap vL).length<=11*p.ks.length+61:=by
 have k3:=h.k3;have a:=h.x;have a1:∀t∈(List.range p.ks.length).map exT,t.length<=10:=λt b=>by
  obtain⟨j,c,rfl⟩:=Mj.1 b;exact qE (by have:=KE.1 c;omega)
 have a2:(∀t∈p.x.tx,t.length<=60)/\p.x.tx.length<=1:=by
  cases hq:p.x with
  |no=>simp[Ex.tx]
  |cn i j=>rw[hq]at a;simp[Ex.tx];exact B56 a.1 a.2
  |inp j=>rw[hq]at a;have c:j<p.ks.length:=a;simp[Ex.tx];exact ZK (qE (by omega)) (by decide)
  |bi op l r j=>rw[hq]at a;have h1:=a.1;have h2:=a.2.1;have f:=a.2.2.1;have g:=a.2.2.2.1;simp[Ex.tx];exact ZK (qE (by omega)) (by decide)
  |po l e j=>rw[hq]at a;have h1:=a.1;have h2:=a.2.1;simp[Ex.tx];exact ZK (qE (by omega)) (by decide)
 have d:(p.x.tx.flatMap vL).length<=61:=by
  match hq:p.x.tx with
  |[]=>simp
  |[t]=>have:=a2.1 t (by rw[hq];simp);simp[vL];omega
  |t::u::l=>rw[hq]at a2;simp at a2
 refine⟨λt b=>?_,?_⟩
 ·rcases Yn.1 b with b|b
  ·have:=a1 t b;omega
  ·have:=a2.1 t b;omega
 ·have:=B0i a1;simp only[Pr.ts,l2m,EC,Qa,List.length_range]at this⊢;omega
def Pr.txt(p:Pr):Ha:=sK p.id p.ks p.ts p.out
def kS(h:p.Ok):p.txt.length<390:=by
 have k3:=h.k3;have h1:=B4z p.ks h.k7;have h2:=(A9W h).2;have a:=A0z (JN h);have b:=A4i p.id;simp only[Pr.txt,sK,EC,LV,QT,Sh,B94];omega
abbrev Pr.cs(p:Pr):Is:=BI p.id (BP p.ks) (Cu p.xs) (uu p.out)
def A0Y(a:100<L)(h:p.Ok):CS (r! L (n+44)) FY [.agg p.cs] (Bo true):=by
 obtain⟨h1,h2,c⟩:=kT h;have:=h.k3;have:=h.i1;have:=h.i2;exact A9D a (B8W h) h1 (λk b=>by have:=h.k7 k b;omega) (by omega) h2 (by omega) (by omega) (by omega)
def A9V(a:100<L)(h:p.Ok):CS (r! L (n+46)) Gu [.agg p.cs] (Bo true):=by
 obtain⟨h1,h2,c⟩:=kT h;have:=h.k3;have:=h.i1;have:=h.i2;exact A8w a (B8V h) rfl h1 (λk b=>by have:=h.k7 k b;omega) (by omega) h2 (by omega) (by omega) (by omega)
def B5F(a:100<L)(h:p.Ok):CS (r! L (n+45)) JF [.agg p.cs] (.tup [S p.txt,I 0]):=by
 obtain⟨h1,h2,f⟩:=kT h;obtain⟨d,e⟩:=A9X (L:=L) (n:=n+3) h;have:=h.k3;exact A9E a h.i2 (A0Y a h) (λi b=>(e i b).1) (A9W h).1 d (λk c=>by have:=h.k7 k c;omega) (by omega) (by omega) (JN h)
def B5E(a:100<L)(h:p.Ok):CS (r! L (n+47)) Gv [.agg p.cs] (.tup [S p.txt,I 0]):=by
 obtain⟨h1,h2,f⟩:=kT h;obtain⟨d,e⟩:=A9X (L:=L) (n:=n+5) h;have:=h.k3;exact A8y a h.i2 (A9V a h) (λi b=>(e i b).2) (A9W h).1 d (λk c=>by have:=h.k7 k c;omega) (by omega) (by omega) (JN h)
end
end
section
variable{L n:Nat}{K:KV}
def B3r{a b:Ha}(j:10<L)(k:a.length<390)(hb:b.length<390):CS (r! L (n+7)) Fv [.agg [S a,S b]] (S (Iz [a,b])):=by
 intro K g;rw[oH];unfold TY Iu;rw[En (by rfl)];have hr:Aj [(As [],c_ Br [S a,S b])] (As [])=some (c_ Br [S a,S b]):=Az (H:=[]) (by simp);have f:∀K:K2,CY 0 (.ptr (As []) 0 0) K=K (.ptr (As []) 0 0):=λK=>id rfl;have f1:∀K:K2,CY 1 (.ptr (As []) 0 0) K=K (.ptr (As []) 1 0):=λK=>id rfl;have i:∀K:K2,AD Ak (.ptr (As []) 0 0) [(As [],c_ Br [S a,S b])] K=K (S a):=λK=>id rfl;have l1:∀K:K2,AD Ak (.ptr (As []) 1 0) [(As [],c_ Br [S a,S b])] K=K (S b):=λK=>id rfl;have d:∀K:KV,GM Av 1 Ak 2 [(0,1,S a),(1,1,S b)] [(As [],c_ Br [S a,S b])] K=K (.sl 1 1 0 2) ((1,.cells false Av (AG [a,b]))::[(As [],c_ Br [S a,S b])]):=λK=>id rfl;rw[f,i,f1,l1,d];have h:R5 true depth [.sl 1 1 0 2] [.list 2 (AG [a,b])] ((1,.cells false Av (AG [a,b]))::[(As [],c_ Br [S a,S b])]) (true||false):=An (P! (e:=Av) (.inr ⟨1,false,rfl,rfl,rfl⟩) (by decide) (λs:Ha=>Value.string ⟨⟨s⟩⟩) [a,b] rfl) AK;rw[AR (A55 (L:=L) (n:=n) (l:=[a,b]) (by simp) (by simp;omega) (λs c=>by simp at c;rcases c with rfl|rfl<;>assumption)) h];exact g _ _ (λb=>⟨false,C7⟩)
end
section
variable{K:K2}{H:Hp}
variable{L n:Nat}
def A9G{zs:List Int}(b:100<L)(a:zs.length<100)(hz:∀z∈zs, -10<=z/\z<1090):Ao (r! L (n+7)) EN [.list zs.length (Fa zs)] H K=K (S (Jk zs)):=
 AR (yC (n:=n+2) a (by omega) hz) (An (q:=false) (q':=false) On AK)
def A9u{zs:List Ha}(b:100<L)(a:zs.length<100)(hz:∀z∈zs,z.length<390):Ao (r! L (n+7)) Hn [.list zs.length (AG zs)] H K=K (S (Iz zs)):=
 AR (A55 (n:=n+1) a (by omega) hz) (An (q:=false) (q':=false) On AK)
def B5A{a b:Ha}(d:100<L)(c:a.length<390)(hb:b.length<390):Ao (r! L (n+7)) Fv [.agg [S a,S b]] H K=K (S (Iz [a,b])):=
 AR (q:=false) (B3r (n:=n) (by omega) c hb) (λK=>by kernel_rfl)
def qJ{z:Int}:YE 1 Ab 1 [(0,1,I z)] K=K (.list ([z]:List Int).length (Fa [z])):=id rfl
def B5b{a b c d e f:Int}:YE 1 Ab 6 [(0,1,I a),(1,1,I b),(2,1,I c),(3,1,I d),(4,1,I e),(5,1,I f)] K=K (.list ([a,b,c,d,e,f]:List Int).length (Fa [a,b,c,d,e,f])):=id rfl
def A5V{z:Ha}:YE 1 Ak 1 [(0,1,S z)] K=K (.list ([z]:List Ha).length (AG [z])):=id rfl
def B65(a b:Ha):Rp [(a,b)]=Iz [a,b]:=by simp[Rp]
def C1J{K:KV}{x:Af}{c:Nat}{R0:Row}{cs:Is}{ts:jL}{b:AV->KV}(u:TmsOk ts)(v:100<L)(P:R0=.cells true Ad cs)(d:∀H,Aj H c=some R0->∀K,AD AB (.ptr c 28 0) H K=K (FF ts)){l:Ha}(hb:l.length<100000000)(O:∀m,Aj m c=some R0->Wf m->b (.ptr c 0 0) (S (l++QX ts)) m=x):∀(f i:Nat)(H:Hp),i<=ts.length->ts.length-i<f->Aj H c=some R0->Wf H->
 TL (L+20) (r! L (n+7)) K b f (.ptr c 0 0) (S (l++QX (ts.take i))) (I i) H=x:=by
 have A:=u.len;intro f
 induction f with
 |zero=>intro i H _ h;omega
 |succ f ih=>
  intro i H R Q hc w;rw[nX];unfold TM Em Xh HR A3;have f26:∀K:K2,CY 26 (.ptr c 0 0) K=K (.ptr c 26 0):=λK=>id rfl;have f2:∀K:K2,CY 2 (.ptr c 26 0) K=K (.ptr c 28 0):=λK=>id rfl;rw[f26,f2,d H hc,Qs];by_cases h:i<ts.length
  ·have hr:=u.rng _ (PD h);have M:=XL (z:=ts[i].2) (by omega) (by omega);have N:=XM ts[i].2;rw[FV (by omega),Cr,f26,f2,d H hc,WO h,lTm,B3 (cs:=[zI,zS,zS]) rfl];have k:=Az (H:=H) (x:=.cells true Ba [zI,zS,zS]) (by simp);rw[Ch (vs:=OI ts[i]) k rfl rfl rfl];have a:=AC (q:=true) (e:=Ba) (cs:=OI ts[i]) k;have j:=w.lt hc;have g:Aj (upd ((As H,c_ Ba [zI,zS,zS])::H) (As H) (c_ Ba (OI ts[i]))) c=some R0:=by
    rw[Ag (by omega)];exact A7 j hc
   have w1:=Bq (r:=As H) (y:=.cells true Ba (OI ts[i])) (AJ (x:=.cells true Ba [zI,zS,zS]) w);generalize upd ((As H,c_ Ba [zI,zS,zS])::H) (As H) (c_ Ba (OI ts[i]))=s at a g w1;generalize As H=t at a;have F:∀K:K2,CY 0 (.ptr t 0 0) K=K (.ptr t 0 0):=λK=>id rfl;have J:∀K:K2,CY 1 (.ptr t 0 0) K=K (.ptr t 1 0):=λK=>id rfl;have m0:∀K,AD Ab (.ptr t 0 0) s K=K (I ts[i].1):=λK=>AQ (p:=0) rfl a (show 0<3 by decide);have m1:∀K,AD A6 (.ptr t 1 0) s K=K (.agg (qa ts[i].2)):=λK=>GB (p:=1) rfl a (show 3<=3 from Me _);have a1:=eY (ts.take i) (λt h=>by have h1:=u.rng t (l2a h);have:=XL (z:=t.2) (by omega) (by omega);have:=XM t.2;omega);have a2:(ts.take i).length<=6:=by simp;omega
   have B:=F2 [ts[i].1];have C:=F1 [qn ts[i].2,qd ts[i].2] (by simp;omega);simp only[LV,QT]at B C;rw[F,B4,m0,B4,qJ,B4,A9G v (by simp) (by simp;omega),B4,B6 (by rw[EC];omega),B4,J,B4,m1,B4,B5A v (by omega) (by omega),B4,B6 (by simp only[EC];omega),B4,Dd (by omega)];have D:l++QX (ts.take i)++Jk [ts[i].1]++Iz [qn ts[i].2,qd ts[i].2]=l++QX (ts.take (i+1)):=by
    rw[xV ts h];simp[tmB,B65]
   rw[D];exact ih (i+1) s (by omega) (by omega) g w1
  ·rw[FT (by omega),Bh];have:i=ts.length:=by omega
   subst this;rw[vO];exact O H hc w
end
section
variable{L n:Nat}
section
variable{m:ND}{u o:UD}{ca cb ra rb un pt:Ha}{ts:jL}{ps:List Ha}{ins nds:AV}{kd id vd pe:Int}{r:RD}
def C1L{H:Hp}{K:K2}(d:100<L)(e:ps.length<100)(hz:∀z∈ps,z.length<390):Ao (r! L (n+7)) Hn [DJ ps] H K=K (S (Iz ps)):=by
 cases ps with
 |nil=>
  refine AR (q:=false) (args':=[Aw]) ?_ (λK=>by kernel_rfl);exact λK c=>by
   rw[WZ];unfold PY A3;simp only[BJ];rw[UR];unfold NK HR A3;have a:∀K,Bm Ac Aw K=K (I 0):=λK=>r_ rfl;rw[a,FT (by decide),Bh];exact c _ _ (λb=>⟨false,λK=>by kernel_rfl⟩)
 |cons p l=>exact A9u d e hz
set_option maxHeartbeats 2000000 in
def A3i(C:100<L)(hm:m.ok)(ae:kd=1\/kd=2\/kd=3)(ht:TmsOk ts)(hI:Sl ins)(hN:Sl nds)(hp:ps.length<=6)(M:∀s∈ps,s.length<390)(X:un.length<390)(O:pt.length<390)(hr:r.k=0\/r.k=1\/r.k=2\/r.k=3)(A:∀q∈[(r.a1,r.a2),(r.b1,r.b2),(r.c1,r.c2),(r.d1,r.d2)],q.1.length<390/\q.2.length<390)(hv:0<=vd/\vd<=3)(ad:ca.length<10/\cb.length<10/\ra.length<10/\rb.length<10)(ab:PS (r! L (n+61)) JH [.agg (CL u)] (.tup [S un,I 0]))(aa:LS (r! L (n+61)) JF [.agg (BI id ins nds o)] (.tup [S pt,I pe])):
 CS (r! L (n+62)) Rh [.agg (Ey kd m u ca cb (FF ts) ra rb (DJ ps) id ins nds o r vd)] (S (Nv kd m un ca cb ts ra rb ps pt (if kd=3 then UP r vd else[]))):=by
 intro K hK;obtain⟨q1,q2,q3,q4,q5,q6,q7,q8,q9,ag⟩:=hm;have hT:=Ht ts;have hP:Sl (DJ ps):=by cases ps with|nil=>exact .inl rfl|cons p l=>exact .inr ⟨_,_,rfl⟩
 have af:=ht.len;have a1:=F2 [kd,m.lab,m.num,m.itm,m.tim,m.day];have a2:=F1 [un] (by simpa using X);have a3:=F1 [ca,cb] (by simp;omega);have a4:=F2 [(ts.length:Int)];have a5:=eY ts (λt h=>by have:=ht.rng t h;have:=XL (z:=t.2) (by omega) (by omega);have:=XM t.2;omega);have a6:=F1 [ra,rb] (by simp;omega);have a7:=F2 [(ps.length:Int)];have a8:=F1 ps M;have a9:=F1 [pt] (by simpa using O);simp only[LV,QT]at a1 a2 a3 a4 a6 a7 a9;rw[sU];unfold VT Em Xh A3;rw[En (SX hT hP hI hN)];have d:=Az (H:=[]) (x:=KT kd m u ca cb (FF ts) ra rb (DJ ps) id ins nds o r vd) (by simp);have w0:=AJ (x:=KT kd m u ca cb (FF ts) ra rb (DJ ps) id ins nds o r vd) Fl;generalize ((As [],KT kd m u ca cb (FF ts) ra rb (DJ ps) id ins nds o r vd)::([]:Hp))=H0 at d w0;generalize As []=c at d;have Y:∀{j:Nat}{K:K2},CY j (.ptr c 0 0) K=K (.ptr c j 0):=λ{j K}=>by rw[fA,Jt]
 have g0:∀{K:K2},CY 0 (.ptr c 26 0) K=K (.ptr c 26 0):=r_ rfl;have g2:∀{K:K2},CY 2 (.ptr c 26 0) K=K (.ptr c 28 0):=r_ rfl;have g3:∀{K:K2},CY 3 (.ptr c 26 0) K=K (.ptr c 29 0):=r_ rfl;have nm:∀{y:List Int}{H:Hp}{K:K2},y.length<100->(∀z∈y, -10<=z/\z<1090)->Ao (r! L (n+61)) EN [.list y.length (Fa y)] H K=K (S (Jk y)):=λh1 h2=>A9G (n:=n+54) C h1 h2;have tx:∀{y:List Ha}{H:Hp}{K:K2},y.length<100->(∀z∈y,z.length<390)->Ao (r! L (n+61)) Hn [.list y.length (AG y)] H K=K (S (Iz y)):=λh1 h2=>A9u (n:=n+54) C h1 h2;have i:∀{a b:Ha}{H:Hp}{K:K2},a.length<390->b.length<390->Ao (r! L (n+61)) Fv [.agg [S a,S b]] H K=K (S (Iz [a,b])):=λh1 h2=>B5A (n:=n+54) C h1 h2;simp only[BJ];rw[Y,cU d,ab,F5,F4];simp only[Y,B4,cI0 d,cI1 d,cI2 d,cI3 d,cI4 d,cI5 d,B5b,A5V,g0,g2,cC d,cT d,Qs,qJ];rw[nm (by simp) (by simp only[Tz,List.mem_nil_iff,or_false];rintro z (rfl|rfl|rfl|rfl|rfl|rfl)<;>omega),B4,tx (by simp) (by simpa using X),B4,B6 (by omega),B4,i (by omega) (by omega),B4,B6 (by simp only[EC];omega),B4,nm (by simp) (by simp;omega),B4,B6 (by simp only[EC];omega),B4];have e0:(AV.v (.int .i64 0))=I ((0:Nat):Int):=rfl;have et:∀(l:Ha),S l=S (l++QX (ts.take 0)):=λl=>by rw[show QX (ts.take 0)=[] from rfl,UC]
 rw[e0,et];refine C1J (n:=n+54) ht C (R0:=KT kd m u ca cb (FF ts) ra rb (DJ ps) id ins nds o r vd) rfl (λH h K=>cT h) (by simp only[EC];omega) ?_ (L+20) 0 H0 (by omega) (by omega) d w0;intro w f w1;have N:∀K,Ao (r! L (n+61)) JF [.agg (BI id ins nds o)] w K=K (.tup [S pt,I pe]):=λK=>by rw[zO];exact aa false _ _ (VO hI hN) K
 have ac:∀{H:Hp}{K:K2},Ao (r! L (n+61)) Hn [DJ ps] H K=K (S (Iz ps)):=C1L (n:=n+54) C (by omega) M;simp only[Y,g3,B4,cR f,cP f,iL,qJ,cPr f,N,F5,F4,A5V,ac];rw[i (by omega) (by omega),B4,B6 (by simp only[EC];omega),B4,nm (by simp) (by simp;omega),B4,B6 (by simp only[EC];omega),B4,B6 (by simp only[EC];omega),B4,tx (by simp) (by simpa using O),B6 (by simp only[EC];omega),cI0 f,CQ];by_cases Z:kd=3
 ·rw[Hj Z,Cr];have jv:∀{j:Nat}{K:K2},CY j (.ptr (As w) 0 0) K=K (.ptr (As w) j 0):=λ{j K}=>by rw[fA,Jt]
  have J:=Az (H:=w) (x:=.cells true Ke [zI,zS,zS,zS,zS,zS,zS,zS,zS]) (by simp);have eR:∀{K:K2},AD DV (.ptr c 55 0) w K=K (.agg r.cs):=λ{K}=>GB (p:=55) rfl f (show 64<=68 by decide);rw[eR,B3 (cs:=[zI,zS,zS,zS,zS,zS,zS,zS,zS]) rfl,Ch (vs:=r.cs) J rfl rfl rfl];have g:=AC (q:=true) (e:=Ke) (cs:=r.cs) J;have F:=w1.lt f;have D:Aj (upd ((As w,c_ Ke [zI,zS,zS,zS,zS,zS,zS,zS,zS])::w) (As w) (c_ Ke r.cs)) c=some (KT kd m u ca cb (FF ts) ra rb (DJ ps) id ins nds o r vd):=by
   rw[Ag (by omega)];exact A7 F f
  generalize upd ((As w,c_ Ke [zI,zS,zS,zS,zS,zS,zS,zS,zS])::w) (As w) (c_ Ke r.cs)=B at g D;generalize As w=rv at g jv;have l0:∀{K:K2},AD Ab (.ptr rv 0 0) B K=K (I r.k):=λ{K}=>AQ (p:=0) rfl g (show 0<9 by decide);have l1:∀{K:K2},AD A6 (.ptr rv 1 0) B K=K (.agg [S r.a1,S r.a2]):=λ{K}=>GB (p:=1) rfl g (show 3<=9 by decide);have l3:∀{K:K2},AD A6 (.ptr rv 3 0) B K=K (.agg [S r.b1,S r.b2]):=λ{K}=>GB (p:=3) rfl g (show 5<=9 by decide);have l5:∀{K:K2},AD A6 (.ptr rv 5 0) B K=K (.agg [S r.c1,S r.c2]):=λ{K}=>GB (p:=5) rfl g (show 7<=9 by decide);have l7:∀{K:K2},AD A6 (.ptr rv 7 0) B K=K (.agg [S r.d1,S r.d2]):=λ{K}=>GB (p:=7) rfl g (show 9<=9 by decide);have b1:=F2 [r.k];have P:r.a1.length<390/\r.a2.length<390:=A (r.a1,r.a2) (by simp);have Q:r.b1.length<390/\r.b2.length<390:=A (r.b1,r.b2) (by simp);have R:r.c1.length<390/\r.c2.length<390:=A (r.c1,r.c2) (by simp);have V:r.d1.length<390/\r.d2.length<390:=A (r.d1,r.d2) (by simp);have b2:=F1 [r.a1,r.a2] (by simp;omega);have b3:=F1 [r.b1,r.b2] (by simp;omega);have b4:=F1 [r.c1,r.c2] (by simp;omega);have b5:=F1 [r.d1,r.d2] (by simp;omega);have b6:=F2 [vd];simp only[LV,QT]at b1 b2 b3 b4 b5 b6;simp only[jv,Y,B4,l0,l1,l3,l5,l7,cV D,qJ];rw[nm (by simp) (by simp;omega),B4,B6 (by simp only[EC];omega),B4,i P.1 P.2,B4,B6 (by simp only[EC];omega),B4,i Q.1 Q.2,B4,B6 (by simp only[EC];omega),B4,i R.1 R.2,B4,B6 (by simp only[EC];omega),B4,i V.1 V.2,B4,B6 (by simp only[EC];omega),B4,nm (by simp) (by simp;omega),B4,B6 (by simp only[EC];omega),B4];rw[Dl Z]at hK⊢;have e:Nv kd m un ca cb ts ra rb ps pt (UP r vd)=Jk [kd,m.lab,m.num,m.itm,m.tim,m.day]++Iz [un]++Iz [ca,cb]++Jk [(ts.length:Int)]++QX ts++Iz [ra,rb]++Jk [(ps.length:Int)]++Iz ps++Iz [pt]++Jk [r.k]++Iz [r.a1,r.a2]++Iz [r.b1,r.b2]++Iz [r.c1,r.c2]++Iz [r.d1,r.d2]++Jk [vd]:=by
   unfold Nv UP;simp[Rp]
  rw[<-e];exact hK _ _ (λb=>⟨false,λK=>by kernel_rfl⟩)
 ·rw[HX Z,Bh];rw[C5 Z]at hK⊢;have e:Nv kd m un ca cb ts ra rb ps pt []=Jk [kd,m.lab,m.num,m.itm,m.tim,m.day]++Iz [un]++Iz [ca,cb]++Jk [(ts.length:Int)]++QX ts++Iz [ra,rb]++Jk [(ps.length:Int)]++Iz ps++Iz [pt]:=by
   unfold Nv;simp only[B65,UC,l3d]
  rw[<-e];exact hK _ _ (λb=>⟨false,λK=>by kernel_rfl⟩)
end
end
section
variable{L n:Nat}
def B3O:PS (r! L (n+40)) uE [.agg [I 0,Aw,Aw]] (.tup [S [],I 200]):=BK (λH K=>by kernel_rfl) (by kernel_rfl)
def B3P:PS (r! L (n+40)) Q? [.agg [I 0,Aw,Aw]] (.tup [Bo true,Bo false]):=BK (λH K=>by kernel_rfl) (by kernel_rfl)
section
variable{m:ND}{u o:UD}{ca cb ra rb:Ha}{T P ins nds:AV}{kd id vd:Int}{r:RD}{b:Ha}{q:Bool}
def A3j(h:Sl T)(g:Sl P)(e:Sl ins)(f:Sl nds)(hb:b.length<=32768)(v:CS (r! L (n+61)) Fu [.agg (Ey kd m u ca cb T ra rb P id ins nds o r vd)] (.tup [Bo true,Bo q]))(s:CS (r! L (n+61)) Rh [.agg (Ey kd m u ca cb T ra rb P id ins nds o r vd)] (S b)):
 CS (r! L (n+62)) Ou [.agg (Ey kd m u ca cb T ra rb P id ins nds o r vd)] (.tup [S b,I 0]):=by
 intro K t;rw[Yb];unfold Rb Iu;rw[En (SX h g e f)];have a:=Az (H:=[]) (x:=KT kd m u ca cb T ra rb P id ins nds o r vd) (by simp);generalize ((As [],KT kd m u ca cb T ra rb P id ins nds o r vd)::([]:Hp))=k at a;generalize As []=c at a;have p:∀{j:Nat}{K:K2},CY j (.ptr c 0 0) K=K (.ptr c j 0):=λ{j K}=>by rw[fA,Jt]
 have i:∀K,Ao (r! L (n+61)) Fu [.agg (Ey kd m u ca cb T ra rb P id ins nds o r vd)] k K=K (.tup [Bo true,Bo q]):=λK=>AR v (WQ h g e f);have d:∀K,Ao (r! L (n+61)) Rh [.agg (Ey kd m u ca cb T ra rb P id ins nds o r vd)] k K=K (S b):=λK=>AR s (WQ h g e f);have w:∀{K:K2},Bm Ak (S b) K=K (I b.length):=λ{K}=>PQ rfl;rw[cA a,i,F5,F4,ntT,Bh,cA a,d,p,cS a,B3P (n:=n+21),F5,F4,p,cS a,B3O (n:=n+21),F5,F4,w,Eo,HX (by omega)];simp only[ZC,gT,Cb,ntT,Sf];rw[Bh];exact t _ _ (λb=>⟨false,λK=>by kernel_rfl⟩)
def C4c{cs:Is}(h:40000<L)(h1:cs.all AV.one=true)(hz:cs.length=68)(c:∀H,R5 true depth [.agg cs] [.agg cs] H false)(hb:b.length<=32768)(e:CS (r! L (n+62)) Ou [.agg cs] (.tup [S b,I 0])):CS (r! L (n+63)) GW [.agg cs] (S (sha b)):=by
 intro K f;rw[fX];unfold VW Iu;rw[En h1];have a:=Az (H:=[]) (x:=.cells true Ad cs) (by simp);generalize ((As [],c_ Ad cs)::([]:Hp))=d at a;rw[Bv rfl hz.symm a,AR e (c d),F5,F4,IS];show A2 (.v (.bool false)) _ _=_;rw[Bh];have g:∀K,Ao (r! L (n+62)) Yz [S b] d K=K (S (sha b)):=λK=>AR (B5x (L:=L+20) (n:=n+59) (by omega) (by omega)) (An (q:=false) (q':=false) C7 AK);rw[g];exact f _ _ (λb=>⟨false,λK=>by kernel_rfl⟩)
end
end
section
variable{k:Nat}
variable{L n:Nat}
def C1B(a:k=1\/k=2\/k=3):∀K,eEq J2 BinOp.eql (AV.agg (rr k).cs) (AV.agg [zI,zS,zS,zS,zS,zS,zS,zS,zS]) K=K (Bo false):=λK=>by rw[<-qO];rcases a with rfl|rfl|rfl<;>kernel_rfl
def B6w(a:k=1\/k=2\/k=3):PS (r! L (n+40)) Y0 [.agg (rr k).cs] (Bo true):=by
 rcases a with rfl|rfl|rfl<;>exact BK (λH K=>by kernel_rfl) (by as_aux_lemma=>kernel_rfl)
def A9C(a:k=1\/k=2\/k=3):PS (r! L (n+40)) JE [.agg (rr k).cs] (Bo true):=by
 rcases a with rfl|rfl|rfl<;>exact BK (λH K=>by kernel_rfl) (by as_aux_lemma=>kernel_rfl)
def H_:PS (r! L (n+40)) JE [.agg r0.cs] (Bo false):=BK (λH K=>by kernel_rfl) (by kernel_rfl)
end
section
variable{k:Nat}
variable{L n:Nat}
structure CB where
 m:ND
 c:Int
 r:Int
 ts:jL
structure CB.Ok(b:CB):Prop where
 m:b.m.ok
 c1: -80<=b.c
 c2:b.c<=80
 r1:0<=b.r
 r2:b.r<=8
 ts:TmsOk b.ts
inductive Cd where
 |re (b:CB) (u:Nat)
 |co (b:CB) (p:Pr) (ps:List Ha) (t:Option (Nat×Int))
abbrev ed:=List Cd
def Cd.kd:Cd->Int
 |.re _ _=>1
 |.co _ _ _ none=>2
 |.co _ _ _ (some _)=>3
def Cd.ps:Cd->List Ha
 |.re _ _=>[]
 |.co _ _ ps _=>ps
abbrev cdC(kd:Int)(b:CB)(u:UD)(ps:List Ha)(id:Int)(ins a:AV)(o:UD)(r:RD)(vd:Int):Is:=Ey kd b.m u (qn b.c) (qd b.c) (FF b.ts) (qn b.r) (qd b.r) (DJ ps) id ins a o r vd
def Cd.cs:Cd->Is
 |.re b u=>cdC 1 b (uu u) [] 0 Aw Aw u0 r0 0
 |.co b p ps none=>cdC 2 b (uu p.out) ps p.id (BP p.ks) (Cu p.xs) (uu p.out) r0 0
 |.co b p ps (some (k,vd))=>cdC 3 b (uu p.out) ps p.id (BP p.ks) (Cu p.xs) (uu p.out) (rr k) vd
def Cd.body:Cd->Ha
 |.re b u=>Nv 1 b.m (Lo u) (qn b.c) (qd b.c) b.ts (qn b.r) (qd b.r) [] [] []
 |.co b p ps none=>Nv 2 b.m (Lo p.out) (qn b.c) (qd b.c) b.ts (qn b.r) (qd b.r) ps p.txt []
 |.co b p ps (some (k,vd))=>Nv 3 b.m (Lo p.out) (qn b.c) (qd b.c) b.ts (qn b.r) (qd b.r) ps p.txt (UP (rr k) vd)
def Cd.Ok:Cd->Prop
 |.re b u=>b.Ok/\u<7
 |.co b p ps t=>b.Ok/\p.Ok/\ps.length=p.ks.length/\(∀s∈ps,s.length=32)/\(match t with|none=>True|some (k,vd)=>(k=1\/k=2\/k=3)/\1<=vd/\vd<=3)
def Cd.id(c:Cd):Ha:=sha c.body
def NQ(ps:List Ha):Sl (DJ ps):=by cases ps with|nil=>exact .inl rfl|cons p l=>exact .inr ⟨_,_,rfl⟩
def kR{ps:List Ha}(h:1<=ps.length):DJ ps=Ls ps:=by cases ps with|nil=>simp at h|cons p l=>rfl
def C1C(h:k=1\/k=2\/k=3):(rr k).k=0\/(rr k).k=1\/(rr k).k=2\/(rr k).k=3:=by rcases h with rfl|rfl|rfl<;>decide
def A3d(h:k=1\/k=2\/k=3):∀q∈[((rr k).a1,(rr k).a2),((rr k).b1,(rr k).b2),((rr k).c1,(rr k).c2),((rr k).d1,(rr k).d2)],q.1.length<390/\q.2.length<390:=by
 rcases h with rfl|rfl|rfl<;>decide
def I! :∀q∈[(r0.a1,r0.a2),(r0.b1,r0.b2),(r0.c1,r0.c2),(r0.d1,r0.d2)],q.1.length<390/\q.2.length<390:=by decide
section
variable{b:CB}{p:Pr}{ps:List Ha}{kd:Int}{tail:Ha}{un pt:Ha}
def CB.Ok.cl(h:b.Ok):(qn b.c).length<10/\(qd b.c).length<10/\(qn b.r).length<10/\(qd b.r).length<10:=by
 have h1:=XL h.c1 (show b.c<81 by have:=h.c2;omega);have h2:=XL (z:=b.r) (by have:=h.r1;omega) (by have:=h.r2;omega);have a:=XM b.c;have d:=XM b.r;omega
def vA(h:b.Ok)(f:un.length<390)(x:ps.length<=6)(a:∀s∈ps,s.length<390)(d:pt.length<390)(e:tail.length<=4000):(Nv kd b.m un (qn b.c) (qd b.c) b.ts (qn b.r) (qd b.r) ps pt tail).length<=32768:=by
 obtain⟨q1,q2,q3,q4⟩:=h.cl;have l1:=F2 [kd,b.m.lab,b.m.num,b.m.itm,b.m.tim,b.m.day];have l2:=F1 [un] (by simpa using f);have g:=OB [(qn b.c,qd b.c)] (by simp;omega);have i:=F2 [(b.ts.length:Int)];have j:=eY b.ts (λt e=>by
  have:=h.ts.rng t e;have:=XL (z:=t.2) (by omega) (by omega);have:=XM t.2;omega)
 have q:=OB [(qn b.r,qd b.r)] (by simp;omega);have u:=F2 [(ps.length:Int)];have v:=F1 ps a;have w:=F1 [pt] (by simpa using d);have y:=h.ts.len;simp only[Nv,EC,LV,QT]at l1 l2 g i j q u v w⊢;omega
def A9d{vd:Int}(h:k=1\/k=2\/k=3):(UP (rr k) vd).length<=4000:=by
 have l1:=F2 [(rr k).k];have l2:=OB _ (A3d h);have a:=F2 [vd];simp only[UP,EC,LV,QT]at l1 l2 a⊢;omega
end
section
variable{c:Cd}
def Mq:c.cs.all AV.one=true:=by
 match c with
 |.re b u=>exact SX (Ht _) (NQ _) (.inl rfl) (.inl rfl)
 |.co b p ps none=>exact SX (Ht _) (NQ _) (.inr ⟨_,_,rfl⟩) (.inr ⟨_,_,rfl⟩)
 |.co b p ps (some (k,vd))=>exact SX (Ht _) (NQ _) (.inr ⟨_,_,rfl⟩) (.inr ⟨_,_,rfl⟩)
def ED:c.cs.length=68:=by
 match c with
 |.re b u=>rfl
 |.co b p ps none=>rfl
 |.co b p ps (some (k,vd))=>rfl
def uX(H:Hp):R5 true depth [.agg c.cs] [.agg c.cs] H false:=by
 match c with
 |.re b u=>exact WQ (Ht _) (NQ _) (.inl rfl) (.inl rfl)
 |.co b p ps none=>exact WQ (Ht _) (NQ _) (.inr ⟨_,_,rfl⟩) (.inr ⟨_,_,rfl⟩)
 |.co b p ps (some (k,vd))=>exact WQ (Ht _) (NQ _) (.inr ⟨_,_,rfl⟩) (.inr ⟨_,_,rfl⟩)
def iW(h:c.Ok):c.body.length<=32768:=by
 match c,h with
 |.re b u,⟨hb,f⟩=>exact vA hb (by have:=Gx u;omega) (by simp) (by simp) (by simp) (by simp)
 |.co b p ps none,⟨hb,a,h1,h2,_⟩=>exact vA hb (by have:=Gx p.out;omega) (by have:=a.k3;omega) (λs d=>by rw[h2 s d];decide) (kS a) (by simp)
 |.co b p ps (some (k,vd)),⟨hb,a,h1,h2,e⟩=>exact vA hb (by have:=Gx p.out;omega) (by have:=a.k3;omega) (λs d=>by rw[h2 s d];decide) (kS a) (A9d e.1)
def C13:RV (r! L (n+40)) Gv [.agg (BI 0 Aw Aw u0)] (.tup [S [],I 90]):=λb=>by kernel_rfl
def C1M:RV (r! L (n+40)) JF [.agg (BI 0 Aw Aw u0)] (.tup [S [],I 90]):=λb=>by kernel_rfl
def B1H(t:40000<L)(h:c.Ok)(hn:c.ps.Nodup):CS (r! L (n+63)) FI [.agg c.cs] (S c.id):=by
 refine C44 t Mq ED uX (iW h) ?_
 match c,h,hn with
 |.re b u,⟨hb,v⟩,_=>
  have st:=A6j (L:=L) (n:=n) (o:=u0) hb.m (Ht b.ts) (A8t (L:=L) (n:=n+20)).o (X0 L (n+20) u (by omega)).o (A2P (L:=L) (n:=n+16) hb.c1 hb.c2 hb.r1 hb.r2 hb.ts).ls;exact A2T (n:=n) (ps:=[]) (vd:=0) (kd:=1) (by omega) hb.m (.inl rfl) hb.ts (.inl rfl) (.inl rfl) (by simp) (by simp) (by have:=Gx u;omega) (by simp) (.inl rfl) I! (by decide) hb.cl st.ls (UF L (n+21) u (by omega)) (C13 (L:=L) (n:=n+21)).ls
 |.co b p ps none,⟨hb,a,h1,h2,_⟩,hn=>
  have k1:=a.k1;have k3:=a.k3;have e:DJ ps=.list p.ks.length (AG ps):=by rw[kR (by omega),Ls,h1]
  have d:=(xS (L:=L) (n:=n+53) (ps:=ps) hn (by omega) (by omega) (by omega) h2).ls;rw[Ls,h1]at d;have g:=rI (L:=L) (n:=n) (kd:=2) (m:=b.m) (ca:=qn b.c) (cb:=qd b.c) (ra:=qn b.r) (rb:=qd b.r) (r:=r0) (vd:=0) (Ht b.ts) ⟨_,_,rfl⟩ d (A9V (L:=L) (n:=n+13) (by omega) a).ls;have st:=A6i (L:=L) (n:=n) hb.m (Ht b.ts) ⟨_,_,rfl⟩ ⟨_,_,rfl⟩ ⟨_,_,rfl⟩ g.ls (X0 L (n+20) p.out (JN a)).o (A2P (L:=L) (n:=n+16) hb.c1 hb.c2 hb.r1 hb.r2 hb.ts).ls;rw[<-e]at st;exact A2T (n:=n) (ps:=ps) (vd:=0) (kd:=2) (by omega) hb.m (.inr (.inl rfl)) hb.ts (.inr ⟨_,_,rfl⟩) (.inr ⟨_,_,rfl⟩) (by omega) (λs i=>by rw[h2 s i];decide) (by have:=Gx p.out;omega) (kS a) (.inl rfl) I! (by decide) hb.cl st.ls (UF L (n+21) _ (JN a)) (B5E (L:=L) (n:=n+14) (by omega) a).ls
 |.co b p ps (some (k,vd)),⟨hb,a,h1,h2,f,j,q⟩,hn=>
  have k1:=a.k1;have k3:=a.k3;have e:DJ ps=.list p.ks.length (AG ps):=by rw[kR (by omega),Ls,h1]
  have d:=(xS (L:=L) (n:=n+53) (ps:=ps) hn (by omega) (by omega) (by omega) h2).ls;rw[Ls,h1]at d;have g:=rI (L:=L) (n:=n) (kd:=3) (m:=b.m) (ca:=qn b.c) (cb:=qd b.c) (ra:=qn b.r) (rb:=qd b.r) (r:=rr k) (vd:=vd) (Ht b.ts) ⟨_,_,rfl⟩ d (A9V (L:=L) (n:=n+13) (by omega) a).ls;have st:=A6h (L:=L) (n:=n) hb.m (Ht b.ts) ⟨_,_,rfl⟩ ⟨_,_,rfl⟩ ⟨_,_,rfl⟩ (C1B f) (B6w (L:=L) (n:=n+20) f).o j q (X0 L (n+20) p.out (JN a)).o (A2P (L:=L) (n:=n+16) hb.c1 hb.c2 hb.r1 hb.r2 hb.ts).ls g.ls;rw[<-e]at st;exact A2T (n:=n) (ps:=ps) (vd:=vd) (kd:=3) (by omega) hb.m (.inr (.inr rfl)) hb.ts (.inr ⟨_,_,rfl⟩) (.inr ⟨_,_,rfl⟩) (by omega) (λs i=>by rw[h2 s i];decide) (by have:=Gx p.out;omega) (kS a) (C1C f) (A3d f) (by omega) hb.cl st.ls (UF L (n+21) _ (JN a)) (B5E (L:=L) (n:=n+14) (by omega) a).ls
end
end
section
variable{c2:Is}{n2:Nat}
variable{L n:Nat}
section
variable{R:Rt}{K:KV}{ps:List Ha}{H:Hp}{y:Af}
def B4a{b:AV->AV->KV}{i:Nat}(k:i<ps.length)(hb:ps.length<100)(p:K (.tup [Bo false,I ps.length]) H=y)(c:b (Ls ps) (I i) (I i) H=y\/∃m,∃h:m<i,ps[m]'(by omega)=ps[i]):∀(f j:Nat),j<=i->i-j<f->(∀m(_:m<j)(s:m<ps.length),ps[m]≠ps[i])->
 LL (L+20) R K b f (Ls ps) (I i) (I j) H=y:=by
 intro f
 induction f with
 |zero=>intro j _ h;omega
 |succ f ih=>
  intro j v t a;rw[RK];unfold LN OG A3 HS;by_cases h:j<i
  ·rw[FV (by omega),Cr,XA7 (by omega),B4,LD,B4,XA7 k,B4,LD,B4,Mb];by_cases he:ps[j]=ps[i]
   ·rw[Hj he,B4,Cr,MN];exact p
   ·rw[HX he,B4,Bh,Dd (by omega)];exact ih (j+1) (by omega) (by omega) λm hm d=>by
     by_cases g:m=j
     ·subst g;exact he
     ·exact a m (by omega) d
  ·rw[FT (by omega),Bh];obtain rfl:j=i:=by omega
   rcases c with c|⟨m,hm,e⟩
   ·exact c
   ·exact absurd e (a m hm (by omega))
def B4b{b:KV}(hb:ps.length<100)(p:ps.length<L+20)(j:∀s∈ps,s.length=32)(k:K (.tup [Bo false,I ps.length]) H=y):∀(f i:Nat)(v:AV),i<=ps.length->ps.length-i<f->
 (∃t m,i<=t/\∃(h:t<ps.length)(hm:m<t),ps[m]'(by omega)=ps[t])->LM (L+20) R K b f (Ls ps) (I i) v H=y:=by
 intro f
 induction f with
 |zero=>intro i v _ h;omega
 |succ f ih=>
  intro i v x w a;obtain⟨t,m,h1,h2,c,d⟩:=a;rw[RL];unfold LO HR A3 HS;rw[MN];have h:i<ps.length:=by omega
  rw[FV (by omega),Cr];simp only[BJ];rw[XA7 h,LD,PQ rfl,j _ (PD h),IS];rw[show(!decide (((32:Nat):Int)=32))=false from rfl,Bh];have e:(AV.v (.int .i64 0))=I ((0:Nat):Int):=rfl;rw[e];refine B4a h hb k ?_ _ 0 (by omega) (by omega) (λm hm _=>by omega);by_cases g:t=i
  ·subst g;exact .inr ⟨m,c,d⟩
  ·left;rw[Dd (by omega)];exact ih (i+1) _ (by omega) (by omega) ⟨t,m,by omega,h2,c,d⟩
def A6Y(h:¬ps.Nodup):∃t m,0<=t/\∃(h:t<ps.length)(hm:m<t),ps[m]'(by omega)=ps[t]:=l39 λhc=>h (by
 rw[List.nodup_iff_pairwise_ne,l26];intro i j c b a e;exact hc ⟨j,i,Y_ _,b,a,e⟩)
def sH(hn:¬ps.Nodup)(hb:ps.length<=6)(d:∀s∈ps,s.length=32):CS (rt (L+20) (n+1)) Ir [Ls ps] (.tup [Bo false,I ps.length]):=by
 intro K c;rw[Tu];unfold MH Dk A3 HS;simp only[BJ];have a:(AV.v (.int .i64 0))=I ((0:Nat):Int):=rfl;rw[a];exact B4b (by omega) (by omega) d (c _ _ (λb=>⟨false,λK=>by kernel_rfl⟩)) _ 0 _ (by omega) (by omega) (A6Y hn)
end
section
variable{m:ND}{u o:UD}{ca cb ra rb:Ha}{T P ins nds:AV}{id vd kd:Int}{r:RD}{q:Bool}
def A5b(h:Sl T)(g:Sl P)(e:Sl ins)(f:Sl nds)(k:CS (rt (L+20) (n+61)) Fu [.agg (Ey kd m u ca cb T ra rb P id ins nds o r vd)] (.tup [Bo false,Bo q])):
 CS (rt (L+20) (n+62)) Ou [.agg (Ey kd m u ca cb T ra rb P id ins nds o r vd)] (.tup [S [],I 210]):=by
 intro K j;rw[Yb];unfold Rb Iu;rw[En (SX h g e f)];have a:=Az (H:=[]) (x:=KT kd m u ca cb T ra rb P id ins nds o r vd) (by simp);generalize ((As [],KT kd m u ca cb T ra rb P id ins nds o r vd)::([]:Hp))=i at a;generalize As []=c at a;have d:∀K,Ao (rt (L+20) (n+61)) Fu [.agg (Ey kd m u ca cb T ra rb P id ins nds o r vd)] i K=K (.tup [Bo false,Bo q]):=λK=>AR k (WQ h g e f);rw[cA a,d,F5,F4,ntF,Cr];exact j _ _ (λb=>⟨false,λK=>by kernel_rfl⟩)
def C1O{cs:Is}(h1:cs.all AV.one=true)(hz:cs.length=68)(c:∀H,R5 true depth [.agg cs] [.agg cs] H false)(e:CS (rt (L+20) (n+62)) Ou [.agg cs] (.tup [S [],I 210])):CS (rt (L+20) (n+63)) GW [.agg cs] (S []):=by
 intro K f;rw[fX];unfold VW Iu;rw[En h1];have a:=Az (H:=[]) (x:=.cells true Ad cs) (by simp);generalize ((As [],c_ Ad cs)::([]:Hp))=d at a;rw[Bv rfl hz.symm a,AR e (c d),F5,F4,IS];show A2 (.v (.bool true)) _ _=_;rw[Cr];exact f _ _ (λb=>⟨false,λK=>by kernel_rfl⟩)
end
attribute [local irreducible] Ao rt nM eBi eEq cnd Ap Xp A2
section
variable{m:ND}{u o:UD}{ca cb ra rb:Ha}{T P ins nds:AV}{id vd:Int}{r:RD}
def A3h(hm:m.ok)(t:Sl T)(hr:PO (rt (L+20) (n+60)) JE [.agg r0.cs] (Bo false))(s:∃n cs,P=.list n cs)(p:∃n cs,nds=.list n cs)(w:LS (rt (L+20) (n+60)) Ir [P] (.tup [Bo false,I n2]))(hv:LS (rt (L+20) (n+60)) FY [.agg (BI id (.list n2 c2) nds u)] (Bo true))(x:PO (rt (L+20) (n+60)) Fy [.agg (CL u)] (Bo true))(v:LS (rt (L+20) (n+60)) JG [.agg (ZM ca cb T ra rb)] (Bo true)):
 CS (rt (L+20) (n+61)) Fu [.agg (Ey 2 m u ca cb T ra rb P id (.list n2 c2) nds u r0 0)] (.tup [Bo false,Bo false]):=by
 intro K j;obtain⟨h1,h2,f,A,g,B,h,C,i,e⟩:=hm;obtain⟨n1,c1,rfl⟩:=s;obtain⟨D,c3,rfl⟩:=p;have hb:∀{z d c:Int},d<=z->z<=c->PO (rt (L+20) (n+60)) IR [I z,I d,I c] (Bo true):=λa b=>(XK a b).o;rcases t with rfl|⟨F,c4,rfl⟩
 all_goals
  rewrite[JQ];unfold IL Iu
  try rewrite[zO]
  try rewrite[bO]
  try rewrite[qO]
  try rewrite[cO]
  generalize rt (L+20) (n+60)=R at*
  conv=>lhs;whnf
  rewrite[Xf ?hc]
  case hc=>decide
  conv=>lhs;whnf
  rewrite[x]
  conv=>lhs;whnf
  rewrite[(v) false _ _ ?hq]
  case hq=>exact λK=>by kernel_rfl
  conv=>lhs;whnf
  rewrite[hb h1 (by omega)]
  conv=>lhs;whnf
  rewrite[hb f (by omega)]
  conv=>lhs;whnf
  rewrite[hb g (by omega)]
  conv=>lhs;whnf
  rewrite[hb h (by omega)]
  conv=>lhs;whnf
  rewrite[hb i (by omega)]
  conv=>lhs;whnf
  rewrite[GF]
  conv=>lhs;whnf
  rewrite[hr]
  conv=>lhs;whnf
  rewrite[show∀K,eEq J2 BinOp.neq (AV.agg [I r0.k,S r0.a1,S r0.a2,S r0.b1,S r0.b2,S r0.c1,S r0.c2,S r0.d1,S r0.d2]) (AV.agg [zI,zS,zS,zS,zS,zS,zS,zS,zS]) K=K (Bo false) from λK=>by rw[<-qO];kernel_rfl]
  conv=>lhs;whnf
  rewrite[B0d ?hc]
  case hc=>decide
  conv=>lhs;whnf
  rewrite[GF]
  conv=>lhs;whnf
  rewrite[Xf ?hc]
  case hc=>decide
  conv=>lhs;whnf
  rewrite[GF]
  conv=>lhs;whnf
  rewrite[Qr ?hc]
  case hc=>decide
  conv=>lhs;whnf
  rewrite[Qe]
  conv=>lhs;whnf
  rewrite[Qe]
  conv=>lhs;whnf
  rewrite[(w) false _ _ ?hq]
  case hq=>exact λK=>by kernel_rfl
  conv=>lhs;whnf
  rewrite[(hv) false _ _ ?hq]
  case hq=>exact λK=>by kernel_rfl
  conv=>lhs;whnf
  exact j _ _ (λb=>⟨false,λK=>by kernel_rfl⟩)
def A3g(hm:m.ok)(v:Sl T)(hr:PO (rt (L+20) (n+60)) JE [.agg r.cs] (Bo true))(c:1<=vd)(d:vd<=3)(t:∃n cs,P=.list n cs)(s:∃n cs,nds=.list n cs)(x:LS (rt (L+20) (n+60)) Ir [P] (.tup [Bo false,I n2]))(hv:LS (rt (L+20) (n+60)) FY [.agg (BI id (.list n2 c2) nds u)] (Bo true))(A:PO (rt (L+20) (n+60)) Fy [.agg (CL u)] (Bo true))(w:LS (rt (L+20) (n+60)) JG [.agg (ZM ca cb T ra rb)] (Bo true)):
 CS (rt (L+20) (n+61)) Fu [.agg (Ey 3 m u ca cb T ra rb P id (.list n2 c2) nds u r vd)] (.tup [Bo false,Bo true]):=by
 intro K p;obtain⟨h1,h2,h,B,i,C,j,D,k,g⟩:=hm;obtain⟨n1,c1,rfl⟩:=t;obtain⟨F,c3,rfl⟩:=s;have hb:∀{z f e:Int},f<=z->z<=e->PO (rt (L+20) (n+60)) IR [I z,I f,I e] (Bo true):=λa b=>(XK a b).o;rcases v with rfl|⟨J,c4,rfl⟩
 all_goals
  rewrite[JQ];unfold IL Iu
  try rewrite[zO]
  try rewrite[bO]
  try rewrite[qO]
  try rewrite[cO]
  generalize rt (L+20) (n+60)=R at*
  conv=>lhs;whnf
  rewrite[Qr ?hc]
  case hc=>decide
  conv=>lhs;whnf
  rewrite[A]
  conv=>lhs;whnf
  rewrite[(w) false _ _ ?hq]
  case hq=>exact λK=>by kernel_rfl
  conv=>lhs;whnf
  rewrite[hb h1 (by omega)]
  conv=>lhs;whnf
  rewrite[hb h (by omega)]
  conv=>lhs;whnf
  rewrite[hb i (by omega)]
  conv=>lhs;whnf
  rewrite[hb j (by omega)]
  conv=>lhs;whnf
  rewrite[hb k (by omega)]
  conv=>lhs;whnf
  rewrite[GF]
  conv=>lhs;whnf
  rewrite[hr]
  conv=>lhs;whnf
  rewrite[hb c d]
  conv=>lhs;whnf
  rewrite[GF]
  conv=>lhs;whnf
  rewrite[Xf ?hc]
  case hc=>decide
  conv=>lhs;whnf
  rewrite[GF]
  conv=>lhs;whnf
  rewrite[Xf ?hc]
  case hc=>decide
  conv=>lhs;whnf
  rewrite[GF]
  conv=>lhs;whnf
  rewrite[Qr ?hc]
  case hc=>decide
  conv=>lhs;whnf
  rewrite[Qe]
  conv=>lhs;whnf
  rewrite[(x) false _ _ ?hq]
  case hq=>exact λK=>by kernel_rfl
  conv=>lhs;whnf
  rewrite[(hv) false _ _ ?hq]
  case hq=>exact λK=>by kernel_rfl
  conv=>lhs;whnf
  exact p _ _ (λb=>⟨false,λK=>by kernel_rfl⟩)
end
end
section
variable{L n:Nat}
section
variable{c:Cd}
def A4o(q:40000<L)(h:c.Ok)(hn:c.ps.Nodup):CS (r! L (n+64)) GW [.agg c.cs] (S c.id):=by
 refine C4c (n:=n+1) q Mq ED uX (iW h) ?_
 match c,h,hn with
 |.re b u,⟨hb,r⟩,_=>
  have st:=A6H (L:=L) (n:=n+1) (o:=u0) hb.m (Ht b.ts) (H_ (L:=L) (n:=n+21)).o (A9A (L:=L) (n:=n+21)).o (Se L (n+21) u (by omega)).o (sJ (L:=L) (n:=n+19) hb.c1 hb.c2 hb.r1 hb.r2 (by omega) hb.ts).ls;exact A3j (n:=n+1) (Ht _) (NQ []) (.inl rfl) (.inl rfl) (iW (c:=.re b u) ⟨hb,r⟩) st (A3i (n:=n) (ps:=[]) (vd:=0) (kd:=1) (by omega) hb.m (.inl rfl) hb.ts (.inl rfl) (.inl rfl) (by simp) (by simp) (by have:=Gx u;omega) (by simp) (.inl rfl) I! (by decide) hb.cl (US L (n+21) u (by omega)) (C1M (L:=L) (n:=n+21)).ls)
 |.co b p ps none,⟨hb,a,h1,h2,f⟩,hn=>
  have k1:=a.k1;have k3:=a.k3;have e:DJ ps=Ls ps:=kR (by omega);have d:=(yE (L:=L) (n:=n+60) (ps:=ps) hn (by omega) (by omega) h2).ls;rw[<-e,h1]at d;have st:=A6G (L:=L) (n:=n+1) hb.m (Ht b.ts) (H_ (L:=L) (n:=n+21)).o ⟨_,_,e⟩ ⟨_,_,rfl⟩ d (A0Y (L:=L) (n:=n+17) (by omega) a).ls (Se L (n+21) p.out (JN a)).o (sJ (L:=L) (n:=n+19) hb.c1 hb.c2 hb.r1 hb.r2 (by omega) hb.ts).ls;exact A3j (n:=n+1) (Ht _) (NQ ps) (.inr ⟨_,_,rfl⟩) (.inr ⟨_,_,rfl⟩) (iW (c:=.co b p ps none) ⟨hb,a,h1,h2,f⟩) st (A3i (n:=n) (ps:=ps) (vd:=0) (kd:=2) (by omega) hb.m (.inr (.inl rfl)) hb.ts (.inr ⟨_,_,rfl⟩) (.inr ⟨_,_,rfl⟩) (by omega) (λs g=>by rw[h2 s g];decide) (by have:=Gx p.out;omega) (kS a) (.inl rfl) I! (by decide) hb.cl (US L (n+21) _ (JN a)) (B5F (L:=L) (n:=n+16) (by omega) a).ls)
 |.co b p ps (some (k,vd)),⟨hb,a,h1,h2,f,i,j⟩,hn=>
  have k1:=a.k1;have k3:=a.k3;have e:DJ ps=Ls ps:=kR (by omega);have d:=(yE (L:=L) (n:=n+60) (ps:=ps) hn (by omega) (by omega) h2).ls;rw[<-e,h1]at d;have st:=A6F (L:=L) (n:=n+1) hb.m (Ht b.ts) (A9C (L:=L) (n:=n+21) f).o i j ⟨_,_,e⟩ ⟨_,_,rfl⟩ d (A0Y (L:=L) (n:=n+17) (by omega) a).ls (Se L (n+21) p.out (JN a)).o (sJ (L:=L) (n:=n+19) hb.c1 hb.c2 hb.r1 hb.r2 (by omega) hb.ts).ls;exact A3j (n:=n+1) (Ht _) (NQ ps) (.inr ⟨_,_,rfl⟩) (.inr ⟨_,_,rfl⟩) (iW (c:=.co b p ps (some (k,vd))) ⟨hb,a,h1,h2,f,i,j⟩) st (A3i (n:=n) (ps:=ps) (vd:=vd) (kd:=3) (by omega) hb.m (.inr (.inr rfl)) hb.ts (.inr ⟨_,_,rfl⟩) (.inr ⟨_,_,rfl⟩) (by omega) (λs g=>by rw[h2 s g];decide) (by have:=Gx p.out;omega) (kS a) (C1C f) (A3d f) (by omega) hb.cl (US L (n+21) _ (JN a)) (B5F (L:=L) (n:=n+16) (by omega) a).ls)
def B58(j:40000<L)(h:c.Ok)(hn:¬c.ps.Nodup):CS (r! L (n+64)) GW [.agg c.cs] (S []):=by
 refine C1O (n:=n+1) Mq ED uX ?_
 match c,h,hn with
 |.re b u,_,hn=>exact absurd List.nodup_nil hn
 |.co b p ps none,⟨hb,e,h1,h2,f⟩,hn=>
  have k1:=e.k1;have k3:=e.k3;have d:DJ ps=Ls ps:=kR (by omega);have a:=(sH (L:=L) (n:=n+60) (ps:=ps) hn (by omega) h2).ls;rw[<-d,h1]at a;have st:=A3h (L:=L) (n:=n+1) hb.m (Ht b.ts) (H_ (L:=L) (n:=n+21)).o ⟨_,_,d⟩ ⟨_,_,rfl⟩ a (A0Y (L:=L) (n:=n+17) (by omega) e).ls (Se L (n+21) p.out (JN e)).o (sJ (L:=L) (n:=n+19) hb.c1 hb.c2 hb.r1 hb.r2 (by omega) hb.ts).ls;exact A5b (n:=n+1) (Ht _) (NQ ps) (.inr ⟨_,_,rfl⟩) (.inr ⟨_,_,rfl⟩) st
 |.co b p ps (some (k,vd)),⟨hb,e,h1,h2,f,g,i⟩,hn=>
  have k1:=e.k1;have k3:=e.k3;have d:DJ ps=Ls ps:=kR (by omega);have a:=(sH (L:=L) (n:=n+60) (ps:=ps) hn (by omega) h2).ls;rw[<-d,h1]at a;have st:=A3g (L:=L) (n:=n+1) hb.m (Ht b.ts) (A9C (L:=L) (n:=n+21) f).o g i ⟨_,_,d⟩ ⟨_,_,rfl⟩ a (A0Y (L:=L) (n:=n+17) (by omega) e).ls (Se L (n+21) p.out (JN e)).o (sJ (L:=L) (n:=n+19) hb.c1 hb.c2 hb.r1 hb.r2 (by omega) hb.ts).ls;exact A5b (n:=n+1) (Ht _) (NQ ps) (.inr ⟨_,_,rfl⟩) (.inr ⟨_,_,rfl⟩) st
end
end
section
variable{D r:Nat}{α:Type}
variable{L n:Nat}
def B3q(s:Ha):(sha s).length=32:=XS _ 8
def U?(c:Cd):c.id.length=32:=B3q _
def uW(c:Cd):c.id≠[]:=λh=>by have:=U? c;rw[h]at this;cases this
def LA(gs:ed)(a:AV):Prop:=a=.list gs.length (gs.flatMap Cd.cs)\/(gs=[]/\a=Aw)
section
variable{gs:ed}{a:AV}{c:Cd}{K:K2}{i:Nat}{H:Hp}
def LA.len(h:LA gs a):Bm Ay a K=K (I gs.length):=by
 rcases h with rfl|⟨rfl,rfl⟩<;>exact id rfl
def LA.ia(h:LA gs a)(b:i<gs.length):Ds Ay a (I i) K=K (.iptr gs[i].cs):=by
 rcases h with rfl|⟨rfl,rfl⟩
 ·exact XA8 (f:=Cd.cs) rfl (λ_=>ED) b
 ·simp at b
def A47:AD Ae (.iptr c.cs) H K=K (.agg c.cs):=by
 match c with
 |.re b u=>exact id rfl
 |.co b p ps none=>exact id rfl
 |.co b p ps (some (k,vd))=>exact id rfl
abbrev CJ:Is:=Ey 0 ⟨0,0,0,0,0⟩ u0 [] [] Aw [] [] Aw 0 Aw Aw u0 r0 0
abbrev C3g(c:Cd):Row:=.cells true Ad c.cs
def gE(gs:ed):List (Ha×Cd):=gs.map λc=>(c.id,c)
def Yv{b:List (Ha×α)}{x:Ha}(h:x∉b.map (·.1)):Mu b x=none:=by
 induction b with
 |nil=>rfl
 |cons e b ih=>
  simp only[Xa,Tz,not_or]at h;unfold Mu;rw[C5 (Ne.symm h.1)];exact ih h.2
def YU{b:List (Ha×α)}{x:Ha}{v:α}(h:x∉b.map (·.1)):LP b x v=b++[(x,v)]:=by
 induction b with
 |nil=>rfl
 |cons e b ih=>
  simp only[Xa,Tz,not_or]at h;unfold LP;rw[C5 (Ne.symm h.1),ih h.2];rfl
def Ww(gs:ed):(gE gs).map (·.1)=gs.map Cd.id:=by simp[gE]
end
structure GOk(gs:ed):Prop where
 ok:∀c∈gs,c.Ok
 nd:∀c∈gs,c.ps.Nodup
 ids:(gs.map Cd.id).Nodup
 len:gs.length<=8
section
variable{K:KV}{x:Af}{gs:ed}{a:AV}
abbrev DK(c:Cd):AV:=.agg c.cs
def C1V{k12:AV->KV}{w:AV}(m:GOk gs)(M:40000<L)(N:LA gs a)(Q:∀H,Aj H r=some (.map false (Df DK (gE gs)) none)->k12 w (.mp r) H=x):∀(f i:Nat)(H:Hp),i<=gs.length->gs.length-i<f->Aj H r=some (.map false (Df DK (gE (gs.take i))) none)->Wf H->
 Yq (L+20) (r! L (n+63)) K k12 f w (.mp r) a (I gs.length) (I i) H=x:=by
 intro f
 induction f with
 |zero=>intro i H _ h;omega
 |succ f ih=>
  intro i H Y X s wf;rw[xF];unfold Yr HR Hl A3 Mf HS;by_cases h:i<gs.length
  ·have hm:=PD h;have q:=B1H (L:=L) (n:=n) M (m.ok _ hm) (m.nd _ hm);have d:gs[i].id∉(gE (gs.take i)).map (·.1):=λhc=>by
    rw[Ww]at hc;have u:=m.ids;rw[<-l3a i gs,Za,l38]at u;have P:gs[i].id∈(gs.drop i).map Cd.id:=Mj.2 ⟨_,by rw[vM h];exact List.mem_cons_self,rfl⟩;exact u.2.2 _ hc _ P rfl
   rw[FV (by omega),Cr,N.ia h,A47,B3 (cs:=CJ) rfl,Ch (cs:=CJ) (vs:=gs[i].cs) (Az (by simp)) ED rfl Mq];obtain⟨A,B,g,w1,k1⟩:=Il (e:=Ad) (zs:=CJ) (vs:=gs[i].cs) wf ED;rw[<-B,Bv rfl ED.symm g,AR q (uX A)];have j:=(k1 _ _ s).1;have t:∀(F:Value->Af),LW (S gs[i].id) F=F (SV gs[i].id):=λF=>id rfl;rw[t,A46 (f:=DK) (b:=gE (gs.take i)) (λK=>Ze j),Yv d];simp only[];rw[F5,F4,B3 (cs:=CJ) rfl]
   erw[Ch (cs:=CJ) (vs:=CJ) (Az (by simp)) rfl rfl rfl]
   obtain⟨V,C,O,R,y⟩:=Il (e:=Ad) (zs:=CJ) (vs:=CJ) w1 rfl;rw[<-C];have k:=(y _ _ j).1;have p:=(y _ _ g).1;have q1:∀{K},Ap Ak .eql (S gs[i].id) (S []) K=K (Bo false):=λ{K}=>by rw[Mb,HX (uW _)]
   simp only[gT,Cb,q1,Sf];rw[Bh,Bv rfl ED.symm p,t,iJ (f:=DK) (v:=gs[i]) k,YU d,Dd (by have:=m.len;omega)];have J:gE (gs.take i)++[(gs[i].id,gs[i])]=gE (gs.take (i+1)):=by
    rw[lO h,gE,gE,Za];rfl
   rw[J];exact ih (i+1) _ (by omega) (by omega) ((B8 k).trans rfl) (Bq R)
  ·rw[FT (by omega),Bh];have:i=gs.length:=by omega
   subst this;rw[vO]at s;exact Q H s
abbrev gV(gs:ed):AV:=.imap (Df DK (gE gs))
def uU{m:ND}{u o:UD}{ca cb ra rb:Ha}{T P ins b:AV}{kd id vd:Int}{r:RD}{H:Hp}(g:Sl T)(f:Sl P)(d:Sl ins)(e:Sl b):Fx true (D+3) (.agg (Ey kd m u ca cb T ra rb P id ins b o r vd)) (.agg (Ey kd m u ca cb T ra rb P id ins b o r vd)) H false:=by
 rcases g with rfl|⟨_,_,rfl⟩<;>rcases f with rfl|⟨_,_,rfl⟩<;>rcases d with rfl|⟨_,_,rfl⟩<;>rcases e with rfl|⟨_,_,rfl⟩<;>exact λK=>by kernel_rfl
def A4p{c:Cd}{H:Hp}:Fx true (D+3) (.agg c.cs) (.agg c.cs) H false:=by
 match c with
 |.re b u=>exact uU (Ht _) (NQ _) (.inl rfl) (.inl rfl)
 |.co b p ps none=>exact uU (Ht _) (NQ _) (.inr ⟨_,_,rfl⟩) (.inr ⟨_,_,rfl⟩)
 |.co b p ps (some (k,vd))=>exact uU (Ht _) (NQ _) (.inr ⟨_,_,rfl⟩) (.inr ⟨_,_,rfl⟩)
def C2U{H:Hp}{es:List (Ha×Cd)}(h:Aj H r=some (.map false (Df DK es) none)):Fx true (D+4) (.mp r) (.imap (Df DK es)) H true:=by
 intro K;show I6 H r (λx=>oZ x λes=>QS (HQ true H (D+3)) es λ_ b=>K true (.imap b))=_;rw[AX h];show QS (HQ true H (D+3)) (Df DK es) _=_;have e:∀(es:List (Ha×Cd))(F:Bool->IH->Af),QS (HQ true H (D+3)) (Df DK es) F=F false (Df DK es):=by
  intro es
  induction es with
  |nil=>intro F;rfl
  |cons a es ih=>
   intro F;show HQ true H (D+3) (.agg a.2.cs) (λq d=>QS (HQ true H (D+3)) (Df DK es) λg f=>F (@Bool.rec (λ_=>Bool) g true q) ((SV a.1,d)::f))=_;rw[A4p,ih];rfl
 rw[e]
def B6x(e:GOk gs)(k:40000<L)(b:LA gs a)(K:KV)(j:∀g f,(∃q,Fx true depth g (.tup [gV gs,Bo true]) f q)->K g f=some (.tup [gV gs,Bo true],[])):(r! L (n+64)).call L7 [a] [] K=some (.tup [gV gs,Bo true],[]):=by
 rw[L!];unfold dH A3 Mf HS;have em:∀(H:Hp)(K:KV),LC Ae H K=K (.mp (As H)) ((As H,.map false [] none)::H):=λH K=>by
  show Ik H (λs=>K (.mp s) ((s,.map false [] (lJ Ae.d))::H))=_;rw[BW];rfl
 rw[em];simp only[BJ];have h:(AV.v (.int .i64 0))=I ((0:Nat):Int):=rfl;rw[b.len,h];refine C1V e k b (λH m=>?_) (L+20) 0 _ (by omega) (by have:=e.len;omega) (Az (by simp)) (AJ Fl);rw[b.len,Eo,HX (by have:=e.len;omega),Bh];exact j _ _ ⟨_,dR (D:=depth-1) (An (C2U (D:=depth-5) m) (An (q:=false) C7 AK))⟩
end
end
section
variable{L n:Nat}
def cE(c:Cd):Ce Ha:=⟨decide (c.kd=1),c.ps⟩
def gr(gs:ed):List (Ha×Ce Ha):=gs.map λc=>(c.id,cE c)
def B9I{gs:ed}{s:Ha}:Mu (gr gs) s=(Mu (gE gs) s).map cE:=by
 unfold gr gE
 induction gs with
 |nil=>rfl
 |cons c gs ih=>
  simp only[Xa];unfold Mu;by_cases h:c.id=s
  ·simp[h]
  ·simp[h,ih]
def gU{q:Bool}{y:Bool->Af}:gdV q (.v undef) y=y false:=by cases q<;>exact id rfl
section
variable{gs:ed}{y m x z:Nat}{b:List (Ha×Bool)}{H H':Hp}{K:KV}
def B1M{c:Cd}{r:Nat}(h:Aj H r=some (C3g c)){K:K2}:AD Ac (.ptr r 31 0) H K=K (DJ c.ps):=by
 match c with
 |.re b u=>exact AQ (p:=31) rfl h (show 31<68 by decide)
 |.co b p ps none=>exact AQ (p:=31) rfl h (show 31<68 by decide)
 |.co b p ps (some (k,vd))=>exact AQ (p:=31) rfl h (show 31<68 by decide)
end
end
end Go.Abs
end
noncomputable section
end
noncomputable section
namespace Go.Abs
open Go.RowKit Go.Proofs
set_option maxRecDepth 100000
section
variable{L n:Nat}
def SA(l:List Ha)(a:AV):Prop:=a=Ls l\/(l=[]/\a=Aw)
def Lt(l:List Ha):SA l (DJ l):=by cases l with|nil=>exact .inr ⟨rfl,rfl⟩|cons p l=>exact .inl rfl
section
variable{l:List Ha}{a:AV}{i:Nat}{K:K2}{s:Ha}
def SA.len(h:SA l a):Bm Ac a K=K (I l.length):=by
 rcases h with rfl|⟨rfl,rfl⟩
 ·exact MN
 ·exact id rfl
def SA.ia(h:SA l a)(b:i<l.length):Ds Ac a (I i) K=K (.iptr [S l[i]]):=by
 rcases h with rfl|⟨rfl,rfl⟩
 ·exact XA7 b
 ·simp at b
def SA.fx(h:SA l a)(H:Hp):Fx true depth a a H false:=by
 rcases h with rfl|⟨rfl,rfl⟩<;>exact λK=>by kernel_rfl
def lR(s:Ha):List Ha->Nat->AV
 |[],_=>.tup [Bo false,I (-1)]
 |a::l,i=>if a=s then .tup [Bo true,I i] else lR s l (i+1)
def gZ:∀(l:List Ha)(i:Nat),s∉l->lR s l i=.tup [Bo false,I (-1)]:=by
 intro l
 induction l with
 |nil=>intro i _;rfl
 |cons a l ih=>
  intro i h;simp only[Tz,not_or]at h;unfold lR;rw[C5 (Ne.symm h.1)];exact ih _ h.2
def gY:∀(l:List Ha)(i:Nat),s∈l->∃k,∃h:k<l.length,l[k]=s/\(∀m(hm:m<k),l[m]≠s)/\lR s l i=.tup [Bo true,I ((i+k:Nat):Int)]:=by
 intro l
 induction l with
 |nil=>intro i h;cases h
 |cons a l ih=>
  intro i h;unfold lR;by_cases e:a=s
  ·exact⟨0,by simp,e,λm hm=>by omega,by rw[Dl e];rfl⟩
  ·obtain⟨k,c,h1,h2,b⟩:=ih (i+1) ((Tz.1 h).resolve_left (Ne.symm e));refine⟨k+1,by simp;omega,by simpa using h1,λm hm=>?_,by rw[C5 e,b];congr 4;omega⟩;cases m with
   |zero=>exact e
   |succ m=>exact h2 m (by omega)
end
section
variable{K:KV}{x:Af}{l:List Ha}{a:AV}{s:Ha}{gs:ed}
def B9v{k3:Ru}{H:Hp}(c:SA l a)(hb:l.length<1000){v:AV}(hv:K v H=x)(d:v=.tup [Bo false,I (-1)]->k3 H=x):∀(f i:Nat),i<=l.length->l.length-i<f->lR s (l.drop i) i=v->
 VH (L+20) (r! L n) K k3 f a (S s) (I i) H=x:=by
 intro f
 induction f with
 |zero=>intro i _ h;omega
 |succ f ih=>
  intro i j g b;rw[sC];unfold VI HR A3 Mf;rw[c.len];by_cases h:i<l.length
  ·rw[vM h]at b;unfold lR at b;rw[FV (by omega),Cr,c.ia h,LD,Mb];by_cases e:l[i]=s
   ·rw[Dl e]at b;rw[Hj e,Cr,b];exact hv
   ·rw[C5 e]at b;rw[HX e,Bh,Dd (by omega)];exact ih (i+1) (by omega) (by omega) b
  ·rw[FT (by omega),Bh];have:i=l.length:=by omega
   subst this;rw[List.drop_length]at b;exact d b.symm
def B5B(f:SA l a)(hb:l.length<1000)(g:2000<L):CS (r! L (n+1)) T3 [a,S s] (lR s l 0):=by
 intro K d;have fin:∀H,K (lR s l 0) H=some (lR s l 0,[]):=λH=>d _ _ (λb=>⟨false,by
  by_cases h:s∈l
  ·obtain⟨k,_,_,_,e⟩:=gY l 0 h;rw[e];exact λK=>by kernel_rfl
  ·rw[gZ l 0 h];exact λK=>by kernel_rfl⟩)
 rw[wO];unfold XY A3 HS;simp only[BJ];have c:(AV.v (.int .i64 0))=I ((0:Nat):Int):=rfl;rw[c];refine B9v f hb (fin []) (λe=>?_) (L+20) 0 (by omega) (by omega) (by rw[pE]);have:=fin [];rw[e]at this;rw[e];exact this
end
end
end Go.Abs
end
