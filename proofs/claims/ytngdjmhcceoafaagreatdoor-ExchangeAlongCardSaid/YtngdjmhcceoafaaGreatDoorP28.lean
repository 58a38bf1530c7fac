import Derived.Test.YtngdjmhcceoafaaGreatDoorP17
import Derived.Test.YtngdjmhcceoafaaGreatDoorP18
import Derived.Test.YtngdjmhcceoafaaGreatDoorP19
import Derived.Test.YtngdjmhcceoafaaGreatDoorP20
import Derived.Test.YtngdjmhcceoafaaGreatDoorP21
import Derived.Test.YtngdjmhcceoafaaGreatDoorP22
import Derived.Test.YtngdjmhcceoafaaGreatDoorP23
import Derived.Test.YtngdjmhcceoafaaGreatDoorP24
import Derived.Test.YtngdjmhcceoafaaGreatDoorP25
import Derived.Test.YtngdjmhcceoafaaGreatDoorP26
import Derived.Test.YtngdjmhcceoafaaGreatDoorP27
set_option linter.all false
set_option maxHeartbeats 100000000
noncomputable section
namespace Go.Abs
open Go.RowKit Go.Proofs
set_option maxRecDepth 100000
section
variable {a b:Nat}
variable {L n:Nat}
def RV.ls {R:Rt} {f:Nat} {args':List AV} {v:AV} (h:RV R f args' v):LS R f args' v:= λq args H c K=>by rw[<-zO];exact qB h c
def vD (op l r:Nat):Nd:=⟨op,[],[],u0,0,l,r⟩
def poN (l e:Nat):Nd:=⟨7,[],[],u0,lM e,l,0⟩
def A2J:Option Nat->AV
 |some k=> .tup [.agg (CJ (uu k)),I 0]
 |none=> .tup [.agg FW,I 90]
section
variable {id:Int} {o:UD} {xs:List Nd} {ks:List Nat} {l r e i k:Nat} {q:Option Nat} {I1:AV}
def tI (h1:1<=ks.length) (d:ks.length<=3):(∃a,ks=[a])\/(∃a b,ks=[a,b])\/∃a b c,ks=[a,b,c]:=by
 match ks,h1,d with
 |[a],_,_=>exact .inl ⟨a,rfl⟩
 |[a,b],_,_=>exact .inr (.inl ⟨a,b,rfl⟩)
 |[a,b,c],_,_=>exact .inr (.inr ⟨a,b,c,rfl⟩)
def Wg (h:l<[a].length):l=0:=by simpa using h
def We (h:l<[a,b].length):l=0\/l=1:=by simp at h;omega
def Wd {a b c:Nat} (h:l<[a,b,c].length):l=0\/l=1\/l=2:=by simp at h;omega
def lt5 (h:e<5):e=0\/e=1\/e=2\/e=3\/e=4:=by omega
def A9f (h1:1<=ks.length) (f:ks.length<=3) (d:l<ks.length) (hr:r<ks.length):RV (rt (L+20) (n+2)) Fv [.agg (BI id (BO ks) (Cs xs) o),.agg (vD 3 l r).cs,I ks.length] (.tup [Bo true,Bo true]):=by
 rcases tI h1 f with⟨a,rfl⟩|⟨a,b,rfl⟩|⟨a,b,c,rfl⟩
 ·obtain rfl:=Wg d;obtain rfl:=Wg hr;exact λb=>by kernel_rfl
 ·rcases We d with rfl|rfl<;>rcases We hr with rfl|rfl<;>(exact λb=>by kernel_rfl)
 ·rcases Wd d with rfl|rfl|rfl<;>rcases Wd hr with rfl|rfl|rfl<;>(exact λb=>by kernel_rfl)
attribute [local irreducible] mS rt in
def A99 (h1:1<=ks.length) (j:ks.length<=3) (g:l<ks.length) (hr:r<ks.length) (f:PO (rt (L+20) (n+41)) Tp [.agg (uu (ks.getD l 0)).cs,.agg (uu (ks.getD r 0)).cs] (JU q)):CS (rt (L+20) (n+42)) CC [.agg (BI id (BO ks) (Cs xs) o),.agg (vD 3 l r).cs,I ks.length,Rx ks] (A2J q):=by
 intro K h;have d:=(A9f (L:=L) (n:=n+39) (id:=id) (o:=o) (xs:=xs) h1 j g hr).ls;rewrite [HB];unfold Hi q4N;rewrite [zO];generalize rt (L+20) (n+41)=R at*
 revert f d
 rcases tI h1 j with⟨a,rfl⟩|⟨a,b,rfl⟩|⟨a,b,c,rfl⟩
 ·obtain rfl:=Wg g;obtain rfl:=Wg hr;intro f d;simp only[Vk,Vj] at f;(conv=>lhs;whnf);rewrite [d false _ _ ?hq];(case hq=>exact λK=>by kernel_rfl);(conv=>lhs;whnf);rewrite [f];cases q<;>(conv=>lhs;whnf)<;>exact h _ _ (λb=>⟨false,λK=>by kernel_rfl⟩)
 ·rcases We g with rfl|rfl<;>rcases We hr with rfl|rfl<;>(intro f d;simp only[Vk,Vj] at f;(conv=>lhs;whnf);rewrite [d false _ _ ?hq];(case hq=>exact λK=>by kernel_rfl);(conv=>lhs;whnf);rewrite [f];cases q<;>(conv=>lhs;whnf)<;>exact h _ _ (λb=>⟨false,λK=>by kernel_rfl⟩))
 ·rcases Wd g with rfl|rfl|rfl<;>rcases Wd hr with rfl|rfl|rfl<;>(intro f d;simp only[Vk,Vj] at f;(conv=>lhs;whnf);rewrite [d false _ _ ?hq];(case hq=>exact λK=>by kernel_rfl);(conv=>lhs;whnf);rewrite [f];cases q<;>(conv=>lhs;whnf)<;>exact h _ _ (λb=>⟨false,λK=>by kernel_rfl⟩))
def A9j (h1:1<=ks.length) (f:ks.length<=3) (d:l<ks.length) (hr:r<ks.length):RV (rt (L+20) (n+2)) Fv [.agg (BI id (BO ks) (Cs xs) o),.agg (vD 4 l r).cs,I ks.length] (.tup [Bo true,Bo true]):=by
 rcases tI h1 f with⟨a,rfl⟩|⟨a,b,rfl⟩|⟨a,b,c,rfl⟩
 ·obtain rfl:=Wg d;obtain rfl:=Wg hr;exact λb=>by kernel_rfl
 ·rcases We d with rfl|rfl<;>rcases We hr with rfl|rfl<;>(exact λb=>by kernel_rfl)
 ·rcases Wd d with rfl|rfl|rfl<;>rcases Wd hr with rfl|rfl|rfl<;>(exact λb=>by kernel_rfl)
attribute [local irreducible] mS rt in
def A9d (h1:1<=ks.length) (j:ks.length<=3) (g:l<ks.length) (hr:r<ks.length) (f:PO (rt (L+20) (n+41)) Kn [.agg (uu (ks.getD l 0)).cs,.agg (uu (ks.getD r 0)).cs] (JU q)):CS (rt (L+20) (n+42)) CC [.agg (BI id (BO ks) (Cs xs) o),.agg (vD 4 l r).cs,I ks.length,Rx ks] (A2J q):=by
 intro K h;have d:=(A9j (L:=L) (n:=n+39) (id:=id) (o:=o) (xs:=xs) h1 j g hr).ls;rewrite [HB];unfold Hi q4N;rewrite [zO];generalize rt (L+20) (n+41)=R at*
 revert f d
 rcases tI h1 j with⟨a,rfl⟩|⟨a,b,rfl⟩|⟨a,b,c,rfl⟩
 ·obtain rfl:=Wg g;obtain rfl:=Wg hr;intro f d;simp only[Vk,Vj] at f;(conv=>lhs;whnf);rewrite [d false _ _ ?hq];(case hq=>exact λK=>by kernel_rfl);(conv=>lhs;whnf);rewrite [f];cases q<;>(conv=>lhs;whnf)<;>exact h _ _ (λb=>⟨false,λK=>by kernel_rfl⟩)
 ·rcases We g with rfl|rfl<;>rcases We hr with rfl|rfl<;>(intro f d;simp only[Vk,Vj] at f;(conv=>lhs;whnf);rewrite [d false _ _ ?hq];(case hq=>exact λK=>by kernel_rfl);(conv=>lhs;whnf);rewrite [f];cases q<;>(conv=>lhs;whnf)<;>exact h _ _ (λb=>⟨false,λK=>by kernel_rfl⟩))
 ·rcases Wd g with rfl|rfl|rfl<;>rcases Wd hr with rfl|rfl|rfl<;>(intro f d;simp only[Vk,Vj] at f;(conv=>lhs;whnf);rewrite [d false _ _ ?hq];(case hq=>exact λK=>by kernel_rfl);(conv=>lhs;whnf);rewrite [f];cases q<;>(conv=>lhs;whnf)<;>exact h _ _ (λb=>⟨false,λK=>by kernel_rfl⟩))
def A9h (h1:1<=ks.length) (f:ks.length<=3) (d:l<ks.length) (hr:r<ks.length):RV (rt (L+20) (n+2)) Fv [.agg (BI id (BO ks) (Cs xs) o),.agg (vD 5 l r).cs,I ks.length] (.tup [Bo true,Bo true]):=by
 rcases tI h1 f with⟨a,rfl⟩|⟨a,b,rfl⟩|⟨a,b,c,rfl⟩
 ·obtain rfl:=Wg d;obtain rfl:=Wg hr;exact λb=>by kernel_rfl
 ·rcases We d with rfl|rfl<;>rcases We hr with rfl|rfl<;>(exact λb=>by kernel_rfl)
 ·rcases Wd d with rfl|rfl|rfl<;>rcases Wd hr with rfl|rfl|rfl<;>(exact λb=>by kernel_rfl)
attribute [local irreducible] mS rt in
def A9b (h1:1<=ks.length) (j:ks.length<=3) (g:l<ks.length) (hr:r<ks.length) (f:PO (rt (L+20) (n+41)) Tq [.agg (uu (ks.getD l 0)).cs,.agg (uu (ks.getD r 0)).cs] (JU q)):CS (rt (L+20) (n+42)) CC [.agg (BI id (BO ks) (Cs xs) o),.agg (vD 5 l r).cs,I ks.length,Rx ks] (A2J q):=by
 intro K h;have d:=(A9h (L:=L) (n:=n+39) (id:=id) (o:=o) (xs:=xs) h1 j g hr).ls;rewrite [HB];unfold Hi q4N;rewrite [zO];generalize rt (L+20) (n+41)=R at*
 revert f d
 rcases tI h1 j with⟨a,rfl⟩|⟨a,b,rfl⟩|⟨a,b,c,rfl⟩
 ·obtain rfl:=Wg g;obtain rfl:=Wg hr;intro f d;simp only[Vk,Vj] at f;(conv=>lhs;whnf);rewrite [d false _ _ ?hq];(case hq=>exact λK=>by kernel_rfl);(conv=>lhs;whnf);rewrite [f];cases q<;>(conv=>lhs;whnf)<;>exact h _ _ (λb=>⟨false,λK=>by kernel_rfl⟩)
 ·rcases We g with rfl|rfl<;>rcases We hr with rfl|rfl<;>(intro f d;simp only[Vk,Vj] at f;(conv=>lhs;whnf);rewrite [d false _ _ ?hq];(case hq=>exact λK=>by kernel_rfl);(conv=>lhs;whnf);rewrite [f];cases q<;>(conv=>lhs;whnf)<;>exact h _ _ (λb=>⟨false,λK=>by kernel_rfl⟩))
 ·rcases Wd g with rfl|rfl|rfl<;>rcases Wd hr with rfl|rfl|rfl<;>(intro f d;simp only[Vk,Vj] at f;(conv=>lhs;whnf);rewrite [d false _ _ ?hq];(case hq=>exact λK=>by kernel_rfl);(conv=>lhs;whnf);rewrite [f];cases q<;>(conv=>lhs;whnf)<;>exact h _ _ (λb=>⟨false,λK=>by kernel_rfl⟩))
def A9i (h1:1<=ks.length) (f:ks.length<=3) (d:l<ks.length) (hr:r<ks.length):RV (rt (L+20) (n+2)) Fv [.agg (BI id (BO ks) (Cs xs) o),.agg (vD 6 l r).cs,I ks.length] (.tup [Bo true,Bo true]):=by
 rcases tI h1 f with⟨a,rfl⟩|⟨a,b,rfl⟩|⟨a,b,c,rfl⟩
 ·obtain rfl:=Wg d;obtain rfl:=Wg hr;exact λb=>by kernel_rfl
 ·rcases We d with rfl|rfl<;>rcases We hr with rfl|rfl<;>(exact λb=>by kernel_rfl)
 ·rcases Wd d with rfl|rfl|rfl<;>rcases Wd hr with rfl|rfl|rfl<;>(exact λb=>by kernel_rfl)
attribute [local irreducible] mS rt in
def A9c (h1:1<=ks.length) (j:ks.length<=3) (g:l<ks.length) (hr:r<ks.length) (f:PO (rt (L+20) (n+41)) Tr [.agg (uu (ks.getD l 0)).cs,.agg (uu (ks.getD r 0)).cs] (JU q)):CS (rt (L+20) (n+42)) CC [.agg (BI id (BO ks) (Cs xs) o),.agg (vD 6 l r).cs,I ks.length,Rx ks] (A2J q):=by
 intro K h;have d:=(A9i (L:=L) (n:=n+39) (id:=id) (o:=o) (xs:=xs) h1 j g hr).ls;rewrite [HB];unfold Hi q4N;rewrite [zO];generalize rt (L+20) (n+41)=R at*
 revert f d
 rcases tI h1 j with⟨a,rfl⟩|⟨a,b,rfl⟩|⟨a,b,c,rfl⟩
 ·obtain rfl:=Wg g;obtain rfl:=Wg hr;intro f d;simp only[Vk,Vj] at f;(conv=>lhs;whnf);rewrite [d false _ _ ?hq];(case hq=>exact λK=>by kernel_rfl);(conv=>lhs;whnf);rewrite [f];cases q<;>(conv=>lhs;whnf)<;>exact h _ _ (λb=>⟨false,λK=>by kernel_rfl⟩)
 ·rcases We g with rfl|rfl<;>rcases We hr with rfl|rfl<;>(intro f d;simp only[Vk,Vj] at f;(conv=>lhs;whnf);rewrite [d false _ _ ?hq];(case hq=>exact λK=>by kernel_rfl);(conv=>lhs;whnf);rewrite [f];cases q<;>(conv=>lhs;whnf)<;>exact h _ _ (λb=>⟨false,λK=>by kernel_rfl⟩))
 ·rcases Wd g with rfl|rfl|rfl<;>rcases Wd hr with rfl|rfl|rfl<;>(intro f d;simp only[Vk,Vj] at f;(conv=>lhs;whnf);rewrite [d false _ _ ?hq];(case hq=>exact λK=>by kernel_rfl);(conv=>lhs;whnf);rewrite [f];cases q<;>(conv=>lhs;whnf)<;>exact h _ _ (λb=>⟨false,λK=>by kernel_rfl⟩))
def A9g (h1:1<=ks.length) (f:ks.length<=3) (d:l<ks.length) (he:e<5):RV (rt (L+20) (n+2)) Fv [.agg (BI id (BO ks) (Cs xs) o),.agg (poN l e).cs,I ks.length] (.tup [Bo true,Bo true]):=by
 rcases tI h1 f with⟨a,rfl⟩|⟨a,b,rfl⟩|⟨a,b,c,rfl⟩
 ·obtain rfl:=Wg d;rcases lt5 he with rfl|rfl|rfl|rfl|rfl<;>(exact λb=>by kernel_rfl)
 ·rcases We d with rfl|rfl<;>rcases lt5 he with rfl|rfl|rfl|rfl|rfl<;>(exact λb=>by kernel_rfl)
 ·rcases Wd d with rfl|rfl|rfl<;>rcases lt5 he with rfl|rfl|rfl|rfl|rfl<;>(exact λb=>by kernel_rfl)
attribute [local irreducible] mS rt in
def A9a (h1:1<=ks.length) (j:ks.length<=3) (g:l<ks.length) (he:e<5) (f:PO (rt (L+20) (n+41)) Ly [.agg (uu (ks.getD l 0)).cs,.agg [I (lM e),I 1]] (JU q)):CS (rt (L+20) (n+42)) CC [.agg (BI id (BO ks) (Cs xs) o),.agg (poN l e).cs,I ks.length,Rx ks] (A2J q):=by
 intro K h;have d:=(A9g (L:=L) (n:=n+39) (id:=id) (o:=o) (xs:=xs) h1 j g he).ls;rewrite [HB];unfold Hi q4N;rewrite [zO];generalize rt (L+20) (n+41)=R at*
 revert f d
 rcases tI h1 j with⟨a,rfl⟩|⟨a,b,rfl⟩|⟨a,b,c,rfl⟩
 ·obtain rfl:=Wg g;rcases lt5 he with rfl|rfl|rfl|rfl|rfl<;>(intro f d;simp only[Vk,Vj] at f;(conv=>lhs;whnf);rewrite [d false _ _ ?hq];(case hq=>exact λK=>by kernel_rfl);(conv=>lhs;whnf);refine L' (f _ _) ?_;cases q<;>(conv=>lhs;whnf)<;>exact h _ _ (λb=>⟨false,λK=>by kernel_rfl⟩))
 ·rcases We g with rfl|rfl<;>rcases lt5 he with rfl|rfl|rfl|rfl|rfl<;>(intro f d;simp only[Vk,Vj] at f;(conv=>lhs;whnf);rewrite [d false _ _ ?hq];(case hq=>exact λK=>by kernel_rfl);(conv=>lhs;whnf);refine L' (f _ _) ?_;cases q<;>(conv=>lhs;whnf)<;>exact h _ _ (λb=>⟨false,λK=>by kernel_rfl⟩))
 ·rcases Wd g with rfl|rfl|rfl<;>rcases lt5 he with rfl|rfl|rfl|rfl|rfl<;>(intro f d;simp only[Vk,Vj] at f;(conv=>lhs;whnf);rewrite [d false _ _ ?hq];(case hq=>exact λK=>by kernel_rfl);(conv=>lhs;whnf);refine L' (f _ _) ?_;cases q<;>(conv=>lhs;whnf)<;>exact h _ _ (λb=>⟨false,λK=>by kernel_rfl⟩))
def A66 (h1:1<=ks.length) (f:ks.length<=3) (d:l<ks.length) (hr:r<ks.length):RV (rt (L+20) (n+2)) BQ [Xi I1 (Rx ks),dU (GF.getD 3 []) mT Fa,.agg (vD 3 l r).cs] (Bo true):=by
 rcases tI h1 f with⟨a,rfl⟩|⟨a,b,rfl⟩|⟨a,b,c,rfl⟩
 ·obtain rfl:=Wg d;obtain rfl:=Wg hr;exact λb=>by kernel_rfl
 ·rcases We d with rfl|rfl<;>rcases We hr with rfl|rfl<;>(exact λb=>by kernel_rfl)
 ·rcases Wd d with rfl|rfl|rfl<;>rcases Wd hr with rfl|rfl|rfl<;>(exact λb=>by kernel_rfl)
attribute [local irreducible] mS rt in
def A86 (h1:1<=ks.length) (h:ks.length<=3) (g:l<ks.length) (hr:r<ks.length) (d:PO (rt (L+20) (n+40)) Ws [.agg (uu (ks.getD l 0)).cs,.agg (uu (ks.getD r 0)).cs] (JU (some k))):CS (rt (L+20) (n+41)) Fa [Xi I1 (Rx ks),.agg (vD 3 l r).cs] (.tup [.agg (CJ (uu k)),I 0]):=by
 intro K f;rewrite [QS];unfold Jf Lo;rewrite [zO];generalize rt (L+20) (n+40)=R at*
 revert d
 rcases tI h1 h with⟨a,rfl⟩|⟨a,b,rfl⟩|⟨a,b,c,rfl⟩
 ·obtain rfl:=Wg g;obtain rfl:=Wg hr;intro d;simp only[Vk,Vj] at d;(conv=>lhs;whnf);rewrite [d];(conv=>lhs;whnf);exact f _ _ (λb=>⟨false,λK=>by kernel_rfl⟩)
 ·rcases We g with rfl|rfl<;>rcases We hr with rfl|rfl<;>(intro d;simp only[Vk,Vj] at d;(conv=>lhs;whnf);rewrite [d];(conv=>lhs;whnf);exact f _ _ (λb=>⟨false,λK=>by kernel_rfl⟩))
 ·rcases Wd g with rfl|rfl|rfl<;>rcases Wd hr with rfl|rfl|rfl<;>(intro d;simp only[Vk,Vj] at d;(conv=>lhs;whnf);rewrite [d];(conv=>lhs;whnf);exact f _ _ (λb=>⟨false,λK=>by kernel_rfl⟩))
def A6a (h1:1<=ks.length) (f:ks.length<=3) (d:l<ks.length) (hr:r<ks.length):RV (rt (L+20) (n+2)) BQ [Xi I1 (Rx ks),dU (GF.getD 4 []) mT D0,.agg (vD 4 l r).cs] (Bo true):=by
 rcases tI h1 f with⟨a,rfl⟩|⟨a,b,rfl⟩|⟨a,b,c,rfl⟩
 ·obtain rfl:=Wg d;obtain rfl:=Wg hr;exact λb=>by kernel_rfl
 ·rcases We d with rfl|rfl<;>rcases We hr with rfl|rfl<;>(exact λb=>by kernel_rfl)
 ·rcases Wd d with rfl|rfl|rfl<;>rcases Wd hr with rfl|rfl|rfl<;>(exact λb=>by kernel_rfl)
attribute [local irreducible] mS rt in
def A8a (h1:1<=ks.length) (h:ks.length<=3) (g:l<ks.length) (hr:r<ks.length) (d:PO (rt (L+20) (n+40)) KX [.agg (uu (ks.getD l 0)).cs,.agg (uu (ks.getD r 0)).cs] (JU (some k))):CS (rt (L+20) (n+41)) D0 [Xi I1 (Rx ks),.agg (vD 4 l r).cs] (.tup [.agg (CJ (uu k)),I 0]):=by
 intro K f;rewrite [MV];unfold Ge Lo;rewrite [zO];generalize rt (L+20) (n+40)=R at*
 revert d
 rcases tI h1 h with⟨a,rfl⟩|⟨a,b,rfl⟩|⟨a,b,c,rfl⟩
 ·obtain rfl:=Wg g;obtain rfl:=Wg hr;intro d;simp only[Vk,Vj] at d;(conv=>lhs;whnf);rewrite [d];(conv=>lhs;whnf);exact f _ _ (λb=>⟨false,λK=>by kernel_rfl⟩)
 ·rcases We g with rfl|rfl<;>rcases We hr with rfl|rfl<;>(intro d;simp only[Vk,Vj] at d;(conv=>lhs;whnf);rewrite [d];(conv=>lhs;whnf);exact f _ _ (λb=>⟨false,λK=>by kernel_rfl⟩))
 ·rcases Wd g with rfl|rfl|rfl<;>rcases Wd hr with rfl|rfl|rfl<;>(intro d;simp only[Vk,Vj] at d;(conv=>lhs;whnf);rewrite [d];(conv=>lhs;whnf);exact f _ _ (λb=>⟨false,λK=>by kernel_rfl⟩))
def A68 (h1:1<=ks.length) (f:ks.length<=3) (d:l<ks.length) (hr:r<ks.length):RV (rt (L+20) (n+2)) BQ [Xi I1 (Rx ks),dU (GF.getD 5 []) mT DS,.agg (vD 5 l r).cs] (Bo true):=by
 rcases tI h1 f with⟨a,rfl⟩|⟨a,b,rfl⟩|⟨a,b,c,rfl⟩
 ·obtain rfl:=Wg d;obtain rfl:=Wg hr;exact λb=>by kernel_rfl
 ·rcases We d with rfl|rfl<;>rcases We hr with rfl|rfl<;>(exact λb=>by kernel_rfl)
 ·rcases Wd d with rfl|rfl|rfl<;>rcases Wd hr with rfl|rfl|rfl<;>(exact λb=>by kernel_rfl)
attribute [local irreducible] mS rt in
def A88 (h1:1<=ks.length) (h:ks.length<=3) (g:l<ks.length) (hr:r<ks.length) (d:PO (rt (L+20) (n+40)) Wt [.agg (uu (ks.getD l 0)).cs,.agg (uu (ks.getD r 0)).cs] (JU (some k))):CS (rt (L+20) (n+41)) DS [Xi I1 (Rx ks),.agg (vD 5 l r).cs] (.tup [.agg (CJ (uu k)),I 0]):=by
 intro K f;rewrite [OM];unfold HD Lo;rewrite [zO];generalize rt (L+20) (n+40)=R at*
 revert d
 rcases tI h1 h with⟨a,rfl⟩|⟨a,b,rfl⟩|⟨a,b,c,rfl⟩
 ·obtain rfl:=Wg g;obtain rfl:=Wg hr;intro d;simp only[Vk,Vj] at d;(conv=>lhs;whnf);rewrite [d];(conv=>lhs;whnf);exact f _ _ (λb=>⟨false,λK=>by kernel_rfl⟩)
 ·rcases We g with rfl|rfl<;>rcases We hr with rfl|rfl<;>(intro d;simp only[Vk,Vj] at d;(conv=>lhs;whnf);rewrite [d];(conv=>lhs;whnf);exact f _ _ (λb=>⟨false,λK=>by kernel_rfl⟩))
 ·rcases Wd g with rfl|rfl|rfl<;>rcases Wd hr with rfl|rfl|rfl<;>(intro d;simp only[Vk,Vj] at d;(conv=>lhs;whnf);rewrite [d];(conv=>lhs;whnf);exact f _ _ (λb=>⟨false,λK=>by kernel_rfl⟩))
def A69 (h1:1<=ks.length) (f:ks.length<=3) (d:l<ks.length) (hr:r<ks.length):RV (rt (L+20) (n+2)) BQ [Xi I1 (Rx ks),dU (GF.getD 6 []) mT DH,.agg (vD 6 l r).cs] (Bo true):=by
 rcases tI h1 f with⟨a,rfl⟩|⟨a,b,rfl⟩|⟨a,b,c,rfl⟩
 ·obtain rfl:=Wg d;obtain rfl:=Wg hr;exact λb=>by kernel_rfl
 ·rcases We d with rfl|rfl<;>rcases We hr with rfl|rfl<;>(exact λb=>by kernel_rfl)
 ·rcases Wd d with rfl|rfl|rfl<;>rcases Wd hr with rfl|rfl|rfl<;>(exact λb=>by kernel_rfl)
attribute [local irreducible] mS rt in
def A89 (h1:1<=ks.length) (h:ks.length<=3) (g:l<ks.length) (hr:r<ks.length) (d:PO (rt (L+20) (n+40)) Wu [.agg (uu (ks.getD l 0)).cs,.agg (uu (ks.getD r 0)).cs] (JU (some k))):CS (rt (L+20) (n+41)) DH [Xi I1 (Rx ks),.agg (vD 6 l r).cs] (.tup [.agg (CJ (uu k)),I 0]):=by
 intro K f;rewrite [NV];unfold GP Lo;rewrite [zO];generalize rt (L+20) (n+40)=R at*
 revert d
 rcases tI h1 h with⟨a,rfl⟩|⟨a,b,rfl⟩|⟨a,b,c,rfl⟩
 ·obtain rfl:=Wg g;obtain rfl:=Wg hr;intro d;simp only[Vk,Vj] at d;(conv=>lhs;whnf);rewrite [d];(conv=>lhs;whnf);exact f _ _ (λb=>⟨false,λK=>by kernel_rfl⟩)
 ·rcases We g with rfl|rfl<;>rcases We hr with rfl|rfl<;>(intro d;simp only[Vk,Vj] at d;(conv=>lhs;whnf);rewrite [d];(conv=>lhs;whnf);exact f _ _ (λb=>⟨false,λK=>by kernel_rfl⟩))
 ·rcases Wd g with rfl|rfl|rfl<;>rcases Wd hr with rfl|rfl|rfl<;>(intro d;simp only[Vk,Vj] at d;(conv=>lhs;whnf);rewrite [d];(conv=>lhs;whnf);exact f _ _ (λb=>⟨false,λK=>by kernel_rfl⟩))
def A67 (h1:1<=ks.length) (f:ks.length<=3) (d:l<ks.length) (he:e<5):RV (rt (L+20) (n+2)) BQ [Xi I1 (Rx ks),dU (GF.getD 7 []) B8L E4,.agg (poN l e).cs] (Bo true):=by
 rcases tI h1 f with⟨a,rfl⟩|⟨a,b,rfl⟩|⟨a,b,c,rfl⟩
 ·obtain rfl:=Wg d;rcases lt5 he with rfl|rfl|rfl|rfl|rfl<;>(exact λb=>by kernel_rfl)
 ·rcases We d with rfl|rfl<;>rcases lt5 he with rfl|rfl|rfl|rfl|rfl<;>(exact λb=>by kernel_rfl)
 ·rcases Wd d with rfl|rfl|rfl<;>rcases lt5 he with rfl|rfl|rfl|rfl|rfl<;>(exact λb=>by kernel_rfl)
attribute [local irreducible] mS rt in
def A87 (h1:1<=ks.length) (h:ks.length<=3) (g:l<ks.length) (he:e<5) (d:PO (rt (L+20) (n+40)) SE [.agg (uu (ks.getD l 0)).cs,.agg [I (lM e),I 1]] (JU (some k))):CS (rt (L+20) (n+41)) E4 [Xi I1 (Rx ks),.agg (poN l e).cs] (.tup [.agg (CJ (uu k)),I 0]):=by
 intro K f;rewrite [Qa];unfold Iz Eh WY dD OB GT A0 LW;rewrite [zO];generalize rt (L+20) (n+40)=R at*
 revert d
 rcases tI h1 h with⟨a,rfl⟩|⟨a,b,rfl⟩|⟨a,b,c,rfl⟩
 ·obtain rfl:=Wg g;rcases lt5 he with rfl|rfl|rfl|rfl|rfl<;>(intro d;simp only[Vk,Vj] at d;(conv=>lhs;whnf);dsimp only[poN];rewrite [d];(conv=>lhs;whnf);exact f _ _ (λb=>⟨false,λK=>by kernel_rfl⟩))
 ·rcases We g with rfl|rfl<;>rcases lt5 he with rfl|rfl|rfl|rfl|rfl<;>(intro d;simp only[Vk,Vj] at d;(conv=>lhs;whnf);dsimp only[poN];rewrite [d];(conv=>lhs;whnf);exact f _ _ (λb=>⟨false,λK=>by kernel_rfl⟩))
 ·rcases Wd g with rfl|rfl|rfl<;>rcases lt5 he with rfl|rfl|rfl|rfl|rfl<;>(intro d;simp only[Vk,Vj] at d;(conv=>lhs;whnf);dsimp only[poN];rewrite [d];(conv=>lhs;whnf);exact f _ _ (λb=>⟨false,λK=>by kernel_rfl⟩))
end
end
section
variable (L n:Nat)
def A0h:((List.range 11).all λk=>(λi=>JI (Ba (Dq (r! L (n+40)) Em [.agg (dX i)]) (Bo true))) (k+0))=true:=by kernel_rfl
def A0g:((List.range 11).all λk=>(λi=>JI (Ba (Dq (r! L (n+40)) Em [.agg (dX i)]) (Bo true))) (k+11))=true:=by kernel_rfl
def A0f:((List.range 11).all λk=>(λi=>JI (Ba (Dq (r! L (n+40)) Em [.agg (dX i)]) (Bo true))) (k+22))=true:=by kernel_rfl
def A6b (i:Nat) (h:i<33):PS (r! L (n+40)) Em [.agg (dX i)] (Bo true):=by
 refine BJ (λH=>by first|exact λK=>by kernel_rfl) ?_;by_cases a:i<11
 ·have:=GH.1 (A0h L n) (i-0) (K8.2 (by omega));have e:i-0+0=i:=by omega
  simp only[e] at this;exact this
 by_cases h1:i<22
 ·have:=GH.1 (A0g L n) (i-11) (K8.2 (by omega));have e:i-11+11=i:=by omega
  simp only[e] at this;exact this
 by_cases h2:i<33
 ·have:=GH.1 (A0f L n) (i-22) (K8.2 (by omega));have e:i-22+22=i:=by omega
  simp only[e] at this;exact this
 ·omega
def A0k:((List.range 11).all λk=>(λi=>JI (Ba (Dq (r! L (n+40)) II [.agg (dX i)]) (S (frt i)))) (k+0))=true:=by kernel_rfl
def A0j:((List.range 11).all λk=>(λi=>JI (Ba (Dq (r! L (n+40)) II [.agg (dX i)]) (S (frt i)))) (k+11))=true:=by kernel_rfl
def A0i:((List.range 11).all λk=>(λi=>JI (Ba (Dq (r! L (n+40)) II [.agg (dX i)]) (S (frt i)))) (k+22))=true:=by kernel_rfl
def A6c (i:Nat) (h:i<33):PS (r! L (n+40)) II [.agg (dX i)] (S (frt i)):=by
 refine BJ (λH=>by first|exact λK=>by kernel_rfl) ?_;by_cases a:i<11
 ·have:=GH.1 (A0k L n) (i-0) (K8.2 (by omega));have e:i-0+0=i:=by omega
  simp only[e] at this;exact this
 by_cases h1:i<22
 ·have:=GH.1 (A0j L n) (i-11) (K8.2 (by omega));have e:i-11+11=i:=by omega
  simp only[e] at this;exact this
 by_cases h2:i<33
 ·have:=GH.1 (A0i L n) (i-22) (K8.2 (by omega));have e:i-22+22=i:=by omega
  simp only[e] at this;exact this
 ·omega
end
section
variable {at_:Int}
variable {L n:Nat}
section
variable {id:Int} {o:UD} {xs:List Nd} {ks:List Nat} {i j k:Nat} {I1:AV}
def A8p (d:ks.length<=3):RV (rt (L+20) (n+2)) BQ [Xi I1 (Rx ks),dU (GF.getD 2 []) B8W FJ,.agg (Zt i).cs] (Bo true):=by
 match ks,d with
 |[],_=>exact λb=>by kernel_rfl
 |[a],_=>exact λb=>by kernel_rfl
 |[a,b],_=>exact λb=>by kernel_rfl
 |[a,b,c],_=>exact λb=>by kernel_rfl
def A8q (d:ks.length<=3):RV (rt (L+20) (n+2)) BQ [Xi I1 (Rx ks),dU (GF.getD 1 []) As DI,.agg (cnN i k).cs] (Bo true):=by
 match ks,d with
 |[],_=>exact λb=>by kernel_rfl
 |[a],_=>exact λb=>by kernel_rfl
 |[a,b],_=>exact λb=>by kernel_rfl
 |[a,b,c],_=>exact λb=>by kernel_rfl
def B2t {U:AV} (h1:1<=ks.length) (e:ks.length<=3) (d:j<ks.length):RV (rt (L+20) (n+2)) FJ [Xi (BO ks) U,.agg (Zt j).cs] (.tup [.agg (CJ (uu (ks.getD j 0))),I 0]):=by
 rcases tI h1 e with⟨a,rfl⟩|⟨a,b,rfl⟩|⟨a,b,c,rfl⟩
 ·obtain rfl:=Wg d;exact λb=>by kernel_rfl
 ·rcases We d with rfl|rfl<;>exact λb=>by kernel_rfl
 ·rcases Wd d with rfl|rfl|rfl<;>exact λb=>by kernel_rfl
attribute [local irreducible] mS rt in
def B2u {C:List AV} (hv:PO (rt (L+20) (n+40)) Em [.agg (dX i)] (Bo true)) (c:PO (rt (L+20) (n+40)) LR [.agg (uu k).cs] (Bo true)):CS (rt (L+20) (n+41)) DI [.iptr C,.agg (cnN i k).cs] (.tup [.agg (CJ (uu k)),I 0]):=by
 intro K a;rewrite [NW];unfold GQ Lo;rewrite [zO];generalize rt (L+20) (n+40)=R at*
 conv=>lhs;whnf
 refine L' (hv _ _) ?_
 conv=>lhs;whnf
 simp only[Ef]
 dsimp only[cnN]
 rewrite [c]
 conv=>lhs;whnf
 exact a _ _ (λb=>⟨false,λK=>by kernel_rfl⟩)
attribute [local irreducible] mS rt Go.Abs.Xg in
def B3D (hv:PO (rt (L+20) (n+40)) Fy [.agg (dX i)] (Bo true)) (c:PO (rt (L+20) (n+40)) Fw [.agg (uu k).cs] (Bo true)):CS (rt (L+20) (n+41)) Fv [.agg (BI id (BO ks) (Cs xs) o),.agg (cnN i k).cs,I at_] (.tup [Bo true,Bo false]):=by
 intro K a;rewrite [UN];unfold NO Eh Xf Df A0 LW HQ;rewrite [zO];generalize rt (L+20) (n+40)=R at*
 conv=>lhs;whnf
 refine L' (hv _ _) ?_
 conv=>lhs;whnf
 refine L' (c _ _) ?_
 conv=>lhs;whnf
 refine L' (C2Z (x:=cnN i k)) ?_
 conv=>lhs;whnf
 exact a _ _ (λb=>⟨false,λK=>by kernel_rfl⟩)
attribute [local irreducible] mS rt in
def B3B (hv:PO (rt (L+20) (n+40)) Fy [.agg (dX i)] (Bo true)) (c:PO (rt (L+20) (n+40)) Fw [.agg (uu k).cs] (Bo true)) {w:AV}:CS (rt (L+20) (n+42)) CC [.agg (BI id (BO ks) (Cs xs) o),.agg (cnN i k).cs,I at_,w] (.tup [.agg (CJ (uu k)),I 0]):=by
 intro K d;have a:=(B3D (id:=id) (o:=o) (xs:=xs) (ks:=ks) (at_:=at_) hv c).ls;clear hv c;rewrite [HB];unfold Hi q4N;rewrite [zO];generalize rt (L+20) (n+41)=R at*
 conv=>lhs;whnf
 rewrite [a false _ _ ?hq]
 case hq=>exact λK=>by kernel_rfl
 conv=>lhs;whnf
 exact d _ _ (λb=>⟨false,λK=>by kernel_rfl⟩)
end
end
section
section
variable (L n:Nat)
def C3S:List (UD×Int):=[(⟨1,2,0,1,0,1,0,1,0,1,0,1,0,1,[49],[49],[48],[49],0,1⟩,0),(⟨0,1,0,1,1,2,0,1,0,1,0,1,0,1,[49],[49],[48],[49],0,1⟩,0),(u0,70),(⟨0,1,0,1,0,1,0,1,0,1,0,1,0,1,[49],[49],[48],[49],0,2⟩,0),
 (u0,70),(⟨0,1,0,1,0,1,0,1,1,2,0,1,0,1,[49],[49],[48],[49],0,1⟩,0),(⟨1,1,0,1,0,1,0,1,0,1,0,1,0,1,[49],[49],[48],[49],0,1⟩,0)]
def usq (k:Nat):UD×Int:=C3S.getD k (u0,0)
def B3v:((List.range 7).all λi=>JI (Ba (Dq (rt (L+20) (n+40)) Ly [.agg (uu i).cs,.agg [I 1,I 2]]) (.tup [.agg (usq i).1.cs,I (usq i).2])))=true:=by kernel_rfl
def C1v (i:Nat) (h:i<7):PS (rt (L+20) (n+40)) Ly [.agg (uu i).cs,.agg [I 1,I 2]] (.tup [.agg (usq i).1.cs,I (usq i).2]):=by
 refine BJ (λH=>by first|exact λK=>by kernel_rfl) ?_;exact GH.1 (B3v L n) i (K8.2 h)
end
variable {L n:Nat}
section
variable {id:Int} {o:UD} {xs:List Nd} {ks:List Nat} {i j k l:Nat} {I1:AV}
def sqN (l:Nat):Nd:=⟨8,[],[],u0,0,l,0⟩
def B3C (h1:1<=ks.length) (e:ks.length<=3) (d:l<ks.length):RV (rt (L+20) (n+2)) Fv [.agg (BI id (BO ks) (Cs xs) o),.agg (sqN l).cs,I ks.length] (.tup [Bo true,Bo true]):=by
 rcases tI h1 e with⟨a,rfl⟩|⟨a,b,rfl⟩|⟨a,b,c,rfl⟩
 ·obtain rfl:=Wg d;exact λb=>by kernel_rfl
 ·rcases We d with rfl|rfl<;>exact λb=>by kernel_rfl
 ·rcases Wd d with rfl|rfl|rfl<;>exact λb=>by kernel_rfl
attribute [local irreducible] mS rt in
def B3A {u:UD} {e:Int} (he:e=0\/e=70) (h1:1<=ks.length) (m:ks.length<=3) (g:l<ks.length) (f:PO (rt (L+20) (n+41)) Ly [.agg (uu (ks.getD l 0)).cs,.agg [I 1,I 2]] (.tup [.agg u.cs,I e])):CS (rt (L+20) (n+42)) CC [.agg (BI id (BO ks) (Cs xs) o),.agg (sqN l).cs,I ks.length,Rx ks] (if e=0 then .tup [.agg u.cs,I 0] else .tup [.agg FW,I 90]):=by
 intro K h;have d:=(B3C (L:=L) (n:=n+39) (id:=id) (o:=o) (xs:=xs) h1 m g).ls;rewrite [HB];unfold Hi q4N;rewrite [zO];generalize rt (L+20) (n+41)=R at*
 revert f d
 rcases tI h1 m with⟨a,rfl⟩|⟨a,b,rfl⟩|⟨a,b,c,rfl⟩
 ·obtain rfl:=Wg g;(intro f d;simp only[Vk,Vj] at f;(conv=>lhs;whnf);rewrite [d false _ _ ?hq];(case hq=>exact λK=>by kernel_rfl);(conv=>lhs;whnf);refine L' (f _ _) ?_;rcases he with rfl|rfl<;>(conv=>lhs;whnf)<;>exact h _ _ (λb=>⟨false,λK=>by kernel_rfl⟩))
 ·rcases We g with rfl|rfl<;>(intro f d;simp only[Vk,Vj] at f;(conv=>lhs;whnf);rewrite [d false _ _ ?hq];(case hq=>exact λK=>by kernel_rfl);(conv=>lhs;whnf);refine L' (f _ _) ?_;rcases he with rfl|rfl<;>(conv=>lhs;whnf)<;>exact h _ _ (λb=>⟨false,λK=>by kernel_rfl⟩))
 ·rcases Wd g with rfl|rfl|rfl<;>(intro f d;simp only[Vk,Vj] at f;(conv=>lhs;whnf);rewrite [d false _ _ ?hq];(case hq=>exact λK=>by kernel_rfl);(conv=>lhs;whnf);refine L' (f _ _) ?_;rcases he with rfl|rfl<;>(conv=>lhs;whnf)<;>exact h _ _ (λb=>⟨false,λK=>by kernel_rfl⟩))
end
section
variable {i k:Nat}
def M? (h:i<33):(frt i).length<10:=by
 have:=GH.1 (show((List.range 33).all λi=>decide ((frt i).length<10))=true by kernel_rfl) i (K8.2 h);simpa using this
def B3t:PS (rt (L+20) (n+1)) ZB [] (.list 9 (GF.map λw=>S w)):=BJ (λH K=>by kernel_rfl) (by kernel_rfl)
attribute [local irreducible] mS rt Go.Abs.Ap in
def A9u (e:i<33) (h:PO (rt (L+20) (n+40)) Dz [I 1,I 1,I 8] (Bo true)) (c:PO (rt (L+20) (n+40)) ZB [] (.list 9 (GF.map λw=>S w))) (g:PO (rt (L+20) (n+40)) JD [.agg (uu k).cs] (.tup [S (Ll k),I 0])) (f:PO (rt (L+20) (n+40)) Mz [.agg (dX i)] (S (frt i))):CS (rt (L+20) (n+41)) Jw [.agg (cnN i k).cs] (S (cnT i k)):=by
 intro K d;rewrite [sN];unfold VR Ip;rewrite [zO];generalize rt (L+20) (n+40)=R at*
 conv=>lhs;whnf
 refine L' (h _ _) ?_
 conv=>lhs;whnf
 rewrite [c]
 conv=>lhs;whnf
 refine L' yP ?_
 conv=>lhs;whnf
 refine L' (g _ _) ?_
 conv=>lhs;whnf
 have h1:=M? e;have h2:=Gw k;refine L' (B5 (a:=GF.getD 1 []) (by decide)) ?_
 conv=>lhs;whnf
 refine L' (f _ _) ?_
 conv=>lhs;whnf
 rewrite [B5 (by simp only[EY,GF,Vj,Vk,LP,QJ];omega)];rewrite [B5 (by simp only[EY,GF,Vj,Vk,LP,QJ];omega)];rewrite [B5 (by simp only[EY,GF,Vj,Vk,LP,QJ];omega)];exact d _ _ (λb=>⟨false,λK=>by kernel_rfl⟩)
attribute [local irreducible] mS rt Go.Abs.Ap in
def A8l (e:i<33) (c:PO (rt (L+20) (n+40)) I5 [] XL) (g:PO (rt (L+20) (n+40)) Ju [.agg (uu k).cs] (.tup [S (Ll k),I 0])) (f:PO (rt (L+20) (n+40)) II [.agg (dX i)] (S (frt i))):CS (rt (L+20) (n+41)) FE [.agg (cnN i k).cs] (S (cnT i k)):=by
 intro K d;rewrite [ZT];unfold Pj Eh A0;rewrite [zO];generalize rt (L+20) (n+40)=R at*
 conv=>lhs;whnf
 rewrite [c]
 conv=>lhs;whnf
 rewrite [c]
 conv=>lhs;whnf
 refine L' (yP (a:=1)) ?_
 conv=>lhs;whnf
 refine L' (g _ _) ?_
 conv=>lhs;whnf
 have h1:=M? e;have h2:=Gw k;refine L' (B5 (a:=GF.getD 1 []) (by decide)) ?_
 conv=>lhs;whnf
 refine L' (f _ _) ?_
 conv=>lhs;whnf
 rewrite [B5 (by simp only[EY,GF,Vj,Vk,LP,QJ];omega)];rewrite [B5 (by simp only[EY,GF,Vj,Vk,LP,QJ];omega)];rewrite [B5 (by simp only[EY,GF,Vj,Vk,LP,QJ];omega)];exact d _ _ (λb=>⟨false,λK=>by kernel_rfl⟩)
end
end
section
variable {L n:Nat}
inductive Ex where
 |no
 |cn (i k:Nat)
 |inp (j:Nat)
 |bi (op l r k:Nat)
 |po (l e k:Nat)
def Ex.nd:Ex->List Nd
 | .no=>[]
 | .cn i k=>[cnN i k]
 | .inp j=>[Zt j]
 | .bi op l r _=>[vD op l r]
 | .po l e _=>[poN l e]
def Ex.ty (ks:List Nat):Ex->List Nat
 | .no=>[]
 | .cn _ k=>[k]
 | .inp j=>[ks.getD j 0]
 | .bi _ _ _ k=>[k]
 | .po _ _ k=>[k]
def Ex.tx:Ex->List (List UInt8)
 | .no=>[]
 | .cn i k=>[cnT i k]
 | .inp j=>[exT j]
 | .bi op l r _=>[exT (3+9*(op-3)+3*l+r)]
 | .po l e _=>[exT (39+5*l+e)]
def Ex.Ok (ks:List Nat):Ex->Prop
 | .no=>True
 | .cn i k=>i<33/\k<7
 | .inp j=>j<ks.length
 | .bi op l r k=>3<=op/\op<7/\l<ks.length/\r<ks.length/\Vi (op-3) (ks.getD l 0) (ks.getD r 0)=some k
 | .po l e k=>l<ks.length/\e<5/\Xt (ks.getD l 0) e=some k
structure Pr where
 id:Nat
 ks:List Nat
 x:Ex
structure Pr.Ok (p:Pr):Prop where
 i1:1<=p.id
 i2:p.id<950
 k1:1<=p.ks.length
 k3:p.ks.length<=3
 k7:∀k∈p.ks,k<7
 x:p.x.Ok p.ks
def Pr.xs (p:Pr):List Nd:=Li p.ks++p.x.nd
def Pr.ty (p:Pr):List Nat:=p.ks++p.x.ty p.ks
def Pr.ts (p:Pr):List (List UInt8):=(List.range p.ks.length).map exT++p.x.tx
def Pr.out (p:Pr):Nat:=p.ty.getD (p.xs.length-1) 0
section
variable {a b l r e i j k op:Nat} {ks:List Nat} {xs:List Nd} {id:Int} {o:UD}
def MC {N:Nat} (h:∀k∈ks,k<N) (c:l<ks.length):ks.getD l 0<N:=by
 have e:ks.getD l 0=ks[l]:=by simp[List.getD,K9 c]
 rw[e];exact h _ (Qe c)
def B3u (c:a<7) (hb:b<7):PO (r! L (n+41)) Tp [.agg (uu a).cs,.agg (uu b).cs] (JU (Vi 0 a b)):=by
 have:=(B8p L (n+1) (7*a+b) (by omega)).o;rwa[show(7*a+b)/7=a by omega,show(7*a+b)%7=b by omega] at this
def B3z (c:a<7) (hb:b<7):PO (r! L (n+41)) Kn [.agg (uu a).cs,.agg (uu b).cs] (JU (Vi 1 a b)):=by
 have:=(B8t L (n+1) (7*a+b) (by omega)).o;rwa[show(7*a+b)/7=a by omega,show(7*a+b)%7=b by omega] at this
def B3x (c:a<7) (hb:b<7):PO (r! L (n+41)) Tq [.agg (uu a).cs,.agg (uu b).cs] (JU (Vi 2 a b)):=by
 have:=(B8r L (n+1) (7*a+b) (by omega)).o;rwa[show(7*a+b)/7=a by omega,show(7*a+b)%7=b by omega] at this
def B3y (c:a<7) (hb:b<7):PO (r! L (n+41)) Tr [.agg (uu a).cs,.agg (uu b).cs] (JU (Vi 3 a b)):=by
 have:=(B8s L (n+1) (7*a+b) (by omega)).o;rwa[show(7*a+b)/7=a by omega,show(7*a+b)%7=b by omega] at this
def B3w (c:a<7) (hb:e<5):PO (r! L (n+41)) Ly [.agg (uu a).cs,.agg [I (lM e),I 1]] (JU (Xt a e)):=by
 have:=(B8q L (n+1) (5*a+e) (by omega)).o;rwa[show(5*a+e)/5=a by omega,show(5*a+e)%5=e by omega] at this
def B2o (f:a<7) (hb:b<7) (h:Vi 0 a b=some k):PO (r! L (n+40)) Ws [.agg (uu a).cs,.agg (uu b).cs] (JU (some k)):=by
 have c:(7*a+b)/7=a:=by omega
 have d:(7*a+b)%7=b:=by omega
 have:=(B6e L n (7*a+b) (by omega) (by rw[c,d,h];rfl)).o;rwa[c,d,h] at this
def B2s (f:a<7) (hb:b<7) (h:Vi 1 a b=some k):PO (r! L (n+40)) KX [.agg (uu a).cs,.agg (uu b).cs] (JU (some k)):=by
 have c:(7*a+b)/7=a:=by omega
 have d:(7*a+b)%7=b:=by omega
 have:=(B6i L n (7*a+b) (by omega) (by rw[c,d,h];rfl)).o;rwa[c,d,h] at this
def B2q (f:a<7) (hb:b<7) (h:Vi 2 a b=some k):PO (r! L (n+40)) Wt [.agg (uu a).cs,.agg (uu b).cs] (JU (some k)):=by
 have c:(7*a+b)/7=a:=by omega
 have d:(7*a+b)%7=b:=by omega
 have:=(B6g L n (7*a+b) (by omega) (by rw[c,d,h];rfl)).o;rwa[c,d,h] at this
def B2r (f:a<7) (hb:b<7) (h:Vi 3 a b=some k):PO (r! L (n+40)) Wu [.agg (uu a).cs,.agg (uu b).cs] (JU (some k)):=by
 have c:(7*a+b)/7=a:=by omega
 have d:(7*a+b)%7=b:=by omega
 have:=(B6h L n (7*a+b) (by omega) (by rw[c,d,h];rfl)).o;rwa[c,d,h] at this
def B2p (f:a<7) (hb:e<5) (h:Xt a e=some k):PO (r! L (n+40)) SE [.agg (uu a).cs,.agg [I (lM e),I 1]] (JU (some k)):=by
 have c:(5*a+e)/5=a:=by omega
 have d:(5*a+e)%5=e:=by omega
 have:=(B6f L n (5*a+e) (by omega) (by rw[c,d,h];rfl)).o;rwa[c,d,h] at this
def A4T (h1:1<=ks.length) (d:ks.length<=3) (g:∀k∈ks,k<7) (c:l<ks.length) (hr:r<ks.length) (m:3<=op) (h:op<7):
 CS (r! L (n+42)) CC [.agg (BI id (BO ks) (Cs xs) o),.agg (vD op l r).cs,I ks.length,Rx ks] (A2J (Vi (op-3) (ks.getD l 0) (ks.getD r 0))):=by
 have f:=MC g c;have hb:=MC g hr;obtain rfl|rfl|rfl|rfl:op=3\/op=4\/op=5\/op=6:=by omega
 ·exact A99 h1 d c hr (B3u f hb)
 ·exact A9d h1 d c hr (B3z f hb)
 ·exact A9b h1 d c hr (B3x f hb)
 ·exact A9c h1 d c hr (B3y f hb)
def A4S (h1:1<=ks.length) (d:ks.length<=3) (f:∀k∈ks,k<7) (c:l<ks.length) (he:e<5):
 CS (r! L (n+42)) CC [.agg (BI id (BO ks) (Cs xs) o),.agg (poN l e).cs,I ks.length,Rx ks] (A2J (Xt (ks.getD l 0) e)):=
 A9a h1 d c he (B3w (MC f c) he)
def A0C {at_:Int} {w:AV} (c:i<33) (d:k<7):CS (r! L (n+42)) CC [.agg (BI id (BO ks) (Cs xs) o),.agg (cnN i k).cs,I at_,w] (.tup [.agg (CJ (uu k)),I 0]):=
 B3B (A6r L n i c).o (RU L n k (by omega)).o
end
section
variable {p:Pr} {o:UD}
def B8K (h:p.Ok):RTy L n p.id p.ks p.xs o p.ty:=by
 obtain⟨pid,ks,x⟩:=p;obtain⟨i1,i2,k1,k3,k7,c⟩:=h;unfold Pr.xs Pr.ty;cases x with
 |no=>
  simp only[Ex.nd,Ex.ty,Wi];exact B8i (Z7 k3 (by decide))
 |cn i k=>exact pD (Z7 k3 (by decide)) (A0C c.1 c.2)
 |inp j=>
  refine pD (Z7 k3 (by decide)) ?_;have f:j<ks.length:=c;have e:ks.getD j 0=ks[j]:=by simp[List.getD,K9 f]
  rw[e];exact YE (n:=n+39) (Z7 k3 (by decide)) f
 |bi op l r k=>
  obtain⟨h1,h2,d,g,m⟩:=c;refine pD (Z7 k3 (by decide)) ?_;have:=A4T (L:=L) (n:=n) (id:=pid) (xs:=Li ks++[vD op l r]) (o:=o) k1 k3 k7 d g h1 h2;rw[m] at this;exact this
 |po l e k=>
  obtain⟨h1,h2,d⟩:=c;refine pD (Z7 k3 (by decide)) ?_;have:=A4S (L:=L) (n:=n) (id:=pid) (xs:=Li ks++[poN l e]) (o:=o) k1 k3 k7 h1 h2;rw[d] at this;exact this
def A81 {ks:List Nat} {i:Nat} (k1:1<=ks.length) (k3:ks.length<=3) {l:List Nat} (d:l.length<=3) (c:i<ks.length):WNd L n (BO ks) l (Zt i) (ks.getD i 0):=
 ⟨GF.getD 2 [],B8W,FJ,.inr ⟨_,_,rfl⟩,λH K=>by kernel_rfl,by kernel_rfl,rfl,rfl,A8p (n:=n+39) d,B2t (n:=n+39) k1 k3 c⟩
def B8J (h:p.Ok):WTy L n p.ks p.xs p.ty:=by
 obtain⟨pid,ks,x⟩:=p;obtain⟨i1,i2,k1,k3,k7,q⟩:=h;simp only at k1 k3 k7 q;intro i u;simp only[Pr.xs,Pr.ty] at u⊢;by_cases f:i<ks.length
 ·have g:(Li ks++x.nd)[i]=Zt i:=by
   rw[List.getElem_append_left (by rw[DR];exact f)];exact gG _
  have m:(ks++x.ty ks).getD i 0=ks.getD i 0:=by simp[List.getD,l0m f]
  rw[g,m];exact A81 k1 k3 (by rw[l0h];omega) f
 ·have B:x.nd.length<=1:=by cases x<;>simp[Ex.nd]
  rw[EY,DR] at u;obtain rfl:i=ks.length:=by omega
  have g:∀y,x.nd=[y]->(Li ks++x.nd)[ks.length]'(by rw[EY,DR];exact u)=y:= λy A=>by
   rw[List.getElem_append_right (by rw[DR];omega)];simp[A,DR]
  have m:∀k,x.ty ks=[k]->(ks++x.ty ks).getD ks.length 0=k:= λk w=>by simp[List.getD,w]
  have v:(ks++x.ty ks).take ks.length=ks:=List.take_left' rfl;rw[v];cases x with
  |no=>simp[Ex.nd] at u
  |cn i k=>
   rw[g _ rfl,m _ rfl];exact⟨GF.getD 1 [],As,DI,.inl rfl,λH K=>by kernel_rfl,by kernel_rfl,rfl,rfl,A8q (n:=n+39) k3,(B2u (A6b L n i q.1).o (Xs L n k (by have:=q.2;omega)).o).rv⟩
  |inp j=>
   rw[g _ rfl,m _ rfl];exact A81 k1 k3 k3 q
  |bi op l r k=>
   obtain⟨h1,h2,c,d,s⟩:=q;have t:=MC k7 c;have hb:=MC k7 d;rw[g _ rfl,m _ rfl];obtain rfl|rfl|rfl|rfl:op=3\/op=4\/op=5\/op=6:=by omega
   ·exact⟨GF.getD 3 [],mT,Fa,.inr ⟨_,_,rfl⟩,λH K=>by kernel_rfl,by kernel_rfl,rfl,rfl,A66 (n:=n+39) k1 k3 c d,(A86 k1 k3 c d (B2o t hb s)).rv⟩
   ·exact⟨GF.getD 4 [],mT,D0,.inr ⟨_,_,rfl⟩,λH K=>by kernel_rfl,by kernel_rfl,rfl,rfl,A6a (n:=n+39) k1 k3 c d,(A8a k1 k3 c d (B2s t hb s)).rv⟩
   ·exact⟨GF.getD 5 [],mT,DS,.inr ⟨_,_,rfl⟩,λH K=>by kernel_rfl,by kernel_rfl,rfl,rfl,A68 (n:=n+39) k1 k3 c d,(A88 k1 k3 c d (B2q t hb s)).rv⟩
   ·exact⟨GF.getD 6 [],mT,DH,.inr ⟨_,_,rfl⟩,λH K=>by kernel_rfl,by kernel_rfl,rfl,rfl,A69 (n:=n+39) k1 k3 c d,(A89 k1 k3 c d (B2r t hb s)).rv⟩
  |po l e k=>
   obtain⟨h1,h2,c⟩:=q;rw[g _ rfl,m _ rfl];exact⟨GF.getD 7 [],B8L,E4,.inr ⟨_,_,rfl⟩,λH K=>by kernel_rfl,by kernel_rfl,rfl,rfl,A67 (n:=n+39) k1 k3 h1 h2,(A87 k1 k3 h1 h2 (B2p (MC k7 h1) h2 c)).rv⟩
def B8v {j:Nat} (h:j<54):PS (r! L (n+41)) Jw [.agg (exN j).cs] (S (exT j)):=
 BJ (λH=>by first|exact λK=>by kernel_rfl) (GH.1 (A9v L n) j (K8.2 h))
def B6n {j:Nat} (h:j<54):PS (r! L (n+41)) FE [.agg (exN j).cs] (S (exT j)):=
 BJ (λH=>by first|exact λK=>by kernel_rfl) (GH.1 (A8m L n) j (K8.2 h))
def B5T {j:Nat} (h:j<3):Zt j=exN j:=by unfold exN;rw[Dj h]
def C2T {op l r:Nat} (h1:3<=op) (h2:op<7) (c:l<3) (d:r<3):vD op l r=exN (3+9*(op-3)+3*l+r):=by
 obtain rfl|rfl|rfl|rfl:op=3\/op=4\/op=5\/op=6:=by omega
 all_goals obtain rfl|rfl|rfl:l=0\/l=1\/l=2:=by omega
 all_goals obtain rfl|rfl|rfl:r=0\/r=1\/r=2:=by omega
 all_goals rfl
def C2S {l e:Nat} (d:l<3) (c:e<5):poN l e=exN (39+5*l+e):=by
 obtain rfl|rfl|rfl:l=0\/l=1\/l=2:=by omega
 all_goals obtain rfl|rfl|rfl|rfl|rfl:=lt5 c
 all_goals rfl
def NdT (L n:Nat) (y:Nd) (t:List UInt8):Prop:=PS (r! L (n+41)) Jw [.agg y.cs] (S t)/\PS (r! L (n+41)) FE [.agg y.cs] (S t)
def G_ {j:Nat} (h:j<54):NdT L n (exN j) (exT j):=⟨B8v h,B6n h⟩
def B5A {y:Nd} (H:Hp):Rr true depth [.agg y.cs] [.agg y.cs] H false:= λK=>by kernel_rfl
def B8X {i k:Nat} (c:i<33) (d:k<7):NdT L n (cnN i k) (cnT i k):=
 ⟨(A9u c (YF (n:=n+39) (by decide) (by decide)).o (B3t (n:=n+39)).o (UG L n k (by omega)).o (A6s L n i c).o).ps B5A,
  (A8l c (B5i (n:=n+39)).o (Ut L n k (by omega)).o (A6c L n i c).o).ps B5A⟩
def A9H (h:p.Ok):p.ts.length=p.xs.length/\∀i (m:i<p.xs.length),NdT L n p.xs[i] (p.ts.getD i []):=by
 obtain⟨pid,ks,x⟩:=p;obtain⟨i1,i2,k1,k3,k7,g⟩:=h;simp only at k1 k3 k7 g;have q:x.tx.length=x.nd.length:=by cases x<;>rfl
 refine⟨by simp[Pr.ts,Pr.xs,DR,q],λi m=> ?_⟩;simp only[Pr.xs,Pr.ts] at m⊢;by_cases c:i<ks.length
 ·have d:(Li ks++x.nd)[i]=Zt i:=by
   rw[List.getElem_append_left (by rw[DR];exact c)];exact gG _
  have f:((List.range ks.length).map exT++x.tx).getD i []=exT i:=by
   rw[List.getD,l0m (by simpa using c)];simp[List.getElem?_range c]
  rw[d,f,B5T (by omega)];exact G_ (by omega)
 ·have w:x.nd.length<=1:=by cases x<;>simp[Ex.nd]
  rw[EY,DR] at m;obtain rfl:i=ks.length:=by omega
  have d:∀y,x.nd=[y]->(Li ks++x.nd)[ks.length]'(by rw[EY,DR];exact m)=y:= λy v=>by
   rw[List.getElem_append_right (by rw[DR];omega)];simp[v,DR]
  have f:∀t,x.tx=[t]->((List.range ks.length).map exT++x.tx).getD ks.length []=t:= λt u=>by simp[List.getD,u]
  cases x with
  |no=>simp[Ex.nd] at m
  |cn i k=>rw[d _ rfl,f _ rfl];exact B8X g.1 g.2
  |inp j=>
   have C:j<ks.length:=g;rw[d _ rfl,f _ rfl,B5T (by omega)];exact G_ (by omega)
  |bi op l r k=>
   obtain⟨h1,h2,s,A,B⟩:=g;rw[d _ rfl,f _ rfl,C2T h1 h2 (by omega) (by omega)];exact G_ (by omega)
  |po l e k=>
   obtain⟨h1,h2,s⟩:=g;rw[d _ rfl,f _ rfl,C2S (by omega) h2];exact G_ (by omega)
end
end
section
variable {k:Nat}
variable {L n:Nat}
def qY (h:k<7):(Ll k).length<=44:=by
 have:=GH.1 (show((List.range 7).all λk=>decide ((Ll k).length<=44))=true by kernel_rfl) k (K8.2 h);simpa using this
def A0o (h:k<52):(Ll k).length<=50:=by
 have:=GH.1 (show((List.range 52).all λk=>decide ((Ll k).length<=50))=true by kernel_rfl) k (K8.2 h);simpa using this
def pS {j:Nat} (h:j<54):(exT j).length<=10:=by
 have:=GH.1 (show((List.range 54).all λk=>decide ((exT k).length<=10))=true by kernel_rfl) j (K8.2 h);simpa using this
def B4W {i k:Nat} (a:i<33) (b:k<7):(cnT i k).length<=60:=by
 have h1:=M? a;have h2:=qY b;simp only[cnT,GF,Vj,Vk,EY,LP,QJ];omega
def B4q (ks:List Nat) (h:∀k∈ks,k<7):(ks.flatMap pQ).length<=51*ks.length:=by
 induction ks with
 |nil=>simp
 |cons k ks ih=>
  have h1:=qY (h k (by simp));have h2:=ih λx a=>h x (by simp[a]);simp only[pP,EY,LP,pQ,sE,QJ] at h2⊢;omega
def B03 {ts:List (List UInt8)} (h:∀t∈ts,t.length<=10):(ts.flatMap uZ).length<=11*ts.length:=by
 induction ts with
 |nil=>simp
 |cons t ts ih=>
  have h1:=h t (by simp);have h2:=ih λu a=>h u (by simp[a]);simp only[pP,EY,LP,uZ,QJ] at h2⊢;omega
def B6C {o a b k:Nat} (d:o<4) (c:a<7) (hb:b<7) (h:Vi o a b=some k):k<52:=by
 have:=GH.1 (show((List.range 196).all λj=>(match Vi (j/49) (j/7%7) (j%7) with|some k=>decide (k<52)|none=>true))=true by kernel_rfl) (49*o+7*a+b) (K8.2 (by omega));rw[show(49*o+7*a+b)/49=o by omega,show(49*o+7*a+b)/7%7=a by omega,show(49*o+7*a+b)%7=b by omega,h] at this;simpa using this
def B2P {a e k:Nat} (b:a<7) (he:e<5) (h:Xt a e=some k):k<52:=by
 have:=GH.1 (show((List.range 35).all λj=>(match Xt (j/5) (j%5) with|some k=>decide (k<52)|none=>true))=true by kernel_rfl) (5*a+e) (K8.2 (by omega));rw[show(5*a+e)/5=a by omega,show(5*a+e)%5=e by omega,h] at this;simpa using this
section
variable {p:Pr}
def kE (h:p.Ok):p.ty.length=p.xs.length/\1<=p.xs.length/\p.xs.length<=4:=by
 have h1:=h.k1;have b:=h.k3;have e:(p.x.ty p.ks).length=p.x.nd.length:=by cases p.x<;>rfl
 have a:p.x.nd.length<=1:=by cases p.x<;>simp[Ex.nd]
 simp only[Pr.ty,Pr.xs,EY,DR];omega
def B3T (h:p.Ok):∀k∈p.ty,k<52:=by
 intro k a;rcases Zs.1 a with a|a
 ·have:=h.k7 k a;omega
 ·have b:=h.x;cases hq:p.x with
  |no=>rw[hq] at a;simp[Ex.ty] at a
  |cn i j=>rw[hq] at a b;simp[Ex.ty] at a;have:=b.2;omega
  |inp j=>rw[hq] at a b;simp only[Ex.ty,Ur] at a;have:=MC h.k7 b;omega
  |bi op l r j=>rw[hq] at a b;simp[Ex.ty] at a;subst a;exact B6C (by have:=b.1;have:=b.2.1;omega) (MC h.k7 b.2.2.1) (MC h.k7 b.2.2.2.1) b.2.2.2.2
  |po l e j=>rw[hq] at a b;simp[Ex.ty] at a;subst a;exact B2P (MC h.k7 b.1) b.2.1 b.2.2
def JJ (h:p.Ok):p.out<52:=by
 obtain⟨h1,h2,a⟩:=kE h;exact MC (B3T h) (by omega)
def A9G (h:p.Ok):(∀t∈p.ts,t.length<100)/\(p.ts.flatMap uZ).length<=11*p.ks.length+61:=by
 have k3:=h.k3;have a:=h.x;have a1:∀t∈(List.range p.ks.length).map exT,t.length<=10:= λt b=>by
  obtain⟨j,c,rfl⟩:=Ma.1 b;exact pS (by have:=K8.1 c;omega)
 have a2:(∀t∈p.x.tx,t.length<=60)/\p.x.tx.length<=1:=by
  cases hq:p.x with
  |no=>simp[Ex.tx]
  |cn i j=>rw[hq] at a;simp[Ex.tx];exact B4W a.1 a.2
  |inp j=>rw[hq] at a;have c:j<p.ks.length:=a;simp[Ex.tx];exact Z7 (pS (by omega)) (by decide)
  |bi op l r j=>rw[hq] at a;have h1:=a.1;have h2:=a.2.1;have f:=a.2.2.1;have g:=a.2.2.2.1;simp[Ex.tx];exact Z7 (pS (by omega)) (by decide)
  |po l e j=>rw[hq] at a;have h1:=a.1;have h2:=a.2.1;simp[Ex.tx];exact Z7 (pS (by omega)) (by decide)
 have d:(p.x.tx.flatMap uZ).length<=61:=by
  match hq:p.x.tx with
  |[]=>simp
  |[t]=>have:=a2.1 t (by rw[hq];simp);simp[uZ];omega
  |t::u::l=>rw[hq] at a2;simp at a2
 refine⟨λt b=> ?_,?_⟩
 ·rcases Zs.1 b with b|b
  ·have:=a1 t b;omega
  ·have:=a2.1 t b;omega
 ·have:=B03 a1;simp only[Pr.ts,l2m,EY,QI,List.length_range] at this⊢;omega
def Pr.txt (p:Pr):List UInt8:=rZ p.id p.ks p.ts p.out
def kD (h:p.Ok):p.txt.length<390:=by
 have k3:=h.k3;have h1:=B4q p.ks h.k7;have h2:=(A9G h).2;have a:=A0o (JJ h);have b:=A42 p.id;simp only[Pr.txt,rZ,EY,LP,QJ,RX,B8S];omega
abbrev Pr.cs (p:Pr):List AV:=BI p.id (BO p.ks) (Cs p.xs) (uu p.out)
def A0O (a:100<L) (h:p.Ok):CS (r! L (n+44)) FV [.agg p.cs] (Bo true):=by
 obtain⟨h1,h2,c⟩:=kE h;have:=h.k3;have:=h.i1;have:=h.i2;exact A9n a (B8K h) h1 (λk b=>by have:=h.k7 k b;omega) (by omega) h2 (by omega) (by omega) (by omega)
def A9F (a:100<L) (h:p.Ok):CS (r! L (n+46)) Gs [.agg p.cs] (Bo true):=by
 obtain⟨h1,h2,c⟩:=kE h;have:=h.k3;have:=h.i1;have:=h.i2;exact A8h a (B8J h) rfl h1 (λk b=>by have:=h.k7 k b;omega) (by omega) h2 (by omega) (by omega) (by omega)
def B5v (a:100<L) (h:p.Ok):CS (r! L (n+45)) JB [.agg p.cs] (.tup [S p.txt,I 0]):=by
 obtain⟨h1,h2,f⟩:=kE h;obtain⟨d,e⟩:=A9H (L:=L) (n:=n+3) h;have:=h.k3;exact A9o a h.i2 (A0O a h) (λi b=>(e i b).1) (A9G h).1 d (λk c=>by have:=h.k7 k c;omega) (by omega) (by omega) (JJ h)
def B5u (a:100<L) (h:p.Ok):CS (r! L (n+47)) Gt [.agg p.cs] (.tup [S p.txt,I 0]):=by
 obtain⟨h1,h2,f⟩:=kE h;obtain⟨d,e⟩:=A9H (L:=L) (n:=n+5) h;have:=h.k3;exact A8j a h.i2 (A9F a h) (λi b=>(e i b).2) (A9G h).1 d (λk c=>by have:=h.k7 k c;omega) (by omega) (by omega) (JJ h)
end
end
section
variable {L n:Nat} {K:KV}
def B3h {a b:List UInt8} (k:10<L) (m:a.length<390) (hb:b.length<390):CS (r! L (n+7)) Fu [.agg [S a,S b]] (S (Ix [a,b])):=by
 intro K g;rw[nV];unfold TN Ip;rw[Ei (by rfl)];have hr:Aj [(Ao [],c_ Bp [S a,S b])] (Ao [])=some (c_ Bp [S a,S b]):=Aw (H:=[]) (by simp);have f:∀K:AV->Af,CV 0 (.ptr (Ao []) 0 0) K=K (.ptr (Ao []) 0 0):= λK=>id rfl;have f1:∀K:AV->Af,CV 1 (.ptr (Ao []) 0 0) K=K (.ptr (Ao []) 1 0):= λK=>id rfl;have i:∀K:AV->Af,AF Ai (.ptr (Ao []) 0 0) [(Ao [],c_ Bp [S a,S b])] K=K (S a):= λK=>id rfl;have j:∀K:AV->Af,AF Ai (.ptr (Ao []) 1 0) [(Ao [],c_ Bp [S a,S b])] K=K (S b):= λK=>id rfl;have d:∀K:KV,Hf Ar 1 Ai 2 [(0,1,S a),(1,1,S b)] [(Ao [],c_ Bp [S a,S b])] K=K (.sl 1 1 0 2) ((1,.cells false Ar (AG [a,b]))::[(Ao [],c_ Bp [S a,S b])]):= λK=>id rfl;rw[f,i,f1,j,d];have h:Rr true depth [.sl 1 1 0 2] [.list 2 (AG [a,b])] ((1,.cells false Ar (AG [a,b]))::[(Ao [],c_ Bp [S a,S b])]) (true||false):=Am (M! (e:=Ar) (.inr ⟨1,false,rfl,rfl,rfl⟩) (by decide) (λs:List UInt8=>Value.string ⟨⟨s⟩⟩) [a,b] rfl) AJ;rw[AQ (A4O (L:=L) (n:=n) (l:=[a,b]) (by simp) (by simp;omega) (λs c=>by simp at c;rcases c with rfl|rfl<;>assumption)) h];exact g _ _ (λb=>⟨false,C7⟩)
end
section
variable {K:AV->Af} {H:Hp}
variable {L n:Nat}
def A9q {zs:List Int} (b:100<L) (a:zs.length<100) (hz:∀z∈zs, -10<=z/\z<1090):An (r! L (n+7)) EL [.list zs.length (Gz zs)] H K=K (S (Jk zs)):=
 AQ (xP (n:=n+2) a (by omega) hz) (Am (q:=false) (q':=false) Of AJ)
def A9e {zs:List (List UInt8)} (b:100<L) (a:zs.length<100) (hz:∀z∈zs,z.length<390):An (r! L (n+7)) Hj [.list zs.length (AG zs)] H K=K (S (Ix zs)):=
 AQ (A4O (n:=n+1) a (by omega) hz) (Am (q:=false) (q':=false) Of AJ)
def B5r {a b:List UInt8} (d:100<L) (c:a.length<390) (hb:b.length<390):An (r! L (n+7)) Fu [.agg [S a,S b]] H K=K (S (Ix [a,b])):=
 AQ (q:=false) (B3h (n:=n) (by omega) c hb) (λK=>by kernel_rfl)
def pY {z:Int}:Yr 1 Ab 1 [(0,1,I z)] K=K (.list ([z]:List Int).length (Gz [z])):=id rfl
def B51 {a b c d e f:Int}:Yr 1 Ab 6 [(0,1,I a),(1,1,I b),(2,1,I c),(3,1,I d),(4,1,I e),(5,1,I f)] K=K (.list ([a,b,c,d,e,f]:List Int).length (Gz [a,b,c,d,e,f])):=id rfl
def A5D {z:List UInt8}:Yr 1 Ai 1 [(0,1,S z)] K=K (.list ([z]:List (List UInt8)).length (AG [z])):=id rfl
def B5V (a b:List UInt8):Rf [(a,b)]=Ix [a,b]:=by simp[Rf]
def C1u {K:KV} {x:Af} {c:Nat} {R0:Row} {cs:List AV} {ts:iU} {b:AV->AV->Hp->Af} (u:TmsOk ts) (v:100<L) (P:R0= .cells true Ad cs) (d:∀H,Aj H c=some R0->∀K,AF AA (.ptr c 28 0) H K=K (FD ts)) {l:List UInt8} (hb:l.length<100000000)
 (O:∀m,Aj m c=some R0->Wf m->b (.ptr c 0 0) (S (l++QN ts)) m=x):∀(f i:Nat) (H:Hp),i<=ts.length->ts.length-i<f->Aj H c=some R0->Wf H->
 T8 (L+20) (r! L (n+7)) K b f (.ptr c 0 0) (S (l++QN (ts.take i))) (I i) H=x:=by
 have A:=u.len;intro f
 induction f with
 |zero=>intro i H _ h;omega
 |succ f ih=>
  intro i H R Q hc w;rw[mZ];unfold T9 Eh WY Iv A0;have f26:∀K:AV->Af,CV 26 (.ptr c 0 0) K=K (.ptr c 26 0):= λK=>id rfl;have f2:∀K:AV->Af,CV 2 (.ptr c 26 0) K=K (.ptr c 28 0):= λK=>id rfl;rw[f26,f2,d H hc,Qk];by_cases h:i<ts.length
  ·have hr:=u.rng _ (Qe h);have M:=XB (z:=ts[i].2) (by omega) (by omega);have N:=XC ts[i].2;rw[FR (by omega),Cy,f26,f2,d H hc,W0 h,lTm,B1 (cs:=[zI,zS,zS]) rfl];have k:=Aw (H:=H) (x:= .cells true AY [zI,zS,zS]) (by simp);rw[Cc (vs:=OD ts[i]) k rfl rfl rfl];have a:=AC (q:=true) (e:=AY) (cs:=OD ts[i]) k;have j:=w.lt hc;have g:Aj (upd ((Ao H,c_ AY [zI,zS,zS])::H) (Ao H) (c_ AY (OD ts[i]))) c=some R0:=by
    rw[Ag (by omega)];exact A4 j hc
   have w1:=Bn (r:=Ao H) (y:= .cells true AY (OD ts[i])) (AI (x:= .cells true AY [zI,zS,zS]) w);generalize upd ((Ao H,c_ AY [zI,zS,zS])::H) (Ao H) (c_ AY (OD ts[i]))=s at a g w1;generalize Ao H=t at a;have F:∀K:AV->Af,CV 0 (.ptr t 0 0) K=K (.ptr t 0 0):= λK=>id rfl;have J:∀K:AV->Af,CV 1 (.ptr t 0 0) K=K (.ptr t 1 0):= λK=>id rfl;have m0:∀K,AF Ab (.ptr t 0 0) s K=K (I ts[i].1):= λK=>AP (p:=0) rfl a (show 0<3 by decide);have m1:∀K,AF A3 (.ptr t 1 0) s K=K (.agg (qa ts[i].2)):= λK=>GA (p:=1) rfl a (show 3<=3 from Mb _);have a1:=eN (ts.take i) (λt h=>by have h1:=u.rng t (l2a h);have:=XB (z:=t.2) (by omega) (by omega);have:=XC t.2;omega);have a2:(ts.take i).length<=6:=by simp;omega
   have B:=F1 [ts[i].1];have C:=F0 [qn ts[i].2,qd ts[i].2] (by simp;omega);simp only[LP,QJ] at B C;rw[F,B7,m0,B7,pY,B7,A9q v (by simp) (by simp;omega),B7,B5 (by rw[EY];omega),B7,J,B7,m1,B7,B5r v (by omega) (by omega),B7,B5 (by simp only[EY];omega),B7,Dg (by omega)];have D:l++QN (ts.take i)++Jk [ts[i].1]++Ix [qn ts[i].2,qd ts[i].2]=l++QN (ts.take (i+1)):=by
    rw[xJ ts h];simp[tmB,B5V]
   rw[D];exact ih (i+1) s (by omega) (by omega) g w1
  ·rw[FP (by omega),Bj];have:i=ts.length:=by omega
   subst this;rw[vB];exact O H hc w
end
section
variable {L n:Nat}
section
variable {m:ND} {u o:UD} {ca cb ra rb un pt:List UInt8} {ts:iU} {ps:List (List UInt8)} {ins nds:AV} {kd id vd pe:Int} {r:RD}
def C1w {H:Hp} {K:AV->Af} (d:100<L) (e:ps.length<100) (hz:∀z∈ps,z.length<390):An (r! L (n+7)) Hj [DJ ps] H K=K (S (Ix ps)):=by
 cases ps with
 |nil=>
  refine AQ (q:=false) (args':=[As]) ?_ (λK=>by kernel_rfl);exact λK c=>by
   rw[WQ];unfold PM A0;simp only[BK];rw[UF];unfold NB Iv A0;have a:∀K,Bq Ac As K=K (I 0):= λK=>r_ rfl;rw[a,FP (by decide),Bj];exact c _ _ (λb=>⟨false,λK=>by kernel_rfl⟩)
 |cons p l=>exact A9e d e hz
set_option maxHeartbeats 2000000 in
def A34 (C:100<L) (hm:m.ok) (ae:kd=1\/kd=2\/kd=3) (ht:TmsOk ts) (hI:Sl ins) (hN:Sl nds) (hp:ps.length<=6) (M:∀s∈ps,s.length<390) (X:un.length<390) (O:pt.length<390)
 (hr:r.k=0\/r.k=1\/r.k=2\/r.k=3) (A:∀q∈[(r.a1,r.a2),(r.b1,r.b2),(r.c1,r.c2),(r.d1,r.d2)],q.1.length<390/\q.2.length<390) (hv:0<=vd/\vd<=3) (ad:ca.length<10/\cb.length<10/\ra.length<10/\rb.length<10)
 (ab:PS (r! L (n+61)) JD [.agg (CJ u)] (.tup [S un,I 0])) (aa:LS (r! L (n+61)) JB [.agg (BI id ins nds o)] (.tup [S pt,I pe])):
 CS (r! L (n+62)) QW [.agg (Et kd m u ca cb (FD ts) ra rb (DJ ps) id ins nds o r vd)] (S (Np kd m un ca cb ts ra rb ps pt (if kd=3 then UC r vd else[]))):=by
 intro K hK;obtain⟨q1,q2,q3,q4,q5,q6,q7,q8,q9,ag⟩:=hm;have hT:=Hq ts;have hP:Sl (DJ ps):=by cases ps with|nil=>exact .inl rfl|cons p l=>exact .inr ⟨_,_,rfl⟩
 have af:=ht.len;have a1:=F1 [kd,m.lab,m.num,m.itm,m.tim,m.day];have a2:=F0 [un] (by simpa using X);have a3:=F0 [ca,cb] (by simp;omega);have a4:=F1 [(ts.length:Int)];have a5:=eN ts (λt h=>by have:=ht.rng t h;have:=XB (z:=t.2) (by omega) (by omega);have:=XC t.2;omega);have a6:=F0 [ra,rb] (by simp;omega);have a7:=F1 [(ps.length:Int)];have a8:=F0 ps M;have a9:=F0 [pt] (by simpa using O);simp only[LP,QJ] at a1 a2 a3 a4 a6 a7 a9;rw[sJ];unfold VK Eh WY A0;rw[Ei (SL hT hP hI hN)];have d:=Aw (H:=[]) (x:=KR kd m u ca cb (FD ts) ra rb (DJ ps) id ins nds o r vd) (by simp);have w0:=AI (x:=KR kd m u ca cb (FD ts) ra rb (DJ ps) id ins nds o r vd) Fk;generalize ((Ao [],KR kd m u ca cb (FD ts) ra rb (DJ ps) id ins nds o r vd)::([]:Hp))=H0 at d w0;generalize Ao []=c at d;have Y:∀{j:Nat} {K:AV->Af},CV j (.ptr c 0 0) K=K (.ptr c j 0):= λ{j K}=>by rw[fA,JQ]
 have g0:∀{K:AV->Af},CV 0 (.ptr c 26 0) K=K (.ptr c 26 0):=r_ rfl;have g2:∀{K:AV->Af},CV 2 (.ptr c 26 0) K=K (.ptr c 28 0):=r_ rfl;have g3:∀{K:AV->Af},CV 3 (.ptr c 26 0) K=K (.ptr c 29 0):=r_ rfl;have nm:∀{y:List Int} {H:Hp} {K:AV->Af},y.length<100->(∀z∈y, -10<=z/\z<1090)->An (r! L (n+61)) EL [.list y.length (Gz y)] H K=K (S (Jk y)):= λh1 h2=>A9q (n:=n+54) C h1 h2;have tx:∀{y:List (List UInt8)} {H:Hp} {K:AV->Af},y.length<100->(∀z∈y,z.length<390)->An (r! L (n+61)) Hj [.list y.length (AG y)] H K=K (S (Ix y)):= λh1 h2=>A9e (n:=n+54) C h1 h2;have i:∀{a b:List UInt8} {H:Hp} {K:AV->Af},a.length<390->b.length<390->An (r! L (n+61)) Fu [.agg [S a,S b]] H K=K (S (Ix [a,b])):= λh1 h2=>B5r (n:=n+54) C h1 h2;simp only[BK];rw[Y,cU d,ab,F3,F2];simp only[Y,B7,cI0 d,cI1 d,cI2 d,cI3 d,cI4 d,cI5 d,B51,A5D,g0,g2,cC d,cT d,Qk,pY];rw[nm (by simp) (by simp only[Uf,List.mem_nil_iff,or_false];rintro z (rfl|rfl|rfl|rfl|rfl|rfl)<;>omega),B7,tx (by simp) (by simpa using X),B7,B5 (by omega),B7,i (by omega) (by omega),B7,B5 (by simp only[EY];omega),B7,nm (by simp) (by simp;omega),B7,B5 (by simp only[EY];omega),B7];have e0:(AV.v (.int .i64 0))=I ((0:Nat):Int):=rfl;have et:∀(l:List UInt8),S l=S (l++QN (ts.take 0)):= λl=>by rw[show QN (ts.take 0)=[] from rfl,Wi]
 rw[e0,et];refine C1u (n:=n+54) ht C (R0:=KR kd m u ca cb (FD ts) ra rb (DJ ps) id ins nds o r vd) rfl (λH h K=>cT h) (by simp only[EY];omega) ?_ (L+20) 0 H0 (by omega) (by omega) d w0;intro w f w1;have N:∀K,An (r! L (n+61)) JB [.agg (BI id ins nds o)] w K=K (.tup [S pt,I pe]):= λK=>by rw[zO];exact aa false _ _ (VF hI hN) K
 have ac:∀{H:Hp} {K:AV->Af},An (r! L (n+61)) Hj [DJ ps] H K=K (S (Ix ps)):=C1w (n:=n+54) C (by omega) M;simp only[Y,g3,B7,cR f,cP f,hJ,pY,cPr f,N,F3,F2,A5D,ac];rw[i (by omega) (by omega),B7,B5 (by simp only[EY];omega),B7,nm (by simp) (by simp;omega),B7,B5 (by simp only[EY];omega),B7,B5 (by simp only[EY];omega),B7,tx (by simp) (by simpa using O),B5 (by simp only[EY];omega),cI0 f,CP];by_cases Z:kd=3
 ·rw[Iu Z,Cy];have jv:∀{j:Nat} {K:AV->Af},CV j (.ptr (Ao w) 0 0) K=K (.ptr (Ao w) j 0):= λ{j K}=>by rw[fA,JQ]
  have J:=Aw (H:=w) (x:= .cells true Kc [zI,zS,zS,zS,zS,zS,zS,zS,zS]) (by simp);have eR:∀{K:AV->Af},AF DP (.ptr c 55 0) w K=K (.agg r.cs):= λ{K}=>GA (p:=55) rfl f (show 64<=68 by decide);rw[eR,B1 (cs:=[zI,zS,zS,zS,zS,zS,zS,zS,zS]) rfl,Cc (vs:=r.cs) J rfl rfl rfl];have g:=AC (q:=true) (e:=Kc) (cs:=r.cs) J;have F:=w1.lt f;have D:Aj (upd ((Ao w,c_ Kc [zI,zS,zS,zS,zS,zS,zS,zS,zS])::w) (Ao w) (c_ Kc r.cs)) c=some (KR kd m u ca cb (FD ts) ra rb (DJ ps) id ins nds o r vd):=by
   rw[Ag (by omega)];exact A4 F f
  generalize upd ((Ao w,c_ Kc [zI,zS,zS,zS,zS,zS,zS,zS,zS])::w) (Ao w) (c_ Kc r.cs)=B at g D;generalize Ao w=rv at g jv;have l0:∀{K:AV->Af},AF Ab (.ptr rv 0 0) B K=K (I r.k):= λ{K}=>AP (p:=0) rfl g (show 0<9 by decide);have l1:∀{K:AV->Af},AF A3 (.ptr rv 1 0) B K=K (.agg [S r.a1,S r.a2]):= λ{K}=>GA (p:=1) rfl g (show 3<=9 by decide);have l3:∀{K:AV->Af},AF A3 (.ptr rv 3 0) B K=K (.agg [S r.b1,S r.b2]):= λ{K}=>GA (p:=3) rfl g (show 5<=9 by decide);have l5:∀{K:AV->Af},AF A3 (.ptr rv 5 0) B K=K (.agg [S r.c1,S r.c2]):= λ{K}=>GA (p:=5) rfl g (show 7<=9 by decide);have l7:∀{K:AV->Af},AF A3 (.ptr rv 7 0) B K=K (.agg [S r.d1,S r.d2]):= λ{K}=>GA (p:=7) rfl g (show 9<=9 by decide);have b1:=F1 [r.k];have P:r.a1.length<390/\r.a2.length<390:=A (r.a1,r.a2) (by simp);have Q:r.b1.length<390/\r.b2.length<390:=A (r.b1,r.b2) (by simp);have R:r.c1.length<390/\r.c2.length<390:=A (r.c1,r.c2) (by simp);have V:r.d1.length<390/\r.d2.length<390:=A (r.d1,r.d2) (by simp);have b2:=F0 [r.a1,r.a2] (by simp;omega);have b3:=F0 [r.b1,r.b2] (by simp;omega);have b4:=F0 [r.c1,r.c2] (by simp;omega);have b5:=F0 [r.d1,r.d2] (by simp;omega);have b6:=F1 [vd];simp only[LP,QJ] at b1 b2 b3 b4 b5 b6;simp only[jv,Y,B7,l0,l1,l3,l5,l7,cV D,pY];rw[nm (by simp) (by simp;omega),B7,B5 (by simp only[EY];omega),B7,i P.1 P.2,B7,B5 (by simp only[EY];omega),B7,i Q.1 Q.2,B7,B5 (by simp only[EY];omega),B7,i R.1 R.2,B7,B5 (by simp only[EY];omega),B7,i V.1 V.2,B7,B5 (by simp only[EY];omega),B7,nm (by simp) (by simp;omega),B7,B5 (by simp only[EY];omega),B7];rw[Dj Z] at hK⊢;have e:Np kd m un ca cb ts ra rb ps pt (UC r vd)=Jk [kd,m.lab,m.num,m.itm,m.tim,m.day]++Ix [un]++Ix [ca,cb]++Jk [(ts.length:Int)]++QN ts++Ix [ra,rb]++Jk [(ps.length:Int)]++Ix ps++Ix [pt]++Jk [r.k]++Ix [r.a1,r.a2]++Ix [r.b1,r.b2]++Ix [r.c1,r.c2]++Ix [r.d1,r.d2]++Jk [vd]:=by
   unfold Np UC;simp[Rf]
  rw[<-e];exact hK _ _ (λb=>⟨false,λK=>by kernel_rfl⟩)
 ·rw[IG Z,Bj];rw[C4 Z] at hK⊢;have e:Np kd m un ca cb ts ra rb ps pt []=Jk [kd,m.lab,m.num,m.itm,m.tim,m.day]++Ix [un]++Ix [ca,cb]++Jk [(ts.length:Int)]++QN ts++Ix [ra,rb]++Jk [(ps.length:Int)]++Ix ps++Ix [pt]:=by
   unfold Np;simp only[B5V,Wi,l3d]
  rw[<-e];exact hK _ _ (λb=>⟨false,λK=>by kernel_rfl⟩)
end
end
section
variable {L n:Nat}
def B3E:PS (r! L (n+40)) tR [.agg [I 0,As,As]] (.tup [S [],I 200]):=BJ (λH K=>by kernel_rfl) (by kernel_rfl)
def B3F:PS (r! L (n+40)) N? [.agg [I 0,As,As]] (.tup [Bo true,Bo false]):=BJ (λH K=>by kernel_rfl) (by kernel_rfl)
section
variable {m:ND} {u o:UD} {ca cb ra rb:List UInt8} {T P ins nds:AV} {kd id vd:Int} {r:RD} {b:List UInt8} {q:Bool}
def A35 (h:Sl T) (g:Sl P) (e:Sl ins) (f:Sl nds) (hb:b.length<=32768)
 (v:CS (r! L (n+61)) Ft [.agg (Et kd m u ca cb T ra rb P id ins nds o r vd)] (.tup [Bo true,Bo q]))
 (s:CS (r! L (n+61)) QW [.agg (Et kd m u ca cb T ra rb P id ins nds o r vd)] (S b)):
 CS (r! L (n+62)) Ol [.agg (Et kd m u ca cb T ra rb P id ins nds o r vd)] (.tup [S b,I 0]):=by
 intro K t;rw[XQ];unfold QR Ip;rw[Ei (SL h g e f)];have a:=Aw (H:=[]) (x:=KR kd m u ca cb T ra rb P id ins nds o r vd) (by simp);generalize ((Ao [],KR kd m u ca cb T ra rb P id ins nds o r vd)::([]:Hp))=k at a;generalize Ao []=c at a;have p:∀{j:Nat} {K:AV->Af},CV j (.ptr c 0 0) K=K (.ptr c j 0):= λ{j K}=>by rw[fA,JQ]
 have i:∀K,An (r! L (n+61)) Ft [.agg (Et kd m u ca cb T ra rb P id ins nds o r vd)] k K=K (.tup [Bo true,Bo q]):= λK=>AQ v (WI h g e f);have d:∀K,An (r! L (n+61)) QW [.agg (Et kd m u ca cb T ra rb P id ins nds o r vd)] k K=K (S b):= λK=>AQ s (WI h g e f);have w:∀{K:AV->Af},Bq Ai (S b) K=K (I b.length):= λ{K}=>PG rfl;rw[cA a,i,F3,F2,ntT,Bj,cA a,d,p,cS a,B3F (n:=n+21),F3,F2,p,cS a,B3E (n:=n+21),F3,F2,w,E5,IG (by omega)];simp only[dF,gT,Cn,ntT,SS];rw[Bj];exact t _ _ (λb=>⟨false,λK=>by kernel_rfl⟩)
def C3Y {cs:List AV} (h:40000<L) (h1:cs.all AV.one=true) (hz:cs.length=68) (c:∀H,Rr true depth [.agg cs] [.agg cs] H false) (hb:b.length<=32768) (e:CS (r! L (n+62)) Ol [.agg cs] (.tup [S b,I 0])):CS (r! L (n+63)) GU [.agg cs] (S (sha b)):=by
 intro K f;rw[fG];unfold VN Ip;rw[Ei h1];have a:=Aw (H:=[]) (x:= .cells true Ad cs) (by simp);generalize ((Ao [],c_ Ad cs)::([]:Hp))=d at a;rw[Bu rfl hz.symm a,AQ e (c d),F3,F2,IS];show Az (.v (.bool false)) _ _=_;rw[Bj];have g:∀K,An (r! L (n+62)) Yn [S b] d K=K (S (sha b)):= λK=>AQ (B5o (L:=L+20) (n:=n+59) (by omega) (by omega)) (Am (q:=false) (q':=false) C7 AJ);rw[g];exact f _ _ (λb=>⟨false,λK=>by kernel_rfl⟩)
end
end
section
variable {k:Nat}
variable {L n:Nat}
def C1m (a:k=1\/k=2\/k=3):∀K,eEq J0 BinOp.eql (AV.agg (rr k).cs) (AV.agg [zI,zS,zS,zS,zS,zS,zS,zS,zS]) K=K (Bo false):= λK=>by rw[<-qO];rcases a with rfl|rfl|rfl<;>kernel_rfl
def B6l (a:k=1\/k=2\/k=3):PS (r! L (n+40)) Yo [.agg (rr k).cs] (Bo true):=by
 rcases a with rfl|rfl|rfl<;>exact BJ (λH K=>by kernel_rfl) (by as_aux_lemma=>kernel_rfl)
def A9m (a:k=1\/k=2\/k=3):PS (r! L (n+40)) JA [.agg (rr k).cs] (Bo true):=by
 rcases a with rfl|rfl|rfl<;>exact BJ (λH K=>by kernel_rfl) (by as_aux_lemma=>kernel_rfl)
def E?:PS (r! L (n+40)) JA [.agg r0.cs] (Bo false):=BJ (λH K=>by kernel_rfl) (by kernel_rfl)
end
section
variable {k:Nat}
variable {L n:Nat}
structure CB where
 m:ND
 c:Int
 r:Int
 ts:iU
structure CB.Ok (b:CB):Prop where
 m:b.m.ok
 c1: -80<=b.c
 c2:b.c<=80
 r1:0<=b.r
 r2:b.r<=8
 ts:TmsOk b.ts
inductive Cd where
 |re (b:CB) (u:Nat)
 |co (b:CB) (p:Pr) (ps:List (List UInt8)) (t:Option (Nat×Int))
def Cd.kd:Cd->Int
 | .re _ _=>1
 | .co _ _ _ none=>2
 | .co _ _ _ (some _)=>3
def Cd.ps:Cd->List (List UInt8)
 | .re _ _=>[]
 | .co _ _ ps _=>ps
abbrev cdC (kd:Int) (b:CB) (u:UD) (ps:List (List UInt8)) (id:Int) (ins a:AV) (o:UD) (r:RD) (vd:Int):List AV:=Et kd b.m u (qn b.c) (qd b.c) (FD b.ts) (qn b.r) (qd b.r) (DJ ps) id ins a o r vd
def Cd.cs:Cd->List AV
 | .re b u=>cdC 1 b (uu u) [] 0 As As u0 r0 0
 | .co b p ps none=>cdC 2 b (uu p.out) ps p.id (BO p.ks) (Cs p.xs) (uu p.out) r0 0
 | .co b p ps (some (k,vd))=>cdC 3 b (uu p.out) ps p.id (BO p.ks) (Cs p.xs) (uu p.out) (rr k) vd
def Cd.body:Cd->List UInt8
 | .re b u=>Np 1 b.m (Ll u) (qn b.c) (qd b.c) b.ts (qn b.r) (qd b.r) [] [] []
 | .co b p ps none=>Np 2 b.m (Ll p.out) (qn b.c) (qd b.c) b.ts (qn b.r) (qd b.r) ps p.txt []
 | .co b p ps (some (k,vd))=>Np 3 b.m (Ll p.out) (qn b.c) (qd b.c) b.ts (qn b.r) (qd b.r) ps p.txt (UC (rr k) vd)
def Cd.Ok:Cd->Prop
 | .re b u=>b.Ok/\u<7
 | .co b p ps t=>b.Ok/\p.Ok/\ps.length=p.ks.length/\(∀s∈ps,s.length=32)/\(match t with|none=>True|some (k,vd)=>(k=1\/k=2\/k=3)/\1<=vd/\vd<=3)
def Cd.id (c:Cd):List UInt8:=sha c.body
def NJ (ps:List (List UInt8)):Sl (DJ ps):=by cases ps with|nil=>exact .inl rfl|cons p l=>exact .inr ⟨_,_,rfl⟩
def kC {ps:List (List UInt8)} (h:1<=ps.length):DJ ps=Ls ps:=by cases ps with|nil=>simp at h|cons p l=>rfl
def C1n (h:k=1\/k=2\/k=3):(rr k).k=0\/(rr k).k=1\/(rr k).k=2\/(rr k).k=3:=by rcases h with rfl|rfl|rfl<;>decide
def A2Z (h:k=1\/k=2\/k=3):∀q∈[((rr k).a1,(rr k).a2),((rr k).b1,(rr k).b2),((rr k).c1,(rr k).c2),((rr k).d1,(rr k).d2)],q.1.length<390/\q.2.length<390:=by
 rcases h with rfl|rfl|rfl<;>decide
def F':∀q∈[(r0.a1,r0.a2),(r0.b1,r0.b2),(r0.c1,r0.c2),(r0.d1,r0.d2)],q.1.length<390/\q.2.length<390:=by decide
section
variable {b:CB} {p:Pr} {ps:List (List UInt8)} {kd:Int} {tail:List UInt8} {un pt:List UInt8}
def CB.Ok.cl (h:b.Ok):(qn b.c).length<10/\(qd b.c).length<10/\(qn b.r).length<10/\(qd b.r).length<10:=by
 have h1:=XB h.c1 (show b.c<81 by have:=h.c2;omega);have h2:=XB (z:=b.r) (by have:=h.r1;omega) (by have:=h.r2;omega);have a:=XC b.c;have d:=XC b.r;omega
def uN (h:b.Ok) (f:un.length<390) (A:ps.length<=6) (a:∀s∈ps,s.length<390) (d:pt.length<390) (e:tail.length<=4000):(Np kd b.m un (qn b.c) (qd b.c) b.ts (qn b.r) (qd b.r) ps pt tail).length<=32768:=by
 obtain⟨q1,q2,q3,q4⟩:=h.cl;have g:=F1 [kd,b.m.lab,b.m.num,b.m.itm,b.m.tim,b.m.day];have i:=F0 [un] (by simpa using f);have j:=Oz [(qn b.c,qd b.c)] (by simp;omega);have q:=F1 [(b.ts.length:Int)];have u:=eN b.ts (λt e=>by
  have:=h.ts.rng t e;have:=XB (z:=t.2) (by omega) (by omega);have:=XC t.2;omega)
 have v:=Oz [(qn b.r,qd b.r)] (by simp;omega);have w:=F1 [(ps.length:Int)];have x:=F0 ps a;have y:=F0 [pt] (by simpa using d);have B:=h.ts.len;simp only[Np,EY,LP,QJ] at g i j q u v w x y⊢;omega
def A8X {vd:Int} (h:k=1\/k=2\/k=3):(UC (rr k) vd).length<=4000:=by
 have a:=F1 [(rr k).k];have d:=Oz _ (A2Z h);have e:=F1 [vd];simp only[UC,EY,LP,QJ] at a d e⊢;omega
end
section
variable {c:Cd}
def Mk:c.cs.all AV.one=true:=by
 match c with
 | .re b u=>exact SL (Hq _) (NJ _) (.inl rfl) (.inl rfl)
 | .co b p ps none=>exact SL (Hq _) (NJ _) (.inr ⟨_,_,rfl⟩) (.inr ⟨_,_,rfl⟩)
 | .co b p ps (some (k,vd))=>exact SL (Hq _) (NJ _) (.inr ⟨_,_,rfl⟩) (.inr ⟨_,_,rfl⟩)
def EA:c.cs.length=68:=by
 match c with
 | .re b u=>rfl
 | .co b p ps none=>rfl
 | .co b p ps (some (k,vd))=>rfl
def uK (H:Hp):Rr true depth [.agg c.cs] [.agg c.cs] H false:=by
 match c with
 | .re b u=>exact WI (Hq _) (NJ _) (.inl rfl) (.inl rfl)
 | .co b p ps none=>exact WI (Hq _) (NJ _) (.inr ⟨_,_,rfl⟩) (.inr ⟨_,_,rfl⟩)
 | .co b p ps (some (k,vd))=>exact WI (Hq _) (NJ _) (.inr ⟨_,_,rfl⟩) (.inr ⟨_,_,rfl⟩)
def iH (h:c.Ok):c.body.length<=32768:=by
 match c,h with
 | .re b u,⟨hb,f⟩=>exact uN hb (by have:=Gw u;omega) (by simp) (by simp) (by simp) (by simp)
 | .co b p ps none,⟨hb,a,h1,h2,_⟩=>exact uN hb (by have:=Gw p.out;omega) (by have:=a.k3;omega) (λs d=>by rw[h2 s d];decide) (kD a) (by simp)
 | .co b p ps (some (k,vd)),⟨hb,a,h1,h2,e⟩=>exact uN hb (by have:=Gw p.out;omega) (by have:=a.k3;omega) (λs d=>by rw[h2 s d];decide) (kD a) (A8X e.1)
def C0O:RV (r! L (n+40)) Gt [.agg (BI 0 As As u0)] (.tup [S [],I 90]):= λb=>by kernel_rfl
def C1x:RV (r! L (n+40)) JB [.agg (BI 0 As As u0)] (.tup [S [],I 90]):= λb=>by kernel_rfl
def B1v (t:40000<L) (h:c.Ok) (hn:c.ps.Nodup):CS (r! L (n+63)) FG [.agg c.cs] (S c.id):=by
 refine C3Q t Mk EA uK (iH h) ?_
 match c,h,hn with
 | .re b u,⟨hb,v⟩,_=>
  have st:=A62 (L:=L) (n:=n) (o:=u0) hb.m (Hq b.ts) (A8e (L:=L) (n:=n+20)).o (Xs L (n+20) u (by omega)).o (A2B (L:=L) (n:=n+16) hb.c1 hb.c2 hb.r1 hb.r2 hb.ts).ls;exact A2F (n:=n) (ps:=[]) (vd:=0) (kd:=1) (by omega) hb.m (.inl rfl) hb.ts (.inl rfl) (.inl rfl) (by simp) (by simp) (by have:=Gw u;omega) (by simp) (.inl rfl) F' (by decide) hb.cl st.ls (Ut L (n+21) u (by omega)) (C0O (L:=L) (n:=n+21)).ls
 | .co b p ps none,⟨hb,a,h1,h2,_⟩,hn=>
  have k1:=a.k1;have k3:=a.k3;have e:DJ ps= .list p.ks.length (AG ps):=by rw[kC (by omega),Ls,h1]
  have d:=(xG (L:=L) (n:=n+53) (ps:=ps) hn (by omega) (by omega) (by omega) h2).ls;rw[Ls,h1] at d;have g:=qV (L:=L) (n:=n) (kd:=2) (m:=b.m) (ca:=qn b.c) (cb:=qd b.c) (ra:=qn b.r) (rb:=qd b.r) (r:=r0) (vd:=0) (Hq b.ts) ⟨_,_,rfl⟩ d (A9F (L:=L) (n:=n+13) (by omega) a).ls;have st:=A61 (L:=L) (n:=n) hb.m (Hq b.ts) ⟨_,_,rfl⟩ ⟨_,_,rfl⟩ ⟨_,_,rfl⟩ g.ls (Xs L (n+20) p.out (JJ a)).o (A2B (L:=L) (n:=n+16) hb.c1 hb.c2 hb.r1 hb.r2 hb.ts).ls;rw[<-e] at st;exact A2F (n:=n) (ps:=ps) (vd:=0) (kd:=2) (by omega) hb.m (.inr (.inl rfl)) hb.ts (.inr ⟨_,_,rfl⟩) (.inr ⟨_,_,rfl⟩) (by omega) (λs i=>by rw[h2 s i];decide) (by have:=Gw p.out;omega) (kD a) (.inl rfl) F' (by decide) hb.cl st.ls (Ut L (n+21) _ (JJ a)) (B5u (L:=L) (n:=n+14) (by omega) a).ls
 | .co b p ps (some (k,vd)),⟨hb,a,h1,h2,f,j,q⟩,hn=>
  have k1:=a.k1;have k3:=a.k3;have e:DJ ps= .list p.ks.length (AG ps):=by rw[kC (by omega),Ls,h1]
  have d:=(xG (L:=L) (n:=n+53) (ps:=ps) hn (by omega) (by omega) (by omega) h2).ls;rw[Ls,h1] at d;have g:=qV (L:=L) (n:=n) (kd:=3) (m:=b.m) (ca:=qn b.c) (cb:=qd b.c) (ra:=qn b.r) (rb:=qd b.r) (r:=rr k) (vd:=vd) (Hq b.ts) ⟨_,_,rfl⟩ d (A9F (L:=L) (n:=n+13) (by omega) a).ls;have st:=A60 (L:=L) (n:=n) hb.m (Hq b.ts) ⟨_,_,rfl⟩ ⟨_,_,rfl⟩ ⟨_,_,rfl⟩ (C1m f) (B6l (L:=L) (n:=n+20) f).o j q (Xs L (n+20) p.out (JJ a)).o (A2B (L:=L) (n:=n+16) hb.c1 hb.c2 hb.r1 hb.r2 hb.ts).ls g.ls;rw[<-e] at st;exact A2F (n:=n) (ps:=ps) (vd:=vd) (kd:=3) (by omega) hb.m (.inr (.inr rfl)) hb.ts (.inr ⟨_,_,rfl⟩) (.inr ⟨_,_,rfl⟩) (by omega) (λs i=>by rw[h2 s i];decide) (by have:=Gw p.out;omega) (kD a) (C1n f) (A2Z f) (by omega) hb.cl st.ls (Ut L (n+21) _ (JJ a)) (B5u (L:=L) (n:=n+14) (by omega) a).ls
end
end
section
variable {c2:List AV} {n2:Nat}
variable {L n:Nat}
section
variable {R:Rt} {K:KV} {ps:List (List UInt8)} {H:Hp} {y:Af}
def B40 {b:AV->AV->AV->Hp->Af} {i:Nat} (k:i<ps.length) (hb:ps.length<100) (p:K (.tup [Bo false,I ps.length]) H=y) (c:b (Ls ps) (I i) (I i) H=y\/∃m,∃h:m<i,ps[m]'(by omega)=ps[i]):∀(f j:Nat),j<=i->i-j<f->(∀m (_:m<j) (s:m<ps.length),ps[m]≠ps[i])->
 LF (L+20) R K b f (Ls ps) (I i) (I j) H=y:=by
 intro f
 induction f with
 |zero=>intro j _ h;omega
 |succ f ih=>
  intro j v t a;rw[R9];unfold LH OB A0 HQ;by_cases h:j<i
  ·rw[FR (by omega),Cy,SI (by omega),B7,L5,B7,SI k,B7,L5,B7,LV];by_cases he:ps[j]=ps[i]
   ·rw[Iu he,B7,Cy,MG];exact p
   ·rw[IG he,B7,Bj,Dg (by omega)];exact ih (j+1) (by omega) (by omega) λm hm d=>by
     by_cases g:m=j
     ·subst g;exact he
     ·exact a m (by omega) d
  ·rw[FP (by omega),Bj];obtain rfl:j=i:=by omega
   rcases c with c|⟨m,hm,e⟩
   ·exact c
   ·exact absurd e (a m hm (by omega))
def B41 {b:AV->Hp->Af} (hb:ps.length<100) (p:ps.length<L+20) (j:∀s∈ps,s.length=32) (k:K (.tup [Bo false,I ps.length]) H=y):∀(f i:Nat) (v:AV),i<=ps.length->ps.length-i<f->
 (∃t m,i<=t/\∃(h:t<ps.length) (hm:m<t),ps[m]'(by omega)=ps[t])->LG (L+20) R K b f (Ls ps) (I i) v H=y:=by
 intro f
 induction f with
 |zero=>intro i v _ h;omega
 |succ f ih=>
  intro i v x w a;obtain⟨t,m,h1,h2,c,d⟩:=a;rw[RA];unfold LI Iv A0 HQ;rw[MG];have h:i<ps.length:=by omega
  rw[FR (by omega),Cy];simp only[BK];rw[SI h,L5,PG rfl,j _ (Qe h),IS];rw[show(!decide (((32:Nat):Int)=32))=false from rfl,Bj];have e:(AV.v (.int .i64 0))=I ((0:Nat):Int):=rfl;rw[e];refine B40 h hb k ?_ _ 0 (by omega) (by omega) (λm hm _=>by omega);by_cases g:t=i
  ·subst g;exact .inr ⟨m,c,d⟩
  ·left;rw[Dg (by omega)];exact ih (i+1) _ (by omega) (by omega) ⟨t,m,by omega,h2,c,d⟩
def A6H (h:¬ps.Nodup):∃t m,0<=t/\∃(h:t<ps.length) (hm:m<t),ps[m]'(by omega)=ps[t]:=l39 λhc=>h (by
 rw[List.nodup_iff_pairwise_ne,l26];intro i j c b a e;exact hc ⟨j,i,W? _,b,a,e⟩)
def rV (hn:¬ps.Nodup) (hb:ps.length<=6) (d:∀s∈ps,s.length=32):CS (rt (L+20) (n+1)) Im [Ls ps] (.tup [Bo false,I ps.length]):=by
 intro K c;rw[Tj];unfold MA Df A0 HQ;simp only[BK];have a:(AV.v (.int .i64 0))=I ((0:Nat):Int):=rfl;rw[a];exact B41 (by omega) (by omega) d (c _ _ (λb=>⟨false,λK=>by kernel_rfl⟩)) _ 0 _ (by omega) (by omega) (A6H hn)
end
section
variable {m:ND} {u o:UD} {ca cb ra rb:List UInt8} {T P ins nds:AV} {id vd kd:Int} {r:RD} {q:Bool}
def A4U (h:Sl T) (g:Sl P) (e:Sl ins) (f:Sl nds)
 (k:CS (rt (L+20) (n+61)) Ft [.agg (Et kd m u ca cb T ra rb P id ins nds o r vd)] (.tup [Bo false,Bo q])):
 CS (rt (L+20) (n+62)) Ol [.agg (Et kd m u ca cb T ra rb P id ins nds o r vd)] (.tup [S [],I 210]):=by
 intro K j;rw[XQ];unfold QR Ip;rw[Ei (SL h g e f)];have a:=Aw (H:=[]) (x:=KR kd m u ca cb T ra rb P id ins nds o r vd) (by simp);generalize ((Ao [],KR kd m u ca cb T ra rb P id ins nds o r vd)::([]:Hp))=i at a;generalize Ao []=c at a;have d:∀K,An (rt (L+20) (n+61)) Ft [.agg (Et kd m u ca cb T ra rb P id ins nds o r vd)] i K=K (.tup [Bo false,Bo q]):= λK=>AQ k (WI h g e f);rw[cA a,d,F3,F2,ntF,Cy];exact j _ _ (λb=>⟨false,λK=>by kernel_rfl⟩)
def C1z {cs:List AV} (h1:cs.all AV.one=true) (hz:cs.length=68) (c:∀H,Rr true depth [.agg cs] [.agg cs] H false) (e:CS (rt (L+20) (n+62)) Ol [.agg cs] (.tup [S [],I 210])):CS (rt (L+20) (n+63)) GU [.agg cs] (S []):=by
 intro K f;rw[fG];unfold VN Ip;rw[Ei h1];have a:=Aw (H:=[]) (x:= .cells true Ad cs) (by simp);generalize ((Ao [],c_ Ad cs)::([]:Hp))=d at a;rw[Bu rfl hz.symm a,AQ e (c d),F3,F2,IS];show Az (.v (.bool true)) _ _=_;rw[Cy];exact f _ _ (λb=>⟨false,λK=>by kernel_rfl⟩)
end
attribute [local irreducible] An rt mS eBi eEq cnd Go.Abs.Ap Go.Abs.Xg Az
section
variable {m:ND} {u o:UD} {ca cb ra rb:List UInt8} {T P ins nds:AV} {id vd:Int} {r:RD}
def A33 (hm:m.ok) (t:Sl T) (hr:PO (rt (L+20) (n+60)) JA [.agg r0.cs] (Bo false)) (s:∃n cs,P= .list n cs) (p:∃n cs,nds= .list n cs)
 (w:LS (rt (L+20) (n+60)) Im [P] (.tup [Bo false,I n2])) (hv:LS (rt (L+20) (n+60)) FV [.agg (BI id (.list n2 c2) nds u)] (Bo true))
 (x:PO (rt (L+20) (n+60)) Fw [.agg (CJ u)] (Bo true)) (v:LS (rt (L+20) (n+60)) JC [.agg (Z8 ca cb T ra rb)] (Bo true)):
 CS (rt (L+20) (n+61)) Ft [.agg (Et 2 m u ca cb T ra rb P id (.list n2 c2) nds u r0 0)] (.tup [Bo false,Bo false]):=by
 intro K j;obtain⟨h1,h2,f,A,g,B,h,C,i,e⟩:=hm;obtain⟨n1,c1,rfl⟩:=s;obtain⟨D,c3,rfl⟩:=p;have hb:∀{z d c:Int},d<=z->z<=c->PO (rt (L+20) (n+60)) IR [I z,I d,I c] (Bo true):= λa b=>(X0 a b).o;rcases t with rfl|⟨F,c4,rfl⟩
 all_goals
  rewrite [JM];unfold IL Ip
  try rewrite [zO]
  try rewrite [bO]
  try rewrite [qO]
  try rewrite [cO]
  generalize rt (L+20) (n+60)=R at*
  conv=>lhs;whnf
  rewrite [WW ?hc]
  case hc=>decide
  conv=>lhs;whnf
  rewrite [x]
  conv=>lhs;whnf
  rewrite [(v) false _ _ ?hq]
  case hq=>exact λK=>by kernel_rfl
  conv=>lhs;whnf
  rewrite [hb h1 (by omega)]
  conv=>lhs;whnf
  rewrite [hb f (by omega)]
  conv=>lhs;whnf
  rewrite [hb g (by omega)]
  conv=>lhs;whnf
  rewrite [hb h (by omega)]
  conv=>lhs;whnf
  rewrite [hb i (by omega)]
  conv=>lhs;whnf
  rewrite [GD]
  conv=>lhs;whnf
  rewrite [hr]
  conv=>lhs;whnf
  rewrite [show∀K,eEq J0 BinOp.neq (AV.agg [I r0.k,S r0.a1,S r0.a2,S r0.b1,S r0.b2,S r0.c1,S r0.c2,S r0.d1,S r0.d2]) (AV.agg [zI,zS,zS,zS,zS,zS,zS,zS,zS]) K=K (Bo false) from λK=>by rw[<-qO];kernel_rfl]
  conv=>lhs;whnf
  rewrite [A9Y ?hc]
  case hc=>decide
  conv=>lhs;whnf
  rewrite [GD]
  conv=>lhs;whnf
  rewrite [WW ?hc]
  case hc=>decide
  conv=>lhs;whnf
  rewrite [GD]
  conv=>lhs;whnf
  rewrite [Qj ?hc]
  case hc=>decide
  conv=>lhs;whnf
  rewrite [PU]
  conv=>lhs;whnf
  rewrite [PU]
  conv=>lhs;whnf
  rewrite [(w) false _ _ ?hq]
  case hq=>exact λK=>by kernel_rfl
  conv=>lhs;whnf
  rewrite [(hv) false _ _ ?hq]
  case hq=>exact λK=>by kernel_rfl
  conv=>lhs;whnf
  exact j _ _ (λb=>⟨false,λK=>by kernel_rfl⟩)
def A32 (hm:m.ok) (v:Sl T) (hr:PO (rt (L+20) (n+60)) JA [.agg r.cs] (Bo true)) (c:1<=vd) (d:vd<=3) (t:∃n cs,P= .list n cs) (s:∃n cs,nds= .list n cs)
 (x:LS (rt (L+20) (n+60)) Im [P] (.tup [Bo false,I n2])) (hv:LS (rt (L+20) (n+60)) FV [.agg (BI id (.list n2 c2) nds u)] (Bo true))
 (A:PO (rt (L+20) (n+60)) Fw [.agg (CJ u)] (Bo true)) (w:LS (rt (L+20) (n+60)) JC [.agg (Z8 ca cb T ra rb)] (Bo true)):
 CS (rt (L+20) (n+61)) Ft [.agg (Et 3 m u ca cb T ra rb P id (.list n2 c2) nds u r vd)] (.tup [Bo false,Bo true]):=by
 intro K p;obtain⟨h1,h2,h,B,i,C,j,D,k,g⟩:=hm;obtain⟨n1,c1,rfl⟩:=t;obtain⟨F,c3,rfl⟩:=s;have hb:∀{z f e:Int},f<=z->z<=e->PO (rt (L+20) (n+60)) IR [I z,I f,I e] (Bo true):= λa b=>(X0 a b).o;rcases v with rfl|⟨J,c4,rfl⟩
 all_goals
  rewrite [JM];unfold IL Ip
  try rewrite [zO]
  try rewrite [bO]
  try rewrite [qO]
  try rewrite [cO]
  generalize rt (L+20) (n+60)=R at*
  conv=>lhs;whnf
  rewrite [Qj ?hc]
  case hc=>decide
  conv=>lhs;whnf
  rewrite [A]
  conv=>lhs;whnf
  rewrite [(w) false _ _ ?hq]
  case hq=>exact λK=>by kernel_rfl
  conv=>lhs;whnf
  rewrite [hb h1 (by omega)]
  conv=>lhs;whnf
  rewrite [hb h (by omega)]
  conv=>lhs;whnf
  rewrite [hb i (by omega)]
  conv=>lhs;whnf
  rewrite [hb j (by omega)]
  conv=>lhs;whnf
  rewrite [hb k (by omega)]
  conv=>lhs;whnf
  rewrite [GD]
  conv=>lhs;whnf
  rewrite [hr]
  conv=>lhs;whnf
  rewrite [hb c d]
  conv=>lhs;whnf
  rewrite [GD]
  conv=>lhs;whnf
  rewrite [WW ?hc]
  case hc=>decide
  conv=>lhs;whnf
  rewrite [GD]
  conv=>lhs;whnf
  rewrite [WW ?hc]
  case hc=>decide
  conv=>lhs;whnf
  rewrite [GD]
  conv=>lhs;whnf
  rewrite [Qj ?hc]
  case hc=>decide
  conv=>lhs;whnf
  rewrite [PU]
  conv=>lhs;whnf
  rewrite [(x) false _ _ ?hq]
  case hq=>exact λK=>by kernel_rfl
  conv=>lhs;whnf
  rewrite [(hv) false _ _ ?hq]
  case hq=>exact λK=>by kernel_rfl
  conv=>lhs;whnf
  exact p _ _ (λb=>⟨false,λK=>by kernel_rfl⟩)
end
end
section
variable {L n:Nat}
section
variable {c:Cd}
def A47 (q:40000<L) (h:c.Ok) (hn:c.ps.Nodup):CS (r! L (n+64)) GU [.agg c.cs] (S c.id):=by
 refine C3Y (n:=n+1) q Mk EA uK (iH h) ?_
 match c,h,hn with
 | .re b u,⟨hb,r⟩,_=>
  have st:=A6q (L:=L) (n:=n+1) (o:=u0) hb.m (Hq b.ts) (E? (L:=L) (n:=n+21)).o (A9k (L:=L) (n:=n+21)).o (RU L (n+21) u (by omega)).o (rY (L:=L) (n:=n+19) hb.c1 hb.c2 hb.r1 hb.r2 (by omega) hb.ts).ls;exact A35 (n:=n+1) (Hq _) (NJ []) (.inl rfl) (.inl rfl) (iH (c:= .re b u) ⟨hb,r⟩) st (A34 (n:=n) (ps:=[]) (vd:=0) (kd:=1) (by omega) hb.m (.inl rfl) hb.ts (.inl rfl) (.inl rfl) (by simp) (by simp) (by have:=Gw u;omega) (by simp) (.inl rfl) F' (by decide) hb.cl (UG L (n+21) u (by omega)) (C1x (L:=L) (n:=n+21)).ls)
 | .co b p ps none,⟨hb,a,h1,h2,f⟩,hn=>
  have k1:=a.k1;have k3:=a.k3;have e:DJ ps=Ls ps:=kC (by omega);have d:=(xR (L:=L) (n:=n+60) (ps:=ps) hn (by omega) (by omega) h2).ls;rw[<-e,h1] at d;have st:=A6p (L:=L) (n:=n+1) hb.m (Hq b.ts) (E? (L:=L) (n:=n+21)).o ⟨_,_,e⟩ ⟨_,_,rfl⟩ d (A0O (L:=L) (n:=n+17) (by omega) a).ls (RU L (n+21) p.out (JJ a)).o (rY (L:=L) (n:=n+19) hb.c1 hb.c2 hb.r1 hb.r2 (by omega) hb.ts).ls;exact A35 (n:=n+1) (Hq _) (NJ ps) (.inr ⟨_,_,rfl⟩) (.inr ⟨_,_,rfl⟩) (iH (c:= .co b p ps none) ⟨hb,a,h1,h2,f⟩) st (A34 (n:=n) (ps:=ps) (vd:=0) (kd:=2) (by omega) hb.m (.inr (.inl rfl)) hb.ts (.inr ⟨_,_,rfl⟩) (.inr ⟨_,_,rfl⟩) (by omega) (λs g=>by rw[h2 s g];decide) (by have:=Gw p.out;omega) (kD a) (.inl rfl) F' (by decide) hb.cl (UG L (n+21) _ (JJ a)) (B5v (L:=L) (n:=n+16) (by omega) a).ls)
 | .co b p ps (some (k,vd)),⟨hb,a,h1,h2,f,i,j⟩,hn=>
  have k1:=a.k1;have k3:=a.k3;have e:DJ ps=Ls ps:=kC (by omega);have d:=(xR (L:=L) (n:=n+60) (ps:=ps) hn (by omega) (by omega) h2).ls;rw[<-e,h1] at d;have st:=A6o (L:=L) (n:=n+1) hb.m (Hq b.ts) (A9m (L:=L) (n:=n+21) f).o i j ⟨_,_,e⟩ ⟨_,_,rfl⟩ d (A0O (L:=L) (n:=n+17) (by omega) a).ls (RU L (n+21) p.out (JJ a)).o (rY (L:=L) (n:=n+19) hb.c1 hb.c2 hb.r1 hb.r2 (by omega) hb.ts).ls;exact A35 (n:=n+1) (Hq _) (NJ ps) (.inr ⟨_,_,rfl⟩) (.inr ⟨_,_,rfl⟩) (iH (c:= .co b p ps (some (k,vd))) ⟨hb,a,h1,h2,f,i,j⟩) st (A34 (n:=n) (ps:=ps) (vd:=vd) (kd:=3) (by omega) hb.m (.inr (.inr rfl)) hb.ts (.inr ⟨_,_,rfl⟩) (.inr ⟨_,_,rfl⟩) (by omega) (λs g=>by rw[h2 s g];decide) (by have:=Gw p.out;omega) (kD a) (C1n f) (A2Z f) (by omega) hb.cl (UG L (n+21) _ (JJ a)) (B5v (L:=L) (n:=n+16) (by omega) a).ls)
def B4Y (j:40000<L) (h:c.Ok) (hn:¬c.ps.Nodup):CS (r! L (n+64)) GU [.agg c.cs] (S []):=by
 refine C1z (n:=n+1) Mk EA uK ?_
 match c,h,hn with
 | .re b u,_,hn=>exact absurd List.nodup_nil hn
 | .co b p ps none,⟨hb,e,h1,h2,f⟩,hn=>
  have k1:=e.k1;have k3:=e.k3;have d:DJ ps=Ls ps:=kC (by omega);have a:=(rV (L:=L) (n:=n+60) (ps:=ps) hn (by omega) h2).ls;rw[<-d,h1] at a;have st:=A33 (L:=L) (n:=n+1) hb.m (Hq b.ts) (E? (L:=L) (n:=n+21)).o ⟨_,_,d⟩ ⟨_,_,rfl⟩ a (A0O (L:=L) (n:=n+17) (by omega) e).ls (RU L (n+21) p.out (JJ e)).o (rY (L:=L) (n:=n+19) hb.c1 hb.c2 hb.r1 hb.r2 (by omega) hb.ts).ls;exact A4U (n:=n+1) (Hq _) (NJ ps) (.inr ⟨_,_,rfl⟩) (.inr ⟨_,_,rfl⟩) st
 | .co b p ps (some (k,vd)),⟨hb,e,h1,h2,f,g,i⟩,hn=>
  have k1:=e.k1;have k3:=e.k3;have d:DJ ps=Ls ps:=kC (by omega);have a:=(rV (L:=L) (n:=n+60) (ps:=ps) hn (by omega) h2).ls;rw[<-d,h1] at a;have st:=A32 (L:=L) (n:=n+1) hb.m (Hq b.ts) (A9m (L:=L) (n:=n+21) f).o g i ⟨_,_,d⟩ ⟨_,_,rfl⟩ a (A0O (L:=L) (n:=n+17) (by omega) e).ls (RU L (n+21) p.out (JJ e)).o (rY (L:=L) (n:=n+19) hb.c1 hb.c2 hb.r1 hb.r2 (by omega) hb.ts).ls;exact A4U (n:=n+1) (Hq _) (NJ ps) (.inr ⟨_,_,rfl⟩) (.inr ⟨_,_,rfl⟩) st
end
end
section
variable {D r:Nat} {α:Type}
variable {L n:Nat}
def B3g (s:List UInt8):(sha s).length=32:=XI _ 8
def R_ (c:Cd):c.id.length=32:=B3g _
def uJ (c:Cd):c.id≠[]:= λh=>by have:=R_ c;rw[h] at this;cases this
def LA (gs:List Cd) (a:AV):Prop:=a= .list gs.length (gs.flatMap Cd.cs)\/(gs=[]/\a=As)
section
variable {gs:List Cd} {a:AV} {c:Cd} {K:AV->Af} {i:Nat} {H:Hp}
def LA.len (h:LA gs a):Bq Av a K=K (I gs.length):=by
 rcases h with rfl|⟨rfl,rfl⟩<;>exact id rfl
def LA.ia (h:LA gs a) (b:i<gs.length):Dw Av a (I i) K=K (.iptr gs[i].cs):=by
 rcases h with rfl|⟨rfl,rfl⟩
 ·exact WH (f:=Cd.cs) rfl (λ_=>EA) b
 ·simp at b
def A3S:AF Ae (.iptr c.cs) H K=K (.agg c.cs):=by
 match c with
 | .re b u=>exact id rfl
 | .co b p ps none=>exact id rfl
 | .co b p ps (some (k,vd))=>exact id rfl
abbrev CH:List AV:=Et 0 ⟨0,0,0,0,0⟩ u0 [] [] As [] [] As 0 As As u0 r0 0
abbrev C33 (c:Cd):Row:= .cells true Ad c.cs
def gE (gs:List Cd):List (List UInt8×Cd):=gs.map λc=>(c.id,c)
def Yj {b:List (List UInt8×α)} {x:List UInt8} (h:x∉b.map (·.1)):Mn b x=none:=by
 induction b with
 |nil=>rfl
 |cons e b ih=>
  simp only[WR,Uf,not_or] at h;unfold Mn;rw[C4 (Ne.symm h.1)];exact ih h.2
def YG {b:List (List UInt8×α)} {x:List UInt8} {v:α} (h:x∉b.map (·.1)):LJ b x v=b++[(x,v)]:=by
 induction b with
 |nil=>rfl
 |cons e b ih=>
  simp only[WR,Uf,not_or] at h;unfold LJ;rw[C4 (Ne.symm h.1),ih h.2];rfl
def Wp (gs:List Cd):(gE gs).map (·.1)=gs.map Cd.id:=by simp[gE]
end
structure GOk (gs:List Cd):Prop where
 ok:∀c∈gs,c.Ok
 nd:∀c∈gs,c.ps.Nodup
 ids:(gs.map Cd.id).Nodup
 len:gs.length<=8
section
variable {K:KV} {x:Af} {gs:List Cd} {a:AV}
abbrev DF (c:Cd):AV:= .agg c.cs
def C1G {k12:AV->AV->Hp->Af} {w:AV} (m:GOk gs) (M:40000<L) (N:LA gs a)
 (Q:∀H,Aj H r=some (.map false (Dc DF (gE gs)) none)->k12 w (.mp r) H=x):∀(f i:Nat) (H:Hp),i<=gs.length->gs.length-i<f->Aj H r=some (.map false (Dc DF (gE (gs.take i))) none)->Wf H->
 Ye (L+20) (r! L (n+63)) K k12 f w (.mp r) a (I gs.length) (I i) H=x:=by
 intro f
 induction f with
 |zero=>intro i H _ h;omega
 |succ f ih=>
  intro i H Y X s wf;rw[wS];unfold Yf Iv GT A0 LW HQ;by_cases h:i<gs.length
  ·have hm:=Qe h;have q:=B1v (L:=L) (n:=n) M (m.ok _ hm) (m.nd _ hm);have d:gs[i].id∉(gE (gs.take i)).map (·.1):= λhc=>by
    rw[Wp] at hc;have u:=m.ids;rw[<-l3a i gs,YN,l38] at u;have P:gs[i].id∈(gs.drop i).map Cd.id:=Ma.2 ⟨_,by rw[vA h];exact List.mem_cons_self,rfl⟩;exact u.2.2 _ hc _ P rfl
   rw[FR (by omega),Cy,N.ia h,A3S,B1 (cs:=CH) rfl,Cc (cs:=CH) (vs:=gs[i].cs) (Aw (by simp)) EA rfl Mk];obtain⟨A,B,g,w1,k1⟩:=Ih (e:=Ad) (zs:=CH) (vs:=gs[i].cs) wf EA;rw[<-B,Bu rfl EA.symm g,AQ q (uK A)];have j:=(k1 _ _ s).1;have t:∀(F:Value->Af),LQ (S gs[i].id) F=F (SV gs[i].id):= λF=>id rfl;rw[t,A3R (f:=DF) (b:=gE (gs.take i)) (λK=>YR j),Yj d];simp only[];rw[F3,F2,B1 (cs:=CH) rfl]
   erw [Cc (cs:=CH) (vs:=CH) (Aw (by simp)) rfl rfl rfl]
   obtain⟨V,C,O,R,y⟩:=Ih (e:=Ad) (zs:=CH) (vs:=CH) w1 rfl;rw[<-C];have k:=(y _ _ j).1;have p:=(y _ _ g).1;have q1:∀{K},Go.Abs.Ap Ai .eql (S gs[i].id) (S []) K=K (Bo false):= λ{K}=>by rw[LV,IG (uJ _)]
   simp only[gT,Cn,q1,SS];rw[Bj,Bu rfl EA.symm p,t,gZ (f:=DF) (v:=gs[i]) k,YG d,Dg (by have:=m.len;omega)];have J:gE (gs.take i)++[(gs[i].id,gs[i])]=gE (gs.take (i+1)):=by
    rw[kY h,gE,gE,YN];rfl
   rw[J];exact ih (i+1) _ (by omega) (by omega) ((BB k).trans rfl) (Bn R)
  ·rw[FP (by omega),Bj];have:i=gs.length:=by omega
   subst this;rw[vB] at s;exact Q H s
abbrev gV (gs:List Cd):AV:= .imap (Dc DF (gE gs))
def uH {m:ND} {u o:UD} {ca cb ra rb:List UInt8} {T P ins b:AV} {kd id vd:Int} {r:RD} {H:Hp} (g:Sl T) (f:Sl P) (d:Sl ins) (e:Sl b):Fx true (D+3) (.agg (Et kd m u ca cb T ra rb P id ins b o r vd)) (.agg (Et kd m u ca cb T ra rb P id ins b o r vd)) H false:=by
 rcases g with rfl|⟨_,_,rfl⟩<;>rcases f with rfl|⟨_,_,rfl⟩<;>rcases d with rfl|⟨_,_,rfl⟩<;>rcases e with rfl|⟨_,_,rfl⟩<;>exact λK=>by kernel_rfl
def A48 {c:Cd} {H:Hp}:Fx true (D+3) (.agg c.cs) (.agg c.cs) H false:=by
 match c with
 | .re b u=>exact uH (Hq _) (NJ _) (.inl rfl) (.inl rfl)
 | .co b p ps none=>exact uH (Hq _) (NJ _) (.inr ⟨_,_,rfl⟩) (.inr ⟨_,_,rfl⟩)
 | .co b p ps (some (k,vd))=>exact uH (Hq _) (NJ _) (.inr ⟨_,_,rfl⟩) (.inr ⟨_,_,rfl⟩)
def C2H {H:Hp} {es:List (List UInt8×Cd)} (h:Aj H r=some (.map false (Dc DF es) none)):Fx true (D+4) (.mp r) (.imap (Dc DF es)) H true:=by
 intro K;show IJ H r (λx=>oM x λes=>QH (HP true H (D+3)) es λ_ b=>K true (.imap b))=_;rw[Bf h];show QH (HP true H (D+3)) (Dc DF es) _=_;have e:∀(es:List (List UInt8×Cd)) (F:Bool->List (Value×AV)->Af),QH (HP true H (D+3)) (Dc DF es) F=F false (Dc DF es):=by
  intro es
  induction es with
  |nil=>intro F;rfl
  |cons a es ih=>
   intro F;show HP true H (D+3) (.agg a.2.cs) (λq d=>QH (HP true H (D+3)) (Dc DF es) λg f=>F (@Bool.rec (λ_=>Bool) g true q) ((SV a.1,d)::f))=_;rw[A48,ih];rfl
 rw[e]
def B6m (e:GOk gs) (k:40000<L) (b:LA gs a) (K:KV) (j:∀g f,(∃q,Fx true depth g (.tup [gV gs,Bo true]) f q)->K g f=some (.tup [gV gs,Bo true],[])):(r! L (n+64)).call L0 [a] [] K=some (.tup [gV gs,Bo true],[]):=by
 rw[I!];unfold ZU A0 LW HQ;have em:∀(H:Hp) (K:KV),L4 Ae H K=K (.mp (Ao H)) ((Ao H,.map false [] none)::H):= λH K=>by
  show Ig H (λs=>K (.mp s) ((s,.map false [] (kS Ae.d))::H))=_;rw[BV];rfl
 rw[em];simp only[BK];have h:(AV.v (.int .i64 0))=I ((0:Nat):Int):=rfl;rw[b.len,h];refine C1G e k b (λH m=> ?_) (L+20) 0 _ (by omega) (by have:=e.len;omega) (Aw (by simp)) (AI Fk);rw[b.len,E5,IG (by have:=e.len;omega),Bj];exact j _ _ ⟨_,dG (D:=depth-1) (Am (C2H (D:=depth-5) m) (Am (q:=false) C7 AJ))⟩
end
end
end Go.Abs
end
