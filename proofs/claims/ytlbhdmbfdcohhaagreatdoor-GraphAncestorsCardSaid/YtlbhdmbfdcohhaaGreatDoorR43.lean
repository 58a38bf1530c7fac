import Derived.Test.YtlbhdmbfdcohhaaGreatDoorR32
import Derived.Test.YtlbhdmbfdcohhaaGreatDoorR33
import Derived.Test.YtlbhdmbfdcohhaaGreatDoorR34
import Derived.Test.YtlbhdmbfdcohhaaGreatDoorR35
import Derived.Test.YtlbhdmbfdcohhaaGreatDoorR36
import Derived.Test.YtlbhdmbfdcohhaaGreatDoorR37
import Derived.Test.YtlbhdmbfdcohhaaGreatDoorR38
import Derived.Test.YtlbhdmbfdcohhaaGreatDoorR39
import Derived.Test.YtlbhdmbfdcohhaaGreatDoorR40
import Derived.Test.YtlbhdmbfdcohhaaGreatDoorR41
import Derived.Test.YtlbhdmbfdcohhaaGreatDoorR42
set_option linter.all false
set_option maxHeartbeats 100000000
noncomputable section
namespace Go.Abs
open Go.RowKit Go.Proofs
set_option maxRecDepth 100000
section
variable {L n:Nat}
theorem RV.ls {R:Rt} {f:Nat} {args':List AV} {v:AV} (h:RV R f args' v):LS R f args' v:= λq args H ha K=>by rw[←zO];exact A0b h ha
def biN (op l r:Nat):Nd:=⟨op,[],[],u0,0,l,r⟩
def poN (l e:Nat):Nd:=⟨7,[],[],u0,Yv e,l,0⟩
def A7O:Option Nat→AV
 |some k=> .tup [.agg (Cc (uu k)),I 0]
 |none=> .tup [.agg E5,I 90]
section
variable {id:Int} {o:UD} {xs:List Nd} {ks:List Nat} {l r e i k:Nat} {q:Option Nat} {I1:AV}
theorem ks3 (h1:1≤ks.length) (h3:ks.length≤3):(∃a,ks=[a])∨(∃a b,ks=[a,b])∨∃a b c,ks=[a,b,c]:=by
 match ks,h1,h3 with
 |[a],_,_=>exact .inl ⟨a,rfl⟩
 |[a,b],_,_=>exact .inr (.inl ⟨a,b,rfl⟩)
 |[a,b,c],_,_=>exact .inr (.inr ⟨a,b,c,rfl⟩)
theorem SL {l:Nat} {a:Nat} (h:l<[a].length):l=0:=by simpa using h
theorem RE {l:Nat} {a b:Nat} (h:l<[a,b].length):l=0∨l=1:=by simp at h;omega
theorem SK {l:Nat} {a b c:Nat} (h:l<[a,b,c].length):l=0∨l=1∨l=2:=by simp at h;omega
theorem lt5 {e:Nat} (h:e<5):e=0∨e=1∨e=2∨e=3∨e=4:=by omega
theorem B38 (h1:1≤ks.length) (h3:ks.length≤3) (hl:l<ks.length) (hr:r<ks.length):RV (rt (L+20) (n+2)) DA [.agg (Bx id (BC ks) (BU xs) o),.agg (biN 3 l r).cs,I ks.length] (.tup [Bo true,Bo true]):=by
 rcases ks3 h1 h3 with⟨a,rfl⟩|⟨a,b,rfl⟩|⟨a,b,c,rfl⟩
 ·obtain rfl:=SL hl;obtain rfl:=SL hr;exact λb=>by kernel_rfl
 ·rcases RE hl with rfl|rfl<;>rcases RE hr with rfl|rfl<;>(exact λb=>by kernel_rfl)
 ·rcases SK hl with rfl|rfl|rfl<;>rcases SK hr with rfl|rfl|rfl<;>(exact λb=>by kernel_rfl)
attribute [local irreducible] YV rt in
theorem B32 (h1:1≤ks.length) (h3:ks.length≤3) (hl:l<ks.length) (hr:r<ks.length) (hS:PO (rt (L+20) (n+41)) NN [.agg (uu (ks.getD l 0)).cs,.agg (uu (ks.getD r 0)).cs] (Ik q)):CS (rt (L+20) (n+42)) BZ [.agg (Bx id (BC ks) (BU xs) o),.agg (biN 3 l r).cs,I ks.length,OQ ks] (A7O q):=by
 intro K hK
 have hsh:=(B38 (L:=L) (n:=n+39) (id:=id) (o:=o) (xs:=xs) h1 h3 hl hr).ls
 rewrite [F1]
 unfold XA2 Ar
 rewrite [zO]
 generalize rt (L+20) (n+41)=R at*
 revert hS hsh
 rcases ks3 h1 h3 with⟨a,rfl⟩|⟨a,b,rfl⟩|⟨a,b,c,rfl⟩
 ·obtain rfl:=SL hl;obtain rfl:=SL hr;intro hS hsh;simp only[RZ,RY] at hS;(conv=>lhs;whnf);rewrite [hsh false _ _ ?hq];(case hq=>exact λK=>by kernel_rfl);(conv=>lhs;whnf);rewrite [hS];cases q<;>(conv=>lhs;whnf)<;>exact hK _ _ (λb=>⟨false,λK=>by kernel_rfl⟩)
 ·rcases RE hl with rfl|rfl<;>rcases RE hr with rfl|rfl<;>(intro hS hsh;simp only[RZ,RY] at hS;(conv=>lhs;whnf);rewrite [hsh false _ _ ?hq];(case hq=>exact λK=>by kernel_rfl);(conv=>lhs;whnf);rewrite [hS];cases q<;>(conv=>lhs;whnf)<;>exact hK _ _ (λb=>⟨false,λK=>by kernel_rfl⟩))
 ·rcases SK hl with rfl|rfl|rfl<;>rcases SK hr with rfl|rfl|rfl<;>(intro hS hsh;simp only[RZ,RY] at hS;(conv=>lhs;whnf);rewrite [hsh false _ _ ?hq];(case hq=>exact λK=>by kernel_rfl);(conv=>lhs;whnf);rewrite [hS];cases q<;>(conv=>lhs;whnf)<;>exact hK _ _ (λb=>⟨false,λK=>by kernel_rfl⟩))
theorem B3c (h1:1≤ks.length) (h3:ks.length≤3) (hl:l<ks.length) (hr:r<ks.length):RV (rt (L+20) (n+2)) DA [.agg (Bx id (BC ks) (BU xs) o),.agg (biN 4 l r).cs,I ks.length] (.tup [Bo true,Bo true]):=by
 rcases ks3 h1 h3 with⟨a,rfl⟩|⟨a,b,rfl⟩|⟨a,b,c,rfl⟩
 ·obtain rfl:=SL hl;obtain rfl:=SL hr;exact λb=>by kernel_rfl
 ·rcases RE hl with rfl|rfl<;>rcases RE hr with rfl|rfl<;>(exact λb=>by kernel_rfl)
 ·rcases SK hl with rfl|rfl|rfl<;>rcases SK hr with rfl|rfl|rfl<;>(exact λb=>by kernel_rfl)
attribute [local irreducible] YV rt in
theorem B36 (h1:1≤ks.length) (h3:ks.length≤3) (hl:l<ks.length) (hr:r<ks.length) (hS:PO (rt (L+20) (n+41)) GC [.agg (uu (ks.getD l 0)).cs,.agg (uu (ks.getD r 0)).cs] (Ik q)):CS (rt (L+20) (n+42)) BZ [.agg (Bx id (BC ks) (BU xs) o),.agg (biN 4 l r).cs,I ks.length,OQ ks] (A7O q):=by
 intro K hK
 have hsh:=(B3c (L:=L) (n:=n+39) (id:=id) (o:=o) (xs:=xs) h1 h3 hl hr).ls
 rewrite [F1]
 unfold XA2 Ar
 rewrite [zO]
 generalize rt (L+20) (n+41)=R at*
 revert hS hsh
 rcases ks3 h1 h3 with⟨a,rfl⟩|⟨a,b,rfl⟩|⟨a,b,c,rfl⟩
 ·obtain rfl:=SL hl;obtain rfl:=SL hr;intro hS hsh;simp only[RZ,RY] at hS;(conv=>lhs;whnf);rewrite [hsh false _ _ ?hq];(case hq=>exact λK=>by kernel_rfl);(conv=>lhs;whnf);rewrite [hS];cases q<;>(conv=>lhs;whnf)<;>exact hK _ _ (λb=>⟨false,λK=>by kernel_rfl⟩)
 ·rcases RE hl with rfl|rfl<;>rcases RE hr with rfl|rfl<;>(intro hS hsh;simp only[RZ,RY] at hS;(conv=>lhs;whnf);rewrite [hsh false _ _ ?hq];(case hq=>exact λK=>by kernel_rfl);(conv=>lhs;whnf);rewrite [hS];cases q<;>(conv=>lhs;whnf)<;>exact hK _ _ (λb=>⟨false,λK=>by kernel_rfl⟩))
 ·rcases SK hl with rfl|rfl|rfl<;>rcases SK hr with rfl|rfl|rfl<;>(intro hS hsh;simp only[RZ,RY] at hS;(conv=>lhs;whnf);rewrite [hsh false _ _ ?hq];(case hq=>exact λK=>by kernel_rfl);(conv=>lhs;whnf);rewrite [hS];cases q<;>(conv=>lhs;whnf)<;>exact hK _ _ (λb=>⟨false,λK=>by kernel_rfl⟩))
theorem B3a (h1:1≤ks.length) (h3:ks.length≤3) (hl:l<ks.length) (hr:r<ks.length):RV (rt (L+20) (n+2)) DA [.agg (Bx id (BC ks) (BU xs) o),.agg (biN 5 l r).cs,I ks.length] (.tup [Bo true,Bo true]):=by
 rcases ks3 h1 h3 with⟨a,rfl⟩|⟨a,b,rfl⟩|⟨a,b,c,rfl⟩
 ·obtain rfl:=SL hl;obtain rfl:=SL hr;exact λb=>by kernel_rfl
 ·rcases RE hl with rfl|rfl<;>rcases RE hr with rfl|rfl<;>(exact λb=>by kernel_rfl)
 ·rcases SK hl with rfl|rfl|rfl<;>rcases SK hr with rfl|rfl|rfl<;>(exact λb=>by kernel_rfl)
attribute [local irreducible] YV rt in
theorem B34 (h1:1≤ks.length) (h3:ks.length≤3) (hl:l<ks.length) (hr:r<ks.length) (hS:PO (rt (L+20) (n+41)) La [.agg (uu (ks.getD l 0)).cs,.agg (uu (ks.getD r 0)).cs] (Ik q)):CS (rt (L+20) (n+42)) BZ [.agg (Bx id (BC ks) (BU xs) o),.agg (biN 5 l r).cs,I ks.length,OQ ks] (A7O q):=by
 intro K hK
 have hsh:=(B3a (L:=L) (n:=n+39) (id:=id) (o:=o) (xs:=xs) h1 h3 hl hr).ls
 rewrite [F1]
 unfold XA2 Ar
 rewrite [zO]
 generalize rt (L+20) (n+41)=R at*
 revert hS hsh
 rcases ks3 h1 h3 with⟨a,rfl⟩|⟨a,b,rfl⟩|⟨a,b,c,rfl⟩
 ·obtain rfl:=SL hl;obtain rfl:=SL hr;intro hS hsh;simp only[RZ,RY] at hS;(conv=>lhs;whnf);rewrite [hsh false _ _ ?hq];(case hq=>exact λK=>by kernel_rfl);(conv=>lhs;whnf);rewrite [hS];cases q<;>(conv=>lhs;whnf)<;>exact hK _ _ (λb=>⟨false,λK=>by kernel_rfl⟩)
 ·rcases RE hl with rfl|rfl<;>rcases RE hr with rfl|rfl<;>(intro hS hsh;simp only[RZ,RY] at hS;(conv=>lhs;whnf);rewrite [hsh false _ _ ?hq];(case hq=>exact λK=>by kernel_rfl);(conv=>lhs;whnf);rewrite [hS];cases q<;>(conv=>lhs;whnf)<;>exact hK _ _ (λb=>⟨false,λK=>by kernel_rfl⟩))
 ·rcases SK hl with rfl|rfl|rfl<;>rcases SK hr with rfl|rfl|rfl<;>(intro hS hsh;simp only[RZ,RY] at hS;(conv=>lhs;whnf);rewrite [hsh false _ _ ?hq];(case hq=>exact λK=>by kernel_rfl);(conv=>lhs;whnf);rewrite [hS];cases q<;>(conv=>lhs;whnf)<;>exact hK _ _ (λb=>⟨false,λK=>by kernel_rfl⟩))
theorem B3b (h1:1≤ks.length) (h3:ks.length≤3) (hl:l<ks.length) (hr:r<ks.length):RV (rt (L+20) (n+2)) DA [.agg (Bx id (BC ks) (BU xs) o),.agg (biN 6 l r).cs,I ks.length] (.tup [Bo true,Bo true]):=by
 rcases ks3 h1 h3 with⟨a,rfl⟩|⟨a,b,rfl⟩|⟨a,b,c,rfl⟩
 ·obtain rfl:=SL hl;obtain rfl:=SL hr;exact λb=>by kernel_rfl
 ·rcases RE hl with rfl|rfl<;>rcases RE hr with rfl|rfl<;>(exact λb=>by kernel_rfl)
 ·rcases SK hl with rfl|rfl|rfl<;>rcases SK hr with rfl|rfl|rfl<;>(exact λb=>by kernel_rfl)
attribute [local irreducible] YV rt in
theorem B35 (h1:1≤ks.length) (h3:ks.length≤3) (hl:l<ks.length) (hr:r<ks.length) (hS:PO (rt (L+20) (n+41)) Lb [.agg (uu (ks.getD l 0)).cs,.agg (uu (ks.getD r 0)).cs] (Ik q)):CS (rt (L+20) (n+42)) BZ [.agg (Bx id (BC ks) (BU xs) o),.agg (biN 6 l r).cs,I ks.length,OQ ks] (A7O q):=by
 intro K hK
 have hsh:=(B3b (L:=L) (n:=n+39) (id:=id) (o:=o) (xs:=xs) h1 h3 hl hr).ls
 rewrite [F1]
 unfold XA2 Ar
 rewrite [zO]
 generalize rt (L+20) (n+41)=R at*
 revert hS hsh
 rcases ks3 h1 h3 with⟨a,rfl⟩|⟨a,b,rfl⟩|⟨a,b,c,rfl⟩
 ·obtain rfl:=SL hl;obtain rfl:=SL hr;intro hS hsh;simp only[RZ,RY] at hS;(conv=>lhs;whnf);rewrite [hsh false _ _ ?hq];(case hq=>exact λK=>by kernel_rfl);(conv=>lhs;whnf);rewrite [hS];cases q<;>(conv=>lhs;whnf)<;>exact hK _ _ (λb=>⟨false,λK=>by kernel_rfl⟩)
 ·rcases RE hl with rfl|rfl<;>rcases RE hr with rfl|rfl<;>(intro hS hsh;simp only[RZ,RY] at hS;(conv=>lhs;whnf);rewrite [hsh false _ _ ?hq];(case hq=>exact λK=>by kernel_rfl);(conv=>lhs;whnf);rewrite [hS];cases q<;>(conv=>lhs;whnf)<;>exact hK _ _ (λb=>⟨false,λK=>by kernel_rfl⟩))
 ·rcases SK hl with rfl|rfl|rfl<;>rcases SK hr with rfl|rfl|rfl<;>(intro hS hsh;simp only[RZ,RY] at hS;(conv=>lhs;whnf);rewrite [hsh false _ _ ?hq];(case hq=>exact λK=>by kernel_rfl);(conv=>lhs;whnf);rewrite [hS];cases q<;>(conv=>lhs;whnf)<;>exact hK _ _ (λb=>⟨false,λK=>by kernel_rfl⟩))
theorem B39 (h1:1≤ks.length) (h3:ks.length≤3) (hl:l<ks.length) (he:e<5):RV (rt (L+20) (n+2)) DA [.agg (Bx id (BC ks) (BU xs) o),.agg (poN l e).cs,I ks.length] (.tup [Bo true,Bo true]):=by
 rcases ks3 h1 h3 with⟨a,rfl⟩|⟨a,b,rfl⟩|⟨a,b,c,rfl⟩
 ·obtain rfl:=SL hl;rcases lt5 he with rfl|rfl|rfl|rfl|rfl<;>(exact λb=>by kernel_rfl)
 ·rcases RE hl with rfl|rfl<;>rcases lt5 he with rfl|rfl|rfl|rfl|rfl<;>(exact λb=>by kernel_rfl)
 ·rcases SK hl with rfl|rfl|rfl<;>rcases lt5 he with rfl|rfl|rfl|rfl|rfl<;>(exact λb=>by kernel_rfl)
attribute [local irreducible] YV rt in
theorem B33 (h1:1≤ks.length) (h3:ks.length≤3) (hl:l<ks.length) (he:e<5) (hS:PO (rt (L+20) (n+41)) Hu [.agg (uu (ks.getD l 0)).cs,.agg [I (Yv e),I 1]] (Ik q)):CS (rt (L+20) (n+42)) BZ [.agg (Bx id (BC ks) (BU xs) o),.agg (poN l e).cs,I ks.length,OQ ks] (A7O q):=by
 intro K hK
 have hsh:=(B39 (L:=L) (n:=n+39) (id:=id) (o:=o) (xs:=xs) h1 h3 hl he).ls
 rewrite [F1]
 unfold XA2 Ar
 rewrite [zO]
 generalize rt (L+20) (n+41)=R at*
 revert hS hsh
 rcases ks3 h1 h3 with⟨a,rfl⟩|⟨a,b,rfl⟩|⟨a,b,c,rfl⟩
 ·obtain rfl:=SL hl;rcases lt5 he with rfl|rfl|rfl|rfl|rfl<;>(intro hS hsh;simp only[RZ,RY] at hS;(conv=>lhs;whnf);rewrite [hsh false _ _ ?hq];(case hq=>exact λK=>by kernel_rfl);(conv=>lhs;whnf);refine l2d (hS _ _) ?_;cases q<;>(conv=>lhs;whnf)<;>exact hK _ _ (λb=>⟨false,λK=>by kernel_rfl⟩))
 ·rcases RE hl with rfl|rfl<;>rcases lt5 he with rfl|rfl|rfl|rfl|rfl<;>(intro hS hsh;simp only[RZ,RY] at hS;(conv=>lhs;whnf);rewrite [hsh false _ _ ?hq];(case hq=>exact λK=>by kernel_rfl);(conv=>lhs;whnf);refine l2d (hS _ _) ?_;cases q<;>(conv=>lhs;whnf)<;>exact hK _ _ (λb=>⟨false,λK=>by kernel_rfl⟩))
 ·rcases SK hl with rfl|rfl|rfl<;>rcases lt5 he with rfl|rfl|rfl|rfl|rfl<;>(intro hS hsh;simp only[RZ,RY] at hS;(conv=>lhs;whnf);rewrite [hsh false _ _ ?hq];(case hq=>exact λK=>by kernel_rfl);(conv=>lhs;whnf);refine l2d (hS _ _) ?_;cases q<;>(conv=>lhs;whnf)<;>exact hK _ _ (λb=>⟨false,λK=>by kernel_rfl⟩))
theorem B0B (h1:1≤ks.length) (h3:ks.length≤3) (hl:l<ks.length) (hr:r<ks.length):RV (rt (L+20) (n+2)) B5 [T3 I1 (OQ ks),VR (Fb.getD 3 []) YX DQ,.agg (biN 3 l r).cs] (Bo true):=by
 rcases ks3 h1 h3 with⟨a,rfl⟩|⟨a,b,rfl⟩|⟨a,b,c,rfl⟩
 ·obtain rfl:=SL hl;obtain rfl:=SL hr;exact λb=>by kernel_rfl
 ·rcases RE hl with rfl|rfl<;>rcases RE hr with rfl|rfl<;>(exact λb=>by kernel_rfl)
 ·rcases SK hl with rfl|rfl|rfl<;>rcases SK hr with rfl|rfl|rfl<;>(exact λb=>by kernel_rfl)
attribute [local irreducible] YV rt in
theorem B2k (h1:1≤ks.length) (h3:ks.length≤3) (hl:l<ks.length) (hr:r<ks.length) (hS:PO (rt (L+20) (n+40)) PF [.agg (uu (ks.getD l 0)).cs,.agg (uu (ks.getD r 0)).cs] (Ik (some k))):CS (rt (L+20) (n+41)) DQ [T3 I1 (OQ ks),.agg (biN 3 l r).cs] (.tup [.agg (Cc (uu k)),I 0]):=by
 intro K hK
 rewrite [O4]
 unfold GO
 rewrite [zO]
 generalize rt (L+20) (n+40)=R at*
 revert hS
 rcases ks3 h1 h3 with⟨a,rfl⟩|⟨a,b,rfl⟩|⟨a,b,c,rfl⟩
 ·obtain rfl:=SL hl;obtain rfl:=SL hr;intro hS;simp only[RZ,RY] at hS;(conv=>lhs;whnf);rewrite [hS];(conv=>lhs;whnf);exact hK _ _ (λb=>⟨false,λK=>by kernel_rfl⟩)
 ·rcases RE hl with rfl|rfl<;>rcases RE hr with rfl|rfl<;>(intro hS;simp only[RZ,RY] at hS;(conv=>lhs;whnf);rewrite [hS];(conv=>lhs;whnf);exact hK _ _ (λb=>⟨false,λK=>by kernel_rfl⟩))
 ·rcases SK hl with rfl|rfl|rfl<;>rcases SK hr with rfl|rfl|rfl<;>(intro hS;simp only[RZ,RY] at hS;(conv=>lhs;whnf);rewrite [hS];(conv=>lhs;whnf);exact hK _ _ (λb=>⟨false,λK=>by kernel_rfl⟩))
theorem B0F (h1:1≤ks.length) (h3:ks.length≤3) (hl:l<ks.length) (hr:r<ks.length):RV (rt (L+20) (n+2)) B5 [T3 I1 (OQ ks),VR (Fb.getD 4 []) YX CE,.agg (biN 4 l r).cs] (Bo true):=by
 rcases ks3 h1 h3 with⟨a,rfl⟩|⟨a,b,rfl⟩|⟨a,b,c,rfl⟩
 ·obtain rfl:=SL hl;obtain rfl:=SL hr;exact λb=>by kernel_rfl
 ·rcases RE hl with rfl|rfl<;>rcases RE hr with rfl|rfl<;>(exact λb=>by kernel_rfl)
 ·rcases SK hl with rfl|rfl|rfl<;>rcases SK hr with rfl|rfl|rfl<;>(exact λb=>by kernel_rfl)
attribute [local irreducible] YV rt in
theorem B2o (h1:1≤ks.length) (h3:ks.length≤3) (hl:l<ks.length) (hr:r<ks.length) (hS:PO (rt (L+20) (n+40)) Ho [.agg (uu (ks.getD l 0)).cs,.agg (uu (ks.getD r 0)).cs] (Ik (some k))):CS (rt (L+20) (n+41)) CE [T3 I1 (OQ ks),.agg (biN 4 l r).cs] (.tup [.agg (Cc (uu k)),I 0]):=by
 intro K hK
 rewrite [KL]
 unfold EC
 rewrite [zO]
 generalize rt (L+20) (n+40)=R at*
 revert hS
 rcases ks3 h1 h3 with⟨a,rfl⟩|⟨a,b,rfl⟩|⟨a,b,c,rfl⟩
 ·obtain rfl:=SL hl;obtain rfl:=SL hr;intro hS;simp only[RZ,RY] at hS;(conv=>lhs;whnf);rewrite [hS];(conv=>lhs;whnf);exact hK _ _ (λb=>⟨false,λK=>by kernel_rfl⟩)
 ·rcases RE hl with rfl|rfl<;>rcases RE hr with rfl|rfl<;>(intro hS;simp only[RZ,RY] at hS;(conv=>lhs;whnf);rewrite [hS];(conv=>lhs;whnf);exact hK _ _ (λb=>⟨false,λK=>by kernel_rfl⟩))
 ·rcases SK hl with rfl|rfl|rfl<;>rcases SK hr with rfl|rfl|rfl<;>(intro hS;simp only[RZ,RY] at hS;(conv=>lhs;whnf);rewrite [hS];(conv=>lhs;whnf);exact hK _ _ (λb=>⟨false,λK=>by kernel_rfl⟩))
theorem B0D (h1:1≤ks.length) (h3:ks.length≤3) (hl:l<ks.length) (hr:r<ks.length):RV (rt (L+20) (n+2)) B5 [T3 I1 (OQ ks),VR (Fb.getD 5 []) YX Da,.agg (biN 5 l r).cs] (Bo true):=by
 rcases ks3 h1 h3 with⟨a,rfl⟩|⟨a,b,rfl⟩|⟨a,b,c,rfl⟩
 ·obtain rfl:=SL hl;obtain rfl:=SL hr;exact λb=>by kernel_rfl
 ·rcases RE hl with rfl|rfl<;>rcases RE hr with rfl|rfl<;>(exact λb=>by kernel_rfl)
 ·rcases SK hl with rfl|rfl|rfl<;>rcases SK hr with rfl|rfl|rfl<;>(exact λb=>by kernel_rfl)
attribute [local irreducible] YV rt in
theorem B2m (h1:1≤ks.length) (h3:ks.length≤3) (hl:l<ks.length) (hr:r<ks.length) (hS:PO (rt (L+20) (n+40)) PH [.agg (uu (ks.getD l 0)).cs,.agg (uu (ks.getD r 0)).cs] (Ik (some k))):CS (rt (L+20) (n+41)) Da [T3 I1 (OQ ks),.agg (biN 5 l r).cs] (.tup [.agg (Cc (uu k)),I 0]):=by
 intro K hK
 rewrite [Mm]
 unfold F3
 rewrite [zO]
 generalize rt (L+20) (n+40)=R at*
 revert hS
 rcases ks3 h1 h3 with⟨a,rfl⟩|⟨a,b,rfl⟩|⟨a,b,c,rfl⟩
 ·obtain rfl:=SL hl;obtain rfl:=SL hr;intro hS;simp only[RZ,RY] at hS;(conv=>lhs;whnf);rewrite [hS];(conv=>lhs;whnf);exact hK _ _ (λb=>⟨false,λK=>by kernel_rfl⟩)
 ·rcases RE hl with rfl|rfl<;>rcases RE hr with rfl|rfl<;>(intro hS;simp only[RZ,RY] at hS;(conv=>lhs;whnf);rewrite [hS];(conv=>lhs;whnf);exact hK _ _ (λb=>⟨false,λK=>by kernel_rfl⟩))
 ·rcases SK hl with rfl|rfl|rfl<;>rcases SK hr with rfl|rfl|rfl<;>(intro hS;simp only[RZ,RY] at hS;(conv=>lhs;whnf);rewrite [hS];(conv=>lhs;whnf);exact hK _ _ (λb=>⟨false,λK=>by kernel_rfl⟩))
theorem B0E (h1:1≤ks.length) (h3:ks.length≤3) (hl:l<ks.length) (hr:r<ks.length):RV (rt (L+20) (n+2)) B5 [T3 I1 (OQ ks),VR (Fb.getD 6 []) YX CP,.agg (biN 6 l r).cs] (Bo true):=by
 rcases ks3 h1 h3 with⟨a,rfl⟩|⟨a,b,rfl⟩|⟨a,b,c,rfl⟩
 ·obtain rfl:=SL hl;obtain rfl:=SL hr;exact λb=>by kernel_rfl
 ·rcases RE hl with rfl|rfl<;>rcases RE hr with rfl|rfl<;>(exact λb=>by kernel_rfl)
 ·rcases SK hl with rfl|rfl|rfl<;>rcases SK hr with rfl|rfl|rfl<;>(exact λb=>by kernel_rfl)
attribute [local irreducible] YV rt in
theorem B2n (h1:1≤ks.length) (h3:ks.length≤3) (hl:l<ks.length) (hr:r<ks.length) (hS:PO (rt (L+20) (n+40)) PI [.agg (uu (ks.getD l 0)).cs,.agg (uu (ks.getD r 0)).cs] (Ik (some k))):CS (rt (L+20) (n+41)) CP [T3 I1 (OQ ks),.agg (biN 6 l r).cs] (.tup [.agg (Cc (uu k)),I 0]):=by
 intro K hK
 rewrite [LH]
 unfold Fj
 rewrite [zO]
 generalize rt (L+20) (n+40)=R at*
 revert hS
 rcases ks3 h1 h3 with⟨a,rfl⟩|⟨a,b,rfl⟩|⟨a,b,c,rfl⟩
 ·obtain rfl:=SL hl;obtain rfl:=SL hr;intro hS;simp only[RZ,RY] at hS;(conv=>lhs;whnf);rewrite [hS];(conv=>lhs;whnf);exact hK _ _ (λb=>⟨false,λK=>by kernel_rfl⟩)
 ·rcases RE hl with rfl|rfl<;>rcases RE hr with rfl|rfl<;>(intro hS;simp only[RZ,RY] at hS;(conv=>lhs;whnf);rewrite [hS];(conv=>lhs;whnf);exact hK _ _ (λb=>⟨false,λK=>by kernel_rfl⟩))
 ·rcases SK hl with rfl|rfl|rfl<;>rcases SK hr with rfl|rfl|rfl<;>(intro hS;simp only[RZ,RY] at hS;(conv=>lhs;whnf);rewrite [hS];(conv=>lhs;whnf);exact hK _ _ (λb=>⟨false,λK=>by kernel_rfl⟩))
theorem B0C (h1:1≤ks.length) (h3:ks.length≤3) (hl:l<ks.length) (he:e<5):RV (rt (L+20) (n+2)) B5 [T3 I1 (OQ ks),VR (Fb.getD 7 []) C1C Dx,.agg (poN l e).cs] (Bo true):=by
 rcases ks3 h1 h3 with⟨a,rfl⟩|⟨a,b,rfl⟩|⟨a,b,c,rfl⟩
 ·obtain rfl:=SL hl;rcases lt5 he with rfl|rfl|rfl|rfl|rfl<;>(exact λb=>by kernel_rfl)
 ·rcases RE hl with rfl|rfl<;>rcases lt5 he with rfl|rfl|rfl|rfl|rfl<;>(exact λb=>by kernel_rfl)
 ·rcases SK hl with rfl|rfl|rfl<;>rcases lt5 he with rfl|rfl|rfl|rfl|rfl<;>(exact λb=>by kernel_rfl)
attribute [local irreducible] YV rt in
theorem B2l (h1:1≤ks.length) (h3:ks.length≤3) (hl:l<ks.length) (he:e<5) (hS:PO (rt (L+20) (n+40)) PG [.agg (uu (ks.getD l 0)).cs,.agg [I (Yv e),I 1]] (Ik (some k))):CS (rt (L+20) (n+41)) Dx [T3 I1 (OQ ks),.agg (poN l e).cs] (.tup [.agg (Cc (uu k)),I 0]):=by
 intro K hK
 rewrite [N0]
 unfold Gg Bu Ar Ev
 rewrite [zO]
 generalize rt (L+20) (n+40)=R at*
 revert hS
 rcases ks3 h1 h3 with⟨a,rfl⟩|⟨a,b,rfl⟩|⟨a,b,c,rfl⟩
 ·obtain rfl:=SL hl;rcases lt5 he with rfl|rfl|rfl|rfl|rfl<;>(intro hS;simp only[RZ,RY] at hS;(conv=>lhs;whnf);dsimp only[poN];rewrite [hS];(conv=>lhs;whnf);exact hK _ _ (λb=>⟨false,λK=>by kernel_rfl⟩))
 ·rcases RE hl with rfl|rfl<;>rcases lt5 he with rfl|rfl|rfl|rfl|rfl<;>(intro hS;simp only[RZ,RY] at hS;(conv=>lhs;whnf);dsimp only[poN];rewrite [hS];(conv=>lhs;whnf);exact hK _ _ (λb=>⟨false,λK=>by kernel_rfl⟩))
 ·rcases SK hl with rfl|rfl|rfl<;>rcases lt5 he with rfl|rfl|rfl|rfl|rfl<;>(intro hS;simp only[RZ,RY] at hS;(conv=>lhs;whnf);dsimp only[poN];rewrite [hS];(conv=>lhs;whnf);exact hK _ _ (λb=>⟨false,λK=>by kernel_rfl⟩))
end
end
section
variable (L n:Nat)
theorem A5F:((List.range 11).all λk=>(λi=>HQ (AZ (C9 (rt (L+20) (n+40)) BW [.agg (VS i)]) (Bo true))) (k+0))=true:=by kernel_rfl
theorem A5E:((List.range 11).all λk=>(λi=>HQ (AZ (C9 (rt (L+20) (n+40)) BW [.agg (VS i)]) (Bo true))) (k+11))=true:=by kernel_rfl
theorem A5D:((List.range 11).all λk=>(λi=>HQ (AZ (C9 (rt (L+20) (n+40)) BW [.agg (VS i)]) (Bo true))) (k+22))=true:=by kernel_rfl
theorem B0G (i:Nat) (h:i<33):PS (rt (L+20) (n+40)) BW [.agg (VS i)] (Bo true):=by
 refine B2 (λH=>by first|exact λK=>by kernel_rfl) ?_
 by_cases h0:i<11
 ·have:=Hl.1 (A5F L n) (i-0) (IV.2 (by omega))
  have e:i-0+0=i:=by omega
  simp only[e] at this
  exact this
 by_cases h1:i<22
 ·have:=Hl.1 (A5E L n) (i-11) (IV.2 (by omega))
  have e:i-11+11=i:=by omega
  simp only[e] at this
  exact this
 by_cases h2:i<33
 ·have:=Hl.1 (A5D L n) (i-22) (IV.2 (by omega))
  have e:i-22+22=i:=by omega
  simp only[e] at this
  exact this
 ·omega
theorem A5I:((List.range 11).all λk=>(λi=>HQ (AZ (C9 (rt (L+20) (n+40)) Gw [.agg (VS i)]) (S (frt i)))) (k+0))=true:=by kernel_rfl
theorem A5H:((List.range 11).all λk=>(λi=>HQ (AZ (C9 (rt (L+20) (n+40)) Gw [.agg (VS i)]) (S (frt i)))) (k+11))=true:=by kernel_rfl
theorem A5G:((List.range 11).all λk=>(λi=>HQ (AZ (C9 (rt (L+20) (n+40)) Gw [.agg (VS i)]) (S (frt i)))) (k+22))=true:=by kernel_rfl
theorem B0H (i:Nat) (h:i<33):PS (rt (L+20) (n+40)) Gw [.agg (VS i)] (S (frt i)):=by
 refine B2 (λH=>by first|exact λK=>by kernel_rfl) ?_
 by_cases h0:i<11
 ·have:=Hl.1 (A5I L n) (i-0) (IV.2 (by omega))
  have e:i-0+0=i:=by omega
  simp only[e] at this
  exact this
 by_cases h1:i<22
 ·have:=Hl.1 (A5H L n) (i-11) (IV.2 (by omega))
  have e:i-11+11=i:=by omega
  simp only[e] at this
  exact this
 by_cases h2:i<33
 ·have:=Hl.1 (A5G L n) (i-22) (IV.2 (by omega))
  have e:i-22+22=i:=by omega
  simp only[e] at this
  exact this
 ·omega
end
section
variable {L n:Nat}
section
variable {id:Int} {o:UD} {xs:List Nd} {ks:List Nat} {i j k:Nat} {I1:AV}
theorem B2x (h3:ks.length≤3):RV (rt (L+20) (n+2)) B5 [T3 I1 (OQ ks),VR (Fb.getD 2 []) C1O Ey,.agg (Vg i).cs] (Bo true):=by
 match ks,h3 with
 |[],_=>exact λb=>by kernel_rfl
 |[a],_=>exact λb=>by kernel_rfl
 |[a,b],_=>exact λb=>by kernel_rfl
 |[a,b,c],_=>exact λb=>by kernel_rfl
theorem B2y (h3:ks.length≤3):RV (rt (L+20) (n+2)) B5 [T3 I1 (OQ ks),VR (Fb.getD 1 []) AO CQ,.agg (cnN i k).cs] (Bo true):=by
 match ks,h3 with
 |[],_=>exact λb=>by kernel_rfl
 |[a],_=>exact λb=>by kernel_rfl
 |[a,b],_=>exact λb=>by kernel_rfl
 |[a,b,c],_=>exact λb=>by kernel_rfl
theorem B5A {U:AV} (h1:1≤ks.length) (h3:ks.length≤3) (hj:j<ks.length):RV (rt (L+20) (n+2)) Ey [T3 (BC ks) U,.agg (Vg j).cs] (.tup [.agg (Cc (uu (ks.getD j 0))),I 0]):=by
 rcases ks3 h1 h3 with⟨a,rfl⟩|⟨a,b,rfl⟩|⟨a,b,c,rfl⟩
 ·obtain rfl:=SL hj;exact λb=>by kernel_rfl
 ·rcases RE hj with rfl|rfl<;>exact λb=>by kernel_rfl
 ·rcases SK hj with rfl|rfl|rfl<;>exact λb=>by kernel_rfl
attribute [local irreducible] YV rt in
theorem B5B {C:List AV} (hv:PO (rt (L+20) (n+40)) BW [.agg (VS i)] (Bo true)) (hu:PO (rt (L+20) (n+40)) Gi [.agg (uu k).cs] (Bo true)):CS (rt (L+20) (n+41)) CQ [.iptr C,.agg (cnN i k).cs] (.tup [.agg (Cc (uu k)),I 0]):=by
 intro K hK
 rewrite [LI]
 unfold Fk Bu Ar Ev
 rewrite [zO]
 generalize rt (L+20) (n+40)=R at*
 conv=>lhs;whnf
 refine l2d (hv _ _) ?_
 conv=>lhs;whnf
 simp only[DW]
 dsimp only[cnN]
 rewrite [hu]
 conv=>lhs;whnf
 exact hK _ _ (λb=>⟨false,λK=>by kernel_rfl⟩)
attribute [local irreducible] YV rt Go.Abs.Uw in
theorem B6L (hv:PO (rt (L+20) (n+40)) C7 [.agg (VS i)] (Bo true)) (hu:PO (rt (L+20) (n+40)) DG [.agg (uu k).cs] (Bo true)) {at_:Int}:CS (rt (L+20) (n+41)) DA [.agg (Bx id (BC ks) (BU xs) o),.agg (cnN i k).cs,I at_] (.tup [Bo true,Bo false]):=by
 intro K hK
 rewrite [R7]
 unfold L9 Ba Ar Ev CK
 rewrite [zO]
 generalize rt (L+20) (n+40)=R at*
 conv=>lhs;whnf
 refine l2d (hv _ _) ?_
 conv=>lhs;whnf
 refine l2d (hu _ _) ?_
 conv=>lhs;whnf
 refine l2d (C5c (x:=cnN i k)) ?_
 conv=>lhs;whnf
 exact hK _ _ (λb=>⟨false,λK=>by kernel_rfl⟩)
attribute [local irreducible] YV rt in
theorem B6J (hv:PO (rt (L+20) (n+40)) C7 [.agg (VS i)] (Bo true)) (hu:PO (rt (L+20) (n+40)) DG [.agg (uu k).cs] (Bo true)) {at_:Int} {w:AV}:CS (rt (L+20) (n+42)) BZ [.agg (Bx id (BC ks) (BU xs) o),.agg (cnN i k).cs,I at_,w] (.tup [.agg (Cc (uu k)),I 0]):=by
 intro K hK
 have hsh:=(B6L (id:=id) (o:=o) (xs:=xs) (ks:=ks) (at_:=at_) hv hu).ls
 clear hv hu
 rewrite [F1]
 unfold XA2 Ar
 rewrite [zO]
 generalize rt (L+20) (n+41)=R at*
 conv=>lhs;whnf
 rewrite [hsh false _ _ ?hq]
 case hq=>exact λK=>by kernel_rfl
 conv=>lhs;whnf
 exact hK _ _ (λb=>⟨false,λK=>by kernel_rfl⟩)
end
end
section
section
variable (L n:Nat)
def C67:List (UD×Int):=[(⟨1,2,0,1,0,1,0,1,0,1,0,1,0,1,[49],[49],[48],[49],0,1⟩,0),(⟨0,1,0,1,1,2,0,1,0,1,0,1,0,1,[49],[49],[48],[49],0,1⟩,0),(u0,70),(⟨0,1,0,1,0,1,0,1,0,1,0,1,0,1,[49],[49],[48],[49],0,2⟩,0),
 (u0,70),(⟨0,1,0,1,0,1,0,1,1,2,0,1,0,1,[49],[49],[48],[49],0,1⟩,0),(⟨1,1,0,1,0,1,0,1,0,1,0,1,0,1,[49],[49],[48],[49],0,1⟩,0)]
def usq (k:Nat):UD×Int:=C67.getD k (u0,0)
theorem B6D:((List.range 7).all λi=>HQ (AZ (C9 (rt (L+20) (n+40)) Hu [.agg (uu i).cs,.agg [I 1,I 2]]) (.tup [.agg (usq i).1.cs,I (usq i).2])))=true:=by kernel_rfl
theorem C3U (i:Nat) (h:i<7):PS (rt (L+20) (n+40)) Hu [.agg (uu i).cs,.agg [I 1,I 2]] (.tup [.agg (usq i).1.cs,I (usq i).2]):=by
 refine B2 (λH=>by first|exact λK=>by kernel_rfl) ?_
 exact Hl.1 (B6D L n) i (IV.2 h)
end
variable {L n:Nat}
section
variable {id:Int} {o:UD} {xs:List Nd} {ks:List Nat} {i j k l:Nat} {I1:AV}
def sqN (l:Nat):Nd:=⟨8,[],[],u0,0,l,0⟩
theorem B6K (h1:1≤ks.length) (h3:ks.length≤3) (hl:l<ks.length):RV (rt (L+20) (n+2)) DA [.agg (Bx id (BC ks) (BU xs) o),.agg (sqN l).cs,I ks.length] (.tup [Bo true,Bo true]):=by
 rcases ks3 h1 h3 with⟨a,rfl⟩|⟨a,b,rfl⟩|⟨a,b,c,rfl⟩
 ·obtain rfl:=SL hl;exact λb=>by kernel_rfl
 ·rcases RE hl with rfl|rfl<;>exact λb=>by kernel_rfl
 ·rcases SK hl with rfl|rfl|rfl<;>exact λb=>by kernel_rfl
attribute [local irreducible] YV rt in
theorem B6I {u:UD} {e:Int} (he:e=0∨e=70) (h1:1≤ks.length) (h3:ks.length≤3) (hl:l<ks.length) (hS:PO (rt (L+20) (n+41)) Hu [.agg (uu (ks.getD l 0)).cs,.agg [I 1,I 2]] (.tup [.agg u.cs,I e])):CS (rt (L+20) (n+42)) BZ [.agg (Bx id (BC ks) (BU xs) o),.agg (sqN l).cs,I ks.length,OQ ks] (if e=0 then .tup [.agg u.cs,I 0] else .tup [.agg E5,I 90]):=by
 intro K hK
 have hsh:=(B6K (L:=L) (n:=n+39) (id:=id) (o:=o) (xs:=xs) h1 h3 hl).ls
 rewrite [F1]
 unfold XA2 Ar
 rewrite [zO]
 generalize rt (L+20) (n+41)=R at*
 revert hS hsh
 rcases ks3 h1 h3 with⟨a,rfl⟩|⟨a,b,rfl⟩|⟨a,b,c,rfl⟩
 ·obtain rfl:=SL hl;(intro hS hsh;simp only[RZ,RY] at hS;(conv=>lhs;whnf);rewrite [hsh false _ _ ?hq];(case hq=>exact λK=>by kernel_rfl);(conv=>lhs;whnf);refine l2d (hS _ _) ?_;rcases he with rfl|rfl<;>(conv=>lhs;whnf)<;>exact hK _ _ (λb=>⟨false,λK=>by kernel_rfl⟩))
 ·rcases RE hl with rfl|rfl<;>(intro hS hsh;simp only[RZ,RY] at hS;(conv=>lhs;whnf);rewrite [hsh false _ _ ?hq];(case hq=>exact λK=>by kernel_rfl);(conv=>lhs;whnf);refine l2d (hS _ _) ?_;rcases he with rfl|rfl<;>(conv=>lhs;whnf)<;>exact hK _ _ (λb=>⟨false,λK=>by kernel_rfl⟩))
 ·rcases SK hl with rfl|rfl|rfl<;>(intro hS hsh;simp only[RZ,RY] at hS;(conv=>lhs;whnf);rewrite [hsh false _ _ ?hq];(case hq=>exact λK=>by kernel_rfl);(conv=>lhs;whnf);refine l2d (hS _ _) ?_;rcases he with rfl|rfl<;>(conv=>lhs;whnf)<;>exact hK _ _ (λb=>⟨false,λK=>by kernel_rfl⟩))
end
section
variable {i k:Nat}
theorem A4Q (h:i<33):(frt i).length<10:=by
 have:=Hl.1 (show((List.range 33).all λi=>decide ((frt i).length<10))=true by kernel_rfl) i (IV.2 h)
 simpa using this
theorem B6B:PS (rt (L+20) (n+1)) QV [] (.list 9 (Fb.map λw=>S w)):=B2 (λH K=>by kernel_rfl) (by kernel_rfl)
attribute [local irreducible] YV rt Go.Abs.Ak in
theorem B3n (hi:i<33) (hw:PO (rt (L+20) (n+40)) Cy [I 1,I 1,I 8] (Bo true)) (hws:PO (rt (L+20) (n+40)) QV [] (.list 9 (Fb.map λw=>S w))) (hu:PO (rt (L+20) (n+40)) Gt [.agg (uu k).cs] (.tup [S (Jw k),I 0])) (hp:PO (rt (L+20) (n+40)) IW [.agg (VS i)] (S (frt i))):CS (rt (L+20) (n+41)) Hr [.agg (cnN i k).cs] (S (cnT i k)):=by
 intro K hK
 rewrite [A1d]
 unfold S0 Ar
 rewrite [zO]
 generalize rt (L+20) (n+40)=R at*
 conv=>lhs;whnf
 refine l2d (hw _ _) ?_
 conv=>lhs;whnf
 rewrite [hws]
 conv=>lhs;whnf
 refine l2d A3B ?_
 conv=>lhs;whnf
 refine l2d (hu _ _) ?_
 conv=>lhs;whnf
 have h1:=A4Q hi
 have h2:=EP k
 refine l2d (Bp (a:=Fb.getD 1 []) (by decide)) ?_
 conv=>lhs;whnf
 refine l2d (hp _ _) ?_
 conv=>lhs;whnf
 rewrite [Bp (by simp only[FA,Fb,RY,RZ,Lj,Ot];omega)]
 rewrite [Bp (by simp only[FA,Fb,RY,RZ,Lj,Ot];omega)]
 rewrite [Bp (by simp only[FA,Fb,RY,RZ,Lj,Ot];omega)]
 exact hK _ _ (λb=>⟨false,λK=>by kernel_rfl⟩)
attribute [local irreducible] YV rt Go.Abs.Ak in
theorem B2v (hi:i<33) (hws:PO (rt (L+20) (n+40)) EL [] TX) (hu:PO (rt (L+20) (n+40)) Hn [.agg (uu k).cs] (.tup [S (Jw k),I 0])) (hp:PO (rt (L+20) (n+40)) Gw [.agg (VS i)] (S (frt i))):CS (rt (L+20) (n+41)) Eu [.agg (cnN i k).cs] (S (cnT i k)):=by
 intro K hK
 rewrite [VB]
 unfold ME Ar
 rewrite [zO]
 generalize rt (L+20) (n+40)=R at*
 conv=>lhs;whnf
 rewrite [hws]
 conv=>lhs;whnf
 rewrite [hws]
 conv=>lhs;whnf
 refine l2d (A3B (a:=1)) ?_
 conv=>lhs;whnf
 refine l2d (hu _ _) ?_
 conv=>lhs;whnf
 have h1:=A4Q hi
 have h2:=EP k
 refine l2d (Bp (a:=Fb.getD 1 []) (by decide)) ?_
 conv=>lhs;whnf
 refine l2d (hp _ _) ?_
 conv=>lhs;whnf
 rewrite [Bp (by simp only[FA,Fb,RY,RZ,Lj,Ot];omega)]
 rewrite [Bp (by simp only[FA,Fb,RY,RZ,Lj,Ot];omega)]
 rewrite [Bp (by simp only[FA,Fb,RY,RZ,Lj,Ot];omega)]
 exact hK _ _ (λb=>⟨false,λK=>by kernel_rfl⟩)
end
end
section
variable {L n:Nat}
inductive Ex where
 |no
 |cn (i k:Nat)
 |inp (j:Nat)
 |bi (op l r k:Nat)
 |po (l e k:Nat)
def Ex.nd:Ex→List Nd
 | .no=>[]
 | .cn i k=>[cnN i k]
 | .inp j=>[Vg j]
 | .bi op l r _=>[biN op l r]
 | .po l e _=>[poN l e]
def Ex.ty (ks:List Nat):Ex→List Nat
 | .no=>[]
 | .cn _ k=>[k]
 | .inp j=>[ks.getD j 0]
 | .bi _ _ _ k=>[k]
 | .po _ _ k=>[k]
def Ex.tx:Ex→List (List UInt8)
 | .no=>[]
 | .cn i k=>[cnT i k]
 | .inp j=>[exT j]
 | .bi op l r _=>[exT (3+9*(op-3)+3*l+r)]
 | .po l e _=>[exT (39+5*l+e)]
def Ex.Ok (ks:List Nat):Ex→Prop
 | .no=>True
 | .cn i k=>i<33∧k<7
 | .inp j=>j<ks.length
 | .bi op l r k=>3≤op∧op<7∧l<ks.length∧r<ks.length∧RX (op-3) (ks.getD l 0) (ks.getD r 0)=some k
 | .po l e k=>l<ks.length∧e<5∧TB (ks.getD l 0) e=some k
structure Pr where
 id:Nat
 ks:List Nat
 x:Ex
structure Pr.Ok (p:Pr):Prop where
 i1:1≤p.id
 i2:p.id<950
 k1:1≤p.ks.length
 k3:p.ks.length≤3
 k7:∀k∈p.ks,k<7
 x:p.x.Ok p.ks
def Pr.xs (p:Pr):List Nd:=Kv p.ks++p.x.nd
def Pr.ty (p:Pr):List Nat:=p.ks++p.x.ty p.ks
def Pr.ts (p:Pr):List (List UInt8):=(List.range p.ks.length).map exT++p.x.tx
def Pr.out (p:Pr):Nat:=p.ty.getD (p.xs.length-1) 0
section
variable {a b l r e i j k op:Nat} {ks:List Nat} {xs:List Nd} {id:Int} {o:UD}
theorem K3 {N:Nat} (h:∀k∈ks,k<N) (hl:l<ks.length):ks.getD l 0<N:=by
 have e:ks.getD l 0=ks[l]:=by simp[List.getD,JV hl]
 rw[e];exact h _ (QS hl)
theorem B6C (ha:a<7) (hb:b<7):PO (rt (L+20) (n+41)) NN [.agg (uu a).cs,.agg (uu b).cs] (Ik (RX 0 a b)):=by
 have:=(C1h L (n+1) (7*a+b) (by omega)).o;rwa[show(7*a+b)/7=a by omega,show(7*a+b)%7=b by omega] at this
theorem B6H (ha:a<7) (hb:b<7):PO (rt (L+20) (n+41)) GC [.agg (uu a).cs,.agg (uu b).cs] (Ik (RX 1 a b)):=by
 have:=(C1l L (n+1) (7*a+b) (by omega)).o;rwa[show(7*a+b)/7=a by omega,show(7*a+b)%7=b by omega] at this
theorem B6F (ha:a<7) (hb:b<7):PO (rt (L+20) (n+41)) La [.agg (uu a).cs,.agg (uu b).cs] (Ik (RX 2 a b)):=by
 have:=(C1j L (n+1) (7*a+b) (by omega)).o;rwa[show(7*a+b)/7=a by omega,show(7*a+b)%7=b by omega] at this
theorem B6G (ha:a<7) (hb:b<7):PO (rt (L+20) (n+41)) Lb [.agg (uu a).cs,.agg (uu b).cs] (Ik (RX 3 a b)):=by
 have:=(C1k L (n+1) (7*a+b) (by omega)).o;rwa[show(7*a+b)/7=a by omega,show(7*a+b)%7=b by omega] at this
theorem B6E (ha:a<7) (hb:e<5):PO (rt (L+20) (n+41)) Hu [.agg (uu a).cs,.agg [I (Yv e),I 1]] (Ik (TB a e)):=by
 have:=(C1i L (n+1) (5*a+e) (by omega)).o;rwa[show(5*a+e)/5=a by omega,show(5*a+e)%5=e by omega] at this
theorem B5v (ha:a<7) (hb:b<7) (h:RX 0 a b=some k):PO (rt (L+20) (n+40)) PF [.agg (uu a).cs,.agg (uu b).cs] (Ik (some k)):=by
 have e1:(7*a+b)/7=a:=by omega
 have e2:(7*a+b)%7=b:=by omega
 have:=(B92 L n (7*a+b) (by omega) (by rw[e1,e2,h];rfl)).o;rwa[e1,e2,h] at this
theorem B5z (ha:a<7) (hb:b<7) (h:RX 1 a b=some k):PO (rt (L+20) (n+40)) Ho [.agg (uu a).cs,.agg (uu b).cs] (Ik (some k)):=by
 have e1:(7*a+b)/7=a:=by omega
 have e2:(7*a+b)%7=b:=by omega
 have:=(B96 L n (7*a+b) (by omega) (by rw[e1,e2,h];rfl)).o;rwa[e1,e2,h] at this
theorem B5x (ha:a<7) (hb:b<7) (h:RX 2 a b=some k):PO (rt (L+20) (n+40)) PH [.agg (uu a).cs,.agg (uu b).cs] (Ik (some k)):=by
 have e1:(7*a+b)/7=a:=by omega
 have e2:(7*a+b)%7=b:=by omega
 have:=(B94 L n (7*a+b) (by omega) (by rw[e1,e2,h];rfl)).o;rwa[e1,e2,h] at this
theorem B5y (ha:a<7) (hb:b<7) (h:RX 3 a b=some k):PO (rt (L+20) (n+40)) PI [.agg (uu a).cs,.agg (uu b).cs] (Ik (some k)):=by
 have e1:(7*a+b)/7=a:=by omega
 have e2:(7*a+b)%7=b:=by omega
 have:=(B95 L n (7*a+b) (by omega) (by rw[e1,e2,h];rfl)).o;rwa[e1,e2,h] at this
theorem B5w (ha:a<7) (hb:e<5) (h:TB a e=some k):PO (rt (L+20) (n+40)) PG [.agg (uu a).cs,.agg [I (Yv e),I 1]] (Ik (some k)):=by
 have e1:(5*a+e)/5=a:=by omega
 have e2:(5*a+e)%5=e:=by omega
 have:=(B93 L n (5*a+e) (by omega) (by rw[e1,e2,h];rfl)).o;rwa[e1,e2,h] at this
theorem A9D (h1:1≤ks.length) (h3:ks.length≤3) (hk:∀k∈ks,k<7) (hl:l<ks.length) (hr:r<ks.length) (ho:3≤op) (ho':op<7):
 CS (rt (L+20) (n+42)) BZ [.agg (Bx id (BC ks) (BU xs) o),.agg (biN op l r).cs,I ks.length,OQ ks] (A7O (RX (op-3) (ks.getD l 0) (ks.getD r 0))):=by
 have ha:=K3 hk hl
 have hb:=K3 hk hr
 obtain rfl|rfl|rfl|rfl:op=3∨op=4∨op=5∨op=6:=by omega
 ·exact B32 h1 h3 hl hr (B6C ha hb)
 ·exact B36 h1 h3 hl hr (B6H ha hb)
 ·exact B34 h1 h3 hl hr (B6F ha hb)
 ·exact B35 h1 h3 hl hr (B6G ha hb)
theorem A9C (h1:1≤ks.length) (h3:ks.length≤3) (hk:∀k∈ks,k<7) (hl:l<ks.length) (he:e<5):
 CS (rt (L+20) (n+42)) BZ [.agg (Bx id (BC ks) (BU xs) o),.agg (poN l e).cs,I ks.length,OQ ks] (A7O (TB (ks.getD l 0) e)):=
 B33 h1 h3 hl he (B6E (K3 hk hl) he)
theorem A5Z {at_:Int} {w:AV} (hi:i<33) (hk:k<7):CS (rt (L+20) (n+42)) BZ [.agg (Bx id (BC ks) (BU xs) o),.agg (cnN i k).cs,I at_,w] (.tup [.agg (Cc (uu k)),I 0]):=
 B6J (B0W L n i hi).o (Pk L n k (by omega)).o
end
section
variable {p:Pr} {o:UD}
theorem C1B (h:p.Ok):RTy L n p.id p.ks p.xs o p.ty:=by
 obtain⟨pid,ks,x⟩:=p
 obtain⟨i1,i2,k1,k3,k7,hx⟩:=h
 unfold Pr.xs Pr.ty
 cases x with
 |no=>
  simp only[Ex.nd,Ex.ty,l1o]
  exact C1a (l1m k3 (by decide))
 |cn i k=>exact ZV (l1m k3 (by decide)) (A5Z hx.1 hx.2)
 |inp j=>
  refine ZV (l1m k3 (by decide)) ?_
  have hj:j<ks.length:=hx
  have e:ks.getD j 0=ks[j]:=by simp[List.getD,JV hj]
  rw[e]
  exact UJ (n:=n+39) (l1m k3 (by decide)) hj
 |bi op l r k=>
  obtain⟨h1,h2,h3,h4,h5⟩:=hx
  refine ZV (l1m k3 (by decide)) ?_
  have:=A9D (L:=L) (n:=n) (id:=pid) (xs:=Kv ks++[biN op l r]) (o:=o) k1 k3 k7 h3 h4 h1 h2
  rw[h5] at this
  exact this
 |po l e k=>
  obtain⟨h1,h2,h3⟩:=hx
  refine ZV (l1m k3 (by decide)) ?_
  have:=A9C (L:=L) (n:=n) (id:=pid) (xs:=Kv ks++[poN l e]) (o:=o) k1 k3 k7 h1 h2
  rw[h3] at this
  exact this
theorem B2j {ks:List Nat} {i:Nat} (k1:1≤ks.length) (k3:ks.length≤3) {l:List Nat} (hl:l.length≤3) (hi:i<ks.length):WNd L n (BC ks) l (Vg i) (ks.getD i 0):=
 ⟨Fb.getD 2 [],C1O,Ey,.inr ⟨_,_,rfl⟩,λH K=>by kernel_rfl,by kernel_rfl,rfl,rfl,B2x (n:=n+39) hl,B5A (n:=n+39) k1 k3 hi⟩
theorem C1A (h:p.Ok):WTy L n p.ks p.xs p.ty:=by
 obtain⟨pid,ks,x⟩:=p
 obtain⟨i1,i2,k1,k3,k7,hx⟩:=h
 simp only at k1 k3 k7 hx
 intro i hi
 simp only[Pr.xs,Pr.ty] at hi⊢
 by_cases hlt:i<ks.length
 ·have e1:(Kv ks++x.nd)[i]=Vg i:=by
   rw[List.getElem_append_left (by rw[DP];exact hlt)];exact WK _
  have e2:(ks++x.ty ks).getD i 0=ks.getD i 0:=by simp[List.getD,l0l hlt]
  rw[e1,e2]
  exact B2j k1 k3 (by rw[l0g];omega) hlt
 ·have e0:x.nd.length≤1:=by cases x<;>simp[Ex.nd]
  rw[FA,DP] at hi
  obtain rfl:i=ks.length:=by omega
  have e1:∀y,x.nd=[y]→(Kv ks++x.nd)[ks.length]'(by rw[FA,DP];exact hi)=y:= λy hy=>by
   rw[List.getElem_append_right (by rw[DP];omega)];simp[hy,DP]
  have e2:∀k,x.ty ks=[k]→(ks++x.ty ks).getD ks.length 0=k:= λk hk=>by simp[List.getD,hk]
  have e3:(ks++x.ty ks).take ks.length=ks:=List.take_left' rfl
  rw[e3]
  cases x with
  |no=>simp[Ex.nd] at hi
  |cn i k=>
   rw[e1 _ rfl,e2 _ rfl]
   exact⟨Fb.getD 1 [],AO,CQ,.inl rfl,λH K=>by kernel_rfl,by kernel_rfl,rfl,rfl,B2y (n:=n+39) k3,(B5B (B0G L n i hx.1).o (TA L n k (by have:=hx.2;omega)).o).rv⟩
  |inp j=>
   rw[e1 _ rfl,e2 _ rfl]
   exact B2j k1 k3 k3 hx
  |bi op l r k=>
   obtain⟨h1,h2,h3,h4,h5⟩:=hx
   have ha:=K3 k7 h3
   have hb:=K3 k7 h4
   rw[e1 _ rfl,e2 _ rfl]
   obtain rfl|rfl|rfl|rfl:op=3∨op=4∨op=5∨op=6:=by omega
   ·exact⟨Fb.getD 3 [],YX,DQ,.inr ⟨_,_,rfl⟩,λH K=>by kernel_rfl,by kernel_rfl,rfl,rfl,B0B (n:=n+39) k1 k3 h3 h4,(B2k k1 k3 h3 h4 (B5v ha hb h5)).rv⟩
   ·exact⟨Fb.getD 4 [],YX,CE,.inr ⟨_,_,rfl⟩,λH K=>by kernel_rfl,by kernel_rfl,rfl,rfl,B0F (n:=n+39) k1 k3 h3 h4,(B2o k1 k3 h3 h4 (B5z ha hb h5)).rv⟩
   ·exact⟨Fb.getD 5 [],YX,Da,.inr ⟨_,_,rfl⟩,λH K=>by kernel_rfl,by kernel_rfl,rfl,rfl,B0D (n:=n+39) k1 k3 h3 h4,(B2m k1 k3 h3 h4 (B5x ha hb h5)).rv⟩
   ·exact⟨Fb.getD 6 [],YX,CP,.inr ⟨_,_,rfl⟩,λH K=>by kernel_rfl,by kernel_rfl,rfl,rfl,B0E (n:=n+39) k1 k3 h3 h4,(B2n k1 k3 h3 h4 (B5y ha hb h5)).rv⟩
  |po l e k=>
   obtain⟨h1,h2,h3⟩:=hx
   rw[e1 _ rfl,e2 _ rfl]
   exact⟨Fb.getD 7 [],C1C,Dx,.inr ⟨_,_,rfl⟩,λH K=>by kernel_rfl,by kernel_rfl,rfl,rfl,B0C (n:=n+39) k1 k3 h1 h2,(B2l k1 k3 h1 h2 (B5w (K3 k7 h1) h2 h3)).rv⟩
theorem C1n {j:Nat} (h:j<54):PS (rt (L+20) (n+41)) Hr [.agg (exN j).cs] (S (exT j)):=
 B2 (λH=>by first|exact λK=>by kernel_rfl) (Hl.1 (B3o L n) j (IV.2 h))
theorem B9c {j:Nat} (h:j<54):PS (rt (L+20) (n+41)) Eu [.agg (exN j).cs] (S (exT j)):=
 B2 (λH=>by first|exact λK=>by kernel_rfl) (Hl.1 (B2w L n) j (IV.2 h))
theorem B8K {j:Nat} (h:j<3):Vg j=exN j:=by unfold exN;rw[if_pos h]
theorem C57 {op l r:Nat} (h1:3≤op) (h2:op<7) (h3:l<3) (h4:r<3):biN op l r=exN (3+9*(op-3)+3*l+r):=by
 obtain rfl|rfl|rfl|rfl:op=3∨op=4∨op=5∨op=6:=by omega
 all_goals obtain rfl|rfl|rfl:l=0∨l=1∨l=2:=by omega
 all_goals obtain rfl|rfl|rfl:r=0∨r=1∨r=2:=by omega
 all_goals rfl
theorem C56 {l e:Nat} (h3:l<3) (h4:e<5):poN l e=exN (39+5*l+e):=by
 obtain rfl|rfl|rfl:l=0∨l=1∨l=2:=by omega
 all_goals obtain rfl|rfl|rfl|rfl|rfl:=lt5 h4
 all_goals rfl
def NdT (L n:Nat) (y:Nd) (t:List UInt8):Prop:=PS (rt (L+20) (n+41)) Hr [.agg y.cs] (S t)∧PS (rt (L+20) (n+41)) Eu [.agg y.cs] (S t)
theorem A4t {j:Nat} (h:j<54):NdT L n (exN j) (exT j):=⟨C1n h,B9c h⟩
theorem B8v {y:Nd} (H:Hp):OM true depth [.agg y.cs] [.agg y.cs] H false:= λK=>by kernel_rfl
theorem C1P {i k:Nat} (hi:i<33) (hk:k<7):NdT L n (cnN i k) (cnT i k):=
 ⟨(B3n hi (UK (n:=n+39) (by decide) (by decide)).o (B6B (n:=n+39)).o (Rx L n k (by omega)).o (B0X L n i hi).o).ps B8v,
  (B2v hi (B8j (n:=n+39)).o (Rk L n k (by omega)).o (B0H L n i hi).o).ps B8v⟩
theorem B3B (h:p.Ok):p.ts.length=p.xs.length∧∀i (hi:i<p.xs.length),NdT L n p.xs[i] (p.ts.getD i []):=by
 obtain⟨pid,ks,x⟩:=p
 obtain⟨i1,i2,k1,k3,k7,hx⟩:=h
 simp only at k1 k3 k7 hx
 have hlen:x.tx.length=x.nd.length:=by cases x<;>rfl
 refine⟨by simp[Pr.ts,Pr.xs,DP,hlen],λi hi=> ?_⟩
 simp only[Pr.xs,Pr.ts] at hi⊢
 by_cases hlt:i<ks.length
 ·have e1:(Kv ks++x.nd)[i]=Vg i:=by
   rw[List.getElem_append_left (by rw[DP];exact hlt)];exact WK _
  have e2:((List.range ks.length).map exT++x.tx).getD i []=exT i:=by
   rw[List.getD,l0l (by simpa using hlt)];simp[List.getElem?_range hlt]
  rw[e1,e2,B8K (by omega)]
  exact A4t (by omega)
 ·have e0:x.nd.length≤1:=by cases x<;>simp[Ex.nd]
  rw[FA,DP] at hi
  obtain rfl:i=ks.length:=by omega
  have e1:∀y,x.nd=[y]→(Kv ks++x.nd)[ks.length]'(by rw[FA,DP];exact hi)=y:= λy hy=>by
   rw[List.getElem_append_right (by rw[DP];omega)];simp[hy,DP]
  have e2:∀t,x.tx=[t]→((List.range ks.length).map exT++x.tx).getD ks.length []=t:= λt ht=>by simp[List.getD,ht]
  cases x with
  |no=>simp[Ex.nd] at hi
  |cn i k=>rw[e1 _ rfl,e2 _ rfl];exact C1P hx.1 hx.2
  |inp j=>
   have hj:j<ks.length:=hx
   rw[e1 _ rfl,e2 _ rfl,B8K (by omega)]
   exact A4t (by omega)
  |bi op l r k=>
   obtain⟨h1,h2,h3,h4,h5⟩:=hx
   rw[e1 _ rfl,e2 _ rfl,C57 h1 h2 (by omega) (by omega)]
   exact A4t (by omega)
  |po l e k=>
   obtain⟨h1,h2,h3⟩:=hx
   rw[e1 _ rfl,e2 _ rfl,C56 (by omega) h2]
   exact A4t (by omega)
end
end
end Go.Abs
end
