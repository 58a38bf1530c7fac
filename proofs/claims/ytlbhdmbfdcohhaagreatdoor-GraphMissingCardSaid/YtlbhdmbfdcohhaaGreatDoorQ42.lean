import Derived.Test.YtlbhdmbfdcohhaaGreatDoorQ31
import Derived.Test.YtlbhdmbfdcohhaaGreatDoorQ32
import Derived.Test.YtlbhdmbfdcohhaaGreatDoorQ33
import Derived.Test.YtlbhdmbfdcohhaaGreatDoorQ34
import Derived.Test.YtlbhdmbfdcohhaaGreatDoorQ35
import Derived.Test.YtlbhdmbfdcohhaaGreatDoorQ36
import Derived.Test.YtlbhdmbfdcohhaaGreatDoorQ37
import Derived.Test.YtlbhdmbfdcohhaaGreatDoorQ38
import Derived.Test.YtlbhdmbfdcohhaaGreatDoorQ39
import Derived.Test.YtlbhdmbfdcohhaaGreatDoorQ40
import Derived.Test.YtlbhdmbfdcohhaaGreatDoorQ41
set_option linter.all false
set_option maxHeartbeats 100000000
noncomputable section
namespace Go.Abs
open Go.RowKit Go.Proofs
set_option maxRecDepth 100000
section
variable {L n:Nat}
theorem RV.ls {R:Rt} {f:Nat} {args':List AV} {v:AV} (h:RV R f args' v):LS R f args' v:= λq args H ha K=>by rw[←zO];exact ZW h ha
def biN (op l r:Nat):Nd:=⟨op,[],[],u0,0,l,r⟩
def poN (l e:Nat):Nd:=⟨7,[],[],u0,Yh e,l,0⟩
def A7I:Option Nat→AV
 |some k=> .tup [.agg (Cb (uu k)),I 0]
 |none=> .tup [.agg E9,I 90]
section
variable {id:Int} {o:UD} {xs:List Nd} {ks:List Nat} {l r e i k:Nat} {q:Option Nat} {I1:AV}
theorem ks3 (h1:1≤ks.length) (h3:ks.length≤3):(∃a,ks=[a])∨(∃a b,ks=[a,b])∨∃a b c,ks=[a,b,c]:=by
 match ks,h1,h3 with
 |[a],_,_=>exact .inl ⟨a,rfl⟩
 |[a,b],_,_=>exact .inr (.inl ⟨a,b,rfl⟩)
 |[a,b,c],_,_=>exact .inr (.inr ⟨a,b,c,rfl⟩)
theorem Sy {l:Nat} {a:Nat} (h:l<[a].length):l=0:=by simpa using h
theorem Sx {l:Nat} {a b:Nat} (h:l<[a,b].length):l=0∨l=1:=by simp at h;omega
theorem Sw {l:Nat} {a b c:Nat} (h:l<[a,b,c].length):l=0∨l=1∨l=2:=by simp at h;omega
theorem lt5 {e:Nat} (h:e<5):e=0∨e=1∨e=2∨e=3∨e=4:=by omega
theorem B2V (h1:1≤ks.length) (h3:ks.length≤3) (hl:l<ks.length) (hr:r<ks.length):RV (rt (L+20) (n+2)) DB [.agg (Bs id (BC ks) (BR xs) o),.agg (biN 3 l r).cs,I ks.length] (.tup [Bo true,Bo true]):=by
 rcases ks3 h1 h3 with⟨a,rfl⟩|⟨a,b,rfl⟩|⟨a,b,c,rfl⟩
 ·obtain rfl:=Sy hl;obtain rfl:=Sy hr;exact λb=>by kernel_rfl
 ·rcases Sx hl with rfl|rfl<;>rcases Sx hr with rfl|rfl<;>(exact λb=>by kernel_rfl)
 ·rcases Sw hl with rfl|rfl|rfl<;>rcases Sw hr with rfl|rfl|rfl<;>(exact λb=>by kernel_rfl)
attribute [local irreducible] YF rt in
theorem B2P (h1:1≤ks.length) (h3:ks.length≤3) (hl:l<ks.length) (hr:r<ks.length) (hS:PO (rt (L+20) (n+41)) NB [.agg (uu (ks.getD l 0)).cs,.agg (uu (ks.getD r 0)).cs] (XA3 q)):CS (rt (L+20) (n+42)) BY [.agg (Bs id (BC ks) (BR xs) o),.agg (biN 3 l r).cs,I ks.length,OC ks] (A7I q):=by
 intro K hK
 have hsh:=(B2V (L:=L) (n:=n+39) (id:=id) (o:=o) (xs:=xs) h1 h3 hl hr).ls
 rewrite [F8]
 unfold Fy Ar
 rewrite [zO]
 generalize rt (L+20) (n+41)=R at*
 revert hS hsh
 rcases ks3 h1 h3 with⟨a,rfl⟩|⟨a,b,rfl⟩|⟨a,b,c,rfl⟩
 ·obtain rfl:=Sy hl;obtain rfl:=Sy hr;intro hS hsh;simp only[RJ,RI] at hS;(conv=>lhs;whnf);rewrite [hsh false _ _ ?hq];(case hq=>exact λK=>by kernel_rfl);(conv=>lhs;whnf);rewrite [hS];cases q<;>(conv=>lhs;whnf)<;>exact hK _ _ (λb=>⟨false,λK=>by kernel_rfl⟩)
 ·rcases Sx hl with rfl|rfl<;>rcases Sx hr with rfl|rfl<;>(intro hS hsh;simp only[RJ,RI] at hS;(conv=>lhs;whnf);rewrite [hsh false _ _ ?hq];(case hq=>exact λK=>by kernel_rfl);(conv=>lhs;whnf);rewrite [hS];cases q<;>(conv=>lhs;whnf)<;>exact hK _ _ (λb=>⟨false,λK=>by kernel_rfl⟩))
 ·rcases Sw hl with rfl|rfl|rfl<;>rcases Sw hr with rfl|rfl|rfl<;>(intro hS hsh;simp only[RJ,RI] at hS;(conv=>lhs;whnf);rewrite [hsh false _ _ ?hq];(case hq=>exact λK=>by kernel_rfl);(conv=>lhs;whnf);rewrite [hS];cases q<;>(conv=>lhs;whnf)<;>exact hK _ _ (λb=>⟨false,λK=>by kernel_rfl⟩))
theorem B2Z (h1:1≤ks.length) (h3:ks.length≤3) (hl:l<ks.length) (hr:r<ks.length):RV (rt (L+20) (n+2)) DB [.agg (Bs id (BC ks) (BR xs) o),.agg (biN 4 l r).cs,I ks.length] (.tup [Bo true,Bo true]):=by
 rcases ks3 h1 h3 with⟨a,rfl⟩|⟨a,b,rfl⟩|⟨a,b,c,rfl⟩
 ·obtain rfl:=Sy hl;obtain rfl:=Sy hr;exact λb=>by kernel_rfl
 ·rcases Sx hl with rfl|rfl<;>rcases Sx hr with rfl|rfl<;>(exact λb=>by kernel_rfl)
 ·rcases Sw hl with rfl|rfl|rfl<;>rcases Sw hr with rfl|rfl|rfl<;>(exact λb=>by kernel_rfl)
attribute [local irreducible] YF rt in
theorem B2T (h1:1≤ks.length) (h3:ks.length≤3) (hl:l<ks.length) (hr:r<ks.length) (hS:PO (rt (L+20) (n+41)) GB [.agg (uu (ks.getD l 0)).cs,.agg (uu (ks.getD r 0)).cs] (XA3 q)):CS (rt (L+20) (n+42)) BY [.agg (Bs id (BC ks) (BR xs) o),.agg (biN 4 l r).cs,I ks.length,OC ks] (A7I q):=by
 intro K hK
 have hsh:=(B2Z (L:=L) (n:=n+39) (id:=id) (o:=o) (xs:=xs) h1 h3 hl hr).ls
 rewrite [F8]
 unfold Fy Ar
 rewrite [zO]
 generalize rt (L+20) (n+41)=R at*
 revert hS hsh
 rcases ks3 h1 h3 with⟨a,rfl⟩|⟨a,b,rfl⟩|⟨a,b,c,rfl⟩
 ·obtain rfl:=Sy hl;obtain rfl:=Sy hr;intro hS hsh;simp only[RJ,RI] at hS;(conv=>lhs;whnf);rewrite [hsh false _ _ ?hq];(case hq=>exact λK=>by kernel_rfl);(conv=>lhs;whnf);rewrite [hS];cases q<;>(conv=>lhs;whnf)<;>exact hK _ _ (λb=>⟨false,λK=>by kernel_rfl⟩)
 ·rcases Sx hl with rfl|rfl<;>rcases Sx hr with rfl|rfl<;>(intro hS hsh;simp only[RJ,RI] at hS;(conv=>lhs;whnf);rewrite [hsh false _ _ ?hq];(case hq=>exact λK=>by kernel_rfl);(conv=>lhs;whnf);rewrite [hS];cases q<;>(conv=>lhs;whnf)<;>exact hK _ _ (λb=>⟨false,λK=>by kernel_rfl⟩))
 ·rcases Sw hl with rfl|rfl|rfl<;>rcases Sw hr with rfl|rfl|rfl<;>(intro hS hsh;simp only[RJ,RI] at hS;(conv=>lhs;whnf);rewrite [hsh false _ _ ?hq];(case hq=>exact λK=>by kernel_rfl);(conv=>lhs;whnf);rewrite [hS];cases q<;>(conv=>lhs;whnf)<;>exact hK _ _ (λb=>⟨false,λK=>by kernel_rfl⟩))
theorem B2X (h1:1≤ks.length) (h3:ks.length≤3) (hl:l<ks.length) (hr:r<ks.length):RV (rt (L+20) (n+2)) DB [.agg (Bs id (BC ks) (BR xs) o),.agg (biN 5 l r).cs,I ks.length] (.tup [Bo true,Bo true]):=by
 rcases ks3 h1 h3 with⟨a,rfl⟩|⟨a,b,rfl⟩|⟨a,b,c,rfl⟩
 ·obtain rfl:=Sy hl;obtain rfl:=Sy hr;exact λb=>by kernel_rfl
 ·rcases Sx hl with rfl|rfl<;>rcases Sx hr with rfl|rfl<;>(exact λb=>by kernel_rfl)
 ·rcases Sw hl with rfl|rfl|rfl<;>rcases Sw hr with rfl|rfl|rfl<;>(exact λb=>by kernel_rfl)
attribute [local irreducible] YF rt in
theorem B2R (h1:1≤ks.length) (h3:ks.length≤3) (hl:l<ks.length) (hr:r<ks.length) (hS:PO (rt (L+20) (n+41)) KX [.agg (uu (ks.getD l 0)).cs,.agg (uu (ks.getD r 0)).cs] (XA3 q)):CS (rt (L+20) (n+42)) BY [.agg (Bs id (BC ks) (BR xs) o),.agg (biN 5 l r).cs,I ks.length,OC ks] (A7I q):=by
 intro K hK
 have hsh:=(B2X (L:=L) (n:=n+39) (id:=id) (o:=o) (xs:=xs) h1 h3 hl hr).ls
 rewrite [F8]
 unfold Fy Ar
 rewrite [zO]
 generalize rt (L+20) (n+41)=R at*
 revert hS hsh
 rcases ks3 h1 h3 with⟨a,rfl⟩|⟨a,b,rfl⟩|⟨a,b,c,rfl⟩
 ·obtain rfl:=Sy hl;obtain rfl:=Sy hr;intro hS hsh;simp only[RJ,RI] at hS;(conv=>lhs;whnf);rewrite [hsh false _ _ ?hq];(case hq=>exact λK=>by kernel_rfl);(conv=>lhs;whnf);rewrite [hS];cases q<;>(conv=>lhs;whnf)<;>exact hK _ _ (λb=>⟨false,λK=>by kernel_rfl⟩)
 ·rcases Sx hl with rfl|rfl<;>rcases Sx hr with rfl|rfl<;>(intro hS hsh;simp only[RJ,RI] at hS;(conv=>lhs;whnf);rewrite [hsh false _ _ ?hq];(case hq=>exact λK=>by kernel_rfl);(conv=>lhs;whnf);rewrite [hS];cases q<;>(conv=>lhs;whnf)<;>exact hK _ _ (λb=>⟨false,λK=>by kernel_rfl⟩))
 ·rcases Sw hl with rfl|rfl|rfl<;>rcases Sw hr with rfl|rfl|rfl<;>(intro hS hsh;simp only[RJ,RI] at hS;(conv=>lhs;whnf);rewrite [hsh false _ _ ?hq];(case hq=>exact λK=>by kernel_rfl);(conv=>lhs;whnf);rewrite [hS];cases q<;>(conv=>lhs;whnf)<;>exact hK _ _ (λb=>⟨false,λK=>by kernel_rfl⟩))
theorem B2Y (h1:1≤ks.length) (h3:ks.length≤3) (hl:l<ks.length) (hr:r<ks.length):RV (rt (L+20) (n+2)) DB [.agg (Bs id (BC ks) (BR xs) o),.agg (biN 6 l r).cs,I ks.length] (.tup [Bo true,Bo true]):=by
 rcases ks3 h1 h3 with⟨a,rfl⟩|⟨a,b,rfl⟩|⟨a,b,c,rfl⟩
 ·obtain rfl:=Sy hl;obtain rfl:=Sy hr;exact λb=>by kernel_rfl
 ·rcases Sx hl with rfl|rfl<;>rcases Sx hr with rfl|rfl<;>(exact λb=>by kernel_rfl)
 ·rcases Sw hl with rfl|rfl|rfl<;>rcases Sw hr with rfl|rfl|rfl<;>(exact λb=>by kernel_rfl)
attribute [local irreducible] YF rt in
theorem B2S (h1:1≤ks.length) (h3:ks.length≤3) (hl:l<ks.length) (hr:r<ks.length) (hS:PO (rt (L+20) (n+41)) KY [.agg (uu (ks.getD l 0)).cs,.agg (uu (ks.getD r 0)).cs] (XA3 q)):CS (rt (L+20) (n+42)) BY [.agg (Bs id (BC ks) (BR xs) o),.agg (biN 6 l r).cs,I ks.length,OC ks] (A7I q):=by
 intro K hK
 have hsh:=(B2Y (L:=L) (n:=n+39) (id:=id) (o:=o) (xs:=xs) h1 h3 hl hr).ls
 rewrite [F8]
 unfold Fy Ar
 rewrite [zO]
 generalize rt (L+20) (n+41)=R at*
 revert hS hsh
 rcases ks3 h1 h3 with⟨a,rfl⟩|⟨a,b,rfl⟩|⟨a,b,c,rfl⟩
 ·obtain rfl:=Sy hl;obtain rfl:=Sy hr;intro hS hsh;simp only[RJ,RI] at hS;(conv=>lhs;whnf);rewrite [hsh false _ _ ?hq];(case hq=>exact λK=>by kernel_rfl);(conv=>lhs;whnf);rewrite [hS];cases q<;>(conv=>lhs;whnf)<;>exact hK _ _ (λb=>⟨false,λK=>by kernel_rfl⟩)
 ·rcases Sx hl with rfl|rfl<;>rcases Sx hr with rfl|rfl<;>(intro hS hsh;simp only[RJ,RI] at hS;(conv=>lhs;whnf);rewrite [hsh false _ _ ?hq];(case hq=>exact λK=>by kernel_rfl);(conv=>lhs;whnf);rewrite [hS];cases q<;>(conv=>lhs;whnf)<;>exact hK _ _ (λb=>⟨false,λK=>by kernel_rfl⟩))
 ·rcases Sw hl with rfl|rfl|rfl<;>rcases Sw hr with rfl|rfl|rfl<;>(intro hS hsh;simp only[RJ,RI] at hS;(conv=>lhs;whnf);rewrite [hsh false _ _ ?hq];(case hq=>exact λK=>by kernel_rfl);(conv=>lhs;whnf);rewrite [hS];cases q<;>(conv=>lhs;whnf)<;>exact hK _ _ (λb=>⟨false,λK=>by kernel_rfl⟩))
theorem B2W (h1:1≤ks.length) (h3:ks.length≤3) (hl:l<ks.length) (he:e<5):RV (rt (L+20) (n+2)) DB [.agg (Bs id (BC ks) (BR xs) o),.agg (poN l e).cs,I ks.length] (.tup [Bo true,Bo true]):=by
 rcases ks3 h1 h3 with⟨a,rfl⟩|⟨a,b,rfl⟩|⟨a,b,c,rfl⟩
 ·obtain rfl:=Sy hl;rcases lt5 he with rfl|rfl|rfl|rfl|rfl<;>(exact λb=>by kernel_rfl)
 ·rcases Sx hl with rfl|rfl<;>rcases lt5 he with rfl|rfl|rfl|rfl|rfl<;>(exact λb=>by kernel_rfl)
 ·rcases Sw hl with rfl|rfl|rfl<;>rcases lt5 he with rfl|rfl|rfl|rfl|rfl<;>(exact λb=>by kernel_rfl)
attribute [local irreducible] YF rt in
theorem B2Q (h1:1≤ks.length) (h3:ks.length≤3) (hl:l<ks.length) (he:e<5) (hS:PO (rt (L+20) (n+41)) Ho [.agg (uu (ks.getD l 0)).cs,.agg [I (Yh e),I 1]] (XA3 q)):CS (rt (L+20) (n+42)) BY [.agg (Bs id (BC ks) (BR xs) o),.agg (poN l e).cs,I ks.length,OC ks] (A7I q):=by
 intro K hK
 have hsh:=(B2W (L:=L) (n:=n+39) (id:=id) (o:=o) (xs:=xs) h1 h3 hl he).ls
 rewrite [F8]
 unfold Fy Ar
 rewrite [zO]
 generalize rt (L+20) (n+41)=R at*
 revert hS hsh
 rcases ks3 h1 h3 with⟨a,rfl⟩|⟨a,b,rfl⟩|⟨a,b,c,rfl⟩
 ·obtain rfl:=Sy hl;rcases lt5 he with rfl|rfl|rfl|rfl|rfl<;>(intro hS hsh;simp only[RJ,RI] at hS;(conv=>lhs;whnf);rewrite [hsh false _ _ ?hq];(case hq=>exact λK=>by kernel_rfl);(conv=>lhs;whnf);refine l2d (hS _ _) ?_;cases q<;>(conv=>lhs;whnf)<;>exact hK _ _ (λb=>⟨false,λK=>by kernel_rfl⟩))
 ·rcases Sx hl with rfl|rfl<;>rcases lt5 he with rfl|rfl|rfl|rfl|rfl<;>(intro hS hsh;simp only[RJ,RI] at hS;(conv=>lhs;whnf);rewrite [hsh false _ _ ?hq];(case hq=>exact λK=>by kernel_rfl);(conv=>lhs;whnf);refine l2d (hS _ _) ?_;cases q<;>(conv=>lhs;whnf)<;>exact hK _ _ (λb=>⟨false,λK=>by kernel_rfl⟩))
 ·rcases Sw hl with rfl|rfl|rfl<;>rcases lt5 he with rfl|rfl|rfl|rfl|rfl<;>(intro hS hsh;simp only[RJ,RI] at hS;(conv=>lhs;whnf);rewrite [hsh false _ _ ?hq];(case hq=>exact λK=>by kernel_rfl);(conv=>lhs;whnf);refine l2d (hS _ _) ?_;cases q<;>(conv=>lhs;whnf)<;>exact hK _ _ (λb=>⟨false,λK=>by kernel_rfl⟩))
theorem B0n (h1:1≤ks.length) (h3:ks.length≤3) (hl:l<ks.length) (hr:r<ks.length):RV (rt (L+20) (n+2)) B2 [Tj I1 (OC ks),VH (Ff.getD 3 []) YH DQ,.agg (biN 3 l r).cs] (Bo true):=by
 rcases ks3 h1 h3 with⟨a,rfl⟩|⟨a,b,rfl⟩|⟨a,b,c,rfl⟩
 ·obtain rfl:=Sy hl;obtain rfl:=Sy hr;exact λb=>by kernel_rfl
 ·rcases Sx hl with rfl|rfl<;>rcases Sx hr with rfl|rfl<;>(exact λb=>by kernel_rfl)
 ·rcases Sw hl with rfl|rfl|rfl<;>rcases Sw hr with rfl|rfl|rfl<;>(exact λb=>by kernel_rfl)
attribute [local irreducible] YF rt in
theorem B28 (h1:1≤ks.length) (h3:ks.length≤3) (hl:l<ks.length) (hr:r<ks.length) (hS:PO (rt (L+20) (n+40)) Pp [.agg (uu (ks.getD l 0)).cs,.agg (uu (ks.getD r 0)).cs] (XA3 (some k))):CS (rt (L+20) (n+41)) DQ [Tj I1 (OC ks),.agg (biN 3 l r).cs] (.tup [.agg (Cb (uu k)),I 0]):=by
 intro K hK
 rewrite [Ot]
 unfold GO
 rewrite [zO]
 generalize rt (L+20) (n+40)=R at*
 revert hS
 rcases ks3 h1 h3 with⟨a,rfl⟩|⟨a,b,rfl⟩|⟨a,b,c,rfl⟩
 ·obtain rfl:=Sy hl;obtain rfl:=Sy hr;intro hS;simp only[RJ,RI] at hS;(conv=>lhs;whnf);rewrite [hS];(conv=>lhs;whnf);exact hK _ _ (λb=>⟨false,λK=>by kernel_rfl⟩)
 ·rcases Sx hl with rfl|rfl<;>rcases Sx hr with rfl|rfl<;>(intro hS;simp only[RJ,RI] at hS;(conv=>lhs;whnf);rewrite [hS];(conv=>lhs;whnf);exact hK _ _ (λb=>⟨false,λK=>by kernel_rfl⟩))
 ·rcases Sw hl with rfl|rfl|rfl<;>rcases Sw hr with rfl|rfl|rfl<;>(intro hS;simp only[RJ,RI] at hS;(conv=>lhs;whnf);rewrite [hS];(conv=>lhs;whnf);exact hK _ _ (λb=>⟨false,λK=>by kernel_rfl⟩))
theorem B0r (h1:1≤ks.length) (h3:ks.length≤3) (hl:l<ks.length) (hr:r<ks.length):RV (rt (L+20) (n+2)) B2 [Tj I1 (OC ks),VH (Ff.getD 4 []) YH C8,.agg (biN 4 l r).cs] (Bo true):=by
 rcases ks3 h1 h3 with⟨a,rfl⟩|⟨a,b,rfl⟩|⟨a,b,c,rfl⟩
 ·obtain rfl:=Sy hl;obtain rfl:=Sy hr;exact λb=>by kernel_rfl
 ·rcases Sx hl with rfl|rfl<;>rcases Sx hr with rfl|rfl<;>(exact λb=>by kernel_rfl)
 ·rcases Sw hl with rfl|rfl|rfl<;>rcases Sw hr with rfl|rfl|rfl<;>(exact λb=>by kernel_rfl)
attribute [local irreducible] YF rt in
theorem B2c (h1:1≤ks.length) (h3:ks.length≤3) (hl:l<ks.length) (hr:r<ks.length) (hS:PO (rt (L+20) (n+40)) Hi [.agg (uu (ks.getD l 0)).cs,.agg (uu (ks.getD r 0)).cs] (XA3 (some k))):CS (rt (L+20) (n+41)) C8 [Tj I1 (OC ks),.agg (biN 4 l r).cs] (.tup [.agg (Cb (uu k)),I 0]):=by
 intro K hK
 rewrite [KJ]
 unfold EG
 rewrite [zO]
 generalize rt (L+20) (n+40)=R at*
 revert hS
 rcases ks3 h1 h3 with⟨a,rfl⟩|⟨a,b,rfl⟩|⟨a,b,c,rfl⟩
 ·obtain rfl:=Sy hl;obtain rfl:=Sy hr;intro hS;simp only[RJ,RI] at hS;(conv=>lhs;whnf);rewrite [hS];(conv=>lhs;whnf);exact hK _ _ (λb=>⟨false,λK=>by kernel_rfl⟩)
 ·rcases Sx hl with rfl|rfl<;>rcases Sx hr with rfl|rfl<;>(intro hS;simp only[RJ,RI] at hS;(conv=>lhs;whnf);rewrite [hS];(conv=>lhs;whnf);exact hK _ _ (λb=>⟨false,λK=>by kernel_rfl⟩))
 ·rcases Sw hl with rfl|rfl|rfl<;>rcases Sw hr with rfl|rfl|rfl<;>(intro hS;simp only[RJ,RI] at hS;(conv=>lhs;whnf);rewrite [hS];(conv=>lhs;whnf);exact hK _ _ (λb=>⟨false,λK=>by kernel_rfl⟩))
theorem B0p (h1:1≤ks.length) (h3:ks.length≤3) (hl:l<ks.length) (hr:r<ks.length):RV (rt (L+20) (n+2)) B2 [Tj I1 (OC ks),VH (Ff.getD 5 []) YH CW,.agg (biN 5 l r).cs] (Bo true):=by
 rcases ks3 h1 h3 with⟨a,rfl⟩|⟨a,b,rfl⟩|⟨a,b,c,rfl⟩
 ·obtain rfl:=Sy hl;obtain rfl:=Sy hr;exact λb=>by kernel_rfl
 ·rcases Sx hl with rfl|rfl<;>rcases Sx hr with rfl|rfl<;>(exact λb=>by kernel_rfl)
 ·rcases Sw hl with rfl|rfl|rfl<;>rcases Sw hr with rfl|rfl|rfl<;>(exact λb=>by kernel_rfl)
attribute [local irreducible] YF rt in
theorem B2a (h1:1≤ks.length) (h3:ks.length≤3) (hl:l<ks.length) (hr:r<ks.length) (hS:PO (rt (L+20) (n+40)) Ps [.agg (uu (ks.getD l 0)).cs,.agg (uu (ks.getD r 0)).cs] (XA3 (some k))):CS (rt (L+20) (n+41)) CW [Tj I1 (OC ks),.agg (biN 5 l r).cs] (.tup [.agg (Cb (uu k)),I 0]):=by
 intro K hK
 rewrite [Mf]
 unfold FA
 rewrite [zO]
 generalize rt (L+20) (n+40)=R at*
 revert hS
 rcases ks3 h1 h3 with⟨a,rfl⟩|⟨a,b,rfl⟩|⟨a,b,c,rfl⟩
 ·obtain rfl:=Sy hl;obtain rfl:=Sy hr;intro hS;simp only[RJ,RI] at hS;(conv=>lhs;whnf);rewrite [hS];(conv=>lhs;whnf);exact hK _ _ (λb=>⟨false,λK=>by kernel_rfl⟩)
 ·rcases Sx hl with rfl|rfl<;>rcases Sx hr with rfl|rfl<;>(intro hS;simp only[RJ,RI] at hS;(conv=>lhs;whnf);rewrite [hS];(conv=>lhs;whnf);exact hK _ _ (λb=>⟨false,λK=>by kernel_rfl⟩))
 ·rcases Sw hl with rfl|rfl|rfl<;>rcases Sw hr with rfl|rfl|rfl<;>(intro hS;simp only[RJ,RI] at hS;(conv=>lhs;whnf);rewrite [hS];(conv=>lhs;whnf);exact hK _ _ (λb=>⟨false,λK=>by kernel_rfl⟩))
theorem B0q (h1:1≤ks.length) (h3:ks.length≤3) (hl:l<ks.length) (hr:r<ks.length):RV (rt (L+20) (n+2)) B2 [Tj I1 (OC ks),VH (Ff.getD 6 []) YH CN,.agg (biN 6 l r).cs] (Bo true):=by
 rcases ks3 h1 h3 with⟨a,rfl⟩|⟨a,b,rfl⟩|⟨a,b,c,rfl⟩
 ·obtain rfl:=Sy hl;obtain rfl:=Sy hr;exact λb=>by kernel_rfl
 ·rcases Sx hl with rfl|rfl<;>rcases Sx hr with rfl|rfl<;>(exact λb=>by kernel_rfl)
 ·rcases Sw hl with rfl|rfl|rfl<;>rcases Sw hr with rfl|rfl|rfl<;>(exact λb=>by kernel_rfl)
attribute [local irreducible] YF rt in
theorem B2b (h1:1≤ks.length) (h3:ks.length≤3) (hl:l<ks.length) (hr:r<ks.length) (hS:PO (rt (L+20) (n+40)) Pt [.agg (uu (ks.getD l 0)).cs,.agg (uu (ks.getD r 0)).cs] (XA3 (some k))):CS (rt (L+20) (n+41)) CN [Tj I1 (OC ks),.agg (biN 6 l r).cs] (.tup [.agg (Cb (uu k)),I 0]):=by
 intro K hK
 rewrite [L9]
 unfold Fp
 rewrite [zO]
 generalize rt (L+20) (n+40)=R at*
 revert hS
 rcases ks3 h1 h3 with⟨a,rfl⟩|⟨a,b,rfl⟩|⟨a,b,c,rfl⟩
 ·obtain rfl:=Sy hl;obtain rfl:=Sy hr;intro hS;simp only[RJ,RI] at hS;(conv=>lhs;whnf);rewrite [hS];(conv=>lhs;whnf);exact hK _ _ (λb=>⟨false,λK=>by kernel_rfl⟩)
 ·rcases Sx hl with rfl|rfl<;>rcases Sx hr with rfl|rfl<;>(intro hS;simp only[RJ,RI] at hS;(conv=>lhs;whnf);rewrite [hS];(conv=>lhs;whnf);exact hK _ _ (λb=>⟨false,λK=>by kernel_rfl⟩))
 ·rcases Sw hl with rfl|rfl|rfl<;>rcases Sw hr with rfl|rfl|rfl<;>(intro hS;simp only[RJ,RI] at hS;(conv=>lhs;whnf);rewrite [hS];(conv=>lhs;whnf);exact hK _ _ (λb=>⟨false,λK=>by kernel_rfl⟩))
theorem B0o (h1:1≤ks.length) (h3:ks.length≤3) (hl:l<ks.length) (he:e<5):RV (rt (L+20) (n+2)) B2 [Tj I1 (OC ks),VH (Ff.getD 7 []) C1e Dw,.agg (poN l e).cs] (Bo true):=by
 rcases ks3 h1 h3 with⟨a,rfl⟩|⟨a,b,rfl⟩|⟨a,b,c,rfl⟩
 ·obtain rfl:=Sy hl;rcases lt5 he with rfl|rfl|rfl|rfl|rfl<;>(exact λb=>by kernel_rfl)
 ·rcases Sx hl with rfl|rfl<;>rcases lt5 he with rfl|rfl|rfl|rfl|rfl<;>(exact λb=>by kernel_rfl)
 ·rcases Sw hl with rfl|rfl|rfl<;>rcases lt5 he with rfl|rfl|rfl|rfl|rfl<;>(exact λb=>by kernel_rfl)
attribute [local irreducible] YF rt in
theorem B29 (h1:1≤ks.length) (h3:ks.length≤3) (hl:l<ks.length) (he:e<5) (hS:PO (rt (L+20) (n+40)) Pq [.agg (uu (ks.getD l 0)).cs,.agg [I (Yh e),I 1]] (XA3 (some k))):CS (rt (L+20) (n+41)) Dw [Tj I1 (OC ks),.agg (poN l e).cs] (.tup [.agg (Cb (uu k)),I 0]):=by
 intro K hK
 rewrite [Nu]
 unfold Gc Bw Ar E4
 rewrite [zO]
 generalize rt (L+20) (n+40)=R at*
 revert hS
 rcases ks3 h1 h3 with⟨a,rfl⟩|⟨a,b,rfl⟩|⟨a,b,c,rfl⟩
 ·obtain rfl:=Sy hl;rcases lt5 he with rfl|rfl|rfl|rfl|rfl<;>(intro hS;simp only[RJ,RI] at hS;(conv=>lhs;whnf);dsimp only[poN];rewrite [hS];(conv=>lhs;whnf);exact hK _ _ (λb=>⟨false,λK=>by kernel_rfl⟩))
 ·rcases Sx hl with rfl|rfl<;>rcases lt5 he with rfl|rfl|rfl|rfl|rfl<;>(intro hS;simp only[RJ,RI] at hS;(conv=>lhs;whnf);dsimp only[poN];rewrite [hS];(conv=>lhs;whnf);exact hK _ _ (λb=>⟨false,λK=>by kernel_rfl⟩))
 ·rcases Sw hl with rfl|rfl|rfl<;>rcases lt5 he with rfl|rfl|rfl|rfl|rfl<;>(intro hS;simp only[RJ,RI] at hS;(conv=>lhs;whnf);dsimp only[poN];rewrite [hS];(conv=>lhs;whnf);exact hK _ _ (λb=>⟨false,λK=>by kernel_rfl⟩))
end
end
section
variable (L n:Nat)
theorem A5x:((List.range 11).all λk=>(λi=>HN (AW (C4 (rt (L+20) (n+40)) BU [.agg (VI i)]) (Bo true))) (k+0))=true:=by kernel_rfl
theorem A5w:((List.range 11).all λk=>(λi=>HN (AW (C4 (rt (L+20) (n+40)) BU [.agg (VI i)]) (Bo true))) (k+11))=true:=by kernel_rfl
theorem A5v:((List.range 11).all λk=>(λi=>HN (AW (C4 (rt (L+20) (n+40)) BU [.agg (VI i)]) (Bo true))) (k+22))=true:=by kernel_rfl
theorem B0s (i:Nat) (h:i<33):PS (rt (L+20) (n+40)) BU [.agg (VI i)] (Bo true):=by
 refine Bu (λH=>by first|exact λK=>by kernel_rfl) ?_
 by_cases h0:i<11
 ·have:=Hv.1 (A5x L n) (i-0) (IL.2 (by omega))
  have e:i-0+0=i:=by omega
  simp only[e] at this
  exact this
 by_cases h1:i<22
 ·have:=Hv.1 (A5w L n) (i-11) (IL.2 (by omega))
  have e:i-11+11=i:=by omega
  simp only[e] at this
  exact this
 by_cases h2:i<33
 ·have:=Hv.1 (A5v L n) (i-22) (IL.2 (by omega))
  have e:i-22+22=i:=by omega
  simp only[e] at this
  exact this
 ·omega
theorem A5A:((List.range 11).all λk=>(λi=>HN (AW (C4 (rt (L+20) (n+40)) Gu [.agg (VI i)]) (S (frt i)))) (k+0))=true:=by kernel_rfl
theorem A5z:((List.range 11).all λk=>(λi=>HN (AW (C4 (rt (L+20) (n+40)) Gu [.agg (VI i)]) (S (frt i)))) (k+11))=true:=by kernel_rfl
theorem A5y:((List.range 11).all λk=>(λi=>HN (AW (C4 (rt (L+20) (n+40)) Gu [.agg (VI i)]) (S (frt i)))) (k+22))=true:=by kernel_rfl
theorem B0t (i:Nat) (h:i<33):PS (rt (L+20) (n+40)) Gu [.agg (VI i)] (S (frt i)):=by
 refine Bu (λH=>by first|exact λK=>by kernel_rfl) ?_
 by_cases h0:i<11
 ·have:=Hv.1 (A5A L n) (i-0) (IL.2 (by omega))
  have e:i-0+0=i:=by omega
  simp only[e] at this
  exact this
 by_cases h1:i<22
 ·have:=Hv.1 (A5z L n) (i-11) (IL.2 (by omega))
  have e:i-11+11=i:=by omega
  simp only[e] at this
  exact this
 by_cases h2:i<33
 ·have:=Hv.1 (A5y L n) (i-22) (IL.2 (by omega))
  have e:i-22+22=i:=by omega
  simp only[e] at this
  exact this
 ·omega
end
section
variable {L n:Nat}
section
variable {id:Int} {o:UD} {xs:List Nd} {ks:List Nat} {i j k:Nat} {I1:AV}
theorem B2l (h3:ks.length≤3):RV (rt (L+20) (n+2)) B2 [Tj I1 (OC ks),VH (Ff.getD 2 []) C1o E0,.agg (UP i).cs] (Bo true):=by
 match ks,h3 with
 |[],_=>exact λb=>by kernel_rfl
 |[a],_=>exact λb=>by kernel_rfl
 |[a,b],_=>exact λb=>by kernel_rfl
 |[a,b,c],_=>exact λb=>by kernel_rfl
theorem B2m (h3:ks.length≤3):RV (rt (L+20) (n+2)) B2 [Tj I1 (OC ks),VH (Ff.getD 1 []) AM CO,.agg (cnN i k).cs] (Bo true):=by
 match ks,h3 with
 |[],_=>exact λb=>by kernel_rfl
 |[a],_=>exact λb=>by kernel_rfl
 |[a,b],_=>exact λb=>by kernel_rfl
 |[a,b,c],_=>exact λb=>by kernel_rfl
theorem B5s {U:AV} (h1:1≤ks.length) (h3:ks.length≤3) (hj:j<ks.length):RV (rt (L+20) (n+2)) E0 [Tj (BC ks) U,.agg (UP j).cs] (.tup [.agg (Cb (uu (ks.getD j 0))),I 0]):=by
 rcases ks3 h1 h3 with⟨a,rfl⟩|⟨a,b,rfl⟩|⟨a,b,c,rfl⟩
 ·obtain rfl:=Sy hj;exact λb=>by kernel_rfl
 ·rcases Sx hj with rfl|rfl<;>exact λb=>by kernel_rfl
 ·rcases Sw hj with rfl|rfl|rfl<;>exact λb=>by kernel_rfl
attribute [local irreducible] YF rt in
theorem B5t {C:List AV} (hv:PO (rt (L+20) (n+40)) BU [.agg (VI i)] (Bo true)) (hu:PO (rt (L+20) (n+40)) Gh [.agg (uu k).cs] (Bo true)):CS (rt (L+20) (n+41)) CO [.iptr C,.agg (cnN i k).cs] (.tup [.agg (Cb (uu k)),I 0]):=by
 intro K hK
 rewrite [LB]
 unfold Fq Bw Ar E4
 rewrite [zO]
 generalize rt (L+20) (n+40)=R at*
 conv=>lhs;whnf
 refine l2d (hv _ _) ?_
 conv=>lhs;whnf
 simp only[DK]
 dsimp only[cnN]
 rewrite [hu]
 conv=>lhs;whnf
 exact hK _ _ (λb=>⟨false,λK=>by kernel_rfl⟩)
attribute [local irreducible] YF rt Go.Abs.Uc in
theorem B6C (hv:PO (rt (L+20) (n+40)) Cz [.agg (VI i)] (Bo true)) (hu:PO (rt (L+20) (n+40)) DH [.agg (uu k).cs] (Bo true)) {at_:Int}:CS (rt (L+20) (n+41)) DB [.agg (Bs id (BC ks) (BR xs) o),.agg (cnN i k).cs,I at_] (.tup [Bo true,Bo false]):=by
 intro K hK
 rewrite [Rh]
 unfold L2 AU Ar E4 CH
 rewrite [zO]
 generalize rt (L+20) (n+40)=R at*
 conv=>lhs;whnf
 refine l2d (hv _ _) ?_
 conv=>lhs;whnf
 refine l2d (hu _ _) ?_
 conv=>lhs;whnf
 refine l2d (C4Y (x:=cnN i k)) ?_
 conv=>lhs;whnf
 exact hK _ _ (λb=>⟨false,λK=>by kernel_rfl⟩)
attribute [local irreducible] YF rt in
theorem B6A (hv:PO (rt (L+20) (n+40)) Cz [.agg (VI i)] (Bo true)) (hu:PO (rt (L+20) (n+40)) DH [.agg (uu k).cs] (Bo true)) {at_:Int} {w:AV}:CS (rt (L+20) (n+42)) BY [.agg (Bs id (BC ks) (BR xs) o),.agg (cnN i k).cs,I at_,w] (.tup [.agg (Cb (uu k)),I 0]):=by
 intro K hK
 have hsh:=(B6C (id:=id) (o:=o) (xs:=xs) (ks:=ks) (at_:=at_) hv hu).ls
 clear hv hu
 rewrite [F8]
 unfold Fy Ar
 rewrite [zO]
 generalize rt (L+20) (n+41)=R at*
 conv=>lhs;whnf
 rewrite [hsh false _ _ ?hq]
 case hq=>exact λK=>by kernel_rfl
 conv=>lhs;whnf
 exact hK _ _ (λb=>⟨false,λK=>by kernel_rfl⟩)
end
end
section
section
variable (L n:Nat)
def C5N:List (UD×Int):=[(⟨1,2,0,1,0,1,0,1,0,1,0,1,0,1,[49],[49],[48],[49],0,1⟩,0),(⟨0,1,0,1,1,2,0,1,0,1,0,1,0,1,[49],[49],[48],[49],0,1⟩,0),(u0,70),(⟨0,1,0,1,0,1,0,1,0,1,0,1,0,1,[49],[49],[48],[49],0,2⟩,0),
 (u0,70),(⟨0,1,0,1,0,1,0,1,1,2,0,1,0,1,[49],[49],[48],[49],0,1⟩,0),(⟨1,1,0,1,0,1,0,1,0,1,0,1,0,1,[49],[49],[48],[49],0,1⟩,0)]
def usq (k:Nat):UD×Int:=C5N.getD k (u0,0)
theorem B6u:((List.range 7).all λi=>HN (AW (C4 (rt (L+20) (n+40)) Ho [.agg (uu i).cs,.agg [I 1,I 2]]) (.tup [.agg (usq i).1.cs,I (usq i).2])))=true:=by kernel_rfl
theorem C3B (i:Nat) (h:i<7):PS (rt (L+20) (n+40)) Ho [.agg (uu i).cs,.agg [I 1,I 2]] (.tup [.agg (usq i).1.cs,I (usq i).2]):=by
 refine Bu (λH=>by first|exact λK=>by kernel_rfl) ?_
 exact Hv.1 (B6u L n) i (IL.2 h)
end
variable {L n:Nat}
section
variable {id:Int} {o:UD} {xs:List Nd} {ks:List Nat} {i j k l:Nat} {I1:AV}
def sqN (l:Nat):Nd:=⟨8,[],[],u0,0,l,0⟩
theorem B6B (h1:1≤ks.length) (h3:ks.length≤3) (hl:l<ks.length):RV (rt (L+20) (n+2)) DB [.agg (Bs id (BC ks) (BR xs) o),.agg (sqN l).cs,I ks.length] (.tup [Bo true,Bo true]):=by
 rcases ks3 h1 h3 with⟨a,rfl⟩|⟨a,b,rfl⟩|⟨a,b,c,rfl⟩
 ·obtain rfl:=Sy hl;exact λb=>by kernel_rfl
 ·rcases Sx hl with rfl|rfl<;>exact λb=>by kernel_rfl
 ·rcases Sw hl with rfl|rfl|rfl<;>exact λb=>by kernel_rfl
attribute [local irreducible] YF rt in
theorem B6z {u:UD} {e:Int} (he:e=0∨e=70) (h1:1≤ks.length) (h3:ks.length≤3) (hl:l<ks.length) (hS:PO (rt (L+20) (n+41)) Ho [.agg (uu (ks.getD l 0)).cs,.agg [I 1,I 2]] (.tup [.agg u.cs,I e])):CS (rt (L+20) (n+42)) BY [.agg (Bs id (BC ks) (BR xs) o),.agg (sqN l).cs,I ks.length,OC ks] (if e=0 then .tup [.agg u.cs,I 0] else .tup [.agg E9,I 90]):=by
 intro K hK
 have hsh:=(B6B (L:=L) (n:=n+39) (id:=id) (o:=o) (xs:=xs) h1 h3 hl).ls
 rewrite [F8]
 unfold Fy Ar
 rewrite [zO]
 generalize rt (L+20) (n+41)=R at*
 revert hS hsh
 rcases ks3 h1 h3 with⟨a,rfl⟩|⟨a,b,rfl⟩|⟨a,b,c,rfl⟩
 ·obtain rfl:=Sy hl;(intro hS hsh;simp only[RJ,RI] at hS;(conv=>lhs;whnf);rewrite [hsh false _ _ ?hq];(case hq=>exact λK=>by kernel_rfl);(conv=>lhs;whnf);refine l2d (hS _ _) ?_;rcases he with rfl|rfl<;>(conv=>lhs;whnf)<;>exact hK _ _ (λb=>⟨false,λK=>by kernel_rfl⟩))
 ·rcases Sx hl with rfl|rfl<;>(intro hS hsh;simp only[RJ,RI] at hS;(conv=>lhs;whnf);rewrite [hsh false _ _ ?hq];(case hq=>exact λK=>by kernel_rfl);(conv=>lhs;whnf);refine l2d (hS _ _) ?_;rcases he with rfl|rfl<;>(conv=>lhs;whnf)<;>exact hK _ _ (λb=>⟨false,λK=>by kernel_rfl⟩))
 ·rcases Sw hl with rfl|rfl|rfl<;>(intro hS hsh;simp only[RJ,RI] at hS;(conv=>lhs;whnf);rewrite [hsh false _ _ ?hq];(case hq=>exact λK=>by kernel_rfl);(conv=>lhs;whnf);refine l2d (hS _ _) ?_;rcases he with rfl|rfl<;>(conv=>lhs;whnf)<;>exact hK _ _ (λb=>⟨false,λK=>by kernel_rfl⟩))
end
section
variable {i k:Nat}
theorem A4H (h:i<33):(frt i).length<10:=by
 have:=Hv.1 (show((List.range 33).all λi=>decide ((frt i).length<10))=true by kernel_rfl) i (IL.2 h)
 simpa using this
theorem B6s:PS (rt (L+20) (n+1)) QC [] (.list 9 (Ff.map λw=>S w)):=Bu (λH K=>by kernel_rfl) (by kernel_rfl)
attribute [local irreducible] YF rt Go.Abs.Ak in
theorem B3a (hi:i<33) (hw:PO (rt (L+20) (n+40)) Cu [I 1,I 1,I 8] (Bo true)) (hws:PO (rt (L+20) (n+40)) QC [] (.list 9 (Ff.map λw=>S w))) (hu:PO (rt (L+20) (n+40)) Gr [.agg (uu k).cs] (.tup [S (Jv k),I 0])) (hp:PO (rt (L+20) (n+40)) IM [.agg (VI i)] (S (frt i))):CS (rt (L+20) (n+41)) Hl [.agg (cnN i k).cs] (S (cnT i k)):=by
 intro K hK
 rewrite [A10]
 unfold Sh Ar
 rewrite [zO]
 generalize rt (L+20) (n+40)=R at*
 conv=>lhs;whnf
 refine l2d (hw _ _) ?_
 conv=>lhs;whnf
 rewrite [hws]
 conv=>lhs;whnf
 refine l2d A3s ?_
 conv=>lhs;whnf
 refine l2d (hu _ _) ?_
 conv=>lhs;whnf
 have h1:=A4H hi
 have h2:=EU k
 refine l2d (Bl (a:=Ff.getD 1 []) (by decide)) ?_
 conv=>lhs;whnf
 refine l2d (hp _ _) ?_
 conv=>lhs;whnf
 rewrite [Bl (by simp only[FK,Ff,RI,RJ,Lf,Od];omega)]
 rewrite [Bl (by simp only[FK,Ff,RI,RJ,Lf,Od];omega)]
 rewrite [Bl (by simp only[FK,Ff,RI,RJ,Lf,Od];omega)]
 exact hK _ _ (λb=>⟨false,λK=>by kernel_rfl⟩)
attribute [local irreducible] YF rt Go.Abs.Ak in
theorem B2j (hi:i<33) (hws:PO (rt (L+20) (n+40)) XA0 [] TG) (hu:PO (rt (L+20) (n+40)) Hh [.agg (uu k).cs] (.tup [S (Jv k),I 0])) (hp:PO (rt (L+20) (n+40)) Gu [.agg (VI i)] (S (frt i))):CS (rt (L+20) (n+41)) Ew [.agg (cnN i k).cs] (S (cnT i k)):=by
 intro K hK
 rewrite [Vx]
 unfold M0 Ar
 rewrite [zO]
 generalize rt (L+20) (n+40)=R at*
 conv=>lhs;whnf
 rewrite [hws]
 conv=>lhs;whnf
 rewrite [hws]
 conv=>lhs;whnf
 refine l2d (A3s (a:=1)) ?_
 conv=>lhs;whnf
 refine l2d (hu _ _) ?_
 conv=>lhs;whnf
 have h1:=A4H hi
 have h2:=EU k
 refine l2d (Bl (a:=Ff.getD 1 []) (by decide)) ?_
 conv=>lhs;whnf
 refine l2d (hp _ _) ?_
 conv=>lhs;whnf
 rewrite [Bl (by simp only[FK,Ff,RI,RJ,Lf,Od];omega)]
 rewrite [Bl (by simp only[FK,Ff,RI,RJ,Lf,Od];omega)]
 rewrite [Bl (by simp only[FK,Ff,RI,RJ,Lf,Od];omega)]
 exact hK _ _ (λb=>⟨false,λK=>by kernel_rfl⟩)
end
end
section
variable {L n:Nat}
inductive Ex where
 |no
 |cn (i k:Nat)
 |inp (j:Nat)
 |bi (op l r k:Nat)
 |po (l e k:Nat)
def Ex.nd:Ex→List Nd
 | .no=>[]
 | .cn i k=>[cnN i k]
 | .inp j=>[UP j]
 | .bi op l r _=>[biN op l r]
 | .po l e _=>[poN l e]
def Ex.ty (ks:List Nat):Ex→List Nat
 | .no=>[]
 | .cn _ k=>[k]
 | .inp j=>[ks.getD j 0]
 | .bi _ _ _ k=>[k]
 | .po _ _ k=>[k]
def Ex.tx:Ex→List (List UInt8)
 | .no=>[]
 | .cn i k=>[cnT i k]
 | .inp j=>[exT j]
 | .bi op l r _=>[exT (3+9*(op-3)+3*l+r)]
 | .po l e _=>[exT (39+5*l+e)]
def Ex.Ok (ks:List Nat):Ex→Prop
 | .no=>True
 | .cn i k=>i<33∧k<7
 | .inp j=>j<ks.length
 | .bi op l r k=>3≤op∧op<7∧l<ks.length∧r<ks.length∧RH (op-3) (ks.getD l 0) (ks.getD r 0)=some k
 | .po l e k=>l<ks.length∧e<5∧Tr (ks.getD l 0) e=some k
structure Pr where
 id:Nat
 ks:List Nat
 x:Ex
structure Pr.Ok (p:Pr):Prop where
 i1:1≤p.id
 i2:p.id<950
 k1:1≤p.ks.length
 k3:p.ks.length≤3
 k7:∀k∈p.ks,k<7
 x:p.x.Ok p.ks
def Pr.xs (p:Pr):List Nd:=Kr p.ks++p.x.nd
def Pr.ty (p:Pr):List Nat:=p.ks++p.x.ty p.ks
def Pr.ts (p:Pr):List (List UInt8):=(List.range p.ks.length).map exT++p.x.tx
def Pr.out (p:Pr):Nat:=p.ty.getD (p.xs.length-1) 0
section
variable {a b l r e i j k op:Nat} {ks:List Nat} {xs:List Nd} {id:Int} {o:UD}
theorem K3 {N:Nat} (h:∀k∈ks,k<N) (hl:l<ks.length):ks.getD l 0<N:=by
 have e:ks.getD l 0=ks[l]:=by simp[List.getD,Ka hl]
 rw[e];exact h _ (Ow hl)
theorem B6t (ha:a<7) (hb:b<7):PO (rt (L+20) (n+41)) NB [.agg (uu a).cs,.agg (uu b).cs] (XA3 (RH 0 a b)):=by
 have:=(C0T L (n+1) (7*a+b) (by omega)).o;rwa[show(7*a+b)/7=a by omega,show(7*a+b)%7=b by omega] at this
theorem B6y (ha:a<7) (hb:b<7):PO (rt (L+20) (n+41)) GB [.agg (uu a).cs,.agg (uu b).cs] (XA3 (RH 1 a b)):=by
 have:=(C0X L (n+1) (7*a+b) (by omega)).o;rwa[show(7*a+b)/7=a by omega,show(7*a+b)%7=b by omega] at this
theorem B6w (ha:a<7) (hb:b<7):PO (rt (L+20) (n+41)) KX [.agg (uu a).cs,.agg (uu b).cs] (XA3 (RH 2 a b)):=by
 have:=(C0V L (n+1) (7*a+b) (by omega)).o;rwa[show(7*a+b)/7=a by omega,show(7*a+b)%7=b by omega] at this
theorem B6x (ha:a<7) (hb:b<7):PO (rt (L+20) (n+41)) KY [.agg (uu a).cs,.agg (uu b).cs] (XA3 (RH 3 a b)):=by
 have:=(C0W L (n+1) (7*a+b) (by omega)).o;rwa[show(7*a+b)/7=a by omega,show(7*a+b)%7=b by omega] at this
theorem B6v (ha:a<7) (hb:e<5):PO (rt (L+20) (n+41)) Ho [.agg (uu a).cs,.agg [I (Yh e),I 1]] (XA3 (Tr a e)):=by
 have:=(C0U L (n+1) (5*a+e) (by omega)).o;rwa[show(5*a+e)/5=a by omega,show(5*a+e)%5=e by omega] at this
theorem B5n (ha:a<7) (hb:b<7) (h:RH 0 a b=some k):PO (rt (L+20) (n+40)) Pp [.agg (uu a).cs,.agg (uu b).cs] (XA3 (some k)):=by
 have e1:(7*a+b)/7=a:=by omega
 have e2:(7*a+b)%7=b:=by omega
 have:=(B8G L n (7*a+b) (by omega) (by rw[e1,e2,h];rfl)).o;rwa[e1,e2,h] at this
theorem B5r (ha:a<7) (hb:b<7) (h:RH 1 a b=some k):PO (rt (L+20) (n+40)) Hi [.agg (uu a).cs,.agg (uu b).cs] (XA3 (some k)):=by
 have e1:(7*a+b)/7=a:=by omega
 have e2:(7*a+b)%7=b:=by omega
 have:=(B8K L n (7*a+b) (by omega) (by rw[e1,e2,h];rfl)).o;rwa[e1,e2,h] at this
theorem B5p (ha:a<7) (hb:b<7) (h:RH 2 a b=some k):PO (rt (L+20) (n+40)) Ps [.agg (uu a).cs,.agg (uu b).cs] (XA3 (some k)):=by
 have e1:(7*a+b)/7=a:=by omega
 have e2:(7*a+b)%7=b:=by omega
 have:=(B8I L n (7*a+b) (by omega) (by rw[e1,e2,h];rfl)).o;rwa[e1,e2,h] at this
theorem B5q (ha:a<7) (hb:b<7) (h:RH 3 a b=some k):PO (rt (L+20) (n+40)) Pt [.agg (uu a).cs,.agg (uu b).cs] (XA3 (some k)):=by
 have e1:(7*a+b)/7=a:=by omega
 have e2:(7*a+b)%7=b:=by omega
 have:=(B8J L n (7*a+b) (by omega) (by rw[e1,e2,h];rfl)).o;rwa[e1,e2,h] at this
theorem B5o (ha:a<7) (hb:e<5) (h:Tr a e=some k):PO (rt (L+20) (n+40)) Pq [.agg (uu a).cs,.agg [I (Yh e),I 1]] (XA3 (some k)):=by
 have e1:(5*a+e)/5=a:=by omega
 have e2:(5*a+e)%5=e:=by omega
 have:=(B8H L n (5*a+e) (by omega) (by rw[e1,e2,h];rfl)).o;rwa[e1,e2,h] at this
theorem A9q (h1:1≤ks.length) (h3:ks.length≤3) (hk:∀k∈ks,k<7) (hl:l<ks.length) (hr:r<ks.length) (ho:3≤op) (ho':op<7):
 CS (rt (L+20) (n+42)) BY [.agg (Bs id (BC ks) (BR xs) o),.agg (biN op l r).cs,I ks.length,OC ks] (A7I (RH (op-3) (ks.getD l 0) (ks.getD r 0))):=by
 have ha:=K3 hk hl
 have hb:=K3 hk hr
 obtain rfl|rfl|rfl|rfl:op=3∨op=4∨op=5∨op=6:=by omega
 ·exact B2P h1 h3 hl hr (B6t ha hb)
 ·exact B2T h1 h3 hl hr (B6y ha hb)
 ·exact B2R h1 h3 hl hr (B6w ha hb)
 ·exact B2S h1 h3 hl hr (B6x ha hb)
theorem A9p (h1:1≤ks.length) (h3:ks.length≤3) (hk:∀k∈ks,k<7) (hl:l<ks.length) (he:e<5):
 CS (rt (L+20) (n+42)) BY [.agg (Bs id (BC ks) (BR xs) o),.agg (poN l e).cs,I ks.length,OC ks] (A7I (Tr (ks.getD l 0) e)):=
 B2Q h1 h3 hl he (B6v (K3 hk hl) he)
theorem A5R {at_:Int} {w:AV} (hi:i<33) (hk:k<7):CS (rt (L+20) (n+42)) BY [.agg (Bs id (BC ks) (BR xs) o),.agg (cnN i k).cs,I at_,w] (.tup [.agg (Cb (uu k)),I 0]):=
 B6A (B0H L n i hi).o (OV L n k (by omega)).o
end
section
variable {p:Pr} {o:UD}
theorem C1d (h:p.Ok):RTy L n p.id p.ks p.xs o p.ty:=by
 obtain⟨pid,ks,x⟩:=p
 obtain⟨i1,i2,k1,k3,k7,hx⟩:=h
 unfold Pr.xs Pr.ty
 cases x with
 |no=>
  simp only[Ex.nd,Ex.ty,l1o]
  exact C0M (l1m k3 (by decide))
 |cn i k=>exact ZG (l1m k3 (by decide)) (A5R hx.1 hx.2)
 |inp j=>
  refine ZG (l1m k3 (by decide)) ?_
  have hj:j<ks.length:=hx
  have e:ks.getD j 0=ks[j]:=by simp[List.getD,Ka hj]
  rw[e]
  exact Us (n:=n+39) (l1m k3 (by decide)) hj
 |bi op l r k=>
  obtain⟨h1,h2,h3,h4,h5⟩:=hx
  refine ZG (l1m k3 (by decide)) ?_
  have:=A9q (L:=L) (n:=n) (id:=pid) (xs:=Kr ks++[biN op l r]) (o:=o) k1 k3 k7 h3 h4 h1 h2
  rw[h5] at this
  exact this
 |po l e k=>
  obtain⟨h1,h2,h3⟩:=hx
  refine ZG (l1m k3 (by decide)) ?_
  have:=A9p (L:=L) (n:=n) (id:=pid) (xs:=Kr ks++[poN l e]) (o:=o) k1 k3 k7 h1 h2
  rw[h3] at this
  exact this
theorem B26 {ks:List Nat} {i:Nat} (k1:1≤ks.length) (k3:ks.length≤3) {l:List Nat} (hl:l.length≤3) (hi:i<ks.length):WNd L n (BC ks) l (UP i) (ks.getD i 0):=
 ⟨Ff.getD 2 [],C1o,E0,.inr ⟨_,_,rfl⟩,λH K=>by kernel_rfl,by kernel_rfl,rfl,rfl,B2l (n:=n+39) hl,B5s (n:=n+39) k1 k3 hi⟩
theorem C1c (h:p.Ok):WTy L n p.ks p.xs p.ty:=by
 obtain⟨pid,ks,x⟩:=p
 obtain⟨i1,i2,k1,k3,k7,hx⟩:=h
 simp only at k1 k3 k7 hx
 intro i hi
 simp only[Pr.xs,Pr.ty] at hi⊢
 by_cases hlt:i<ks.length
 ·have e1:(Kr ks++x.nd)[i]=UP i:=by
   rw[List.getElem_append_left (by rw[DP];exact hlt)];exact WC _
  have e2:(ks++x.ty ks).getD i 0=ks.getD i 0:=by simp[List.getD,l0l hlt]
  rw[e1,e2]
  exact B26 k1 k3 (by rw[l0g];omega) hlt
 ·have e0:x.nd.length≤1:=by cases x<;>simp[Ex.nd]
  rw[FK,DP] at hi
  obtain rfl:i=ks.length:=by omega
  have e1:∀y,x.nd=[y]→(Kr ks++x.nd)[ks.length]'(by rw[FK,DP];exact hi)=y:= λy hy=>by
   rw[List.getElem_append_right (by rw[DP];omega)];simp[hy,DP]
  have e2:∀k,x.ty ks=[k]→(ks++x.ty ks).getD ks.length 0=k:= λk hk=>by simp[List.getD,hk]
  have e3:(ks++x.ty ks).take ks.length=ks:=List.take_left' rfl
  rw[e3]
  cases x with
  |no=>simp[Ex.nd] at hi
  |cn i k=>
   rw[e1 _ rfl,e2 _ rfl]
   exact⟨Ff.getD 1 [],AM,CO,.inl rfl,λH K=>by kernel_rfl,by kernel_rfl,rfl,rfl,B2m (n:=n+39) k3,(B5t (B0s L n i hx.1).o (Tq L n k (by have:=hx.2;omega)).o).rv⟩
  |inp j=>
   rw[e1 _ rfl,e2 _ rfl]
   exact B26 k1 k3 k3 hx
  |bi op l r k=>
   obtain⟨h1,h2,h3,h4,h5⟩:=hx
   have ha:=K3 k7 h3
   have hb:=K3 k7 h4
   rw[e1 _ rfl,e2 _ rfl]
   obtain rfl|rfl|rfl|rfl:op=3∨op=4∨op=5∨op=6:=by omega
   ·exact⟨Ff.getD 3 [],YH,DQ,.inr ⟨_,_,rfl⟩,λH K=>by kernel_rfl,by kernel_rfl,rfl,rfl,B0n (n:=n+39) k1 k3 h3 h4,(B28 k1 k3 h3 h4 (B5n ha hb h5)).rv⟩
   ·exact⟨Ff.getD 4 [],YH,C8,.inr ⟨_,_,rfl⟩,λH K=>by kernel_rfl,by kernel_rfl,rfl,rfl,B0r (n:=n+39) k1 k3 h3 h4,(B2c k1 k3 h3 h4 (B5r ha hb h5)).rv⟩
   ·exact⟨Ff.getD 5 [],YH,CW,.inr ⟨_,_,rfl⟩,λH K=>by kernel_rfl,by kernel_rfl,rfl,rfl,B0p (n:=n+39) k1 k3 h3 h4,(B2a k1 k3 h3 h4 (B5p ha hb h5)).rv⟩
   ·exact⟨Ff.getD 6 [],YH,CN,.inr ⟨_,_,rfl⟩,λH K=>by kernel_rfl,by kernel_rfl,rfl,rfl,B0q (n:=n+39) k1 k3 h3 h4,(B2b k1 k3 h3 h4 (B5q ha hb h5)).rv⟩
  |po l e k=>
   obtain⟨h1,h2,h3⟩:=hx
   rw[e1 _ rfl,e2 _ rfl]
   exact⟨Ff.getD 7 [],C1e,Dw,.inr ⟨_,_,rfl⟩,λH K=>by kernel_rfl,by kernel_rfl,rfl,rfl,B0o (n:=n+39) k1 k3 h1 h2,(B29 k1 k3 h1 h2 (B5o (K3 k7 h1) h2 h3)).rv⟩
theorem C0Z {j:Nat} (h:j<54):PS (rt (L+20) (n+41)) Hl [.agg (exN j).cs] (S (exT j)):=
 Bu (λH=>by first|exact λK=>by kernel_rfl) (Hv.1 (B3b L n) j (IL.2 h))
theorem B8P {j:Nat} (h:j<54):PS (rt (L+20) (n+41)) Ew [.agg (exN j).cs] (S (exT j)):=
 Bu (λH=>by first|exact λK=>by kernel_rfl) (Hv.1 (B2k L n) j (IL.2 h))
theorem B8p {j:Nat} (h:j<3):UP j=exN j:=by unfold exN;rw[if_pos h]
theorem C4S {op l r:Nat} (h1:3≤op) (h2:op<7) (h3:l<3) (h4:r<3):biN op l r=exN (3+9*(op-3)+3*l+r):=by
 obtain rfl|rfl|rfl|rfl:op=3∨op=4∨op=5∨op=6:=by omega
 all_goals obtain rfl|rfl|rfl:l=0∨l=1∨l=2:=by omega
 all_goals obtain rfl|rfl|rfl:r=0∨r=1∨r=2:=by omega
 all_goals rfl
theorem C4R {l e:Nat} (h3:l<3) (h4:e<5):poN l e=exN (39+5*l+e):=by
 obtain rfl|rfl|rfl:l=0∨l=1∨l=2:=by omega
 all_goals obtain rfl|rfl|rfl|rfl|rfl:=lt5 h4
 all_goals rfl
def NdT (L n:Nat) (y:Nd) (t:List UInt8):Prop:=PS (rt (L+20) (n+41)) Hl [.agg y.cs] (S t)∧PS (rt (L+20) (n+41)) Ew [.agg y.cs] (S t)
theorem A4k {j:Nat} (h:j<54):NdT L n (exN j) (exT j):=⟨C0Z h,B8P h⟩
theorem B8a {y:Nd} (H:Hp):PH true depth [.agg y.cs] [.agg y.cs] H false:= λK=>by kernel_rfl
theorem C1q {i k:Nat} (hi:i<33) (hk:k<7):NdT L n (cnN i k) (cnT i k):=
 ⟨(B3a hi (Ut (n:=n+39) (by decide) (by decide)).o (B6s (n:=n+39)).o (Ra L n k (by omega)).o (B0I L n i hi).o).ps B8a,
  (B2j hi (B80 (n:=n+39)).o (QQ L n k (by omega)).o (B0t L n i hi).o).ps B8a⟩
theorem B3o (h:p.Ok):p.ts.length=p.xs.length∧∀i (hi:i<p.xs.length),NdT L n p.xs[i] (p.ts.getD i []):=by
 obtain⟨pid,ks,x⟩:=p
 obtain⟨i1,i2,k1,k3,k7,hx⟩:=h
 simp only at k1 k3 k7 hx
 have hlen:x.tx.length=x.nd.length:=by cases x<;>rfl
 refine⟨by simp[Pr.ts,Pr.xs,DP,hlen],λi hi=> ?_⟩
 simp only[Pr.xs,Pr.ts] at hi⊢
 by_cases hlt:i<ks.length
 ·have e1:(Kr ks++x.nd)[i]=UP i:=by
   rw[List.getElem_append_left (by rw[DP];exact hlt)];exact WC _
  have e2:((List.range ks.length).map exT++x.tx).getD i []=exT i:=by
   rw[List.getD,l0l (by simpa using hlt)];simp[List.getElem?_range hlt]
  rw[e1,e2,B8p (by omega)]
  exact A4k (by omega)
 ·have e0:x.nd.length≤1:=by cases x<;>simp[Ex.nd]
  rw[FK,DP] at hi
  obtain rfl:i=ks.length:=by omega
  have e1:∀y,x.nd=[y]→(Kr ks++x.nd)[ks.length]'(by rw[FK,DP];exact hi)=y:= λy hy=>by
   rw[List.getElem_append_right (by rw[DP];omega)];simp[hy,DP]
  have e2:∀t,x.tx=[t]→((List.range ks.length).map exT++x.tx).getD ks.length []=t:= λt ht=>by simp[List.getD,ht]
  cases x with
  |no=>simp[Ex.nd] at hi
  |cn i k=>rw[e1 _ rfl,e2 _ rfl];exact C1q hx.1 hx.2
  |inp j=>
   have hj:j<ks.length:=hx
   rw[e1 _ rfl,e2 _ rfl,B8p (by omega)]
   exact A4k (by omega)
  |bi op l r k=>
   obtain⟨h1,h2,h3,h4,h5⟩:=hx
   rw[e1 _ rfl,e2 _ rfl,C4S h1 h2 (by omega) (by omega)]
   exact A4k (by omega)
  |po l e k=>
   obtain⟨h1,h2,h3⟩:=hx
   rw[e1 _ rfl,e2 _ rfl,C4R (by omega) h2]
   exact A4k (by omega)
end
end
end Go.Abs
end
