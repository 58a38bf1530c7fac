import Derived.Test.YtlbhdmbfdcohhaaGreatDoorP31
import Derived.Test.YtlbhdmbfdcohhaaGreatDoorP32
import Derived.Test.YtlbhdmbfdcohhaaGreatDoorP33
import Derived.Test.YtlbhdmbfdcohhaaGreatDoorP34
import Derived.Test.YtlbhdmbfdcohhaaGreatDoorP35
import Derived.Test.YtlbhdmbfdcohhaaGreatDoorP36
import Derived.Test.YtlbhdmbfdcohhaaGreatDoorP37
import Derived.Test.YtlbhdmbfdcohhaaGreatDoorP38
import Derived.Test.YtlbhdmbfdcohhaaGreatDoorP39
import Derived.Test.YtlbhdmbfdcohhaaGreatDoorP40
import Derived.Test.YtlbhdmbfdcohhaaGreatDoorP41
set_option linter.all false
set_option maxHeartbeats 100000000
noncomputable section
namespace Go.Abs
open Go.RowKit Go.Proofs
set_option maxRecDepth 100000
section
variable {L n:Nat}
theorem RV.ls {R:Rt} {f:Nat} {args':List AV} {v:AV} (h:RV R f args' v):LS R f args' v:= λq args H ha K=>by rw[←zO];exact Zm h ha
def biN (op l r:Nat):Nd:=⟨op,[],[],u0,0,l,r⟩
def poN (l e:Nat):Nd:=⟨7,[],[],u0,X4 e,l,0⟩
def A6T:Option Nat→AV
 |some k=> .tup [.agg (BW (uu k)),I 0]
 |none=> .tup [.agg En,I 90]
section
variable {id:Int} {o:UD} {xs:List Nd} {ks:List Nat} {l r e i k:Nat} {q:Option Nat} {I1:AV}
theorem ks3 (h1:1≤ks.length) (h3:ks.length≤3):(∃a,ks=[a])∨(∃a b,ks=[a,b])∨∃a b c,ks=[a,b,c]:=by
 match ks,h1,h3 with
 |[a],_,_=>exact .inl ⟨a,rfl⟩
 |[a,b],_,_=>exact .inr (.inl ⟨a,b,rfl⟩)
 |[a,b,c],_,_=>exact .inr (.inr ⟨a,b,c,rfl⟩)
theorem RQ {l:Nat} {a:Nat} (h:l<[a].length):l=0:=by simpa using h
theorem RP {l:Nat} {a b:Nat} (h:l<[a,b].length):l=0∨l=1:=by simp at h;omega
theorem RO {l:Nat} {a b c:Nat} (h:l<[a,b,c].length):l=0∨l=1∨l=2:=by simp at h;omega
theorem lt5 {e:Nat} (h:e<5):e=0∨e=1∨e=2∨e=3∨e=4:=by omega
theorem B2j (h1:1≤ks.length) (h3:ks.length≤3) (hl:l<ks.length) (hr:r<ks.length):RV (rt (L+20) (n+2)) Dv [.agg (Br id (BA ks) (BQ xs) o),.agg (biN 3 l r).cs,I ks.length] (.tup [Bo true,Bo true]):=by
 rcases ks3 h1 h3 with⟨a,rfl⟩|⟨a,b,rfl⟩|⟨a,b,c,rfl⟩
 ·obtain rfl:=RQ hl;obtain rfl:=RQ hr;exact λb=>by kernel_rfl
 ·rcases RP hl with rfl|rfl<;>rcases RP hr with rfl|rfl<;>(exact λb=>by kernel_rfl)
 ·rcases RO hl with rfl|rfl|rfl<;>rcases RO hr with rfl|rfl|rfl<;>(exact λb=>by kernel_rfl)
attribute [local irreducible] Yb rt in
theorem B2d (h1:1≤ks.length) (h3:ks.length≤3) (hl:l<ks.length) (hr:r<ks.length) (hS:PO (rt (L+20) (n+41)) MZ [.agg (uu (ks.getD l 0)).cs,.agg (uu (ks.getD r 0)).cs] (HC q)):CS (rt (L+20) (n+42)) BU [.agg (Br id (BA ks) (BQ xs) o),.agg (biN 3 l r).cs,I ks.length,Oa ks] (A6T q):=by
 intro K hK
 have hsh:=(B2j (L:=L) (n:=n+39) (id:=id) (o:=o) (xs:=xs) h1 h3 hl hr).ls
 rewrite [Fh]
 unfold EZ Aq
 rewrite [zO]
 generalize rt (L+20) (n+41)=R at*
 revert hS hsh
 rcases ks3 h1 h3 with⟨a,rfl⟩|⟨a,b,rfl⟩|⟨a,b,c,rfl⟩
 ·obtain rfl:=RQ hl;obtain rfl:=RQ hr;intro hS hsh;simp only[Rj,Ri] at hS;(conv=>lhs;whnf);rewrite [hsh false _ _ ?hq];(case hq=>exact λK=>by kernel_rfl);(conv=>lhs;whnf);rewrite [hS];cases q<;>(conv=>lhs;whnf)<;>exact hK _ _ (λb=>⟨false,λK=>by kernel_rfl⟩)
 ·rcases RP hl with rfl|rfl<;>rcases RP hr with rfl|rfl<;>(intro hS hsh;simp only[Rj,Ri] at hS;(conv=>lhs;whnf);rewrite [hsh false _ _ ?hq];(case hq=>exact λK=>by kernel_rfl);(conv=>lhs;whnf);rewrite [hS];cases q<;>(conv=>lhs;whnf)<;>exact hK _ _ (λb=>⟨false,λK=>by kernel_rfl⟩))
 ·rcases RO hl with rfl|rfl|rfl<;>rcases RO hr with rfl|rfl|rfl<;>(intro hS hsh;simp only[Rj,Ri] at hS;(conv=>lhs;whnf);rewrite [hsh false _ _ ?hq];(case hq=>exact λK=>by kernel_rfl);(conv=>lhs;whnf);rewrite [hS];cases q<;>(conv=>lhs;whnf)<;>exact hK _ _ (λb=>⟨false,λK=>by kernel_rfl⟩))
theorem B2n (h1:1≤ks.length) (h3:ks.length≤3) (hl:l<ks.length) (hr:r<ks.length):RV (rt (L+20) (n+2)) Dv [.agg (Br id (BA ks) (BQ xs) o),.agg (biN 4 l r).cs,I ks.length] (.tup [Bo true,Bo true]):=by
 rcases ks3 h1 h3 with⟨a,rfl⟩|⟨a,b,rfl⟩|⟨a,b,c,rfl⟩
 ·obtain rfl:=RQ hl;obtain rfl:=RQ hr;exact λb=>by kernel_rfl
 ·rcases RP hl with rfl|rfl<;>rcases RP hr with rfl|rfl<;>(exact λb=>by kernel_rfl)
 ·rcases RO hl with rfl|rfl|rfl<;>rcases RO hr with rfl|rfl|rfl<;>(exact λb=>by kernel_rfl)
attribute [local irreducible] Yb rt in
theorem B2h (h1:1≤ks.length) (h3:ks.length≤3) (hl:l<ks.length) (hr:r<ks.length) (hS:PO (rt (L+20) (n+41)) Gc [.agg (uu (ks.getD l 0)).cs,.agg (uu (ks.getD r 0)).cs] (HC q)):CS (rt (L+20) (n+42)) BU [.agg (Br id (BA ks) (BQ xs) o),.agg (biN 4 l r).cs,I ks.length,Oa ks] (A6T q):=by
 intro K hK
 have hsh:=(B2n (L:=L) (n:=n+39) (id:=id) (o:=o) (xs:=xs) h1 h3 hl hr).ls
 rewrite [Fh]
 unfold EZ Aq
 rewrite [zO]
 generalize rt (L+20) (n+41)=R at*
 revert hS hsh
 rcases ks3 h1 h3 with⟨a,rfl⟩|⟨a,b,rfl⟩|⟨a,b,c,rfl⟩
 ·obtain rfl:=RQ hl;obtain rfl:=RQ hr;intro hS hsh;simp only[Rj,Ri] at hS;(conv=>lhs;whnf);rewrite [hsh false _ _ ?hq];(case hq=>exact λK=>by kernel_rfl);(conv=>lhs;whnf);rewrite [hS];cases q<;>(conv=>lhs;whnf)<;>exact hK _ _ (λb=>⟨false,λK=>by kernel_rfl⟩)
 ·rcases RP hl with rfl|rfl<;>rcases RP hr with rfl|rfl<;>(intro hS hsh;simp only[Rj,Ri] at hS;(conv=>lhs;whnf);rewrite [hsh false _ _ ?hq];(case hq=>exact λK=>by kernel_rfl);(conv=>lhs;whnf);rewrite [hS];cases q<;>(conv=>lhs;whnf)<;>exact hK _ _ (λb=>⟨false,λK=>by kernel_rfl⟩))
 ·rcases RO hl with rfl|rfl|rfl<;>rcases RO hr with rfl|rfl|rfl<;>(intro hS hsh;simp only[Rj,Ri] at hS;(conv=>lhs;whnf);rewrite [hsh false _ _ ?hq];(case hq=>exact λK=>by kernel_rfl);(conv=>lhs;whnf);rewrite [hS];cases q<;>(conv=>lhs;whnf)<;>exact hK _ _ (λb=>⟨false,λK=>by kernel_rfl⟩))
theorem B2l (h1:1≤ks.length) (h3:ks.length≤3) (hl:l<ks.length) (hr:r<ks.length):RV (rt (L+20) (n+2)) Dv [.agg (Br id (BA ks) (BQ xs) o),.agg (biN 5 l r).cs,I ks.length] (.tup [Bo true,Bo true]):=by
 rcases ks3 h1 h3 with⟨a,rfl⟩|⟨a,b,rfl⟩|⟨a,b,c,rfl⟩
 ·obtain rfl:=RQ hl;obtain rfl:=RQ hr;exact λb=>by kernel_rfl
 ·rcases RP hl with rfl|rfl<;>rcases RP hr with rfl|rfl<;>(exact λb=>by kernel_rfl)
 ·rcases RO hl with rfl|rfl|rfl<;>rcases RO hr with rfl|rfl|rfl<;>(exact λb=>by kernel_rfl)
attribute [local irreducible] Yb rt in
theorem B2f (h1:1≤ks.length) (h3:ks.length≤3) (hl:l<ks.length) (hr:r<ks.length) (hS:PO (rt (L+20) (n+41)) Kx [.agg (uu (ks.getD l 0)).cs,.agg (uu (ks.getD r 0)).cs] (HC q)):CS (rt (L+20) (n+42)) BU [.agg (Br id (BA ks) (BQ xs) o),.agg (biN 5 l r).cs,I ks.length,Oa ks] (A6T q):=by
 intro K hK
 have hsh:=(B2l (L:=L) (n:=n+39) (id:=id) (o:=o) (xs:=xs) h1 h3 hl hr).ls
 rewrite [Fh]
 unfold EZ Aq
 rewrite [zO]
 generalize rt (L+20) (n+41)=R at*
 revert hS hsh
 rcases ks3 h1 h3 with⟨a,rfl⟩|⟨a,b,rfl⟩|⟨a,b,c,rfl⟩
 ·obtain rfl:=RQ hl;obtain rfl:=RQ hr;intro hS hsh;simp only[Rj,Ri] at hS;(conv=>lhs;whnf);rewrite [hsh false _ _ ?hq];(case hq=>exact λK=>by kernel_rfl);(conv=>lhs;whnf);rewrite [hS];cases q<;>(conv=>lhs;whnf)<;>exact hK _ _ (λb=>⟨false,λK=>by kernel_rfl⟩)
 ·rcases RP hl with rfl|rfl<;>rcases RP hr with rfl|rfl<;>(intro hS hsh;simp only[Rj,Ri] at hS;(conv=>lhs;whnf);rewrite [hsh false _ _ ?hq];(case hq=>exact λK=>by kernel_rfl);(conv=>lhs;whnf);rewrite [hS];cases q<;>(conv=>lhs;whnf)<;>exact hK _ _ (λb=>⟨false,λK=>by kernel_rfl⟩))
 ·rcases RO hl with rfl|rfl|rfl<;>rcases RO hr with rfl|rfl|rfl<;>(intro hS hsh;simp only[Rj,Ri] at hS;(conv=>lhs;whnf);rewrite [hsh false _ _ ?hq];(case hq=>exact λK=>by kernel_rfl);(conv=>lhs;whnf);rewrite [hS];cases q<;>(conv=>lhs;whnf)<;>exact hK _ _ (λb=>⟨false,λK=>by kernel_rfl⟩))
theorem B2m (h1:1≤ks.length) (h3:ks.length≤3) (hl:l<ks.length) (hr:r<ks.length):RV (rt (L+20) (n+2)) Dv [.agg (Br id (BA ks) (BQ xs) o),.agg (biN 6 l r).cs,I ks.length] (.tup [Bo true,Bo true]):=by
 rcases ks3 h1 h3 with⟨a,rfl⟩|⟨a,b,rfl⟩|⟨a,b,c,rfl⟩
 ·obtain rfl:=RQ hl;obtain rfl:=RQ hr;exact λb=>by kernel_rfl
 ·rcases RP hl with rfl|rfl<;>rcases RP hr with rfl|rfl<;>(exact λb=>by kernel_rfl)
 ·rcases RO hl with rfl|rfl|rfl<;>rcases RO hr with rfl|rfl|rfl<;>(exact λb=>by kernel_rfl)
attribute [local irreducible] Yb rt in
theorem B2g (h1:1≤ks.length) (h3:ks.length≤3) (hl:l<ks.length) (hr:r<ks.length) (hS:PO (rt (L+20) (n+41)) Ky [.agg (uu (ks.getD l 0)).cs,.agg (uu (ks.getD r 0)).cs] (HC q)):CS (rt (L+20) (n+42)) BU [.agg (Br id (BA ks) (BQ xs) o),.agg (biN 6 l r).cs,I ks.length,Oa ks] (A6T q):=by
 intro K hK
 have hsh:=(B2m (L:=L) (n:=n+39) (id:=id) (o:=o) (xs:=xs) h1 h3 hl hr).ls
 rewrite [Fh]
 unfold EZ Aq
 rewrite [zO]
 generalize rt (L+20) (n+41)=R at*
 revert hS hsh
 rcases ks3 h1 h3 with⟨a,rfl⟩|⟨a,b,rfl⟩|⟨a,b,c,rfl⟩
 ·obtain rfl:=RQ hl;obtain rfl:=RQ hr;intro hS hsh;simp only[Rj,Ri] at hS;(conv=>lhs;whnf);rewrite [hsh false _ _ ?hq];(case hq=>exact λK=>by kernel_rfl);(conv=>lhs;whnf);rewrite [hS];cases q<;>(conv=>lhs;whnf)<;>exact hK _ _ (λb=>⟨false,λK=>by kernel_rfl⟩)
 ·rcases RP hl with rfl|rfl<;>rcases RP hr with rfl|rfl<;>(intro hS hsh;simp only[Rj,Ri] at hS;(conv=>lhs;whnf);rewrite [hsh false _ _ ?hq];(case hq=>exact λK=>by kernel_rfl);(conv=>lhs;whnf);rewrite [hS];cases q<;>(conv=>lhs;whnf)<;>exact hK _ _ (λb=>⟨false,λK=>by kernel_rfl⟩))
 ·rcases RO hl with rfl|rfl|rfl<;>rcases RO hr with rfl|rfl|rfl<;>(intro hS hsh;simp only[Rj,Ri] at hS;(conv=>lhs;whnf);rewrite [hsh false _ _ ?hq];(case hq=>exact λK=>by kernel_rfl);(conv=>lhs;whnf);rewrite [hS];cases q<;>(conv=>lhs;whnf)<;>exact hK _ _ (λb=>⟨false,λK=>by kernel_rfl⟩))
theorem B2k (h1:1≤ks.length) (h3:ks.length≤3) (hl:l<ks.length) (he:e<5):RV (rt (L+20) (n+2)) Dv [.agg (Br id (BA ks) (BQ xs) o),.agg (poN l e).cs,I ks.length] (.tup [Bo true,Bo true]):=by
 rcases ks3 h1 h3 with⟨a,rfl⟩|⟨a,b,rfl⟩|⟨a,b,c,rfl⟩
 ·obtain rfl:=RQ hl;rcases lt5 he with rfl|rfl|rfl|rfl|rfl<;>(exact λb=>by kernel_rfl)
 ·rcases RP hl with rfl|rfl<;>rcases lt5 he with rfl|rfl|rfl|rfl|rfl<;>(exact λb=>by kernel_rfl)
 ·rcases RO hl with rfl|rfl|rfl<;>rcases lt5 he with rfl|rfl|rfl|rfl|rfl<;>(exact λb=>by kernel_rfl)
attribute [local irreducible] Yb rt in
theorem B2e (h1:1≤ks.length) (h3:ks.length≤3) (hl:l<ks.length) (he:e<5) (hS:PO (rt (L+20) (n+41)) GJ [.agg (uu (ks.getD l 0)).cs,.agg [I (X4 e),I 1]] (HC q)):CS (rt (L+20) (n+42)) BU [.agg (Br id (BA ks) (BQ xs) o),.agg (poN l e).cs,I ks.length,Oa ks] (A6T q):=by
 intro K hK
 have hsh:=(B2k (L:=L) (n:=n+39) (id:=id) (o:=o) (xs:=xs) h1 h3 hl he).ls
 rewrite [Fh]
 unfold EZ Aq
 rewrite [zO]
 generalize rt (L+20) (n+41)=R at*
 revert hS hsh
 rcases ks3 h1 h3 with⟨a,rfl⟩|⟨a,b,rfl⟩|⟨a,b,c,rfl⟩
 ·obtain rfl:=RQ hl;rcases lt5 he with rfl|rfl|rfl|rfl|rfl<;>(intro hS hsh;simp only[Rj,Ri] at hS;(conv=>lhs;whnf);rewrite [hsh false _ _ ?hq];(case hq=>exact λK=>by kernel_rfl);(conv=>lhs;whnf);refine l2d (hS _ _) ?_;cases q<;>(conv=>lhs;whnf)<;>exact hK _ _ (λb=>⟨false,λK=>by kernel_rfl⟩))
 ·rcases RP hl with rfl|rfl<;>rcases lt5 he with rfl|rfl|rfl|rfl|rfl<;>(intro hS hsh;simp only[Rj,Ri] at hS;(conv=>lhs;whnf);rewrite [hsh false _ _ ?hq];(case hq=>exact λK=>by kernel_rfl);(conv=>lhs;whnf);refine l2d (hS _ _) ?_;cases q<;>(conv=>lhs;whnf)<;>exact hK _ _ (λb=>⟨false,λK=>by kernel_rfl⟩))
 ·rcases RO hl with rfl|rfl|rfl<;>rcases lt5 he with rfl|rfl|rfl|rfl|rfl<;>(intro hS hsh;simp only[Rj,Ri] at hS;(conv=>lhs;whnf);rewrite [hsh false _ _ ?hq];(case hq=>exact λK=>by kernel_rfl);(conv=>lhs;whnf);refine l2d (hS _ _) ?_;cases q<;>(conv=>lhs;whnf)<;>exact hK _ _ (λb=>⟨false,λK=>by kernel_rfl⟩))
theorem A9O (h1:1≤ks.length) (h3:ks.length≤3) (hl:l<ks.length) (hr:r<ks.length):RV (rt (L+20) (n+2)) B2 [SK I1 (Oa ks),Vh (EK.getD 3 []) Ye D8,.agg (biN 3 l r).cs] (Bo true):=by
 rcases ks3 h1 h3 with⟨a,rfl⟩|⟨a,b,rfl⟩|⟨a,b,c,rfl⟩
 ·obtain rfl:=RQ hl;obtain rfl:=RQ hr;exact λb=>by kernel_rfl
 ·rcases RP hl with rfl|rfl<;>rcases RP hr with rfl|rfl<;>(exact λb=>by kernel_rfl)
 ·rcases RO hl with rfl|rfl|rfl<;>rcases RO hr with rfl|rfl|rfl<;>(exact λb=>by kernel_rfl)
attribute [local irreducible] Yb rt in
theorem B1t (h1:1≤ks.length) (h3:ks.length≤3) (hl:l<ks.length) (hr:r<ks.length) (hS:PO (rt (L+20) (n+40)) OI [.agg (uu (ks.getD l 0)).cs,.agg (uu (ks.getD r 0)).cs] (HC (some k))):CS (rt (L+20) (n+41)) D8 [SK I1 (Oa ks),.agg (biN 3 l r).cs] (.tup [.agg (BW (uu k)),I 0]):=by
 intro K hK
 rewrite [NH]
 unfold Gq
 rewrite [zO]
 generalize rt (L+20) (n+40)=R at*
 revert hS
 rcases ks3 h1 h3 with⟨a,rfl⟩|⟨a,b,rfl⟩|⟨a,b,c,rfl⟩
 ·obtain rfl:=RQ hl;obtain rfl:=RQ hr;intro hS;simp only[Rj,Ri] at hS;(conv=>lhs;whnf);rewrite [hS];(conv=>lhs;whnf);exact hK _ _ (λb=>⟨false,λK=>by kernel_rfl⟩)
 ·rcases RP hl with rfl|rfl<;>rcases RP hr with rfl|rfl<;>(intro hS;simp only[Rj,Ri] at hS;(conv=>lhs;whnf);rewrite [hS];(conv=>lhs;whnf);exact hK _ _ (λb=>⟨false,λK=>by kernel_rfl⟩))
 ·rcases RO hl with rfl|rfl|rfl<;>rcases RO hr with rfl|rfl|rfl<;>(intro hS;simp only[Rj,Ri] at hS;(conv=>lhs;whnf);rewrite [hS];(conv=>lhs;whnf);exact hK _ _ (λb=>⟨false,λK=>by kernel_rfl⟩))
theorem A9S (h1:1≤ks.length) (h3:ks.length≤3) (hl:l<ks.length) (hr:r<ks.length):RV (rt (L+20) (n+2)) B2 [SK I1 (Oa ks),Vh (EK.getD 4 []) Ye Cy,.agg (biN 4 l r).cs] (Bo true):=by
 rcases ks3 h1 h3 with⟨a,rfl⟩|⟨a,b,rfl⟩|⟨a,b,c,rfl⟩
 ·obtain rfl:=RQ hl;obtain rfl:=RQ hr;exact λb=>by kernel_rfl
 ·rcases RP hl with rfl|rfl<;>rcases RP hr with rfl|rfl<;>(exact λb=>by kernel_rfl)
 ·rcases RO hl with rfl|rfl|rfl<;>rcases RO hr with rfl|rfl|rfl<;>(exact λb=>by kernel_rfl)
attribute [local irreducible] Yb rt in
theorem B1x (h1:1≤ks.length) (h3:ks.length≤3) (hl:l<ks.length) (hr:r<ks.length) (hS:PO (rt (L+20) (n+40)) GE [.agg (uu (ks.getD l 0)).cs,.agg (uu (ks.getD r 0)).cs] (HC (some k))):CS (rt (L+20) (n+41)) Cy [SK I1 (Oa ks),.agg (biN 4 l r).cs] (.tup [.agg (BW (uu k)),I 0]):=by
 intro K hK
 rewrite [Kn]
 unfold Eu
 rewrite [zO]
 generalize rt (L+20) (n+40)=R at*
 revert hS
 rcases ks3 h1 h3 with⟨a,rfl⟩|⟨a,b,rfl⟩|⟨a,b,c,rfl⟩
 ·obtain rfl:=RQ hl;obtain rfl:=RQ hr;intro hS;simp only[Rj,Ri] at hS;(conv=>lhs;whnf);rewrite [hS];(conv=>lhs;whnf);exact hK _ _ (λb=>⟨false,λK=>by kernel_rfl⟩)
 ·rcases RP hl with rfl|rfl<;>rcases RP hr with rfl|rfl<;>(intro hS;simp only[Rj,Ri] at hS;(conv=>lhs;whnf);rewrite [hS];(conv=>lhs;whnf);exact hK _ _ (λb=>⟨false,λK=>by kernel_rfl⟩))
 ·rcases RO hl with rfl|rfl|rfl<;>rcases RO hr with rfl|rfl|rfl<;>(intro hS;simp only[Rj,Ri] at hS;(conv=>lhs;whnf);rewrite [hS];(conv=>lhs;whnf);exact hK _ _ (λb=>⟨false,λK=>by kernel_rfl⟩))
theorem A9Q (h1:1≤ks.length) (h3:ks.length≤3) (hl:l<ks.length) (hr:r<ks.length):RV (rt (L+20) (n+2)) B2 [SK I1 (Oa ks),Vh (EK.getD 5 []) Ye CL,.agg (biN 5 l r).cs] (Bo true):=by
 rcases ks3 h1 h3 with⟨a,rfl⟩|⟨a,b,rfl⟩|⟨a,b,c,rfl⟩
 ·obtain rfl:=RQ hl;obtain rfl:=RQ hr;exact λb=>by kernel_rfl
 ·rcases RP hl with rfl|rfl<;>rcases RP hr with rfl|rfl<;>(exact λb=>by kernel_rfl)
 ·rcases RO hl with rfl|rfl|rfl<;>rcases RO hr with rfl|rfl|rfl<;>(exact λb=>by kernel_rfl)
attribute [local irreducible] Yb rt in
theorem B1v (h1:1≤ks.length) (h3:ks.length≤3) (hl:l<ks.length) (hr:r<ks.length) (hS:PO (rt (L+20) (n+40)) OK [.agg (uu (ks.getD l 0)).cs,.agg (uu (ks.getD r 0)).cs] (HC (some k))):CS (rt (L+20) (n+41)) CL [SK I1 (Oa ks),.agg (biN 5 l r).cs] (.tup [.agg (BW (uu k)),I 0]):=by
 intro K hK
 rewrite [L5]
 unfold Fj
 rewrite [zO]
 generalize rt (L+20) (n+40)=R at*
 revert hS
 rcases ks3 h1 h3 with⟨a,rfl⟩|⟨a,b,rfl⟩|⟨a,b,c,rfl⟩
 ·obtain rfl:=RQ hl;obtain rfl:=RQ hr;intro hS;simp only[Rj,Ri] at hS;(conv=>lhs;whnf);rewrite [hS];(conv=>lhs;whnf);exact hK _ _ (λb=>⟨false,λK=>by kernel_rfl⟩)
 ·rcases RP hl with rfl|rfl<;>rcases RP hr with rfl|rfl<;>(intro hS;simp only[Rj,Ri] at hS;(conv=>lhs;whnf);rewrite [hS];(conv=>lhs;whnf);exact hK _ _ (λb=>⟨false,λK=>by kernel_rfl⟩))
 ·rcases RO hl with rfl|rfl|rfl<;>rcases RO hr with rfl|rfl|rfl<;>(intro hS;simp only[Rj,Ri] at hS;(conv=>lhs;whnf);rewrite [hS];(conv=>lhs;whnf);exact hK _ _ (λb=>⟨false,λK=>by kernel_rfl⟩))
theorem A9R (h1:1≤ks.length) (h3:ks.length≤3) (hl:l<ks.length) (hr:r<ks.length):RV (rt (L+20) (n+2)) B2 [SK I1 (Oa ks),Vh (EK.getD 6 []) Ye CE,.agg (biN 6 l r).cs] (Bo true):=by
 rcases ks3 h1 h3 with⟨a,rfl⟩|⟨a,b,rfl⟩|⟨a,b,c,rfl⟩
 ·obtain rfl:=RQ hl;obtain rfl:=RQ hr;exact λb=>by kernel_rfl
 ·rcases RP hl with rfl|rfl<;>rcases RP hr with rfl|rfl<;>(exact λb=>by kernel_rfl)
 ·rcases RO hl with rfl|rfl|rfl<;>rcases RO hr with rfl|rfl|rfl<;>(exact λb=>by kernel_rfl)
attribute [local irreducible] Yb rt in
theorem B1w (h1:1≤ks.length) (h3:ks.length≤3) (hl:l<ks.length) (hr:r<ks.length) (hS:PO (rt (L+20) (n+40)) OL [.agg (uu (ks.getD l 0)).cs,.agg (uu (ks.getD r 0)).cs] (HC (some k))):CS (rt (L+20) (n+41)) CE [SK I1 (Oa ks),.agg (biN 6 l r).cs] (.tup [.agg (BW (uu k)),I 0]):=by
 intro K hK
 rewrite [KZ]
 unfold ER
 rewrite [zO]
 generalize rt (L+20) (n+40)=R at*
 revert hS
 rcases ks3 h1 h3 with⟨a,rfl⟩|⟨a,b,rfl⟩|⟨a,b,c,rfl⟩
 ·obtain rfl:=RQ hl;obtain rfl:=RQ hr;intro hS;simp only[Rj,Ri] at hS;(conv=>lhs;whnf);rewrite [hS];(conv=>lhs;whnf);exact hK _ _ (λb=>⟨false,λK=>by kernel_rfl⟩)
 ·rcases RP hl with rfl|rfl<;>rcases RP hr with rfl|rfl<;>(intro hS;simp only[Rj,Ri] at hS;(conv=>lhs;whnf);rewrite [hS];(conv=>lhs;whnf);exact hK _ _ (λb=>⟨false,λK=>by kernel_rfl⟩))
 ·rcases RO hl with rfl|rfl|rfl<;>rcases RO hr with rfl|rfl|rfl<;>(intro hS;simp only[Rj,Ri] at hS;(conv=>lhs;whnf);rewrite [hS];(conv=>lhs;whnf);exact hK _ _ (λb=>⟨false,λK=>by kernel_rfl⟩))
theorem A9P (h1:1≤ks.length) (h3:ks.length≤3) (hl:l<ks.length) (he:e<5):RV (rt (L+20) (n+2)) B2 [SK I1 (Oa ks),Vh (EK.getD 7 []) C0C Di,.agg (poN l e).cs] (Bo true):=by
 rcases ks3 h1 h3 with⟨a,rfl⟩|⟨a,b,rfl⟩|⟨a,b,c,rfl⟩
 ·obtain rfl:=RQ hl;rcases lt5 he with rfl|rfl|rfl|rfl|rfl<;>(exact λb=>by kernel_rfl)
 ·rcases RP hl with rfl|rfl<;>rcases lt5 he with rfl|rfl|rfl|rfl|rfl<;>(exact λb=>by kernel_rfl)
 ·rcases RO hl with rfl|rfl|rfl<;>rcases lt5 he with rfl|rfl|rfl|rfl|rfl<;>(exact λb=>by kernel_rfl)
attribute [local irreducible] Yb rt in
theorem B1u (h1:1≤ks.length) (h3:ks.length≤3) (hl:l<ks.length) (he:e<5) (hS:PO (rt (L+20) (n+40)) OJ [.agg (uu (ks.getD l 0)).cs,.agg [I (X4 e),I 1]] (HC (some k))):CS (rt (L+20) (n+41)) Di [SK I1 (Oa ks),.agg (poN l e).cs] (.tup [.agg (BW (uu k)),I 0]):=by
 intro K hK
 rewrite [MQ]
 unfold FC Bu Aq DW
 rewrite [zO]
 generalize rt (L+20) (n+40)=R at*
 revert hS
 rcases ks3 h1 h3 with⟨a,rfl⟩|⟨a,b,rfl⟩|⟨a,b,c,rfl⟩
 ·obtain rfl:=RQ hl;rcases lt5 he with rfl|rfl|rfl|rfl|rfl<;>(intro hS;simp only[Rj,Ri] at hS;(conv=>lhs;whnf);dsimp only[poN];rewrite [hS];(conv=>lhs;whnf);exact hK _ _ (λb=>⟨false,λK=>by kernel_rfl⟩))
 ·rcases RP hl with rfl|rfl<;>rcases lt5 he with rfl|rfl|rfl|rfl|rfl<;>(intro hS;simp only[Rj,Ri] at hS;(conv=>lhs;whnf);dsimp only[poN];rewrite [hS];(conv=>lhs;whnf);exact hK _ _ (λb=>⟨false,λK=>by kernel_rfl⟩))
 ·rcases RO hl with rfl|rfl|rfl<;>rcases lt5 he with rfl|rfl|rfl|rfl|rfl<;>(intro hS;simp only[Rj,Ri] at hS;(conv=>lhs;whnf);dsimp only[poN];rewrite [hS];(conv=>lhs;whnf);exact hK _ _ (λb=>⟨false,λK=>by kernel_rfl⟩))
end
end
section
variable (L n:Nat)
theorem A4G:((List.range 11).all λk=>(λi=>Hg (AU (Cu (rt (L+20) (n+40)) BR [.agg (Vi i)]) (Bo true))) (k+0))=true:=by kernel_rfl
theorem A4F:((List.range 11).all λk=>(λi=>Hg (AU (Cu (rt (L+20) (n+40)) BR [.agg (Vi i)]) (Bo true))) (k+11))=true:=by kernel_rfl
theorem A4E:((List.range 11).all λk=>(λi=>Hg (AU (Cu (rt (L+20) (n+40)) BR [.agg (Vi i)]) (Bo true))) (k+22))=true:=by kernel_rfl
theorem A9T (i:Nat) (h:i<33):PS (rt (L+20) (n+40)) BR [.agg (Vi i)] (Bo true):=by
 refine Bt (λH=>by first|exact λK=>by kernel_rfl) ?_
 by_cases h0:i<11
 ·have:=GW.1 (A4G L n) (i-0) (Iw.2 (by omega))
  have e:i-0+0=i:=by omega
  simp only[e] at this
  exact this
 by_cases h1:i<22
 ·have:=GW.1 (A4F L n) (i-11) (Iw.2 (by omega))
  have e:i-11+11=i:=by omega
  simp only[e] at this
  exact this
 by_cases h2:i<33
 ·have:=GW.1 (A4E L n) (i-22) (Iw.2 (by omega))
  have e:i-22+22=i:=by omega
  simp only[e] at this
  exact this
 ·omega
theorem A4J:((List.range 11).all λk=>(λi=>Hg (AU (Cu (rt (L+20) (n+40)) FU [.agg (Vi i)]) (S (frt i)))) (k+0))=true:=by kernel_rfl
theorem A4I:((List.range 11).all λk=>(λi=>Hg (AU (Cu (rt (L+20) (n+40)) FU [.agg (Vi i)]) (S (frt i)))) (k+11))=true:=by kernel_rfl
theorem A4H:((List.range 11).all λk=>(λi=>Hg (AU (Cu (rt (L+20) (n+40)) FU [.agg (Vi i)]) (S (frt i)))) (k+22))=true:=by kernel_rfl
theorem A9U (i:Nat) (h:i<33):PS (rt (L+20) (n+40)) FU [.agg (Vi i)] (S (frt i)):=by
 refine Bt (λH=>by first|exact λK=>by kernel_rfl) ?_
 by_cases h0:i<11
 ·have:=GW.1 (A4J L n) (i-0) (Iw.2 (by omega))
  have e:i-0+0=i:=by omega
  simp only[e] at this
  exact this
 by_cases h1:i<22
 ·have:=GW.1 (A4I L n) (i-11) (Iw.2 (by omega))
  have e:i-11+11=i:=by omega
  simp only[e] at this
  exact this
 by_cases h2:i<33
 ·have:=GW.1 (A4H L n) (i-22) (Iw.2 (by omega))
  have e:i-22+22=i:=by omega
  simp only[e] at this
  exact this
 ·omega
end
section
variable {L n:Nat}
section
variable {id:Int} {o:UD} {xs:List Nd} {ks:List Nat} {i j k:Nat} {I1:AV}
theorem B1G (h3:ks.length≤3):RV (rt (L+20) (n+2)) B2 [SK I1 (Oa ks),Vh (EK.getD 2 []) C0L Ef,.agg (Uj i).cs] (Bo true):=by
 match ks,h3 with
 |[],_=>exact λb=>by kernel_rfl
 |[a],_=>exact λb=>by kernel_rfl
 |[a,b],_=>exact λb=>by kernel_rfl
 |[a,b,c],_=>exact λb=>by kernel_rfl
theorem B1H (h3:ks.length≤3):RV (rt (L+20) (n+2)) B2 [SK I1 (Oa ks),Vh (EK.getD 1 []) AP CF,.agg (cnN i k).cs] (Bo true):=by
 match ks,h3 with
 |[],_=>exact λb=>by kernel_rfl
 |[a],_=>exact λb=>by kernel_rfl
 |[a,b],_=>exact λb=>by kernel_rfl
 |[a,b,c],_=>exact λb=>by kernel_rfl
theorem B4H {U:AV} (h1:1≤ks.length) (h3:ks.length≤3) (hj:j<ks.length):RV (rt (L+20) (n+2)) Ef [SK (BA ks) U,.agg (Uj j).cs] (.tup [.agg (BW (uu (ks.getD j 0))),I 0]):=by
 rcases ks3 h1 h3 with⟨a,rfl⟩|⟨a,b,rfl⟩|⟨a,b,c,rfl⟩
 ·obtain rfl:=RQ hj;exact λb=>by kernel_rfl
 ·rcases RP hj with rfl|rfl<;>exact λb=>by kernel_rfl
 ·rcases RO hj with rfl|rfl|rfl<;>exact λb=>by kernel_rfl
attribute [local irreducible] Yb rt in
theorem B4I {C:List AV} (hv:PO (rt (L+20) (n+40)) BR [.agg (Vi i)] (Bo true)) (hu:PO (rt (L+20) (n+40)) FF [.agg (uu k).cs] (Bo true)):CS (rt (L+20) (n+41)) CF [.iptr C,.agg (cnN i k).cs] (.tup [.agg (BW (uu k)),I 0]):=by
 intro K hK
 rewrite [La]
 unfold ES Bu Aq DW
 rewrite [zO]
 generalize rt (L+20) (n+40)=R at*
 conv=>lhs;whnf
 refine l2d (hv _ _) ?_
 conv=>lhs;whnf
 simp only[DC]
 dsimp only[cnN]
 rewrite [hu]
 conv=>lhs;whnf
 exact hK _ _ (λb=>⟨false,λK=>by kernel_rfl⟩)
attribute [local irreducible] Yb rt Go.Abs.T8 in
theorem B5P (hv:PO (rt (L+20) (n+40)) Cs [.agg (Vi i)] (Bo true)) (hu:PO (rt (L+20) (n+40)) D1 [.agg (uu k).cs] (Bo true)) {at_:Int}:CS (rt (L+20) (n+41)) Dv [.agg (Br id (BA ks) (BQ xs) o),.agg (cnN i k).cs,I at_] (.tup [Bo true,Bo false]):=by
 intro K hK
 rewrite [QH]
 unfold KR AR Aq DW Cz
 rewrite [zO]
 generalize rt (L+20) (n+40)=R at*
 conv=>lhs;whnf
 refine l2d (hv _ _) ?_
 conv=>lhs;whnf
 refine l2d (hu _ _) ?_
 conv=>lhs;whnf
 refine l2d (C49 (x:=cnN i k)) ?_
 conv=>lhs;whnf
 exact hK _ _ (λb=>⟨false,λK=>by kernel_rfl⟩)
attribute [local irreducible] Yb rt in
theorem B5N (hv:PO (rt (L+20) (n+40)) Cs [.agg (Vi i)] (Bo true)) (hu:PO (rt (L+20) (n+40)) D1 [.agg (uu k).cs] (Bo true)) {at_:Int} {w:AV}:CS (rt (L+20) (n+42)) BU [.agg (Br id (BA ks) (BQ xs) o),.agg (cnN i k).cs,I at_,w] (.tup [.agg (BW (uu k)),I 0]):=by
 intro K hK
 have hsh:=(B5P (id:=id) (o:=o) (xs:=xs) (ks:=ks) (at_:=at_) hv hu).ls
 clear hv hu
 rewrite [Fh]
 unfold EZ Aq
 rewrite [zO]
 generalize rt (L+20) (n+41)=R at*
 conv=>lhs;whnf
 rewrite [hsh false _ _ ?hq]
 case hq=>exact λK=>by kernel_rfl
 conv=>lhs;whnf
 exact hK _ _ (λb=>⟨false,λK=>by kernel_rfl⟩)
end
end
section
section
variable (L n:Nat)
def C4S:List (UD×Int):=[(⟨1,2,0,1,0,1,0,1,0,1,0,1,0,1,[49],[49],[48],[49],0,1⟩,0),(⟨0,1,0,1,1,2,0,1,0,1,0,1,0,1,[49],[49],[48],[49],0,1⟩,0),(u0,70),(⟨0,1,0,1,0,1,0,1,0,1,0,1,0,1,[49],[49],[48],[49],0,2⟩,0),
 (u0,70),(⟨0,1,0,1,0,1,0,1,1,2,0,1,0,1,[49],[49],[48],[49],0,1⟩,0),(⟨1,1,0,1,0,1,0,1,0,1,0,1,0,1,[49],[49],[48],[49],0,1⟩,0)]
def usq (k:Nat):UD×Int:=C4S.getD k (u0,0)
theorem B5H:((List.range 7).all λi=>Hg (AU (Cu (rt (L+20) (n+40)) GJ [.agg (uu i).cs,.agg [I 1,I 2]]) (.tup [.agg (usq i).1.cs,I (usq i).2])))=true:=by kernel_rfl
theorem C2P (i:Nat) (h:i<7):PS (rt (L+20) (n+40)) GJ [.agg (uu i).cs,.agg [I 1,I 2]] (.tup [.agg (usq i).1.cs,I (usq i).2]):=by
 refine Bt (λH=>by first|exact λK=>by kernel_rfl) ?_
 exact GW.1 (B5H L n) i (Iw.2 h)
end
variable {L n:Nat}
section
variable {id:Int} {o:UD} {xs:List Nd} {ks:List Nat} {i j k l:Nat} {I1:AV}
def sqN (l:Nat):Nd:=⟨8,[],[],u0,0,l,0⟩
theorem B5O (h1:1≤ks.length) (h3:ks.length≤3) (hl:l<ks.length):RV (rt (L+20) (n+2)) Dv [.agg (Br id (BA ks) (BQ xs) o),.agg (sqN l).cs,I ks.length] (.tup [Bo true,Bo true]):=by
 rcases ks3 h1 h3 with⟨a,rfl⟩|⟨a,b,rfl⟩|⟨a,b,c,rfl⟩
 ·obtain rfl:=RQ hl;exact λb=>by kernel_rfl
 ·rcases RP hl with rfl|rfl<;>exact λb=>by kernel_rfl
 ·rcases RO hl with rfl|rfl|rfl<;>exact λb=>by kernel_rfl
attribute [local irreducible] Yb rt in
theorem B5M {u:UD} {e:Int} (he:e=0∨e=70) (h1:1≤ks.length) (h3:ks.length≤3) (hl:l<ks.length) (hS:PO (rt (L+20) (n+41)) GJ [.agg (uu (ks.getD l 0)).cs,.agg [I 1,I 2]] (.tup [.agg u.cs,I e])):CS (rt (L+20) (n+42)) BU [.agg (Br id (BA ks) (BQ xs) o),.agg (sqN l).cs,I ks.length,Oa ks] (if e=0 then .tup [.agg u.cs,I 0] else .tup [.agg En,I 90]):=by
 intro K hK
 have hsh:=(B5O (L:=L) (n:=n+39) (id:=id) (o:=o) (xs:=xs) h1 h3 hl).ls
 rewrite [Fh]
 unfold EZ Aq
 rewrite [zO]
 generalize rt (L+20) (n+41)=R at*
 revert hS hsh
 rcases ks3 h1 h3 with⟨a,rfl⟩|⟨a,b,rfl⟩|⟨a,b,c,rfl⟩
 ·obtain rfl:=RQ hl;(intro hS hsh;simp only[Rj,Ri] at hS;(conv=>lhs;whnf);rewrite [hsh false _ _ ?hq];(case hq=>exact λK=>by kernel_rfl);(conv=>lhs;whnf);refine l2d (hS _ _) ?_;rcases he with rfl|rfl<;>(conv=>lhs;whnf)<;>exact hK _ _ (λb=>⟨false,λK=>by kernel_rfl⟩))
 ·rcases RP hl with rfl|rfl<;>(intro hS hsh;simp only[Rj,Ri] at hS;(conv=>lhs;whnf);rewrite [hsh false _ _ ?hq];(case hq=>exact λK=>by kernel_rfl);(conv=>lhs;whnf);refine l2d (hS _ _) ?_;rcases he with rfl|rfl<;>(conv=>lhs;whnf)<;>exact hK _ _ (λb=>⟨false,λK=>by kernel_rfl⟩))
 ·rcases RO hl with rfl|rfl|rfl<;>(intro hS hsh;simp only[Rj,Ri] at hS;(conv=>lhs;whnf);rewrite [hsh false _ _ ?hq];(case hq=>exact λK=>by kernel_rfl);(conv=>lhs;whnf);refine l2d (hS _ _) ?_;rcases he with rfl|rfl<;>(conv=>lhs;whnf)<;>exact hK _ _ (λb=>⟨false,λK=>by kernel_rfl⟩))
end
section
variable {i k:Nat}
theorem A3X (h:i<33):(frt i).length<10:=by
 have:=GW.1 (show((List.range 33).all λi=>decide ((frt i).length<10))=true by kernel_rfl) i (Iw.2 h)
 simpa using this
theorem B5F:PS (rt (L+20) (n+1)) Qi [] (.list 9 (EK.map λw=>S w)):=Bt (λH K=>by kernel_rfl) (by kernel_rfl)
attribute [local irreducible] Yb rt Go.Abs.Aj in
theorem B2y (hi:i<33) (hw:PO (rt (L+20) (n+40)) Cn [I 1,I 1,I 8] (Bo true)) (hws:PO (rt (L+20) (n+40)) Qi [] (.list 9 (EK.map λw=>S w))) (hu:PO (rt (L+20) (n+40)) FN [.agg (uu k).cs] (.tup [S (IQ k),I 0])) (hp:PO (rt (L+20) (n+40)) Ix [.agg (Vi i)] (S (frt i))):CS (rt (L+20) (n+41)) GH [.agg (cnN i k).cs] (S (cnT i k)):=by
 intro K hK
 rewrite [A0m]
 unfold RC Aq
 rewrite [zO]
 generalize rt (L+20) (n+40)=R at*
 conv=>lhs;whnf
 refine l2d (hw _ _) ?_
 conv=>lhs;whnf
 rewrite [hws]
 conv=>lhs;whnf
 refine l2d A2N ?_
 conv=>lhs;whnf
 refine l2d (hu _ _) ?_
 conv=>lhs;whnf
 have h1:=A3X hi
 have h2:=EA k
 refine l2d (Bj (a:=EK.getD 1 []) (by decide)) ?_
 conv=>lhs;whnf
 refine l2d (hp _ _) ?_
 conv=>lhs;whnf
 rewrite [Bj (by simp only[F5,EK,Ri,Rj,L0,N2];omega)]
 rewrite [Bj (by simp only[F5,EK,Ri,Rj,L0,N2];omega)]
 rewrite [Bj (by simp only[F5,EK,Ri,Rj,L0,N2];omega)]
 exact hK _ _ (λb=>⟨false,λK=>by kernel_rfl⟩)
attribute [local irreducible] Yb rt Go.Abs.Aj in
theorem B1E (hi:i<33) (hws:PO (rt (L+20) (n+40)) E5 [] Tj) (hu:PO (rt (L+20) (n+40)) GD [.agg (uu k).cs] (.tup [S (IQ k),I 0])) (hp:PO (rt (L+20) (n+40)) FU [.agg (Vi i)] (S (frt i))):CS (rt (L+20) (n+41)) Ec [.agg (cnN i k).cs] (S (cnT i k)):=by
 intro K hK
 rewrite [UO]
 unfold XA5 Aq
 rewrite [zO]
 generalize rt (L+20) (n+40)=R at*
 conv=>lhs;whnf
 rewrite [hws]
 conv=>lhs;whnf
 rewrite [hws]
 conv=>lhs;whnf
 refine l2d (A2N (a:=1)) ?_
 conv=>lhs;whnf
 refine l2d (hu _ _) ?_
 conv=>lhs;whnf
 have h1:=A3X hi
 have h2:=EA k
 refine l2d (Bj (a:=EK.getD 1 []) (by decide)) ?_
 conv=>lhs;whnf
 refine l2d (hp _ _) ?_
 conv=>lhs;whnf
 rewrite [Bj (by simp only[F5,EK,Ri,Rj,L0,N2];omega)]
 rewrite [Bj (by simp only[F5,EK,Ri,Rj,L0,N2];omega)]
 rewrite [Bj (by simp only[F5,EK,Ri,Rj,L0,N2];omega)]
 exact hK _ _ (λb=>⟨false,λK=>by kernel_rfl⟩)
end
end
section
variable {L n:Nat}
inductive Ex where
 |no
 |cn (i k:Nat)
 |inp (j:Nat)
 |bi (op l r k:Nat)
 |po (l e k:Nat)
def Ex.nd:Ex→List Nd
 | .no=>[]
 | .cn i k=>[cnN i k]
 | .inp j=>[Uj j]
 | .bi op l r _=>[biN op l r]
 | .po l e _=>[poN l e]
def Ex.ty (ks:List Nat):Ex→List Nat
 | .no=>[]
 | .cn _ k=>[k]
 | .inp j=>[ks.getD j 0]
 | .bi _ _ _ k=>[k]
 | .po _ _ k=>[k]
def Ex.tx:Ex→List (List UInt8)
 | .no=>[]
 | .cn i k=>[cnT i k]
 | .inp j=>[exT j]
 | .bi op l r _=>[exT (3+9*(op-3)+3*l+r)]
 | .po l e _=>[exT (39+5*l+e)]
def Ex.Ok (ks:List Nat):Ex→Prop
 | .no=>True
 | .cn i k=>i<33∧k<7
 | .inp j=>j<ks.length
 | .bi op l r k=>3≤op∧op<7∧l<ks.length∧r<ks.length∧Rh (op-3) (ks.getD l 0) (ks.getD r 0)=some k
 | .po l e k=>l<ks.length∧e<5∧SQ (ks.getD l 0) e=some k
structure Pr where
 id:Nat
 ks:List Nat
 x:Ex
structure Pr.Ok (p:Pr):Prop where
 i1:1≤p.id
 i2:p.id<950
 k1:1≤p.ks.length
 k3:p.ks.length≤3
 k7:∀k∈p.ks,k<7
 x:p.x.Ok p.ks
def Pr.xs (p:Pr):List Nd:=JL p.ks++p.x.nd
def Pr.ty (p:Pr):List Nat:=p.ks++p.x.ty p.ks
def Pr.ts (p:Pr):List (List UInt8):=(List.range p.ks.length).map exT++p.x.tx
def Pr.out (p:Pr):Nat:=p.ty.getD (p.xs.length-1) 0
section
variable {a b l r e i j k op:Nat} {ks:List Nat} {xs:List Nd} {id:Int} {o:UD}
theorem JU {N:Nat} (h:∀k∈ks,k<N) (hl:l<ks.length):ks.getD l 0<N:=by
 have e:ks.getD l 0=ks[l]:=by simp[List.getD,Jw hl]
 rw[e];exact h _ (Qu hl)
theorem B5G (ha:a<7) (hb:b<7):PO (rt (L+20) (n+41)) MZ [.agg (uu a).cs,.agg (uu b).cs] (HC (Rh 0 a b)):=by
 have:=(C0g L (n+1) (7*a+b) (by omega)).o;rwa[show(7*a+b)/7=a by omega,show(7*a+b)%7=b by omega] at this
theorem B5L (ha:a<7) (hb:b<7):PO (rt (L+20) (n+41)) Gc [.agg (uu a).cs,.agg (uu b).cs] (HC (Rh 1 a b)):=by
 have:=(C0k L (n+1) (7*a+b) (by omega)).o;rwa[show(7*a+b)/7=a by omega,show(7*a+b)%7=b by omega] at this
theorem B5J (ha:a<7) (hb:b<7):PO (rt (L+20) (n+41)) Kx [.agg (uu a).cs,.agg (uu b).cs] (HC (Rh 2 a b)):=by
 have:=(C0i L (n+1) (7*a+b) (by omega)).o;rwa[show(7*a+b)/7=a by omega,show(7*a+b)%7=b by omega] at this
theorem B5K (ha:a<7) (hb:b<7):PO (rt (L+20) (n+41)) Ky [.agg (uu a).cs,.agg (uu b).cs] (HC (Rh 3 a b)):=by
 have:=(C0j L (n+1) (7*a+b) (by omega)).o;rwa[show(7*a+b)/7=a by omega,show(7*a+b)%7=b by omega] at this
theorem B5I (ha:a<7) (hb:e<5):PO (rt (L+20) (n+41)) GJ [.agg (uu a).cs,.agg [I (X4 e),I 1]] (HC (SQ a e)):=by
 have:=(C0h L (n+1) (5*a+e) (by omega)).o;rwa[show(5*a+e)/5=a by omega,show(5*a+e)%5=e by omega] at this
theorem B4C (ha:a<7) (hb:b<7) (h:Rh 0 a b=some k):PO (rt (L+20) (n+40)) OI [.agg (uu a).cs,.agg (uu b).cs] (HC (some k)):=by
 have e1:(7*a+b)/7=a:=by omega
 have e2:(7*a+b)%7=b:=by omega
 have:=(B81 L n (7*a+b) (by omega) (by rw[e1,e2,h];rfl)).o;rwa[e1,e2,h] at this
theorem B4G (ha:a<7) (hb:b<7) (h:Rh 1 a b=some k):PO (rt (L+20) (n+40)) GE [.agg (uu a).cs,.agg (uu b).cs] (HC (some k)):=by
 have e1:(7*a+b)/7=a:=by omega
 have e2:(7*a+b)%7=b:=by omega
 have:=(B85 L n (7*a+b) (by omega) (by rw[e1,e2,h];rfl)).o;rwa[e1,e2,h] at this
theorem B4E (ha:a<7) (hb:b<7) (h:Rh 2 a b=some k):PO (rt (L+20) (n+40)) OK [.agg (uu a).cs,.agg (uu b).cs] (HC (some k)):=by
 have e1:(7*a+b)/7=a:=by omega
 have e2:(7*a+b)%7=b:=by omega
 have:=(B83 L n (7*a+b) (by omega) (by rw[e1,e2,h];rfl)).o;rwa[e1,e2,h] at this
theorem B4F (ha:a<7) (hb:b<7) (h:Rh 3 a b=some k):PO (rt (L+20) (n+40)) OL [.agg (uu a).cs,.agg (uu b).cs] (HC (some k)):=by
 have e1:(7*a+b)/7=a:=by omega
 have e2:(7*a+b)%7=b:=by omega
 have:=(B84 L n (7*a+b) (by omega) (by rw[e1,e2,h];rfl)).o;rwa[e1,e2,h] at this
theorem B4D (ha:a<7) (hb:e<5) (h:SQ a e=some k):PO (rt (L+20) (n+40)) OJ [.agg (uu a).cs,.agg [I (X4 e),I 1]] (HC (some k)):=by
 have e1:(5*a+e)/5=a:=by omega
 have e2:(5*a+e)%5=e:=by omega
 have:=(B82 L n (5*a+e) (by omega) (by rw[e1,e2,h];rfl)).o;rwa[e1,e2,h] at this
theorem A8G (h1:1≤ks.length) (h3:ks.length≤3) (hk:∀k∈ks,k<7) (hl:l<ks.length) (hr:r<ks.length) (ho:3≤op) (ho':op<7):
 CS (rt (L+20) (n+42)) BU [.agg (Br id (BA ks) (BQ xs) o),.agg (biN op l r).cs,I ks.length,Oa ks] (A6T (Rh (op-3) (ks.getD l 0) (ks.getD r 0))):=by
 have ha:=JU hk hl
 have hb:=JU hk hr
 obtain rfl|rfl|rfl|rfl:op=3∨op=4∨op=5∨op=6:=by omega
 ·exact B2d h1 h3 hl hr (B5G ha hb)
 ·exact B2h h1 h3 hl hr (B5L ha hb)
 ·exact B2f h1 h3 hl hr (B5J ha hb)
 ·exact B2g h1 h3 hl hr (B5K ha hb)
theorem A8F (h1:1≤ks.length) (h3:ks.length≤3) (hk:∀k∈ks,k<7) (hl:l<ks.length) (he:e<5):
 CS (rt (L+20) (n+42)) BU [.agg (Br id (BA ks) (BQ xs) o),.agg (poN l e).cs,I ks.length,Oa ks] (A6T (SQ (ks.getD l 0) e)):=
 B2e h1 h3 hl he (B5I (JU hk hl) he)
theorem A50 {at_:Int} {w:AV} (hi:i<33) (hk:k<7):CS (rt (L+20) (n+42)) BU [.agg (Br id (BA ks) (BQ xs) o),.agg (cnN i k).cs,I at_,w] (.tup [.agg (BW (uu k)),I 0]):=
 B5N (B08 L n i hi).o (Ox L n k (by omega)).o
end
section
variable {p:Pr} {o:UD}
theorem C0B (h:p.Ok):RTy L n p.id p.ks p.xs o p.ty:=by
 obtain⟨pid,ks,x⟩:=p
 obtain⟨i1,i2,k1,k3,k7,hx⟩:=h
 unfold Pr.xs Pr.ty
 cases x with
 |no=>
  simp only[Ex.nd,Ex.ty,l1o]
  exact C09 (l1m k3 (by decide))
 |cn i k=>exact YY (l1m k3 (by decide)) (A50 hx.1 hx.2)
 |inp j=>
  refine YY (l1m k3 (by decide)) ?_
  have hj:j<ks.length:=hx
  have e:ks.getD j 0=ks[j]:=by simp[List.getD,Jw hj]
  rw[e]
  exact TN (n:=n+39) (l1m k3 (by decide)) hj
 |bi op l r k=>
  obtain⟨h1,h2,h3,h4,h5⟩:=hx
  refine YY (l1m k3 (by decide)) ?_
  have:=A8G (L:=L) (n:=n) (id:=pid) (xs:=JL ks++[biN op l r]) (o:=o) k1 k3 k7 h3 h4 h1 h2
  rw[h5] at this
  exact this
 |po l e k=>
  obtain⟨h1,h2,h3⟩:=hx
  refine YY (l1m k3 (by decide)) ?_
  have:=A8F (L:=L) (n:=n) (id:=pid) (xs:=JL ks++[poN l e]) (o:=o) k1 k3 k7 h1 h2
  rw[h3] at this
  exact this
theorem B1s {ks:List Nat} {i:Nat} (k1:1≤ks.length) (k3:ks.length≤3) {l:List Nat} (hl:l.length≤3) (hi:i<ks.length):WNd L n (BA ks) l (Uj i) (ks.getD i 0):=
 ⟨EK.getD 2 [],C0L,Ef,.inr ⟨_,_,rfl⟩,λH K=>by kernel_rfl,by kernel_rfl,rfl,rfl,B1G (n:=n+39) hl,B4H (n:=n+39) k1 k3 hi⟩
theorem C0A (h:p.Ok):WTy L n p.ks p.xs p.ty:=by
 obtain⟨pid,ks,x⟩:=p
 obtain⟨i1,i2,k1,k3,k7,hx⟩:=h
 simp only at k1 k3 k7 hx
 intro i hi
 simp only[Pr.xs,Pr.ty] at hi⊢
 by_cases hlt:i<ks.length
 ·have e1:(JL ks++x.nd)[i]=Uj i:=by
   rw[List.getElem_append_left (by rw[D7];exact hlt)];exact VV _
  have e2:(ks++x.ty ks).getD i 0=ks.getD i 0:=by simp[List.getD,l0l hlt]
  rw[e1,e2]
  exact B1s k1 k3 (by rw[l0g];omega) hlt
 ·have e0:x.nd.length≤1:=by cases x<;>simp[Ex.nd]
  rw[F5,D7] at hi
  obtain rfl:i=ks.length:=by omega
  have e1:∀y,x.nd=[y]→(JL ks++x.nd)[ks.length]'(by rw[F5,D7];exact hi)=y:= λy hy=>by
   rw[List.getElem_append_right (by rw[D7];omega)];simp[hy,D7]
  have e2:∀k,x.ty ks=[k]→(ks++x.ty ks).getD ks.length 0=k:= λk hk=>by simp[List.getD,hk]
  have e3:(ks++x.ty ks).take ks.length=ks:=List.take_left' rfl
  rw[e3]
  cases x with
  |no=>simp[Ex.nd] at hi
  |cn i k=>
   rw[e1 _ rfl,e2 _ rfl]
   exact⟨EK.getD 1 [],AP,CF,.inl rfl,λH K=>by kernel_rfl,by kernel_rfl,rfl,rfl,B1H (n:=n+39) k3,(B4I (A9T L n i hx.1).o (SP L n k (by have:=hx.2;omega)).o).rv⟩
  |inp j=>
   rw[e1 _ rfl,e2 _ rfl]
   exact B1s k1 k3 k3 hx
  |bi op l r k=>
   obtain⟨h1,h2,h3,h4,h5⟩:=hx
   have ha:=JU k7 h3
   have hb:=JU k7 h4
   rw[e1 _ rfl,e2 _ rfl]
   obtain rfl|rfl|rfl|rfl:op=3∨op=4∨op=5∨op=6:=by omega
   ·exact⟨EK.getD 3 [],Ye,D8,.inr ⟨_,_,rfl⟩,λH K=>by kernel_rfl,by kernel_rfl,rfl,rfl,A9O (n:=n+39) k1 k3 h3 h4,(B1t k1 k3 h3 h4 (B4C ha hb h5)).rv⟩
   ·exact⟨EK.getD 4 [],Ye,Cy,.inr ⟨_,_,rfl⟩,λH K=>by kernel_rfl,by kernel_rfl,rfl,rfl,A9S (n:=n+39) k1 k3 h3 h4,(B1x k1 k3 h3 h4 (B4G ha hb h5)).rv⟩
   ·exact⟨EK.getD 5 [],Ye,CL,.inr ⟨_,_,rfl⟩,λH K=>by kernel_rfl,by kernel_rfl,rfl,rfl,A9Q (n:=n+39) k1 k3 h3 h4,(B1v k1 k3 h3 h4 (B4E ha hb h5)).rv⟩
   ·exact⟨EK.getD 6 [],Ye,CE,.inr ⟨_,_,rfl⟩,λH K=>by kernel_rfl,by kernel_rfl,rfl,rfl,A9R (n:=n+39) k1 k3 h3 h4,(B1w k1 k3 h3 h4 (B4F ha hb h5)).rv⟩
  |po l e k=>
   obtain⟨h1,h2,h3⟩:=hx
   rw[e1 _ rfl,e2 _ rfl]
   exact⟨EK.getD 7 [],C0C,Di,.inr ⟨_,_,rfl⟩,λH K=>by kernel_rfl,by kernel_rfl,rfl,rfl,A9P (n:=n+39) k1 k3 h1 h2,(B1u k1 k3 h1 h2 (B4D (JU k7 h1) h2 h3)).rv⟩
theorem C0m {j:Nat} (h:j<54):PS (rt (L+20) (n+41)) GH [.agg (exN j).cs] (S (exT j)):=
 Bt (λH=>by first|exact λK=>by kernel_rfl) (GW.1 (B2z L n) j (Iw.2 h))
theorem B8a {j:Nat} (h:j<54):PS (rt (L+20) (n+41)) Ec [.agg (exN j).cs] (S (exT j)):=
 Bt (λH=>by first|exact λK=>by kernel_rfl) (GW.1 (B1F L n) j (Iw.2 h))
theorem B7F {j:Nat} (h:j<3):Uj j=exN j:=by unfold exN;rw[if_pos h]
theorem C44 {op l r:Nat} (h1:3≤op) (h2:op<7) (h3:l<3) (h4:r<3):biN op l r=exN (3+9*(op-3)+3*l+r):=by
 obtain rfl|rfl|rfl|rfl:op=3∨op=4∨op=5∨op=6:=by omega
 all_goals obtain rfl|rfl|rfl:l=0∨l=1∨l=2:=by omega
 all_goals obtain rfl|rfl|rfl:r=0∨r=1∨r=2:=by omega
 all_goals rfl
theorem C43 {l e:Nat} (h3:l<3) (h4:e<5):poN l e=exN (39+5*l+e):=by
 obtain rfl|rfl|rfl:l=0∨l=1∨l=2:=by omega
 all_goals obtain rfl|rfl|rfl|rfl|rfl:=lt5 h4
 all_goals rfl
def NdT (L n:Nat) (y:Nd) (t:List UInt8):Prop:=PS (rt (L+20) (n+41)) GH [.agg y.cs] (S t)∧PS (rt (L+20) (n+41)) Ec [.agg y.cs] (S t)
theorem A3E {j:Nat} (h:j<54):NdT L n (exN j) (exT j):=⟨C0m h,B8a h⟩
theorem B7n {y:Nd} (H:Hp):Py true depth [.agg y.cs] [.agg y.cs] H false:= λK=>by kernel_rfl
theorem C0M {i k:Nat} (hi:i<33) (hk:k<7):NdT L n (cnN i k) (cnT i k):=
 ⟨(B2y hi (TO (n:=n+39) (by decide) (by decide)).o (B5F (n:=n+39)).o (QB L n k (by omega)).o (B09 L n i hi).o).ps B7n,
  (B1E hi (B7e (n:=n+39)).o (Qv L n k (by omega)).o (A9U L n i hi).o).ps B7n⟩
theorem B2M (h:p.Ok):p.ts.length=p.xs.length∧∀i (hi:i<p.xs.length),NdT L n p.xs[i] (p.ts.getD i []):=by
 obtain⟨pid,ks,x⟩:=p
 obtain⟨i1,i2,k1,k3,k7,hx⟩:=h
 simp only at k1 k3 k7 hx
 have hlen:x.tx.length=x.nd.length:=by cases x<;>rfl
 refine⟨by simp[Pr.ts,Pr.xs,D7,hlen],λi hi=> ?_⟩
 simp only[Pr.xs,Pr.ts] at hi⊢
 by_cases hlt:i<ks.length
 ·have e1:(JL ks++x.nd)[i]=Uj i:=by
   rw[List.getElem_append_left (by rw[D7];exact hlt)];exact VV _
  have e2:((List.range ks.length).map exT++x.tx).getD i []=exT i:=by
   rw[List.getD,l0l (by simpa using hlt)];simp[List.getElem?_range hlt]
  rw[e1,e2,B7F (by omega)]
  exact A3E (by omega)
 ·have e0:x.nd.length≤1:=by cases x<;>simp[Ex.nd]
  rw[F5,D7] at hi
  obtain rfl:i=ks.length:=by omega
  have e1:∀y,x.nd=[y]→(JL ks++x.nd)[ks.length]'(by rw[F5,D7];exact hi)=y:= λy hy=>by
   rw[List.getElem_append_right (by rw[D7];omega)];simp[hy,D7]
  have e2:∀t,x.tx=[t]→((List.range ks.length).map exT++x.tx).getD ks.length []=t:= λt ht=>by simp[List.getD,ht]
  cases x with
  |no=>simp[Ex.nd] at hi
  |cn i k=>rw[e1 _ rfl,e2 _ rfl];exact C0M hx.1 hx.2
  |inp j=>
   have hj:j<ks.length:=hx
   rw[e1 _ rfl,e2 _ rfl,B7F (by omega)]
   exact A3E (by omega)
  |bi op l r k=>
   obtain⟨h1,h2,h3,h4,h5⟩:=hx
   rw[e1 _ rfl,e2 _ rfl,C44 h1 h2 (by omega) (by omega)]
   exact A3E (by omega)
  |po l e k=>
   obtain⟨h1,h2,h3⟩:=hx
   rw[e1 _ rfl,e2 _ rfl,C43 (by omega) h2]
   exact A3E (by omega)
end
end
end Go.Abs
end
