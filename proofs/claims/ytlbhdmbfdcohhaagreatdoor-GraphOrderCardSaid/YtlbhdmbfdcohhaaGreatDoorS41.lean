import Derived.Test.YtlbhdmbfdcohhaaGreatDoorS30
import Derived.Test.YtlbhdmbfdcohhaaGreatDoorS31
import Derived.Test.YtlbhdmbfdcohhaaGreatDoorS32
import Derived.Test.YtlbhdmbfdcohhaaGreatDoorS33
import Derived.Test.YtlbhdmbfdcohhaaGreatDoorS34
import Derived.Test.YtlbhdmbfdcohhaaGreatDoorS35
import Derived.Test.YtlbhdmbfdcohhaaGreatDoorS36
import Derived.Test.YtlbhdmbfdcohhaaGreatDoorS37
import Derived.Test.YtlbhdmbfdcohhaaGreatDoorS38
import Derived.Test.YtlbhdmbfdcohhaaGreatDoorS39
import Derived.Test.YtlbhdmbfdcohhaaGreatDoorS40
set_option linter.all false
set_option maxHeartbeats 100000000
noncomputable section
namespace Go.Abs
open Go.RowKit Go.Proofs
set_option maxRecDepth 100000
section
variable {L n:Nat}
theorem RV.ls {R:Rt} {f:Nat} {args':List AV} {v:AV} (h:RV R f args' v):LS R f args' v:= λq args H ha K=>by rw[←zO];exact A0C h ha
def biN (op l r:Nat):Nd:=⟨op,[],[],u0,0,l,r⟩
def poN (l e:Nat):Nd:=⟨7,[],[],u0,YN e,l,0⟩
def A8b:Option Nat→AV
 |some k=> .tup [.agg (Ck (uu k)),I 0]
 |none=> .tup [.agg XA0,I 90]
section
variable {id:Int} {o:UD} {xs:List Nd} {ks:List Nat} {l r e i k:Nat} {q:Option Nat} {I1:AV}
theorem ks3 (h1:1≤ks.length) (h3:ks.length≤3):(∃a,ks=[a])∨(∃a b,ks=[a,b])∨∃a b c,ks=[a,b,c]:=by
 match ks,h1,h3 with
 |[a],_,_=>exact .inl ⟨a,rfl⟩
 |[a,b],_,_=>exact .inr (.inl ⟨a,b,rfl⟩)
 |[a,b,c],_,_=>exact .inr (.inr ⟨a,b,c,rfl⟩)
theorem Te {l:Nat} {a:Nat} (h:l<[a].length):l=0:=by simpa using h
theorem Sb {l:Nat} {a b:Nat} (h:l<[a,b].length):l=0∨l=1:=by simp at h;omega
theorem Td {l:Nat} {a b c:Nat} (h:l<[a,b,c].length):l=0∨l=1∨l=2:=by simp at h;omega
theorem lt5 {e:Nat} (h:e<5):e=0∨e=1∨e=2∨e=3∨e=4:=by omega
theorem B3s (h1:1≤ks.length) (h3:ks.length≤3) (hl:l<ks.length) (hr:r<ks.length):RV (rt (L+20) (n+2)) DX [.agg (B2 id (BH ks) (Cb xs) o),.agg (biN 3 l r).cs,I ks.length] (.tup [Bo true,Bo true]):=by
 rcases ks3 h1 h3 with⟨a,rfl⟩|⟨a,b,rfl⟩|⟨a,b,c,rfl⟩
 ·obtain rfl:=Te hl;obtain rfl:=Te hr;exact λb=>by kernel_rfl
 ·rcases Sb hl with rfl|rfl<;>rcases Sb hr with rfl|rfl<;>(exact λb=>by kernel_rfl)
 ·rcases Td hl with rfl|rfl|rfl<;>rcases Td hr with rfl|rfl|rfl<;>(exact λb=>by kernel_rfl)
attribute [local irreducible] Zu rt in
theorem B3m (h1:1≤ks.length) (h3:ks.length≤3) (hl:l<ks.length) (hr:r<ks.length) (hS:PO (rt (L+20) (n+41)) Ov [.agg (uu (ks.getD l 0)).cs,.agg (uu (ks.getD r 0)).cs] (I8 q)):CS (rt (L+20) (n+42)) Ci [.agg (B2 id (BH ks) (Cb xs) o),.agg (biN 3 l r).cs,I ks.length,PC ks] (A8b q):=by
 intro K hK
 have hsh:=(B3s (L:=L) (n:=n+39) (id:=id) (o:=o) (xs:=xs) h1 h3 hl hr).ls
 rewrite [FP]
 unfold FD Av
 rewrite [zO]
 generalize rt (L+20) (n+41)=R at*
 revert hS hsh
 rcases ks3 h1 h3 with⟨a,rfl⟩|⟨a,b,rfl⟩|⟨a,b,c,rfl⟩
 ·obtain rfl:=Te hl;obtain rfl:=Te hr;intro hS hsh;simp only[Sw,Sv] at hS;(conv=>lhs;whnf);rewrite [hsh false _ _ ?hq];(case hq=>exact λK=>by kernel_rfl);(conv=>lhs;whnf);rewrite [hS];cases q<;>(conv=>lhs;whnf)<;>exact hK _ _ (λb=>⟨false,λK=>by kernel_rfl⟩)
 ·rcases Sb hl with rfl|rfl<;>rcases Sb hr with rfl|rfl<;>(intro hS hsh;simp only[Sw,Sv] at hS;(conv=>lhs;whnf);rewrite [hsh false _ _ ?hq];(case hq=>exact λK=>by kernel_rfl);(conv=>lhs;whnf);rewrite [hS];cases q<;>(conv=>lhs;whnf)<;>exact hK _ _ (λb=>⟨false,λK=>by kernel_rfl⟩))
 ·rcases Td hl with rfl|rfl|rfl<;>rcases Td hr with rfl|rfl|rfl<;>(intro hS hsh;simp only[Sw,Sv] at hS;(conv=>lhs;whnf);rewrite [hsh false _ _ ?hq];(case hq=>exact λK=>by kernel_rfl);(conv=>lhs;whnf);rewrite [hS];cases q<;>(conv=>lhs;whnf)<;>exact hK _ _ (λb=>⟨false,λK=>by kernel_rfl⟩))
theorem B3w (h1:1≤ks.length) (h3:ks.length≤3) (hl:l<ks.length) (hr:r<ks.length):RV (rt (L+20) (n+2)) DX [.agg (B2 id (BH ks) (Cb xs) o),.agg (biN 4 l r).cs,I ks.length] (.tup [Bo true,Bo true]):=by
 rcases ks3 h1 h3 with⟨a,rfl⟩|⟨a,b,rfl⟩|⟨a,b,c,rfl⟩
 ·obtain rfl:=Te hl;obtain rfl:=Te hr;exact λb=>by kernel_rfl
 ·rcases Sb hl with rfl|rfl<;>rcases Sb hr with rfl|rfl<;>(exact λb=>by kernel_rfl)
 ·rcases Td hl with rfl|rfl|rfl<;>rcases Td hr with rfl|rfl|rfl<;>(exact λb=>by kernel_rfl)
attribute [local irreducible] Zu rt in
theorem B3q (h1:1≤ks.length) (h3:ks.length≤3) (hl:l<ks.length) (hr:r<ks.length) (hS:PO (rt (L+20) (n+41)) Hg [.agg (uu (ks.getD l 0)).cs,.agg (uu (ks.getD r 0)).cs] (I8 q)):CS (rt (L+20) (n+42)) Ci [.agg (B2 id (BH ks) (Cb xs) o),.agg (biN 4 l r).cs,I ks.length,PC ks] (A8b q):=by
 intro K hK
 have hsh:=(B3w (L:=L) (n:=n+39) (id:=id) (o:=o) (xs:=xs) h1 h3 hl hr).ls
 rewrite [FP]
 unfold FD Av
 rewrite [zO]
 generalize rt (L+20) (n+41)=R at*
 revert hS hsh
 rcases ks3 h1 h3 with⟨a,rfl⟩|⟨a,b,rfl⟩|⟨a,b,c,rfl⟩
 ·obtain rfl:=Te hl;obtain rfl:=Te hr;intro hS hsh;simp only[Sw,Sv] at hS;(conv=>lhs;whnf);rewrite [hsh false _ _ ?hq];(case hq=>exact λK=>by kernel_rfl);(conv=>lhs;whnf);rewrite [hS];cases q<;>(conv=>lhs;whnf)<;>exact hK _ _ (λb=>⟨false,λK=>by kernel_rfl⟩)
 ·rcases Sb hl with rfl|rfl<;>rcases Sb hr with rfl|rfl<;>(intro hS hsh;simp only[Sw,Sv] at hS;(conv=>lhs;whnf);rewrite [hsh false _ _ ?hq];(case hq=>exact λK=>by kernel_rfl);(conv=>lhs;whnf);rewrite [hS];cases q<;>(conv=>lhs;whnf)<;>exact hK _ _ (λb=>⟨false,λK=>by kernel_rfl⟩))
 ·rcases Td hl with rfl|rfl|rfl<;>rcases Td hr with rfl|rfl|rfl<;>(intro hS hsh;simp only[Sw,Sv] at hS;(conv=>lhs;whnf);rewrite [hsh false _ _ ?hq];(case hq=>exact λK=>by kernel_rfl);(conv=>lhs;whnf);rewrite [hS];cases q<;>(conv=>lhs;whnf)<;>exact hK _ _ (λb=>⟨false,λK=>by kernel_rfl⟩))
theorem B3u (h1:1≤ks.length) (h3:ks.length≤3) (hl:l<ks.length) (hr:r<ks.length):RV (rt (L+20) (n+2)) DX [.agg (B2 id (BH ks) (Cb xs) o),.agg (biN 5 l r).cs,I ks.length] (.tup [Bo true,Bo true]):=by
 rcases ks3 h1 h3 with⟨a,rfl⟩|⟨a,b,rfl⟩|⟨a,b,c,rfl⟩
 ·obtain rfl:=Te hl;obtain rfl:=Te hr;exact λb=>by kernel_rfl
 ·rcases Sb hl with rfl|rfl<;>rcases Sb hr with rfl|rfl<;>(exact λb=>by kernel_rfl)
 ·rcases Td hl with rfl|rfl|rfl<;>rcases Td hr with rfl|rfl|rfl<;>(exact λb=>by kernel_rfl)
attribute [local irreducible] Zu rt in
theorem B3o (h1:1≤ks.length) (h3:ks.length≤3) (hl:l<ks.length) (hr:r<ks.length) (hS:PO (rt (L+20) (n+41)) L7 [.agg (uu (ks.getD l 0)).cs,.agg (uu (ks.getD r 0)).cs] (I8 q)):CS (rt (L+20) (n+42)) Ci [.agg (B2 id (BH ks) (Cb xs) o),.agg (biN 5 l r).cs,I ks.length,PC ks] (A8b q):=by
 intro K hK
 have hsh:=(B3u (L:=L) (n:=n+39) (id:=id) (o:=o) (xs:=xs) h1 h3 hl hr).ls
 rewrite [FP]
 unfold FD Av
 rewrite [zO]
 generalize rt (L+20) (n+41)=R at*
 revert hS hsh
 rcases ks3 h1 h3 with⟨a,rfl⟩|⟨a,b,rfl⟩|⟨a,b,c,rfl⟩
 ·obtain rfl:=Te hl;obtain rfl:=Te hr;intro hS hsh;simp only[Sw,Sv] at hS;(conv=>lhs;whnf);rewrite [hsh false _ _ ?hq];(case hq=>exact λK=>by kernel_rfl);(conv=>lhs;whnf);rewrite [hS];cases q<;>(conv=>lhs;whnf)<;>exact hK _ _ (λb=>⟨false,λK=>by kernel_rfl⟩)
 ·rcases Sb hl with rfl|rfl<;>rcases Sb hr with rfl|rfl<;>(intro hS hsh;simp only[Sw,Sv] at hS;(conv=>lhs;whnf);rewrite [hsh false _ _ ?hq];(case hq=>exact λK=>by kernel_rfl);(conv=>lhs;whnf);rewrite [hS];cases q<;>(conv=>lhs;whnf)<;>exact hK _ _ (λb=>⟨false,λK=>by kernel_rfl⟩))
 ·rcases Td hl with rfl|rfl|rfl<;>rcases Td hr with rfl|rfl|rfl<;>(intro hS hsh;simp only[Sw,Sv] at hS;(conv=>lhs;whnf);rewrite [hsh false _ _ ?hq];(case hq=>exact λK=>by kernel_rfl);(conv=>lhs;whnf);rewrite [hS];cases q<;>(conv=>lhs;whnf)<;>exact hK _ _ (λb=>⟨false,λK=>by kernel_rfl⟩))
theorem B3v (h1:1≤ks.length) (h3:ks.length≤3) (hl:l<ks.length) (hr:r<ks.length):RV (rt (L+20) (n+2)) DX [.agg (B2 id (BH ks) (Cb xs) o),.agg (biN 6 l r).cs,I ks.length] (.tup [Bo true,Bo true]):=by
 rcases ks3 h1 h3 with⟨a,rfl⟩|⟨a,b,rfl⟩|⟨a,b,c,rfl⟩
 ·obtain rfl:=Te hl;obtain rfl:=Te hr;exact λb=>by kernel_rfl
 ·rcases Sb hl with rfl|rfl<;>rcases Sb hr with rfl|rfl<;>(exact λb=>by kernel_rfl)
 ·rcases Td hl with rfl|rfl|rfl<;>rcases Td hr with rfl|rfl|rfl<;>(exact λb=>by kernel_rfl)
attribute [local irreducible] Zu rt in
theorem B3p (h1:1≤ks.length) (h3:ks.length≤3) (hl:l<ks.length) (hr:r<ks.length) (hS:PO (rt (L+20) (n+41)) L8 [.agg (uu (ks.getD l 0)).cs,.agg (uu (ks.getD r 0)).cs] (I8 q)):CS (rt (L+20) (n+42)) Ci [.agg (B2 id (BH ks) (Cb xs) o),.agg (biN 6 l r).cs,I ks.length,PC ks] (A8b q):=by
 intro K hK
 have hsh:=(B3v (L:=L) (n:=n+39) (id:=id) (o:=o) (xs:=xs) h1 h3 hl hr).ls
 rewrite [FP]
 unfold FD Av
 rewrite [zO]
 generalize rt (L+20) (n+41)=R at*
 revert hS hsh
 rcases ks3 h1 h3 with⟨a,rfl⟩|⟨a,b,rfl⟩|⟨a,b,c,rfl⟩
 ·obtain rfl:=Te hl;obtain rfl:=Te hr;intro hS hsh;simp only[Sw,Sv] at hS;(conv=>lhs;whnf);rewrite [hsh false _ _ ?hq];(case hq=>exact λK=>by kernel_rfl);(conv=>lhs;whnf);rewrite [hS];cases q<;>(conv=>lhs;whnf)<;>exact hK _ _ (λb=>⟨false,λK=>by kernel_rfl⟩)
 ·rcases Sb hl with rfl|rfl<;>rcases Sb hr with rfl|rfl<;>(intro hS hsh;simp only[Sw,Sv] at hS;(conv=>lhs;whnf);rewrite [hsh false _ _ ?hq];(case hq=>exact λK=>by kernel_rfl);(conv=>lhs;whnf);rewrite [hS];cases q<;>(conv=>lhs;whnf)<;>exact hK _ _ (λb=>⟨false,λK=>by kernel_rfl⟩))
 ·rcases Td hl with rfl|rfl|rfl<;>rcases Td hr with rfl|rfl|rfl<;>(intro hS hsh;simp only[Sw,Sv] at hS;(conv=>lhs;whnf);rewrite [hsh false _ _ ?hq];(case hq=>exact λK=>by kernel_rfl);(conv=>lhs;whnf);rewrite [hS];cases q<;>(conv=>lhs;whnf)<;>exact hK _ _ (λb=>⟨false,λK=>by kernel_rfl⟩))
theorem B3t (h1:1≤ks.length) (h3:ks.length≤3) (hl:l<ks.length) (he:e<5):RV (rt (L+20) (n+2)) DX [.agg (B2 id (BH ks) (Cb xs) o),.agg (poN l e).cs,I ks.length] (.tup [Bo true,Bo true]):=by
 rcases ks3 h1 h3 with⟨a,rfl⟩|⟨a,b,rfl⟩|⟨a,b,c,rfl⟩
 ·obtain rfl:=Te hl;rcases lt5 he with rfl|rfl|rfl|rfl|rfl<;>(exact λb=>by kernel_rfl)
 ·rcases Sb hl with rfl|rfl<;>rcases lt5 he with rfl|rfl|rfl|rfl|rfl<;>(exact λb=>by kernel_rfl)
 ·rcases Td hl with rfl|rfl|rfl<;>rcases lt5 he with rfl|rfl|rfl|rfl|rfl<;>(exact λb=>by kernel_rfl)
attribute [local irreducible] Zu rt in
theorem B3n (h1:1≤ks.length) (h3:ks.length≤3) (hl:l<ks.length) (he:e<5) (hS:PO (rt (L+20) (n+41)) HU [.agg (uu (ks.getD l 0)).cs,.agg [I (YN e),I 1]] (I8 q)):CS (rt (L+20) (n+42)) Ci [.agg (B2 id (BH ks) (Cb xs) o),.agg (poN l e).cs,I ks.length,PC ks] (A8b q):=by
 intro K hK
 have hsh:=(B3t (L:=L) (n:=n+39) (id:=id) (o:=o) (xs:=xs) h1 h3 hl he).ls
 rewrite [FP]
 unfold FD Av
 rewrite [zO]
 generalize rt (L+20) (n+41)=R at*
 revert hS hsh
 rcases ks3 h1 h3 with⟨a,rfl⟩|⟨a,b,rfl⟩|⟨a,b,c,rfl⟩
 ·obtain rfl:=Te hl;rcases lt5 he with rfl|rfl|rfl|rfl|rfl<;>(intro hS hsh;simp only[Sw,Sv] at hS;(conv=>lhs;whnf);rewrite [hsh false _ _ ?hq];(case hq=>exact λK=>by kernel_rfl);(conv=>lhs;whnf);refine l2d (hS _ _) ?_;cases q<;>(conv=>lhs;whnf)<;>exact hK _ _ (λb=>⟨false,λK=>by kernel_rfl⟩))
 ·rcases Sb hl with rfl|rfl<;>rcases lt5 he with rfl|rfl|rfl|rfl|rfl<;>(intro hS hsh;simp only[Sw,Sv] at hS;(conv=>lhs;whnf);rewrite [hsh false _ _ ?hq];(case hq=>exact λK=>by kernel_rfl);(conv=>lhs;whnf);refine l2d (hS _ _) ?_;cases q<;>(conv=>lhs;whnf)<;>exact hK _ _ (λb=>⟨false,λK=>by kernel_rfl⟩))
 ·rcases Td hl with rfl|rfl|rfl<;>rcases lt5 he with rfl|rfl|rfl|rfl|rfl<;>(intro hS hsh;simp only[Sw,Sv] at hS;(conv=>lhs;whnf);rewrite [hsh false _ _ ?hq];(case hq=>exact λK=>by kernel_rfl);(conv=>lhs;whnf);refine l2d (hS _ _) ?_;cases q<;>(conv=>lhs;whnf)<;>exact hK _ _ (λb=>⟨false,λK=>by kernel_rfl⟩))
theorem B0U (h1:1≤ks.length) (h3:ks.length≤3) (hl:l<ks.length) (hr:r<ks.length):RV (rt (L+20) (n+2)) BB [TS I1 (PC ks),Wu (Fw.getD 3 []) Zw Eo,.agg (biN 3 l r).cs] (Bo true):=by
 rcases ks3 h1 h3 with⟨a,rfl⟩|⟨a,b,rfl⟩|⟨a,b,c,rfl⟩
 ·obtain rfl:=Te hl;obtain rfl:=Te hr;exact λb=>by kernel_rfl
 ·rcases Sb hl with rfl|rfl<;>rcases Sb hr with rfl|rfl<;>(exact λb=>by kernel_rfl)
 ·rcases Td hl with rfl|rfl|rfl<;>rcases Td hr with rfl|rfl|rfl<;>(exact λb=>by kernel_rfl)
attribute [local irreducible] Zu rt in
theorem B2B (h1:1≤ks.length) (h3:ks.length≤3) (hl:l<ks.length) (hr:r<ks.length) (hS:PO (rt (L+20) (n+40)) Qn [.agg (uu (ks.getD l 0)).cs,.agg (uu (ks.getD r 0)).cs] (I8 (some k))):CS (rt (L+20) (n+41)) Eo [TS I1 (PC ks),.agg (biN 3 l r).cs] (.tup [.agg (Ck (uu k)),I 0]):=by
 intro K hK
 rewrite [Pg]
 unfold Hv
 rewrite [zO]
 generalize rt (L+20) (n+40)=R at*
 revert hS
 rcases ks3 h1 h3 with⟨a,rfl⟩|⟨a,b,rfl⟩|⟨a,b,c,rfl⟩
 ·obtain rfl:=Te hl;obtain rfl:=Te hr;intro hS;simp only[Sw,Sv] at hS;(conv=>lhs;whnf);rewrite [hS];(conv=>lhs;whnf);exact hK _ _ (λb=>⟨false,λK=>by kernel_rfl⟩)
 ·rcases Sb hl with rfl|rfl<;>rcases Sb hr with rfl|rfl<;>(intro hS;simp only[Sw,Sv] at hS;(conv=>lhs;whnf);rewrite [hS];(conv=>lhs;whnf);exact hK _ _ (λb=>⟨false,λK=>by kernel_rfl⟩))
 ·rcases Td hl with rfl|rfl|rfl<;>rcases Td hr with rfl|rfl|rfl<;>(intro hS;simp only[Sw,Sv] at hS;(conv=>lhs;whnf);rewrite [hS];(conv=>lhs;whnf);exact hK _ _ (λb=>⟨false,λK=>by kernel_rfl⟩))
theorem B0Y (h1:1≤ks.length) (h3:ks.length≤3) (hl:l<ks.length) (hr:r<ks.length):RV (rt (L+20) (n+2)) BB [TS I1 (PC ks),Wu (Fw.getD 4 []) Zw CX,.agg (biN 4 l r).cs] (Bo true):=by
 rcases ks3 h1 h3 with⟨a,rfl⟩|⟨a,b,rfl⟩|⟨a,b,c,rfl⟩
 ·obtain rfl:=Te hl;obtain rfl:=Te hr;exact λb=>by kernel_rfl
 ·rcases Sb hl with rfl|rfl<;>rcases Sb hr with rfl|rfl<;>(exact λb=>by kernel_rfl)
 ·rcases Td hl with rfl|rfl|rfl<;>rcases Td hr with rfl|rfl|rfl<;>(exact λb=>by kernel_rfl)
attribute [local irreducible] Zu rt in
theorem B2F (h1:1≤ks.length) (h3:ks.length≤3) (hl:l<ks.length) (hr:r<ks.length) (hS:PO (rt (L+20) (n+40)) HQ [.agg (uu (ks.getD l 0)).cs,.agg (uu (ks.getD r 0)).cs] (I8 (some k))):CS (rt (L+20) (n+41)) CX [TS I1 (PC ks),.agg (biN 4 l r).cs] (.tup [.agg (Ck (uu k)),I 0]):=by
 intro K hK
 rewrite [Lt]
 unfold EY
 rewrite [zO]
 generalize rt (L+20) (n+40)=R at*
 revert hS
 rcases ks3 h1 h3 with⟨a,rfl⟩|⟨a,b,rfl⟩|⟨a,b,c,rfl⟩
 ·obtain rfl:=Te hl;obtain rfl:=Te hr;intro hS;simp only[Sw,Sv] at hS;(conv=>lhs;whnf);rewrite [hS];(conv=>lhs;whnf);exact hK _ _ (λb=>⟨false,λK=>by kernel_rfl⟩)
 ·rcases Sb hl with rfl|rfl<;>rcases Sb hr with rfl|rfl<;>(intro hS;simp only[Sw,Sv] at hS;(conv=>lhs;whnf);rewrite [hS];(conv=>lhs;whnf);exact hK _ _ (λb=>⟨false,λK=>by kernel_rfl⟩))
 ·rcases Td hl with rfl|rfl|rfl<;>rcases Td hr with rfl|rfl|rfl<;>(intro hS;simp only[Sw,Sv] at hS;(conv=>lhs;whnf);rewrite [hS];(conv=>lhs;whnf);exact hK _ _ (λb=>⟨false,λK=>by kernel_rfl⟩))
theorem B0W (h1:1≤ks.length) (h3:ks.length≤3) (hl:l<ks.length) (hr:r<ks.length):RV (rt (L+20) (n+2)) BB [TS I1 (PC ks),Wu (Fw.getD 5 []) Zw Dw,.agg (biN 5 l r).cs] (Bo true):=by
 rcases ks3 h1 h3 with⟨a,rfl⟩|⟨a,b,rfl⟩|⟨a,b,c,rfl⟩
 ·obtain rfl:=Te hl;obtain rfl:=Te hr;exact λb=>by kernel_rfl
 ·rcases Sb hl with rfl|rfl<;>rcases Sb hr with rfl|rfl<;>(exact λb=>by kernel_rfl)
 ·rcases Td hl with rfl|rfl|rfl<;>rcases Td hr with rfl|rfl|rfl<;>(exact λb=>by kernel_rfl)
attribute [local irreducible] Zu rt in
theorem B2D (h1:1≤ks.length) (h3:ks.length≤3) (hl:l<ks.length) (hr:r<ks.length) (hS:PO (rt (L+20) (n+40)) Qp [.agg (uu (ks.getD l 0)).cs,.agg (uu (ks.getD r 0)).cs] (I8 (some k))):CS (rt (L+20) (n+41)) Dw [TS I1 (PC ks),.agg (biN 5 l r).cs] (.tup [.agg (Ck (uu k)),I 0]):=by
 intro K hK
 rewrite [MZ]
 unfold FR
 rewrite [zO]
 generalize rt (L+20) (n+40)=R at*
 revert hS
 rcases ks3 h1 h3 with⟨a,rfl⟩|⟨a,b,rfl⟩|⟨a,b,c,rfl⟩
 ·obtain rfl:=Te hl;obtain rfl:=Te hr;intro hS;simp only[Sw,Sv] at hS;(conv=>lhs;whnf);rewrite [hS];(conv=>lhs;whnf);exact hK _ _ (λb=>⟨false,λK=>by kernel_rfl⟩)
 ·rcases Sb hl with rfl|rfl<;>rcases Sb hr with rfl|rfl<;>(intro hS;simp only[Sw,Sv] at hS;(conv=>lhs;whnf);rewrite [hS];(conv=>lhs;whnf);exact hK _ _ (λb=>⟨false,λK=>by kernel_rfl⟩))
 ·rcases Td hl with rfl|rfl|rfl<;>rcases Td hr with rfl|rfl|rfl<;>(intro hS;simp only[Sw,Sv] at hS;(conv=>lhs;whnf);rewrite [hS];(conv=>lhs;whnf);exact hK _ _ (λb=>⟨false,λK=>by kernel_rfl⟩))
theorem B0X (h1:1≤ks.length) (h3:ks.length≤3) (hl:l<ks.length) (hr:r<ks.length):RV (rt (L+20) (n+2)) BB [TS I1 (PC ks),Wu (Fw.getD 6 []) Zw Dp,.agg (biN 6 l r).cs] (Bo true):=by
 rcases ks3 h1 h3 with⟨a,rfl⟩|⟨a,b,rfl⟩|⟨a,b,c,rfl⟩
 ·obtain rfl:=Te hl;obtain rfl:=Te hr;exact λb=>by kernel_rfl
 ·rcases Sb hl with rfl|rfl<;>rcases Sb hr with rfl|rfl<;>(exact λb=>by kernel_rfl)
 ·rcases Td hl with rfl|rfl|rfl<;>rcases Td hr with rfl|rfl|rfl<;>(exact λb=>by kernel_rfl)
attribute [local irreducible] Zu rt in
theorem B2E (h1:1≤ks.length) (h3:ks.length≤3) (hl:l<ks.length) (hr:r<ks.length) (hS:PO (rt (L+20) (n+40)) Qq [.agg (uu (ks.getD l 0)).cs,.agg (uu (ks.getD r 0)).cs] (I8 (some k))):CS (rt (L+20) (n+41)) Dp [TS I1 (PC ks),.agg (biN 6 l r).cs] (.tup [.agg (Ck (uu k)),I 0]):=by
 intro K hK
 rewrite [Mu]
 unfold F6
 rewrite [zO]
 generalize rt (L+20) (n+40)=R at*
 revert hS
 rcases ks3 h1 h3 with⟨a,rfl⟩|⟨a,b,rfl⟩|⟨a,b,c,rfl⟩
 ·obtain rfl:=Te hl;obtain rfl:=Te hr;intro hS;simp only[Sw,Sv] at hS;(conv=>lhs;whnf);rewrite [hS];(conv=>lhs;whnf);exact hK _ _ (λb=>⟨false,λK=>by kernel_rfl⟩)
 ·rcases Sb hl with rfl|rfl<;>rcases Sb hr with rfl|rfl<;>(intro hS;simp only[Sw,Sv] at hS;(conv=>lhs;whnf);rewrite [hS];(conv=>lhs;whnf);exact hK _ _ (λb=>⟨false,λK=>by kernel_rfl⟩))
 ·rcases Td hl with rfl|rfl|rfl<;>rcases Td hr with rfl|rfl|rfl<;>(intro hS;simp only[Sw,Sv] at hS;(conv=>lhs;whnf);rewrite [hS];(conv=>lhs;whnf);exact hK _ _ (λb=>⟨false,λK=>by kernel_rfl⟩))
theorem B0V (h1:1≤ks.length) (h3:ks.length≤3) (hl:l<ks.length) (he:e<5):RV (rt (L+20) (n+2)) BB [TS I1 (PC ks),Wu (Fw.getD 7 []) C28 DJ,.agg (poN l e).cs] (Bo true):=by
 rcases ks3 h1 h3 with⟨a,rfl⟩|⟨a,b,rfl⟩|⟨a,b,c,rfl⟩
 ·obtain rfl:=Te hl;rcases lt5 he with rfl|rfl|rfl|rfl|rfl<;>(exact λb=>by kernel_rfl)
 ·rcases Sb hl with rfl|rfl<;>rcases lt5 he with rfl|rfl|rfl|rfl|rfl<;>(exact λb=>by kernel_rfl)
 ·rcases Td hl with rfl|rfl|rfl<;>rcases lt5 he with rfl|rfl|rfl|rfl|rfl<;>(exact λb=>by kernel_rfl)
attribute [local irreducible] Zu rt in
theorem B2C (h1:1≤ks.length) (h3:ks.length≤3) (hl:l<ks.length) (he:e<5) (hS:PO (rt (L+20) (n+40)) Qo [.agg (uu (ks.getD l 0)).cs,.agg [I (YN e),I 1]] (I8 (some k))):CS (rt (L+20) (n+41)) DJ [TS I1 (PC ks),.agg (poN l e).cs] (.tup [.agg (Ck (uu k)),I 0]):=by
 intro K hK
 rewrite [Oi]
 unfold G9 BS Av Gb
 rewrite [zO]
 generalize rt (L+20) (n+40)=R at*
 revert hS
 rcases ks3 h1 h3 with⟨a,rfl⟩|⟨a,b,rfl⟩|⟨a,b,c,rfl⟩
 ·obtain rfl:=Te hl;rcases lt5 he with rfl|rfl|rfl|rfl|rfl<;>(intro hS;simp only[Sw,Sv] at hS;(conv=>lhs;whnf);dsimp only[poN];rewrite [hS];(conv=>lhs;whnf);exact hK _ _ (λb=>⟨false,λK=>by kernel_rfl⟩))
 ·rcases Sb hl with rfl|rfl<;>rcases lt5 he with rfl|rfl|rfl|rfl|rfl<;>(intro hS;simp only[Sw,Sv] at hS;(conv=>lhs;whnf);dsimp only[poN];rewrite [hS];(conv=>lhs;whnf);exact hK _ _ (λb=>⟨false,λK=>by kernel_rfl⟩))
 ·rcases Td hl with rfl|rfl|rfl<;>rcases lt5 he with rfl|rfl|rfl|rfl|rfl<;>(intro hS;simp only[Sw,Sv] at hS;(conv=>lhs;whnf);dsimp only[poN];rewrite [hS];(conv=>lhs;whnf);exact hK _ _ (λb=>⟨false,λK=>by kernel_rfl⟩))
end
end
section
variable (L n:Nat)
theorem A64:((List.range 11).all λk=>(λi=>Iu (AX (CL (rt (L+20) (n+40)) Cs [.agg (Ww i)]) (Bo true))) (k+0))=true:=by kernel_rfl
theorem A63:((List.range 11).all λk=>(λi=>Iu (AX (CL (rt (L+20) (n+40)) Cs [.agg (Ww i)]) (Bo true))) (k+11))=true:=by kernel_rfl
theorem A62:((List.range 11).all λk=>(λi=>Iu (AX (CL (rt (L+20) (n+40)) Cs [.agg (Ww i)]) (Bo true))) (k+22))=true:=by kernel_rfl
theorem B0Z (i:Nat) (h:i<33):PS (rt (L+20) (n+40)) Cs [.agg (Ww i)] (Bo true):=by
 refine B4 (λH=>by first|exact λK=>by kernel_rfl) ?_
 by_cases h0:i<11
 ·have:=HB.1 (A64 L n) (i-0) (Ju.2 (by omega))
  have e:i-0+0=i:=by omega
  simp only[e] at this
  exact this
 by_cases h1:i<22
 ·have:=HB.1 (A63 L n) (i-11) (Ju.2 (by omega))
  have e:i-11+11=i:=by omega
  simp only[e] at this
  exact this
 by_cases h2:i<33
 ·have:=HB.1 (A62 L n) (i-22) (Ju.2 (by omega))
  have e:i-22+22=i:=by omega
  simp only[e] at this
  exact this
 ·omega
theorem A67:((List.range 11).all λk=>(λi=>Iu (AX (CL (rt (L+20) (n+40)) GQ [.agg (Ww i)]) (S (frt i)))) (k+0))=true:=by kernel_rfl
theorem A66:((List.range 11).all λk=>(λi=>Iu (AX (CL (rt (L+20) (n+40)) GQ [.agg (Ww i)]) (S (frt i)))) (k+11))=true:=by kernel_rfl
theorem A65:((List.range 11).all λk=>(λi=>Iu (AX (CL (rt (L+20) (n+40)) GQ [.agg (Ww i)]) (S (frt i)))) (k+22))=true:=by kernel_rfl
theorem B10 (i:Nat) (h:i<33):PS (rt (L+20) (n+40)) GQ [.agg (Ww i)] (S (frt i)):=by
 refine B4 (λH=>by first|exact λK=>by kernel_rfl) ?_
 by_cases h0:i<11
 ·have:=HB.1 (A67 L n) (i-0) (Ju.2 (by omega))
  have e:i-0+0=i:=by omega
  simp only[e] at this
  exact this
 by_cases h1:i<22
 ·have:=HB.1 (A66 L n) (i-11) (Ju.2 (by omega))
  have e:i-11+11=i:=by omega
  simp only[e] at this
  exact this
 by_cases h2:i<33
 ·have:=HB.1 (A65 L n) (i-22) (Ju.2 (by omega))
  have e:i-22+22=i:=by omega
  simp only[e] at this
  exact this
 ·omega
end
section
variable {L n:Nat}
section
variable {id:Int} {o:UD} {xs:List Nd} {ks:List Nat} {i j k:Nat} {I1:AV}
theorem B2R (h3:ks.length≤3):RV (rt (L+20) (n+2)) BB [TS I1 (PC ks),Wu (Fw.getD 2 []) C2l EK,.agg (VD i).cs] (Bo true):=by
 match ks,h3 with
 |[],_=>exact λb=>by kernel_rfl
 |[a],_=>exact λb=>by kernel_rfl
 |[a,b],_=>exact λb=>by kernel_rfl
 |[a,b,c],_=>exact λb=>by kernel_rfl
theorem B2S (h3:ks.length≤3):RV (rt (L+20) (n+2)) BB [TS I1 (PC ks),Wu (Fw.getD 1 []) AA Dq,.agg (cnN i k).cs] (Bo true):=by
 match ks,h3 with
 |[],_=>exact λb=>by kernel_rfl
 |[a],_=>exact λb=>by kernel_rfl
 |[a,b],_=>exact λb=>by kernel_rfl
 |[a,b,c],_=>exact λb=>by kernel_rfl
theorem B67 {U:AV} (h1:1≤ks.length) (h3:ks.length≤3) (hj:j<ks.length):RV (rt (L+20) (n+2)) EK [TS (BH ks) U,.agg (VD j).cs] (.tup [.agg (Ck (uu (ks.getD j 0))),I 0]):=by
 rcases ks3 h1 h3 with⟨a,rfl⟩|⟨a,b,rfl⟩|⟨a,b,c,rfl⟩
 ·obtain rfl:=Te hj;exact λb=>by kernel_rfl
 ·rcases Sb hj with rfl|rfl<;>exact λb=>by kernel_rfl
 ·rcases Td hj with rfl|rfl|rfl<;>exact λb=>by kernel_rfl
attribute [local irreducible] Zu rt in
theorem B68 {C:List AV} (hv:PO (rt (L+20) (n+40)) Cs [.agg (Ww i)] (Bo true)) (hu:PO (rt (L+20) (n+40)) GB [.agg (uu k).cs] (Bo true)):CS (rt (L+20) (n+41)) Dq [.iptr C,.agg (cnN i k).cs] (.tup [.agg (Ck (uu k)),I 0]):=by
 intro K hK
 rewrite [Mv]
 unfold F7 BS Av Gb
 rewrite [zO]
 generalize rt (L+20) (n+40)=R at*
 conv=>lhs;whnf
 refine l2d (hv _ _) ?_
 conv=>lhs;whnf
 simp only[Ea]
 dsimp only[cnN]
 rewrite [hu]
 conv=>lhs;whnf
 exact hK _ _ (λb=>⟨false,λK=>by kernel_rfl⟩)
attribute [local irreducible] Zu rt Go.Abs.UY in
theorem B7i (hv:PO (rt (L+20) (n+40)) E4 [.agg (Ww i)] (Bo true)) (hu:PO (rt (L+20) (n+40)) Ee [.agg (uu k).cs] (Bo true)) {at_:Int}:CS (rt (L+20) (n+41)) DX [.agg (B2 id (BH ks) (Cb xs) o),.agg (cnN i k).cs,I at_] (.tup [Bo true,Bo false]):=by
 intro K hK
 rewrite [RS]
 unfold Ml Bc Av Gb Dr
 rewrite [zO]
 generalize rt (L+20) (n+40)=R at*
 conv=>lhs;whnf
 refine l2d (hv _ _) ?_
 conv=>lhs;whnf
 refine l2d (hu _ _) ?_
 conv=>lhs;whnf
 refine l2d (C5Z (x:=cnN i k)) ?_
 conv=>lhs;whnf
 exact hK _ _ (λb=>⟨false,λK=>by kernel_rfl⟩)
attribute [local irreducible] Zu rt in
theorem B7g (hv:PO (rt (L+20) (n+40)) E4 [.agg (Ww i)] (Bo true)) (hu:PO (rt (L+20) (n+40)) Ee [.agg (uu k).cs] (Bo true)) {at_:Int} {w:AV}:CS (rt (L+20) (n+42)) Ci [.agg (B2 id (BH ks) (Cb xs) o),.agg (cnN i k).cs,I at_,w] (.tup [.agg (Ck (uu k)),I 0]):=by
 intro K hK
 have hsh:=(B7i (id:=id) (o:=o) (xs:=xs) (ks:=ks) (at_:=at_) hv hu).ls
 clear hv hu
 rewrite [FP]
 unfold FD Av
 rewrite [zO]
 generalize rt (L+20) (n+41)=R at*
 conv=>lhs;whnf
 rewrite [hsh false _ _ ?hq]
 case hq=>exact λK=>by kernel_rfl
 conv=>lhs;whnf
 exact hK _ _ (λb=>⟨false,λK=>by kernel_rfl⟩)
end
end
section
section
variable (L n:Nat)
def C6O:List (UD×Int):=[(⟨1,2,0,1,0,1,0,1,0,1,0,1,0,1,[49],[49],[48],[49],0,1⟩,0),(⟨0,1,0,1,1,2,0,1,0,1,0,1,0,1,[49],[49],[48],[49],0,1⟩,0),(u0,70),(⟨0,1,0,1,0,1,0,1,0,1,0,1,0,1,[49],[49],[48],[49],0,2⟩,0),
 (u0,70),(⟨0,1,0,1,0,1,0,1,1,2,0,1,0,1,[49],[49],[48],[49],0,1⟩,0),(⟨1,1,0,1,0,1,0,1,0,1,0,1,0,1,[49],[49],[48],[49],0,1⟩,0)]
def usq (k:Nat):UD×Int:=C6O.getD k (u0,0)
theorem B7a:((List.range 7).all λi=>Iu (AX (CL (rt (L+20) (n+40)) HU [.agg (uu i).cs,.agg [I 1,I 2]]) (.tup [.agg (usq i).1.cs,I (usq i).2])))=true:=by kernel_rfl
theorem C4B (i:Nat) (h:i<7):PS (rt (L+20) (n+40)) HU [.agg (uu i).cs,.agg [I 1,I 2]] (.tup [.agg (usq i).1.cs,I (usq i).2]):=by
 refine B4 (λH=>by first|exact λK=>by kernel_rfl) ?_
 exact HB.1 (B7a L n) i (Ju.2 h)
end
variable {L n:Nat}
section
variable {id:Int} {o:UD} {xs:List Nd} {ks:List Nat} {i j k l:Nat} {I1:AV}
def sqN (l:Nat):Nd:=⟨8,[],[],u0,0,l,0⟩
theorem B7h (h1:1≤ks.length) (h3:ks.length≤3) (hl:l<ks.length):RV (rt (L+20) (n+2)) DX [.agg (B2 id (BH ks) (Cb xs) o),.agg (sqN l).cs,I ks.length] (.tup [Bo true,Bo true]):=by
 rcases ks3 h1 h3 with⟨a,rfl⟩|⟨a,b,rfl⟩|⟨a,b,c,rfl⟩
 ·obtain rfl:=Te hl;exact λb=>by kernel_rfl
 ·rcases Sb hl with rfl|rfl<;>exact λb=>by kernel_rfl
 ·rcases Td hl with rfl|rfl|rfl<;>exact λb=>by kernel_rfl
attribute [local irreducible] Zu rt in
theorem B7f {u:UD} {e:Int} (he:e=0∨e=70) (h1:1≤ks.length) (h3:ks.length≤3) (hl:l<ks.length) (hS:PO (rt (L+20) (n+41)) HU [.agg (uu (ks.getD l 0)).cs,.agg [I 1,I 2]] (.tup [.agg u.cs,I e])):CS (rt (L+20) (n+42)) Ci [.agg (B2 id (BH ks) (Cb xs) o),.agg (sqN l).cs,I ks.length,PC ks] (if e=0 then .tup [.agg u.cs,I 0] else .tup [.agg XA0,I 90]):=by
 intro K hK
 have hsh:=(B7h (L:=L) (n:=n+39) (id:=id) (o:=o) (xs:=xs) h1 h3 hl).ls
 rewrite [FP]
 unfold FD Av
 rewrite [zO]
 generalize rt (L+20) (n+41)=R at*
 revert hS hsh
 rcases ks3 h1 h3 with⟨a,rfl⟩|⟨a,b,rfl⟩|⟨a,b,c,rfl⟩
 ·obtain rfl:=Te hl;(intro hS hsh;simp only[Sw,Sv] at hS;(conv=>lhs;whnf);rewrite [hsh false _ _ ?hq];(case hq=>exact λK=>by kernel_rfl);(conv=>lhs;whnf);refine l2d (hS _ _) ?_;rcases he with rfl|rfl<;>(conv=>lhs;whnf)<;>exact hK _ _ (λb=>⟨false,λK=>by kernel_rfl⟩))
 ·rcases Sb hl with rfl|rfl<;>(intro hS hsh;simp only[Sw,Sv] at hS;(conv=>lhs;whnf);rewrite [hsh false _ _ ?hq];(case hq=>exact λK=>by kernel_rfl);(conv=>lhs;whnf);refine l2d (hS _ _) ?_;rcases he with rfl|rfl<;>(conv=>lhs;whnf)<;>exact hK _ _ (λb=>⟨false,λK=>by kernel_rfl⟩))
 ·rcases Td hl with rfl|rfl|rfl<;>(intro hS hsh;simp only[Sw,Sv] at hS;(conv=>lhs;whnf);rewrite [hsh false _ _ ?hq];(case hq=>exact λK=>by kernel_rfl);(conv=>lhs;whnf);refine l2d (hS _ _) ?_;rcases he with rfl|rfl<;>(conv=>lhs;whnf)<;>exact hK _ _ (λb=>⟨false,λK=>by kernel_rfl⟩))
end
section
variable {i k:Nat}
theorem A5b (h:i<33):(frt i).length<10:=by
 have:=HB.1 (show((List.range 33).all λi=>decide ((frt i).length<10))=true by kernel_rfl) i (Ju.2 h)
 simpa using this
theorem B78:PS (rt (L+20) (n+1)) Rv [] (.list 9 (Fw.map λw=>S w)):=B4 (λH K=>by kernel_rfl) (by kernel_rfl)
attribute [local irreducible] Zu rt Go.Abs.Ak in
theorem B3H (hi:i<33) (hw:PO (rt (L+20) (n+40)) CF [I 1,I 1,I 8] (Bo true)) (hws:PO (rt (L+20) (n+40)) Rv [] (.list 9 (Fw.map λw=>S w))) (hu:PO (rt (L+20) (n+40)) GJ [.agg (uu k).cs] (.tup [S (JP k),I 0])) (hp:PO (rt (L+20) (n+40)) Jv [.agg (Ww i)] (S (frt i))):CS (rt (L+20) (n+41)) HS [.agg (cnN i k).cs] (S (cnT i k)):=by
 intro K hK
 rewrite [A1D]
 unfold XA7 Av
 rewrite [zO]
 generalize rt (L+20) (n+40)=R at*
 conv=>lhs;whnf
 refine l2d (hw _ _) ?_
 conv=>lhs;whnf
 rewrite [hws]
 conv=>lhs;whnf
 refine l2d A3U ?_
 conv=>lhs;whnf
 refine l2d (hu _ _) ?_
 conv=>lhs;whnf
 have h1:=A5b hi
 have h2:=Fj k
 refine l2d (Bs (a:=Fw.getD 1 []) (by decide)) ?_
 conv=>lhs;whnf
 refine l2d (hp _ _) ?_
 conv=>lhs;whnf
 rewrite [Bs (by simp only[Fl,Fw,Sv,Sw,K9,OU];omega)]
 rewrite [Bs (by simp only[Fl,Fw,Sv,Sw,K9,OU];omega)]
 rewrite [Bs (by simp only[Fl,Fw,Sv,Sw,K9,OU];omega)]
 exact hK _ _ (λb=>⟨false,λK=>by kernel_rfl⟩)
attribute [local irreducible] Zu rt Go.Abs.Ak in
theorem B2P (hi:i<33) (hws:PO (rt (L+20) (n+40)) Fh [] Uw) (hu:PO (rt (L+20) (n+40)) HP [.agg (uu k).cs] (.tup [S (JP k),I 0])) (hp:PO (rt (L+20) (n+40)) GQ [.agg (Ww i)] (S (frt i))):CS (rt (L+20) (n+41)) EI [.agg (cnN i k).cs] (S (cnT i k)):=by
 intro K hK
 rewrite [Wc]
 unfold Np Av
 rewrite [zO]
 generalize rt (L+20) (n+40)=R at*
 conv=>lhs;whnf
 rewrite [hws]
 conv=>lhs;whnf
 rewrite [hws]
 conv=>lhs;whnf
 refine l2d (A3U (a:=1)) ?_
 conv=>lhs;whnf
 refine l2d (hu _ _) ?_
 conv=>lhs;whnf
 have h1:=A5b hi
 have h2:=Fj k
 refine l2d (Bs (a:=Fw.getD 1 []) (by decide)) ?_
 conv=>lhs;whnf
 refine l2d (hp _ _) ?_
 conv=>lhs;whnf
 rewrite [Bs (by simp only[Fl,Fw,Sv,Sw,K9,OU];omega)]
 rewrite [Bs (by simp only[Fl,Fw,Sv,Sw,K9,OU];omega)]
 rewrite [Bs (by simp only[Fl,Fw,Sv,Sw,K9,OU];omega)]
 exact hK _ _ (λb=>⟨false,λK=>by kernel_rfl⟩)
end
end
section
variable {L n:Nat}
inductive Ex where
 |no
 |cn (i k:Nat)
 |inp (j:Nat)
 |bi (op l r k:Nat)
 |po (l e k:Nat)
def Ex.nd:Ex→List Nd
 | .no=>[]
 | .cn i k=>[cnN i k]
 | .inp j=>[VD j]
 | .bi op l r _=>[biN op l r]
 | .po l e _=>[poN l e]
def Ex.ty (ks:List Nat):Ex→List Nat
 | .no=>[]
 | .cn _ k=>[k]
 | .inp j=>[ks.getD j 0]
 | .bi _ _ _ k=>[k]
 | .po _ _ k=>[k]
def Ex.tx:Ex→List (List UInt8)
 | .no=>[]
 | .cn i k=>[cnT i k]
 | .inp j=>[exT j]
 | .bi op l r _=>[exT (3+9*(op-3)+3*l+r)]
 | .po l e _=>[exT (39+5*l+e)]
def Ex.Ok (ks:List Nat):Ex→Prop
 | .no=>True
 | .cn i k=>i<33∧k<7
 | .inp j=>j<ks.length
 | .bi op l r k=>3≤op∧op<7∧l<ks.length∧r<ks.length∧Su (op-3) (ks.getD l 0) (ks.getD r 0)=some k
 | .po l e k=>l<ks.length∧e<5∧Uc (ks.getD l 0) e=some k
structure Pr where
 id:Nat
 ks:List Nat
 x:Ex
structure Pr.Ok (p:Pr):Prop where
 i1:1≤p.id
 i2:p.id<950
 k1:1≤p.ks.length
 k3:p.ks.length≤3
 k7:∀k∈p.ks,k<7
 x:p.x.Ok p.ks
def Pr.xs (p:Pr):List Nd:=KP p.ks++p.x.nd
def Pr.ty (p:Pr):List Nat:=p.ks++p.x.ty p.ks
def Pr.ts (p:Pr):List (List UInt8):=(List.range p.ks.length).map exT++p.x.tx
def Pr.out (p:Pr):Nat:=p.ty.getD (p.xs.length-1) 0
section
variable {a b l r e i j k op:Nat} {ks:List Nat} {xs:List Nd} {id:Int} {o:UD}
theorem La {N:Nat} (h:∀k∈ks,k<N) (hl:l<ks.length):ks.getD l 0<N:=by
 have e:ks.getD l 0=ks[l]:=by simp[List.getD,Kq hl]
 rw[e];exact h _ (QE hl)
theorem B79 (ha:a<7) (hb:b<7):PO (rt (L+20) (n+41)) Ov [.agg (uu a).cs,.agg (uu b).cs] (I8 (Su 0 a b)):=by
 have:=(C1N L (n+1) (7*a+b) (by omega)).o;rwa[show(7*a+b)/7=a by omega,show(7*a+b)%7=b by omega] at this
theorem B7e (ha:a<7) (hb:b<7):PO (rt (L+20) (n+41)) Hg [.agg (uu a).cs,.agg (uu b).cs] (I8 (Su 1 a b)):=by
 have:=(C1R L (n+1) (7*a+b) (by omega)).o;rwa[show(7*a+b)/7=a by omega,show(7*a+b)%7=b by omega] at this
theorem B7c (ha:a<7) (hb:b<7):PO (rt (L+20) (n+41)) L7 [.agg (uu a).cs,.agg (uu b).cs] (I8 (Su 2 a b)):=by
 have:=(C1P L (n+1) (7*a+b) (by omega)).o;rwa[show(7*a+b)/7=a by omega,show(7*a+b)%7=b by omega] at this
theorem B7d (ha:a<7) (hb:b<7):PO (rt (L+20) (n+41)) L8 [.agg (uu a).cs,.agg (uu b).cs] (I8 (Su 3 a b)):=by
 have:=(C1Q L (n+1) (7*a+b) (by omega)).o;rwa[show(7*a+b)/7=a by omega,show(7*a+b)%7=b by omega] at this
theorem B7b (ha:a<7) (hb:e<5):PO (rt (L+20) (n+41)) HU [.agg (uu a).cs,.agg [I (YN e),I 1]] (I8 (Uc a e)):=by
 have:=(C1O L (n+1) (5*a+e) (by omega)).o;rwa[show(5*a+e)/5=a by omega,show(5*a+e)%5=e by omega] at this
theorem B62 (ha:a<7) (hb:b<7) (h:Su 0 a b=some k):PO (rt (L+20) (n+40)) Qn [.agg (uu a).cs,.agg (uu b).cs] (I8 (some k)):=by
 have e1:(7*a+b)/7=a:=by omega
 have e2:(7*a+b)%7=b:=by omega
 have:=(B9A L n (7*a+b) (by omega) (by rw[e1,e2,h];rfl)).o;rwa[e1,e2,h] at this
theorem B66 (ha:a<7) (hb:b<7) (h:Su 1 a b=some k):PO (rt (L+20) (n+40)) HQ [.agg (uu a).cs,.agg (uu b).cs] (I8 (some k)):=by
 have e1:(7*a+b)/7=a:=by omega
 have e2:(7*a+b)%7=b:=by omega
 have:=(B9E L n (7*a+b) (by omega) (by rw[e1,e2,h];rfl)).o;rwa[e1,e2,h] at this
theorem B64 (ha:a<7) (hb:b<7) (h:Su 2 a b=some k):PO (rt (L+20) (n+40)) Qp [.agg (uu a).cs,.agg (uu b).cs] (I8 (some k)):=by
 have e1:(7*a+b)/7=a:=by omega
 have e2:(7*a+b)%7=b:=by omega
 have:=(B9C L n (7*a+b) (by omega) (by rw[e1,e2,h];rfl)).o;rwa[e1,e2,h] at this
theorem B65 (ha:a<7) (hb:b<7) (h:Su 3 a b=some k):PO (rt (L+20) (n+40)) Qq [.agg (uu a).cs,.agg (uu b).cs] (I8 (some k)):=by
 have e1:(7*a+b)/7=a:=by omega
 have e2:(7*a+b)%7=b:=by omega
 have:=(B9D L n (7*a+b) (by omega) (by rw[e1,e2,h];rfl)).o;rwa[e1,e2,h] at this
theorem B63 (ha:a<7) (hb:e<5) (h:Uc a e=some k):PO (rt (L+20) (n+40)) Qo [.agg (uu a).cs,.agg [I (YN e),I 1]] (I8 (some k)):=by
 have e1:(5*a+e)/5=a:=by omega
 have e2:(5*a+e)%5=e:=by omega
 have:=(B9B L n (5*a+e) (by omega) (by rw[e1,e2,h];rfl)).o;rwa[e1,e2,h] at this
theorem A9X (h1:1≤ks.length) (h3:ks.length≤3) (hk:∀k∈ks,k<7) (hl:l<ks.length) (hr:r<ks.length) (ho:3≤op) (ho':op<7):
 CS (rt (L+20) (n+42)) Ci [.agg (B2 id (BH ks) (Cb xs) o),.agg (biN op l r).cs,I ks.length,PC ks] (A8b (Su (op-3) (ks.getD l 0) (ks.getD r 0))):=by
 have ha:=La hk hl
 have hb:=La hk hr
 obtain rfl|rfl|rfl|rfl:op=3∨op=4∨op=5∨op=6:=by omega
 ·exact B3m h1 h3 hl hr (B79 ha hb)
 ·exact B3q h1 h3 hl hr (B7e ha hb)
 ·exact B3o h1 h3 hl hr (B7c ha hb)
 ·exact B3p h1 h3 hl hr (B7d ha hb)
theorem A9W (h1:1≤ks.length) (h3:ks.length≤3) (hk:∀k∈ks,k<7) (hl:l<ks.length) (he:e<5):
 CS (rt (L+20) (n+42)) Ci [.agg (B2 id (BH ks) (Cb xs) o),.agg (poN l e).cs,I ks.length,PC ks] (A8b (Uc (ks.getD l 0) e)):=
 B3n h1 h3 hl he (B7b (La hk hl) he)
theorem A6p {at_:Int} {w:AV} (hi:i<33) (hk:k<7):CS (rt (L+20) (n+42)) Ci [.agg (B2 id (BH ks) (Cb xs) o),.agg (cnN i k).cs,I at_,w] (.tup [.agg (Ck (uu k)),I 0]):=
 B7g (B1e L n i hi).o (PW L n k (by omega)).o
end
section
variable {p:Pr} {o:UD}
theorem C27 (h:p.Ok):RTy L n p.id p.ks p.xs o p.ty:=by
 obtain⟨pid,ks,x⟩:=p
 obtain⟨i1,i2,k1,k3,k7,hx⟩:=h
 unfold Pr.xs Pr.ty
 cases x with
 |no=>
  simp only[Ex.nd,Ex.ty,XR]
  exact C1G (l1m k3 (by decide))
 |cn i k=>exact A0j (l1m k3 (by decide)) (A6p hx.1 hx.2)
 |inp j=>
  refine A0j (l1m k3 (by decide)) ?_
  have hj:j<ks.length:=hx
  have e:ks.getD j 0=ks[j]:=by simp[List.getD,Kq hj]
  rw[e]
  exact Vo (n:=n+39) (l1m k3 (by decide)) hj
 |bi op l r k=>
  obtain⟨h1,h2,h3,h4,h5⟩:=hx
  refine A0j (l1m k3 (by decide)) ?_
  have:=A9X (L:=L) (n:=n) (id:=pid) (xs:=KP ks++[biN op l r]) (o:=o) k1 k3 k7 h3 h4 h1 h2
  rw[h5] at this
  exact this
 |po l e k=>
  obtain⟨h1,h2,h3⟩:=hx
  refine A0j (l1m k3 (by decide)) ?_
  have:=A9W (L:=L) (n:=n) (id:=pid) (xs:=KP ks++[poN l e]) (o:=o) k1 k3 k7 h1 h2
  rw[h3] at this
  exact this
theorem B2A {ks:List Nat} {i:Nat} (k1:1≤ks.length) (k3:ks.length≤3) {l:List Nat} (hl:l.length≤3) (hi:i<ks.length):WNd L n (BH ks) l (VD i) (ks.getD i 0):=
 ⟨Fw.getD 2 [],C2l,EK,.inr ⟨_,_,rfl⟩,λH K=>by kernel_rfl,by kernel_rfl,rfl,rfl,B2R (n:=n+39) hl,B67 (n:=n+39) k1 k3 hi⟩
theorem C26 (h:p.Ok):WTy L n p.ks p.xs p.ty:=by
 obtain⟨pid,ks,x⟩:=p
 obtain⟨i1,i2,k1,k3,k7,hx⟩:=h
 simp only at k1 k3 k7 hx
 intro i hi
 simp only[Pr.xs,Pr.ty] at hi⊢
 by_cases hlt:i<ks.length
 ·have e1:(KP ks++x.nd)[i]=VD i:=by
   rw[List.getElem_append_left (by rw[En];exact hlt)];exact Xp _
  have e2:(ks++x.ty ks).getD i 0=ks.getD i 0:=by simp[List.getD,l0l hlt]
  rw[e1,e2]
  exact B2A k1 k3 (by rw[l0g];omega) hlt
 ·have e0:x.nd.length≤1:=by cases x<;>simp[Ex.nd]
  rw[Fl,En] at hi
  obtain rfl:i=ks.length:=by omega
  have e1:∀y,x.nd=[y]→(KP ks++x.nd)[ks.length]'(by rw[Fl,En];exact hi)=y:= λy hy=>by
   rw[List.getElem_append_right (by rw[En];omega)];simp[hy,En]
  have e2:∀k,x.ty ks=[k]→(ks++x.ty ks).getD ks.length 0=k:= λk hk=>by simp[List.getD,hk]
  have e3:(ks++x.ty ks).take ks.length=ks:=List.take_left' rfl
  rw[e3]
  cases x with
  |no=>simp[Ex.nd] at hi
  |cn i k=>
   rw[e1 _ rfl,e2 _ rfl]
   exact⟨Fw.getD 1 [],AA,Dq,.inl rfl,λH K=>by kernel_rfl,by kernel_rfl,rfl,rfl,B2S (n:=n+39) k3,(B68 (B0Z L n i hx.1).o (Ub L n k (by have:=hx.2;omega)).o).rv⟩
  |inp j=>
   rw[e1 _ rfl,e2 _ rfl]
   exact B2A k1 k3 k3 hx
  |bi op l r k=>
   obtain⟨h1,h2,h3,h4,h5⟩:=hx
   have ha:=La k7 h3
   have hb:=La k7 h4
   rw[e1 _ rfl,e2 _ rfl]
   obtain rfl|rfl|rfl|rfl:op=3∨op=4∨op=5∨op=6:=by omega
   ·exact⟨Fw.getD 3 [],Zw,Eo,.inr ⟨_,_,rfl⟩,λH K=>by kernel_rfl,by kernel_rfl,rfl,rfl,B0U (n:=n+39) k1 k3 h3 h4,(B2B k1 k3 h3 h4 (B62 ha hb h5)).rv⟩
   ·exact⟨Fw.getD 4 [],Zw,CX,.inr ⟨_,_,rfl⟩,λH K=>by kernel_rfl,by kernel_rfl,rfl,rfl,B0Y (n:=n+39) k1 k3 h3 h4,(B2F k1 k3 h3 h4 (B66 ha hb h5)).rv⟩
   ·exact⟨Fw.getD 5 [],Zw,Dw,.inr ⟨_,_,rfl⟩,λH K=>by kernel_rfl,by kernel_rfl,rfl,rfl,B0W (n:=n+39) k1 k3 h3 h4,(B2D k1 k3 h3 h4 (B64 ha hb h5)).rv⟩
   ·exact⟨Fw.getD 6 [],Zw,Dp,.inr ⟨_,_,rfl⟩,λH K=>by kernel_rfl,by kernel_rfl,rfl,rfl,B0X (n:=n+39) k1 k3 h3 h4,(B2E k1 k3 h3 h4 (B65 ha hb h5)).rv⟩
  |po l e k=>
   obtain⟨h1,h2,h3⟩:=hx
   rw[e1 _ rfl,e2 _ rfl]
   exact⟨Fw.getD 7 [],C28,DJ,.inr ⟨_,_,rfl⟩,λH K=>by kernel_rfl,by kernel_rfl,rfl,rfl,B0V (n:=n+39) k1 k3 h1 h2,(B2C k1 k3 h1 h2 (B63 (La k7 h1) h2 h3)).rv⟩
theorem C1T {j:Nat} (h:j<54):PS (rt (L+20) (n+41)) HS [.agg (exN j).cs] (S (exT j)):=
 B4 (λH=>by first|exact λK=>by kernel_rfl) (HB.1 (B3I L n) j (Ju.2 h))
theorem B9I {j:Nat} (h:j<54):PS (rt (L+20) (n+41)) EI [.agg (exN j).cs] (S (exT j)):=
 B4 (λH=>by first|exact λK=>by kernel_rfl) (HB.1 (B2Q L n) j (Ju.2 h))
theorem B9e {j:Nat} (h:j<3):VD j=exN j:=by unfold exN;rw[if_pos h]
theorem C5T {op l r:Nat} (h1:3≤op) (h2:op<7) (h3:l<3) (h4:r<3):biN op l r=exN (3+9*(op-3)+3*l+r):=by
 obtain rfl|rfl|rfl|rfl:op=3∨op=4∨op=5∨op=6:=by omega
 all_goals obtain rfl|rfl|rfl:l=0∨l=1∨l=2:=by omega
 all_goals obtain rfl|rfl|rfl:r=0∨r=1∨r=2:=by omega
 all_goals rfl
theorem C5S {l e:Nat} (h3:l<3) (h4:e<5):poN l e=exN (39+5*l+e):=by
 obtain rfl|rfl|rfl:l=0∨l=1∨l=2:=by omega
 all_goals obtain rfl|rfl|rfl|rfl|rfl:=lt5 h4
 all_goals rfl
def NdT (L n:Nat) (y:Nd) (t:List UInt8):Prop:=PS (rt (L+20) (n+41)) HS [.agg y.cs] (S t)∧PS (rt (L+20) (n+41)) EI [.agg y.cs] (S t)
theorem A4N {j:Nat} (h:j<54):NdT L n (exN j) (exT j):=⟨C1T h,B9I h⟩
theorem B90 {y:Nd} (H:Hp):Pu true depth [.agg y.cs] [.agg y.cs] H false:= λK=>by kernel_rfl
theorem C2m {i k:Nat} (hi:i<33) (hk:k<7):NdT L n (cnN i k) (cnT i k):=
 ⟨(B3H hi (Vp (n:=n+39) (by decide) (by decide)).o (B78 (n:=n+39)).o (RO L n k (by omega)).o (B1f L n i hi).o).ps B90,
  (B2P hi (B8Q (n:=n+39)).o (RE L n k (by omega)).o (B10 L n i hi).o).ps B90⟩
theorem B3W (h:p.Ok):p.ts.length=p.xs.length∧∀i (hi:i<p.xs.length),NdT L n p.xs[i] (p.ts.getD i []):=by
 obtain⟨pid,ks,x⟩:=p
 obtain⟨i1,i2,k1,k3,k7,hx⟩:=h
 simp only at k1 k3 k7 hx
 have hlen:x.tx.length=x.nd.length:=by cases x<;>rfl
 refine⟨by simp[Pr.ts,Pr.xs,En,hlen],λi hi=> ?_⟩
 simp only[Pr.xs,Pr.ts] at hi⊢
 by_cases hlt:i<ks.length
 ·have e1:(KP ks++x.nd)[i]=VD i:=by
   rw[List.getElem_append_left (by rw[En];exact hlt)];exact Xp _
  have e2:((List.range ks.length).map exT++x.tx).getD i []=exT i:=by
   rw[List.getD,l0l (by simpa using hlt)];simp[List.getElem?_range hlt]
  rw[e1,e2,B9e (by omega)]
  exact A4N (by omega)
 ·have e0:x.nd.length≤1:=by cases x<;>simp[Ex.nd]
  rw[Fl,En] at hi
  obtain rfl:i=ks.length:=by omega
  have e1:∀y,x.nd=[y]→(KP ks++x.nd)[ks.length]'(by rw[Fl,En];exact hi)=y:= λy hy=>by
   rw[List.getElem_append_right (by rw[En];omega)];simp[hy,En]
  have e2:∀t,x.tx=[t]→((List.range ks.length).map exT++x.tx).getD ks.length []=t:= λt ht=>by simp[List.getD,ht]
  cases x with
  |no=>simp[Ex.nd] at hi
  |cn i k=>rw[e1 _ rfl,e2 _ rfl];exact C2m hx.1 hx.2
  |inp j=>
   have hj:j<ks.length:=hx
   rw[e1 _ rfl,e2 _ rfl,B9e (by omega)]
   exact A4N (by omega)
  |bi op l r k=>
   obtain⟨h1,h2,h3,h4,h5⟩:=hx
   rw[e1 _ rfl,e2 _ rfl,C5T h1 h2 (by omega) (by omega)]
   exact A4N (by omega)
  |po l e k=>
   obtain⟨h1,h2,h3⟩:=hx
   rw[e1 _ rfl,e2 _ rfl,C5S (by omega) h2]
   exact A4N (by omega)
end
end
end Go.Abs
end
