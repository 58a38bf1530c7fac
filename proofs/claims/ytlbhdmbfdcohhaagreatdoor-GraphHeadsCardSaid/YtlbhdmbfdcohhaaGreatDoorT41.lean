import Derived.Test.YtlbhdmbfdcohhaaGreatDoorT30
import Derived.Test.YtlbhdmbfdcohhaaGreatDoorT31
import Derived.Test.YtlbhdmbfdcohhaaGreatDoorT32
import Derived.Test.YtlbhdmbfdcohhaaGreatDoorT33
import Derived.Test.YtlbhdmbfdcohhaaGreatDoorT34
import Derived.Test.YtlbhdmbfdcohhaaGreatDoorT35
import Derived.Test.YtlbhdmbfdcohhaaGreatDoorT36
import Derived.Test.YtlbhdmbfdcohhaaGreatDoorT37
import Derived.Test.YtlbhdmbfdcohhaaGreatDoorT38
import Derived.Test.YtlbhdmbfdcohhaaGreatDoorT39
import Derived.Test.YtlbhdmbfdcohhaaGreatDoorT40
set_option linter.all false
set_option maxHeartbeats 100000000
noncomputable section
namespace Go.Abs
open Go.RowKit Go.Proofs
set_option maxRecDepth 100000
section
variable {L n:Nat}
theorem RV.ls {R:Rt} {f:Nat} {args':List AV} {v:AV} (h:RV R f args' v):LS R f args' v:= λq args H ha K=>by rw[←zO];exact A0G h ha
def biN (op l r:Nat):Nd:=⟨op,[],[],u0,0,l,r⟩
def poN (l e:Nat):Nd:=⟨7,[],[],u0,YT e,l,0⟩
def A85:Option Nat→AV
 |some k=> .tup [.agg (Cm (uu k)),I 0]
 |none=> .tup [.agg EW,I 90]
section
variable {id:Int} {o:UD} {xs:List Nd} {ks:List Nat} {l r e i k:Nat} {q:Option Nat} {I1:AV}
theorem ks3 (h1:1≤ks.length) (h3:ks.length≤3):(∃a,ks=[a])∨(∃a b,ks=[a,b])∨∃a b c,ks=[a,b,c]:=by
 match ks,h1,h3 with
 |[a],_,_=>exact .inl ⟨a,rfl⟩
 |[a,b],_,_=>exact .inr (.inl ⟨a,b,rfl⟩)
 |[a,b,c],_,_=>exact .inr (.inr ⟨a,b,c,rfl⟩)
theorem Tg {l:Nat} {a:Nat} (h:l<[a].length):l=0:=by simpa using h
theorem Sc {l:Nat} {a b:Nat} (h:l<[a,b].length):l=0∨l=1:=by simp at h;omega
theorem Tf {l:Nat} {a b c:Nat} (h:l<[a,b,c].length):l=0∨l=1∨l=2:=by simp at h;omega
theorem lt5 {e:Nat} (h:e<5):e=0∨e=1∨e=2∨e=3∨e=4:=by omega
theorem B3p (h1:1≤ks.length) (h3:ks.length≤3) (hl:l<ks.length) (hr:r<ks.length):RV (rt (L+20) (n+2)) Ea [.agg (B1 id (BJ ks) (Cc xs) o),.agg (biN 3 l r).cs,I ks.length] (.tup [Bo true,Bo true]):=by
 rcases ks3 h1 h3 with⟨a,rfl⟩|⟨a,b,rfl⟩|⟨a,b,c,rfl⟩
 ·obtain rfl:=Tg hl;obtain rfl:=Tg hr;exact λb=>by kernel_rfl
 ·rcases Sc hl with rfl|rfl<;>rcases Sc hr with rfl|rfl<;>(exact λb=>by kernel_rfl)
 ·rcases Tf hl with rfl|rfl|rfl<;>rcases Tf hr with rfl|rfl|rfl<;>(exact λb=>by kernel_rfl)
attribute [local irreducible] Zz rt in
theorem B3j (h1:1≤ks.length) (h3:ks.length≤3) (hl:l<ks.length) (hr:r<ks.length) (hS:PO (rt (L+20) (n+41)) Ou [.agg (uu (ks.getD l 0)).cs,.agg (uu (ks.getD r 0)).cs] (IE q)):CS (rt (L+20) (n+42)) Cj [.agg (B1 id (BJ ks) (Cc xs) o),.agg (biN 3 l r).cs,I ks.length,PC ks] (A85 q):=by
 intro K hK
 have hsh:=(B3p (L:=L) (n:=n+39) (id:=id) (o:=o) (xs:=xs) h1 h3 hl hr).ls
 rewrite [FV]
 unfold FK Av
 rewrite [zO]
 generalize rt (L+20) (n+41)=R at*
 revert hS hsh
 rcases ks3 h1 h3 with⟨a,rfl⟩|⟨a,b,rfl⟩|⟨a,b,c,rfl⟩
 ·obtain rfl:=Tg hl;obtain rfl:=Tg hr;intro hS hsh;simp only[Sx,Sw] at hS;(conv=>lhs;whnf);rewrite [hsh false _ _ ?hq];(case hq=>exact λK=>by kernel_rfl);(conv=>lhs;whnf);rewrite [hS];cases q<;>(conv=>lhs;whnf)<;>exact hK _ _ (λb=>⟨false,λK=>by kernel_rfl⟩)
 ·rcases Sc hl with rfl|rfl<;>rcases Sc hr with rfl|rfl<;>(intro hS hsh;simp only[Sx,Sw] at hS;(conv=>lhs;whnf);rewrite [hsh false _ _ ?hq];(case hq=>exact λK=>by kernel_rfl);(conv=>lhs;whnf);rewrite [hS];cases q<;>(conv=>lhs;whnf)<;>exact hK _ _ (λb=>⟨false,λK=>by kernel_rfl⟩))
 ·rcases Tf hl with rfl|rfl|rfl<;>rcases Tf hr with rfl|rfl|rfl<;>(intro hS hsh;simp only[Sx,Sw] at hS;(conv=>lhs;whnf);rewrite [hsh false _ _ ?hq];(case hq=>exact λK=>by kernel_rfl);(conv=>lhs;whnf);rewrite [hS];cases q<;>(conv=>lhs;whnf)<;>exact hK _ _ (λb=>⟨false,λK=>by kernel_rfl⟩))
theorem B3t (h1:1≤ks.length) (h3:ks.length≤3) (hl:l<ks.length) (hr:r<ks.length):RV (rt (L+20) (n+2)) Ea [.agg (B1 id (BJ ks) (Cc xs) o),.agg (biN 4 l r).cs,I ks.length] (.tup [Bo true,Bo true]):=by
 rcases ks3 h1 h3 with⟨a,rfl⟩|⟨a,b,rfl⟩|⟨a,b,c,rfl⟩
 ·obtain rfl:=Tg hl;obtain rfl:=Tg hr;exact λb=>by kernel_rfl
 ·rcases Sc hl with rfl|rfl<;>rcases Sc hr with rfl|rfl<;>(exact λb=>by kernel_rfl)
 ·rcases Tf hl with rfl|rfl|rfl<;>rcases Tf hr with rfl|rfl|rfl<;>(exact λb=>by kernel_rfl)
attribute [local irreducible] Zz rt in
theorem B3n (h1:1≤ks.length) (h3:ks.length≤3) (hl:l<ks.length) (hr:r<ks.length) (hS:PO (rt (L+20) (n+41)) Hi [.agg (uu (ks.getD l 0)).cs,.agg (uu (ks.getD r 0)).cs] (IE q)):CS (rt (L+20) (n+42)) Cj [.agg (B1 id (BJ ks) (Cc xs) o),.agg (biN 4 l r).cs,I ks.length,PC ks] (A85 q):=by
 intro K hK
 have hsh:=(B3t (L:=L) (n:=n+39) (id:=id) (o:=o) (xs:=xs) h1 h3 hl hr).ls
 rewrite [FV]
 unfold FK Av
 rewrite [zO]
 generalize rt (L+20) (n+41)=R at*
 revert hS hsh
 rcases ks3 h1 h3 with⟨a,rfl⟩|⟨a,b,rfl⟩|⟨a,b,c,rfl⟩
 ·obtain rfl:=Tg hl;obtain rfl:=Tg hr;intro hS hsh;simp only[Sx,Sw] at hS;(conv=>lhs;whnf);rewrite [hsh false _ _ ?hq];(case hq=>exact λK=>by kernel_rfl);(conv=>lhs;whnf);rewrite [hS];cases q<;>(conv=>lhs;whnf)<;>exact hK _ _ (λb=>⟨false,λK=>by kernel_rfl⟩)
 ·rcases Sc hl with rfl|rfl<;>rcases Sc hr with rfl|rfl<;>(intro hS hsh;simp only[Sx,Sw] at hS;(conv=>lhs;whnf);rewrite [hsh false _ _ ?hq];(case hq=>exact λK=>by kernel_rfl);(conv=>lhs;whnf);rewrite [hS];cases q<;>(conv=>lhs;whnf)<;>exact hK _ _ (λb=>⟨false,λK=>by kernel_rfl⟩))
 ·rcases Tf hl with rfl|rfl|rfl<;>rcases Tf hr with rfl|rfl|rfl<;>(intro hS hsh;simp only[Sx,Sw] at hS;(conv=>lhs;whnf);rewrite [hsh false _ _ ?hq];(case hq=>exact λK=>by kernel_rfl);(conv=>lhs;whnf);rewrite [hS];cases q<;>(conv=>lhs;whnf)<;>exact hK _ _ (λb=>⟨false,λK=>by kernel_rfl⟩))
theorem B3r (h1:1≤ks.length) (h3:ks.length≤3) (hl:l<ks.length) (hr:r<ks.length):RV (rt (L+20) (n+2)) Ea [.agg (B1 id (BJ ks) (Cc xs) o),.agg (biN 5 l r).cs,I ks.length] (.tup [Bo true,Bo true]):=by
 rcases ks3 h1 h3 with⟨a,rfl⟩|⟨a,b,rfl⟩|⟨a,b,c,rfl⟩
 ·obtain rfl:=Tg hl;obtain rfl:=Tg hr;exact λb=>by kernel_rfl
 ·rcases Sc hl with rfl|rfl<;>rcases Sc hr with rfl|rfl<;>(exact λb=>by kernel_rfl)
 ·rcases Tf hl with rfl|rfl|rfl<;>rcases Tf hr with rfl|rfl|rfl<;>(exact λb=>by kernel_rfl)
attribute [local irreducible] Zz rt in
theorem B3l (h1:1≤ks.length) (h3:ks.length≤3) (hl:l<ks.length) (hr:r<ks.length) (hS:PO (rt (L+20) (n+41)) L7 [.agg (uu (ks.getD l 0)).cs,.agg (uu (ks.getD r 0)).cs] (IE q)):CS (rt (L+20) (n+42)) Cj [.agg (B1 id (BJ ks) (Cc xs) o),.agg (biN 5 l r).cs,I ks.length,PC ks] (A85 q):=by
 intro K hK
 have hsh:=(B3r (L:=L) (n:=n+39) (id:=id) (o:=o) (xs:=xs) h1 h3 hl hr).ls
 rewrite [FV]
 unfold FK Av
 rewrite [zO]
 generalize rt (L+20) (n+41)=R at*
 revert hS hsh
 rcases ks3 h1 h3 with⟨a,rfl⟩|⟨a,b,rfl⟩|⟨a,b,c,rfl⟩
 ·obtain rfl:=Tg hl;obtain rfl:=Tg hr;intro hS hsh;simp only[Sx,Sw] at hS;(conv=>lhs;whnf);rewrite [hsh false _ _ ?hq];(case hq=>exact λK=>by kernel_rfl);(conv=>lhs;whnf);rewrite [hS];cases q<;>(conv=>lhs;whnf)<;>exact hK _ _ (λb=>⟨false,λK=>by kernel_rfl⟩)
 ·rcases Sc hl with rfl|rfl<;>rcases Sc hr with rfl|rfl<;>(intro hS hsh;simp only[Sx,Sw] at hS;(conv=>lhs;whnf);rewrite [hsh false _ _ ?hq];(case hq=>exact λK=>by kernel_rfl);(conv=>lhs;whnf);rewrite [hS];cases q<;>(conv=>lhs;whnf)<;>exact hK _ _ (λb=>⟨false,λK=>by kernel_rfl⟩))
 ·rcases Tf hl with rfl|rfl|rfl<;>rcases Tf hr with rfl|rfl|rfl<;>(intro hS hsh;simp only[Sx,Sw] at hS;(conv=>lhs;whnf);rewrite [hsh false _ _ ?hq];(case hq=>exact λK=>by kernel_rfl);(conv=>lhs;whnf);rewrite [hS];cases q<;>(conv=>lhs;whnf)<;>exact hK _ _ (λb=>⟨false,λK=>by kernel_rfl⟩))
theorem B3s (h1:1≤ks.length) (h3:ks.length≤3) (hl:l<ks.length) (hr:r<ks.length):RV (rt (L+20) (n+2)) Ea [.agg (B1 id (BJ ks) (Cc xs) o),.agg (biN 6 l r).cs,I ks.length] (.tup [Bo true,Bo true]):=by
 rcases ks3 h1 h3 with⟨a,rfl⟩|⟨a,b,rfl⟩|⟨a,b,c,rfl⟩
 ·obtain rfl:=Tg hl;obtain rfl:=Tg hr;exact λb=>by kernel_rfl
 ·rcases Sc hl with rfl|rfl<;>rcases Sc hr with rfl|rfl<;>(exact λb=>by kernel_rfl)
 ·rcases Tf hl with rfl|rfl|rfl<;>rcases Tf hr with rfl|rfl|rfl<;>(exact λb=>by kernel_rfl)
attribute [local irreducible] Zz rt in
theorem B3m (h1:1≤ks.length) (h3:ks.length≤3) (hl:l<ks.length) (hr:r<ks.length) (hS:PO (rt (L+20) (n+41)) L8 [.agg (uu (ks.getD l 0)).cs,.agg (uu (ks.getD r 0)).cs] (IE q)):CS (rt (L+20) (n+42)) Cj [.agg (B1 id (BJ ks) (Cc xs) o),.agg (biN 6 l r).cs,I ks.length,PC ks] (A85 q):=by
 intro K hK
 have hsh:=(B3s (L:=L) (n:=n+39) (id:=id) (o:=o) (xs:=xs) h1 h3 hl hr).ls
 rewrite [FV]
 unfold FK Av
 rewrite [zO]
 generalize rt (L+20) (n+41)=R at*
 revert hS hsh
 rcases ks3 h1 h3 with⟨a,rfl⟩|⟨a,b,rfl⟩|⟨a,b,c,rfl⟩
 ·obtain rfl:=Tg hl;obtain rfl:=Tg hr;intro hS hsh;simp only[Sx,Sw] at hS;(conv=>lhs;whnf);rewrite [hsh false _ _ ?hq];(case hq=>exact λK=>by kernel_rfl);(conv=>lhs;whnf);rewrite [hS];cases q<;>(conv=>lhs;whnf)<;>exact hK _ _ (λb=>⟨false,λK=>by kernel_rfl⟩)
 ·rcases Sc hl with rfl|rfl<;>rcases Sc hr with rfl|rfl<;>(intro hS hsh;simp only[Sx,Sw] at hS;(conv=>lhs;whnf);rewrite [hsh false _ _ ?hq];(case hq=>exact λK=>by kernel_rfl);(conv=>lhs;whnf);rewrite [hS];cases q<;>(conv=>lhs;whnf)<;>exact hK _ _ (λb=>⟨false,λK=>by kernel_rfl⟩))
 ·rcases Tf hl with rfl|rfl|rfl<;>rcases Tf hr with rfl|rfl|rfl<;>(intro hS hsh;simp only[Sx,Sw] at hS;(conv=>lhs;whnf);rewrite [hsh false _ _ ?hq];(case hq=>exact λK=>by kernel_rfl);(conv=>lhs;whnf);rewrite [hS];cases q<;>(conv=>lhs;whnf)<;>exact hK _ _ (λb=>⟨false,λK=>by kernel_rfl⟩))
theorem B3q (h1:1≤ks.length) (h3:ks.length≤3) (hl:l<ks.length) (he:e<5):RV (rt (L+20) (n+2)) Ea [.agg (B1 id (BJ ks) (Cc xs) o),.agg (poN l e).cs,I ks.length] (.tup [Bo true,Bo true]):=by
 rcases ks3 h1 h3 with⟨a,rfl⟩|⟨a,b,rfl⟩|⟨a,b,c,rfl⟩
 ·obtain rfl:=Tg hl;rcases lt5 he with rfl|rfl|rfl|rfl|rfl<;>(exact λb=>by kernel_rfl)
 ·rcases Sc hl with rfl|rfl<;>rcases lt5 he with rfl|rfl|rfl|rfl|rfl<;>(exact λb=>by kernel_rfl)
 ·rcases Tf hl with rfl|rfl|rfl<;>rcases lt5 he with rfl|rfl|rfl|rfl|rfl<;>(exact λb=>by kernel_rfl)
attribute [local irreducible] Zz rt in
theorem B3k (h1:1≤ks.length) (h3:ks.length≤3) (hl:l<ks.length) (he:e<5) (hS:PO (rt (L+20) (n+41)) HX [.agg (uu (ks.getD l 0)).cs,.agg [I (YT e),I 1]] (IE q)):CS (rt (L+20) (n+42)) Cj [.agg (B1 id (BJ ks) (Cc xs) o),.agg (poN l e).cs,I ks.length,PC ks] (A85 q):=by
 intro K hK
 have hsh:=(B3q (L:=L) (n:=n+39) (id:=id) (o:=o) (xs:=xs) h1 h3 hl he).ls
 rewrite [FV]
 unfold FK Av
 rewrite [zO]
 generalize rt (L+20) (n+41)=R at*
 revert hS hsh
 rcases ks3 h1 h3 with⟨a,rfl⟩|⟨a,b,rfl⟩|⟨a,b,c,rfl⟩
 ·obtain rfl:=Tg hl;rcases lt5 he with rfl|rfl|rfl|rfl|rfl<;>(intro hS hsh;simp only[Sx,Sw] at hS;(conv=>lhs;whnf);rewrite [hsh false _ _ ?hq];(case hq=>exact λK=>by kernel_rfl);(conv=>lhs;whnf);refine l2d (hS _ _) ?_;cases q<;>(conv=>lhs;whnf)<;>exact hK _ _ (λb=>⟨false,λK=>by kernel_rfl⟩))
 ·rcases Sc hl with rfl|rfl<;>rcases lt5 he with rfl|rfl|rfl|rfl|rfl<;>(intro hS hsh;simp only[Sx,Sw] at hS;(conv=>lhs;whnf);rewrite [hsh false _ _ ?hq];(case hq=>exact λK=>by kernel_rfl);(conv=>lhs;whnf);refine l2d (hS _ _) ?_;cases q<;>(conv=>lhs;whnf)<;>exact hK _ _ (λb=>⟨false,λK=>by kernel_rfl⟩))
 ·rcases Tf hl with rfl|rfl|rfl<;>rcases lt5 he with rfl|rfl|rfl|rfl|rfl<;>(intro hS hsh;simp only[Sx,Sw] at hS;(conv=>lhs;whnf);rewrite [hsh false _ _ ?hq];(case hq=>exact λK=>by kernel_rfl);(conv=>lhs;whnf);refine l2d (hS _ _) ?_;cases q<;>(conv=>lhs;whnf)<;>exact hK _ _ (λb=>⟨false,λK=>by kernel_rfl⟩))
theorem B0R (h1:1≤ks.length) (h3:ks.length≤3) (hl:l<ks.length) (hr:r<ks.length):RV (rt (L+20) (n+2)) BC [TX I1 (PC ks),W0 (F2.getD 3 []) Z9 Eu,.agg (biN 3 l r).cs] (Bo true):=by
 rcases ks3 h1 h3 with⟨a,rfl⟩|⟨a,b,rfl⟩|⟨a,b,c,rfl⟩
 ·obtain rfl:=Tg hl;obtain rfl:=Tg hr;exact λb=>by kernel_rfl
 ·rcases Sc hl with rfl|rfl<;>rcases Sc hr with rfl|rfl<;>(exact λb=>by kernel_rfl)
 ·rcases Tf hl with rfl|rfl|rfl<;>rcases Tf hr with rfl|rfl|rfl<;>(exact λb=>by kernel_rfl)
attribute [local irreducible] Zz rt in
theorem B2y (h1:1≤ks.length) (h3:ks.length≤3) (hl:l<ks.length) (hr:r<ks.length) (hS:PO (rt (L+20) (n+40)) Qp [.agg (uu (ks.getD l 0)).cs,.agg (uu (ks.getD r 0)).cs] (IE (some k))):CS (rt (L+20) (n+41)) Eu [TX I1 (PC ks),.agg (biN 3 l r).cs] (.tup [.agg (Cm (uu k)),I 0]):=by
 intro K hK
 rewrite [Pg]
 unfold HC
 rewrite [zO]
 generalize rt (L+20) (n+40)=R at*
 revert hS
 rcases ks3 h1 h3 with⟨a,rfl⟩|⟨a,b,rfl⟩|⟨a,b,c,rfl⟩
 ·obtain rfl:=Tg hl;obtain rfl:=Tg hr;intro hS;simp only[Sx,Sw] at hS;(conv=>lhs;whnf);rewrite [hS];(conv=>lhs;whnf);exact hK _ _ (λb=>⟨false,λK=>by kernel_rfl⟩)
 ·rcases Sc hl with rfl|rfl<;>rcases Sc hr with rfl|rfl<;>(intro hS;simp only[Sx,Sw] at hS;(conv=>lhs;whnf);rewrite [hS];(conv=>lhs;whnf);exact hK _ _ (λb=>⟨false,λK=>by kernel_rfl⟩))
 ·rcases Tf hl with rfl|rfl|rfl<;>rcases Tf hr with rfl|rfl|rfl<;>(intro hS;simp only[Sx,Sw] at hS;(conv=>lhs;whnf);rewrite [hS];(conv=>lhs;whnf);exact hK _ _ (λb=>⟨false,λK=>by kernel_rfl⟩))
theorem B0V (h1:1≤ks.length) (h3:ks.length≤3) (hl:l<ks.length) (hr:r<ks.length):RV (rt (L+20) (n+2)) BC [TX I1 (PC ks),W0 (F2.getD 4 []) Z9 CX,.agg (biN 4 l r).cs] (Bo true):=by
 rcases ks3 h1 h3 with⟨a,rfl⟩|⟨a,b,rfl⟩|⟨a,b,c,rfl⟩
 ·obtain rfl:=Tg hl;obtain rfl:=Tg hr;exact λb=>by kernel_rfl
 ·rcases Sc hl with rfl|rfl<;>rcases Sc hr with rfl|rfl<;>(exact λb=>by kernel_rfl)
 ·rcases Tf hl with rfl|rfl|rfl<;>rcases Tf hr with rfl|rfl|rfl<;>(exact λb=>by kernel_rfl)
attribute [local irreducible] Zz rt in
theorem B2C (h1:1≤ks.length) (h3:ks.length≤3) (hl:l<ks.length) (hr:r<ks.length) (hS:PO (rt (L+20) (n+40)) HT [.agg (uu (ks.getD l 0)).cs,.agg (uu (ks.getD r 0)).cs] (IE (some k))):CS (rt (L+20) (n+41)) CX [TX I1 (PC ks),.agg (biN 4 l r).cs] (.tup [.agg (Cm (uu k)),I 0]):=by
 intro K hK
 rewrite [Lq]
 unfold XA1
 rewrite [zO]
 generalize rt (L+20) (n+40)=R at*
 revert hS
 rcases ks3 h1 h3 with⟨a,rfl⟩|⟨a,b,rfl⟩|⟨a,b,c,rfl⟩
 ·obtain rfl:=Tg hl;obtain rfl:=Tg hr;intro hS;simp only[Sx,Sw] at hS;(conv=>lhs;whnf);rewrite [hS];(conv=>lhs;whnf);exact hK _ _ (λb=>⟨false,λK=>by kernel_rfl⟩)
 ·rcases Sc hl with rfl|rfl<;>rcases Sc hr with rfl|rfl<;>(intro hS;simp only[Sx,Sw] at hS;(conv=>lhs;whnf);rewrite [hS];(conv=>lhs;whnf);exact hK _ _ (λb=>⟨false,λK=>by kernel_rfl⟩))
 ·rcases Tf hl with rfl|rfl|rfl<;>rcases Tf hr with rfl|rfl|rfl<;>(intro hS;simp only[Sx,Sw] at hS;(conv=>lhs;whnf);rewrite [hS];(conv=>lhs;whnf);exact hK _ _ (λb=>⟨false,λK=>by kernel_rfl⟩))
theorem B0T (h1:1≤ks.length) (h3:ks.length≤3) (hl:l<ks.length) (hr:r<ks.length):RV (rt (L+20) (n+2)) BC [TX I1 (PC ks),W0 (F2.getD 5 []) Z9 Du,.agg (biN 5 l r).cs] (Bo true):=by
 rcases ks3 h1 h3 with⟨a,rfl⟩|⟨a,b,rfl⟩|⟨a,b,c,rfl⟩
 ·obtain rfl:=Tg hl;obtain rfl:=Tg hr;exact λb=>by kernel_rfl
 ·rcases Sc hl with rfl|rfl<;>rcases Sc hr with rfl|rfl<;>(exact λb=>by kernel_rfl)
 ·rcases Tf hl with rfl|rfl|rfl<;>rcases Tf hr with rfl|rfl|rfl<;>(exact λb=>by kernel_rfl)
attribute [local irreducible] Zz rt in
theorem B2A (h1:1≤ks.length) (h3:ks.length≤3) (hl:l<ks.length) (hr:r<ks.length) (hS:PO (rt (L+20) (n+40)) Qr [.agg (uu (ks.getD l 0)).cs,.agg (uu (ks.getD r 0)).cs] (IE (some k))):CS (rt (L+20) (n+41)) Du [TX I1 (PC ks),.agg (biN 5 l r).cs] (.tup [.agg (Cm (uu k)),I 0]):=by
 intro K hK
 rewrite [MY]
 unfold FX
 rewrite [zO]
 generalize rt (L+20) (n+40)=R at*
 revert hS
 rcases ks3 h1 h3 with⟨a,rfl⟩|⟨a,b,rfl⟩|⟨a,b,c,rfl⟩
 ·obtain rfl:=Tg hl;obtain rfl:=Tg hr;intro hS;simp only[Sx,Sw] at hS;(conv=>lhs;whnf);rewrite [hS];(conv=>lhs;whnf);exact hK _ _ (λb=>⟨false,λK=>by kernel_rfl⟩)
 ·rcases Sc hl with rfl|rfl<;>rcases Sc hr with rfl|rfl<;>(intro hS;simp only[Sx,Sw] at hS;(conv=>lhs;whnf);rewrite [hS];(conv=>lhs;whnf);exact hK _ _ (λb=>⟨false,λK=>by kernel_rfl⟩))
 ·rcases Tf hl with rfl|rfl|rfl<;>rcases Tf hr with rfl|rfl|rfl<;>(intro hS;simp only[Sx,Sw] at hS;(conv=>lhs;whnf);rewrite [hS];(conv=>lhs;whnf);exact hK _ _ (λb=>⟨false,λK=>by kernel_rfl⟩))
theorem B0U (h1:1≤ks.length) (h3:ks.length≤3) (hl:l<ks.length) (hr:r<ks.length):RV (rt (L+20) (n+2)) BC [TX I1 (PC ks),W0 (F2.getD 6 []) Z9 Dm,.agg (biN 6 l r).cs] (Bo true):=by
 rcases ks3 h1 h3 with⟨a,rfl⟩|⟨a,b,rfl⟩|⟨a,b,c,rfl⟩
 ·obtain rfl:=Tg hl;obtain rfl:=Tg hr;exact λb=>by kernel_rfl
 ·rcases Sc hl with rfl|rfl<;>rcases Sc hr with rfl|rfl<;>(exact λb=>by kernel_rfl)
 ·rcases Tf hl with rfl|rfl|rfl<;>rcases Tf hr with rfl|rfl|rfl<;>(exact λb=>by kernel_rfl)
attribute [local irreducible] Zz rt in
theorem B2B (h1:1≤ks.length) (h3:ks.length≤3) (hl:l<ks.length) (hr:r<ks.length) (hS:PO (rt (L+20) (n+40)) Qs [.agg (uu (ks.getD l 0)).cs,.agg (uu (ks.getD r 0)).cs] (IE (some k))):CS (rt (L+20) (n+41)) Dm [TX I1 (PC ks),.agg (biN 6 l r).cs] (.tup [.agg (Cm (uu k)),I 0]):=by
 intro K hK
 rewrite [Mu]
 unfold FB
 rewrite [zO]
 generalize rt (L+20) (n+40)=R at*
 revert hS
 rcases ks3 h1 h3 with⟨a,rfl⟩|⟨a,b,rfl⟩|⟨a,b,c,rfl⟩
 ·obtain rfl:=Tg hl;obtain rfl:=Tg hr;intro hS;simp only[Sx,Sw] at hS;(conv=>lhs;whnf);rewrite [hS];(conv=>lhs;whnf);exact hK _ _ (λb=>⟨false,λK=>by kernel_rfl⟩)
 ·rcases Sc hl with rfl|rfl<;>rcases Sc hr with rfl|rfl<;>(intro hS;simp only[Sx,Sw] at hS;(conv=>lhs;whnf);rewrite [hS];(conv=>lhs;whnf);exact hK _ _ (λb=>⟨false,λK=>by kernel_rfl⟩))
 ·rcases Tf hl with rfl|rfl|rfl<;>rcases Tf hr with rfl|rfl|rfl<;>(intro hS;simp only[Sx,Sw] at hS;(conv=>lhs;whnf);rewrite [hS];(conv=>lhs;whnf);exact hK _ _ (λb=>⟨false,λK=>by kernel_rfl⟩))
theorem B0S (h1:1≤ks.length) (h3:ks.length≤3) (hl:l<ks.length) (he:e<5):RV (rt (L+20) (n+2)) BC [TX I1 (PC ks),W0 (F2.getD 7 []) C26 DL,.agg (poN l e).cs] (Bo true):=by
 rcases ks3 h1 h3 with⟨a,rfl⟩|⟨a,b,rfl⟩|⟨a,b,c,rfl⟩
 ·obtain rfl:=Tg hl;rcases lt5 he with rfl|rfl|rfl|rfl|rfl<;>(exact λb=>by kernel_rfl)
 ·rcases Sc hl with rfl|rfl<;>rcases lt5 he with rfl|rfl|rfl|rfl|rfl<;>(exact λb=>by kernel_rfl)
 ·rcases Tf hl with rfl|rfl|rfl<;>rcases lt5 he with rfl|rfl|rfl|rfl|rfl<;>(exact λb=>by kernel_rfl)
attribute [local irreducible] Zz rt in
theorem B2z (h1:1≤ks.length) (h3:ks.length≤3) (hl:l<ks.length) (he:e<5) (hS:PO (rt (L+20) (n+40)) Qq [.agg (uu (ks.getD l 0)).cs,.agg [I (YT e),I 1]] (IE (some k))):CS (rt (L+20) (n+41)) DL [TX I1 (PC ks),.agg (poN l e).cs] (.tup [.agg (Cm (uu k)),I 0]):=by
 intro K hK
 rewrite [Oi]
 unfold GE BU Av Gr
 rewrite [zO]
 generalize rt (L+20) (n+40)=R at*
 revert hS
 rcases ks3 h1 h3 with⟨a,rfl⟩|⟨a,b,rfl⟩|⟨a,b,c,rfl⟩
 ·obtain rfl:=Tg hl;rcases lt5 he with rfl|rfl|rfl|rfl|rfl<;>(intro hS;simp only[Sx,Sw] at hS;(conv=>lhs;whnf);dsimp only[poN];rewrite [hS];(conv=>lhs;whnf);exact hK _ _ (λb=>⟨false,λK=>by kernel_rfl⟩))
 ·rcases Sc hl with rfl|rfl<;>rcases lt5 he with rfl|rfl|rfl|rfl|rfl<;>(intro hS;simp only[Sx,Sw] at hS;(conv=>lhs;whnf);dsimp only[poN];rewrite [hS];(conv=>lhs;whnf);exact hK _ _ (λb=>⟨false,λK=>by kernel_rfl⟩))
 ·rcases Tf hl with rfl|rfl|rfl<;>rcases lt5 he with rfl|rfl|rfl|rfl|rfl<;>(intro hS;simp only[Sx,Sw] at hS;(conv=>lhs;whnf);dsimp only[poN];rewrite [hS];(conv=>lhs;whnf);exact hK _ _ (λb=>⟨false,λK=>by kernel_rfl⟩))
end
end
section
variable (L n:Nat)
theorem A5Z:((List.range 11).all λk=>(λi=>Iz (AX (CM (rt (L+20) (n+40)) Ct [.agg (W8 i)]) (Bo true))) (k+0))=true:=by kernel_rfl
theorem A5Y:((List.range 11).all λk=>(λi=>Iz (AX (CM (rt (L+20) (n+40)) Ct [.agg (W8 i)]) (Bo true))) (k+11))=true:=by kernel_rfl
theorem A5X:((List.range 11).all λk=>(λi=>Iz (AX (CM (rt (L+20) (n+40)) Ct [.agg (W8 i)]) (Bo true))) (k+22))=true:=by kernel_rfl
theorem B0W (i:Nat) (h:i<33):PS (rt (L+20) (n+40)) Ct [.agg (W8 i)] (Bo true):=by
 refine B2 (λH=>by first|exact λK=>by kernel_rfl) ?_
 by_cases h0:i<11
 ·have:=HF.1 (A5Z L n) (i-0) (Jr.2 (by omega))
  have e:i-0+0=i:=by omega
  simp only[e] at this
  exact this
 by_cases h1:i<22
 ·have:=HF.1 (A5Y L n) (i-11) (Jr.2 (by omega))
  have e:i-11+11=i:=by omega
  simp only[e] at this
  exact this
 by_cases h2:i<33
 ·have:=HF.1 (A5X L n) (i-22) (Jr.2 (by omega))
  have e:i-22+22=i:=by omega
  simp only[e] at this
  exact this
 ·omega
theorem A62:((List.range 11).all λk=>(λi=>Iz (AX (CM (rt (L+20) (n+40)) GT [.agg (W8 i)]) (S (frt i)))) (k+0))=true:=by kernel_rfl
theorem A61:((List.range 11).all λk=>(λi=>Iz (AX (CM (rt (L+20) (n+40)) GT [.agg (W8 i)]) (S (frt i)))) (k+11))=true:=by kernel_rfl
theorem A60:((List.range 11).all λk=>(λi=>Iz (AX (CM (rt (L+20) (n+40)) GT [.agg (W8 i)]) (S (frt i)))) (k+22))=true:=by kernel_rfl
theorem B0X (i:Nat) (h:i<33):PS (rt (L+20) (n+40)) GT [.agg (W8 i)] (S (frt i)):=by
 refine B2 (λH=>by first|exact λK=>by kernel_rfl) ?_
 by_cases h0:i<11
 ·have:=HF.1 (A62 L n) (i-0) (Jr.2 (by omega))
  have e:i-0+0=i:=by omega
  simp only[e] at this
  exact this
 by_cases h1:i<22
 ·have:=HF.1 (A61 L n) (i-11) (Jr.2 (by omega))
  have e:i-11+11=i:=by omega
  simp only[e] at this
  exact this
 by_cases h2:i<33
 ·have:=HF.1 (A60 L n) (i-22) (Jr.2 (by omega))
  have e:i-22+22=i:=by omega
  simp only[e] at this
  exact this
 ·omega
end
section
variable {L n:Nat}
section
variable {id:Int} {o:UD} {xs:List Nd} {ks:List Nat} {i j k:Nat} {I1:AV}
theorem B2N (h3:ks.length≤3):RV (rt (L+20) (n+2)) BC [TX I1 (PC ks),W0 (F2.getD 2 []) C2i EP,.agg (VH i).cs] (Bo true):=by
 match ks,h3 with
 |[],_=>exact λb=>by kernel_rfl
 |[a],_=>exact λb=>by kernel_rfl
 |[a,b],_=>exact λb=>by kernel_rfl
 |[a,b,c],_=>exact λb=>by kernel_rfl
theorem B2O (h3:ks.length≤3):RV (rt (L+20) (n+2)) BC [TX I1 (PC ks),W0 (F2.getD 1 []) AA Dn,.agg (cnN i k).cs] (Bo true):=by
 match ks,h3 with
 |[],_=>exact λb=>by kernel_rfl
 |[a],_=>exact λb=>by kernel_rfl
 |[a,b],_=>exact λb=>by kernel_rfl
 |[a,b,c],_=>exact λb=>by kernel_rfl
theorem B6a {U:AV} (h1:1≤ks.length) (h3:ks.length≤3) (hj:j<ks.length):RV (rt (L+20) (n+2)) EP [TX (BJ ks) U,.agg (VH j).cs] (.tup [.agg (Cm (uu (ks.getD j 0))),I 0]):=by
 rcases ks3 h1 h3 with⟨a,rfl⟩|⟨a,b,rfl⟩|⟨a,b,c,rfl⟩
 ·obtain rfl:=Tg hj;exact λb=>by kernel_rfl
 ·rcases Sc hj with rfl|rfl<;>exact λb=>by kernel_rfl
 ·rcases Tf hj with rfl|rfl|rfl<;>exact λb=>by kernel_rfl
attribute [local irreducible] Zz rt in
theorem B6b {C:List AV} (hv:PO (rt (L+20) (n+40)) Ct [.agg (W8 i)] (Bo true)) (hu:PO (rt (L+20) (n+40)) GH [.agg (uu k).cs] (Bo true)):CS (rt (L+20) (n+41)) Dn [.iptr C,.agg (cnN i k).cs] (.tup [.agg (Cm (uu k)),I 0]):=by
 intro K hK
 rewrite [Mv]
 unfold FC BU Av Gr
 rewrite [zO]
 generalize rt (L+20) (n+40)=R at*
 conv=>lhs;whnf
 refine l2d (hv _ _) ?_
 conv=>lhs;whnf
 simp only[Ed]
 dsimp only[cnN]
 rewrite [hu]
 conv=>lhs;whnf
 exact hK _ _ (λb=>⟨false,λK=>by kernel_rfl⟩)
attribute [local irreducible] Zz rt Go.Abs.Vc in
theorem B7m (hv:PO (rt (L+20) (n+40)) E9 [.agg (W8 i)] (Bo true)) (hu:PO (rt (L+20) (n+40)) Eg [.agg (uu k).cs] (Bo true)) {at_:Int}:CS (rt (L+20) (n+41)) Ea [.agg (B1 id (BJ ks) (Cc xs) o),.agg (cnN i k).cs,I at_] (.tup [Bo true,Bo false]):=by
 intro K hK
 rewrite [RU]
 unfold Ml Bh Av Gr D3
 rewrite [zO]
 generalize rt (L+20) (n+40)=R at*
 conv=>lhs;whnf
 refine l2d (hv _ _) ?_
 conv=>lhs;whnf
 refine l2d (hu _ _) ?_
 conv=>lhs;whnf
 refine l2d (C62 (x:=cnN i k)) ?_
 conv=>lhs;whnf
 exact hK _ _ (λb=>⟨false,λK=>by kernel_rfl⟩)
attribute [local irreducible] Zz rt in
theorem B7k (hv:PO (rt (L+20) (n+40)) E9 [.agg (W8 i)] (Bo true)) (hu:PO (rt (L+20) (n+40)) Eg [.agg (uu k).cs] (Bo true)) {at_:Int} {w:AV}:CS (rt (L+20) (n+42)) Cj [.agg (B1 id (BJ ks) (Cc xs) o),.agg (cnN i k).cs,I at_,w] (.tup [.agg (Cm (uu k)),I 0]):=by
 intro K hK
 have hsh:=(B7m (id:=id) (o:=o) (xs:=xs) (ks:=ks) (at_:=at_) hv hu).ls
 clear hv hu
 rewrite [FV]
 unfold FK Av
 rewrite [zO]
 generalize rt (L+20) (n+41)=R at*
 conv=>lhs;whnf
 rewrite [hsh false _ _ ?hq]
 case hq=>exact λK=>by kernel_rfl
 conv=>lhs;whnf
 exact hK _ _ (λb=>⟨false,λK=>by kernel_rfl⟩)
end
end
section
section
variable (L n:Nat)
def C6U:List (UD×Int):=[(⟨1,2,0,1,0,1,0,1,0,1,0,1,0,1,[49],[49],[48],[49],0,1⟩,0),(⟨0,1,0,1,1,2,0,1,0,1,0,1,0,1,[49],[49],[48],[49],0,1⟩,0),(u0,70),(⟨0,1,0,1,0,1,0,1,0,1,0,1,0,1,[49],[49],[48],[49],0,2⟩,0),
 (u0,70),(⟨0,1,0,1,0,1,0,1,1,2,0,1,0,1,[49],[49],[48],[49],0,1⟩,0),(⟨1,1,0,1,0,1,0,1,0,1,0,1,0,1,[49],[49],[48],[49],0,1⟩,0)]
def usq (k:Nat):UD×Int:=C6U.getD k (u0,0)
theorem B7e:((List.range 7).all λi=>Iz (AX (CM (rt (L+20) (n+40)) HX [.agg (uu i).cs,.agg [I 1,I 2]]) (.tup [.agg (usq i).1.cs,I (usq i).2])))=true:=by kernel_rfl
theorem C4C (i:Nat) (h:i<7):PS (rt (L+20) (n+40)) HX [.agg (uu i).cs,.agg [I 1,I 2]] (.tup [.agg (usq i).1.cs,I (usq i).2]):=by
 refine B2 (λH=>by first|exact λK=>by kernel_rfl) ?_
 exact HF.1 (B7e L n) i (Jr.2 h)
end
variable {L n:Nat}
section
variable {id:Int} {o:UD} {xs:List Nd} {ks:List Nat} {i j k l:Nat} {I1:AV}
def sqN (l:Nat):Nd:=⟨8,[],[],u0,0,l,0⟩
theorem B7l (h1:1≤ks.length) (h3:ks.length≤3) (hl:l<ks.length):RV (rt (L+20) (n+2)) Ea [.agg (B1 id (BJ ks) (Cc xs) o),.agg (sqN l).cs,I ks.length] (.tup [Bo true,Bo true]):=by
 rcases ks3 h1 h3 with⟨a,rfl⟩|⟨a,b,rfl⟩|⟨a,b,c,rfl⟩
 ·obtain rfl:=Tg hl;exact λb=>by kernel_rfl
 ·rcases Sc hl with rfl|rfl<;>exact λb=>by kernel_rfl
 ·rcases Tf hl with rfl|rfl|rfl<;>exact λb=>by kernel_rfl
attribute [local irreducible] Zz rt in
theorem B7j {u:UD} {e:Int} (he:e=0∨e=70) (h1:1≤ks.length) (h3:ks.length≤3) (hl:l<ks.length) (hS:PO (rt (L+20) (n+41)) HX [.agg (uu (ks.getD l 0)).cs,.agg [I 1,I 2]] (.tup [.agg u.cs,I e])):CS (rt (L+20) (n+42)) Cj [.agg (B1 id (BJ ks) (Cc xs) o),.agg (sqN l).cs,I ks.length,PC ks] (if e=0 then .tup [.agg u.cs,I 0] else .tup [.agg EW,I 90]):=by
 intro K hK
 have hsh:=(B7l (L:=L) (n:=n+39) (id:=id) (o:=o) (xs:=xs) h1 h3 hl).ls
 rewrite [FV]
 unfold FK Av
 rewrite [zO]
 generalize rt (L+20) (n+41)=R at*
 revert hS hsh
 rcases ks3 h1 h3 with⟨a,rfl⟩|⟨a,b,rfl⟩|⟨a,b,c,rfl⟩
 ·obtain rfl:=Tg hl;(intro hS hsh;simp only[Sx,Sw] at hS;(conv=>lhs;whnf);rewrite [hsh false _ _ ?hq];(case hq=>exact λK=>by kernel_rfl);(conv=>lhs;whnf);refine l2d (hS _ _) ?_;rcases he with rfl|rfl<;>(conv=>lhs;whnf)<;>exact hK _ _ (λb=>⟨false,λK=>by kernel_rfl⟩))
 ·rcases Sc hl with rfl|rfl<;>(intro hS hsh;simp only[Sx,Sw] at hS;(conv=>lhs;whnf);rewrite [hsh false _ _ ?hq];(case hq=>exact λK=>by kernel_rfl);(conv=>lhs;whnf);refine l2d (hS _ _) ?_;rcases he with rfl|rfl<;>(conv=>lhs;whnf)<;>exact hK _ _ (λb=>⟨false,λK=>by kernel_rfl⟩))
 ·rcases Tf hl with rfl|rfl|rfl<;>(intro hS hsh;simp only[Sx,Sw] at hS;(conv=>lhs;whnf);rewrite [hsh false _ _ ?hq];(case hq=>exact λK=>by kernel_rfl);(conv=>lhs;whnf);refine l2d (hS _ _) ?_;rcases he with rfl|rfl<;>(conv=>lhs;whnf)<;>exact hK _ _ (λb=>⟨false,λK=>by kernel_rfl⟩))
end
section
variable {i k:Nat}
theorem A57 (h:i<33):(frt i).length<10:=by
 have:=HF.1 (show((List.range 33).all λi=>decide ((frt i).length<10))=true by kernel_rfl) i (Jr.2 h)
 simpa using this
theorem B7c:PS (rt (L+20) (n+1)) Rs [] (.list 9 (F2.map λw=>S w)):=B2 (λH K=>by kernel_rfl) (by kernel_rfl)
attribute [local irreducible] Zz rt Go.Abs.Al in
theorem B3E (hi:i<33) (hw:PO (rt (L+20) (n+40)) CF [I 1,I 1,I 8] (Bo true)) (hws:PO (rt (L+20) (n+40)) Rs [] (.list 9 (F2.map λw=>S w))) (hu:PO (rt (L+20) (n+40)) GO [.agg (uu k).cs] (.tup [S (JN k),I 0])) (hp:PO (rt (L+20) (n+40)) Js [.agg (W8 i)] (S (frt i))):CS (rt (L+20) (n+41)) HV [.agg (cnN i k).cs] (S (cnT i k)):=by
 intro K hK
 rewrite [A1G]
 unfold SW Av
 rewrite [zO]
 generalize rt (L+20) (n+40)=R at*
 conv=>lhs;whnf
 refine l2d (hw _ _) ?_
 conv=>lhs;whnf
 rewrite [hws]
 conv=>lhs;whnf
 refine l2d A3W ?_
 conv=>lhs;whnf
 refine l2d (hu _ _) ?_
 conv=>lhs;whnf
 have h1:=A57 hi
 have h2:=Fp k
 refine l2d (Bs (a:=F2.getD 1 []) (by decide)) ?_
 conv=>lhs;whnf
 refine l2d (hp _ _) ?_
 conv=>lhs;whnf
 rewrite [Bs (by simp only[XA2,F2,Sw,Sx,K7,OT];omega)]
 rewrite [Bs (by simp only[XA2,F2,Sw,Sx,K7,OT];omega)]
 rewrite [Bs (by simp only[XA2,F2,Sw,Sx,K7,OT];omega)]
 exact hK _ _ (λb=>⟨false,λK=>by kernel_rfl⟩)
attribute [local irreducible] Zz rt Go.Abs.Al in
theorem B2L (hi:i<33) (hws:PO (rt (L+20) (n+40)) Fm [] Uz) (hu:PO (rt (L+20) (n+40)) HS [.agg (uu k).cs] (.tup [S (JN k),I 0])) (hp:PO (rt (L+20) (n+40)) GT [.agg (W8 i)] (S (frt i))):CS (rt (L+20) (n+41)) EN [.agg (cnN i k).cs] (S (cnT i k)):=by
 intro K hK
 rewrite [Wi]
 unfold Np Av
 rewrite [zO]
 generalize rt (L+20) (n+40)=R at*
 conv=>lhs;whnf
 rewrite [hws]
 conv=>lhs;whnf
 rewrite [hws]
 conv=>lhs;whnf
 refine l2d (A3W (a:=1)) ?_
 conv=>lhs;whnf
 refine l2d (hu _ _) ?_
 conv=>lhs;whnf
 have h1:=A57 hi
 have h2:=Fp k
 refine l2d (Bs (a:=F2.getD 1 []) (by decide)) ?_
 conv=>lhs;whnf
 refine l2d (hp _ _) ?_
 conv=>lhs;whnf
 rewrite [Bs (by simp only[XA2,F2,Sw,Sx,K7,OT];omega)]
 rewrite [Bs (by simp only[XA2,F2,Sw,Sx,K7,OT];omega)]
 rewrite [Bs (by simp only[XA2,F2,Sw,Sx,K7,OT];omega)]
 exact hK _ _ (λb=>⟨false,λK=>by kernel_rfl⟩)
end
end
section
variable {L n:Nat}
inductive Ex where
 |no
 |cn (i k:Nat)
 |inp (j:Nat)
 |bi (op l r k:Nat)
 |po (l e k:Nat)
def Ex.nd:Ex→List Nd
 | .no=>[]
 | .cn i k=>[cnN i k]
 | .inp j=>[VH j]
 | .bi op l r _=>[biN op l r]
 | .po l e _=>[poN l e]
def Ex.ty (ks:List Nat):Ex→List Nat
 | .no=>[]
 | .cn _ k=>[k]
 | .inp j=>[ks.getD j 0]
 | .bi _ _ _ k=>[k]
 | .po _ _ k=>[k]
def Ex.tx:Ex→List (List UInt8)
 | .no=>[]
 | .cn i k=>[cnT i k]
 | .inp j=>[exT j]
 | .bi op l r _=>[exT (3+9*(op-3)+3*l+r)]
 | .po l e _=>[exT (39+5*l+e)]
def Ex.Ok (ks:List Nat):Ex→Prop
 | .no=>True
 | .cn i k=>i<33∧k<7
 | .inp j=>j<ks.length
 | .bi op l r k=>3≤op∧op<7∧l<ks.length∧r<ks.length∧Sv (op-3) (ks.getD l 0) (ks.getD r 0)=some k
 | .po l e k=>l<ks.length∧e<5∧Uf (ks.getD l 0) e=some k
structure Pr where
 id:Nat
 ks:List Nat
 x:Ex
structure Pr.Ok (p:Pr):Prop where
 i1:1≤p.id
 i2:p.id<950
 k1:1≤p.ks.length
 k3:p.ks.length≤3
 k7:∀k∈p.ks,k<7
 x:p.x.Ok p.ks
def Pr.xs (p:Pr):List Nd:=KO p.ks++p.x.nd
def Pr.ty (p:Pr):List Nat:=p.ks++p.x.ty p.ks
def Pr.ts (p:Pr):List (List UInt8):=(List.range p.ks.length).map exT++p.x.tx
def Pr.out (p:Pr):Nat:=p.ty.getD (p.xs.length-1) 0
section
variable {a b l r e i j k op:Nat} {ks:List Nat} {xs:List Nd} {id:Int} {o:UD}
theorem KY {N:Nat} (h:∀k∈ks,k<N) (hl:l<ks.length):ks.getD l 0<N:=by
 have e:ks.getD l 0=ks[l]:=by simp[List.getD,Kn hl]
 rw[e];exact h _ (QN hl)
theorem B7d (ha:a<7) (hb:b<7):PO (rt (L+20) (n+41)) Ou [.agg (uu a).cs,.agg (uu b).cs] (IE (Sv 0 a b)):=by
 have:=(C1L L (n+1) (7*a+b) (by omega)).o;rwa[show(7*a+b)/7=a by omega,show(7*a+b)%7=b by omega] at this
theorem B7i (ha:a<7) (hb:b<7):PO (rt (L+20) (n+41)) Hi [.agg (uu a).cs,.agg (uu b).cs] (IE (Sv 1 a b)):=by
 have:=(C1P L (n+1) (7*a+b) (by omega)).o;rwa[show(7*a+b)/7=a by omega,show(7*a+b)%7=b by omega] at this
theorem B7g (ha:a<7) (hb:b<7):PO (rt (L+20) (n+41)) L7 [.agg (uu a).cs,.agg (uu b).cs] (IE (Sv 2 a b)):=by
 have:=(C1N L (n+1) (7*a+b) (by omega)).o;rwa[show(7*a+b)/7=a by omega,show(7*a+b)%7=b by omega] at this
theorem B7h (ha:a<7) (hb:b<7):PO (rt (L+20) (n+41)) L8 [.agg (uu a).cs,.agg (uu b).cs] (IE (Sv 3 a b)):=by
 have:=(C1O L (n+1) (7*a+b) (by omega)).o;rwa[show(7*a+b)/7=a by omega,show(7*a+b)%7=b by omega] at this
theorem B7f (ha:a<7) (hb:e<5):PO (rt (L+20) (n+41)) HX [.agg (uu a).cs,.agg [I (YT e),I 1]] (IE (Uf a e)):=by
 have:=(C1M L (n+1) (5*a+e) (by omega)).o;rwa[show(5*a+e)/5=a by omega,show(5*a+e)%5=e by omega] at this
theorem B65 (ha:a<7) (hb:b<7) (h:Sv 0 a b=some k):PO (rt (L+20) (n+40)) Qp [.agg (uu a).cs,.agg (uu b).cs] (IE (some k)):=by
 have e1:(7*a+b)/7=a:=by omega
 have e2:(7*a+b)%7=b:=by omega
 have:=(B9z L n (7*a+b) (by omega) (by rw[e1,e2,h];rfl)).o;rwa[e1,e2,h] at this
theorem B69 (ha:a<7) (hb:b<7) (h:Sv 1 a b=some k):PO (rt (L+20) (n+40)) HT [.agg (uu a).cs,.agg (uu b).cs] (IE (some k)):=by
 have e1:(7*a+b)/7=a:=by omega
 have e2:(7*a+b)%7=b:=by omega
 have:=(B9D L n (7*a+b) (by omega) (by rw[e1,e2,h];rfl)).o;rwa[e1,e2,h] at this
theorem B67 (ha:a<7) (hb:b<7) (h:Sv 2 a b=some k):PO (rt (L+20) (n+40)) Qr [.agg (uu a).cs,.agg (uu b).cs] (IE (some k)):=by
 have e1:(7*a+b)/7=a:=by omega
 have e2:(7*a+b)%7=b:=by omega
 have:=(B9B L n (7*a+b) (by omega) (by rw[e1,e2,h];rfl)).o;rwa[e1,e2,h] at this
theorem B68 (ha:a<7) (hb:b<7) (h:Sv 3 a b=some k):PO (rt (L+20) (n+40)) Qs [.agg (uu a).cs,.agg (uu b).cs] (IE (some k)):=by
 have e1:(7*a+b)/7=a:=by omega
 have e2:(7*a+b)%7=b:=by omega
 have:=(B9C L n (7*a+b) (by omega) (by rw[e1,e2,h];rfl)).o;rwa[e1,e2,h] at this
theorem B66 (ha:a<7) (hb:e<5) (h:Uf a e=some k):PO (rt (L+20) (n+40)) Qq [.agg (uu a).cs,.agg [I (YT e),I 1]] (IE (some k)):=by
 have e1:(5*a+e)/5=a:=by omega
 have e2:(5*a+e)%5=e:=by omega
 have:=(B9A L n (5*a+e) (by omega) (by rw[e1,e2,h];rfl)).o;rwa[e1,e2,h] at this
theorem A9S (h1:1≤ks.length) (h3:ks.length≤3) (hk:∀k∈ks,k<7) (hl:l<ks.length) (hr:r<ks.length) (ho:3≤op) (ho':op<7):
 CS (rt (L+20) (n+42)) Cj [.agg (B1 id (BJ ks) (Cc xs) o),.agg (biN op l r).cs,I ks.length,PC ks] (A85 (Sv (op-3) (ks.getD l 0) (ks.getD r 0))):=by
 have ha:=KY hk hl
 have hb:=KY hk hr
 obtain rfl|rfl|rfl|rfl:op=3∨op=4∨op=5∨op=6:=by omega
 ·exact B3j h1 h3 hl hr (B7d ha hb)
 ·exact B3n h1 h3 hl hr (B7i ha hb)
 ·exact B3l h1 h3 hl hr (B7g ha hb)
 ·exact B3m h1 h3 hl hr (B7h ha hb)
theorem A9R (h1:1≤ks.length) (h3:ks.length≤3) (hk:∀k∈ks,k<7) (hl:l<ks.length) (he:e<5):
 CS (rt (L+20) (n+42)) Cj [.agg (B1 id (BJ ks) (Cc xs) o),.agg (poN l e).cs,I ks.length,PC ks] (A85 (Uf (ks.getD l 0) e)):=
 B3k h1 h3 hl he (B7f (KY hk hl) he)
theorem A6k {at_:Int} {w:AV} (hi:i<33) (hk:k<7):CS (rt (L+20) (n+42)) Cj [.agg (B1 id (BJ ks) (Cc xs) o),.agg (cnN i k).cs,I at_,w] (.tup [.agg (Cm (uu k)),I 0]):=
 B7k (B1b L n i hi).o (PW L n k (by omega)).o
end
section
variable {p:Pr} {o:UD}
theorem C25 (h:p.Ok):RTy L n p.id p.ks p.xs o p.ty:=by
 obtain⟨pid,ks,x⟩:=p
 obtain⟨i1,i2,k1,k3,k7,hx⟩:=h
 unfold Pr.xs Pr.ty
 cases x with
 |no=>
  simp only[Ex.nd,Ex.ty,Xn]
  exact C1E (l1m k3 (by decide))
 |cn i k=>exact A0m (l1m k3 (by decide)) (A6k hx.1 hx.2)
 |inp j=>
  refine A0m (l1m k3 (by decide)) ?_
  have hj:j<ks.length:=hx
  have e:ks.getD j 0=ks[j]:=by simp[List.getD,Kn hj]
  rw[e]
  exact Vp (n:=n+39) (l1m k3 (by decide)) hj
 |bi op l r k=>
  obtain⟨h1,h2,h3,h4,h5⟩:=hx
  refine A0m (l1m k3 (by decide)) ?_
  have:=A9S (L:=L) (n:=n) (id:=pid) (xs:=KO ks++[biN op l r]) (o:=o) k1 k3 k7 h3 h4 h1 h2
  rw[h5] at this
  exact this
 |po l e k=>
  obtain⟨h1,h2,h3⟩:=hx
  refine A0m (l1m k3 (by decide)) ?_
  have:=A9R (L:=L) (n:=n) (id:=pid) (xs:=KO ks++[poN l e]) (o:=o) k1 k3 k7 h1 h2
  rw[h3] at this
  exact this
theorem B2x {ks:List Nat} {i:Nat} (k1:1≤ks.length) (k3:ks.length≤3) {l:List Nat} (hl:l.length≤3) (hi:i<ks.length):WNd L n (BJ ks) l (VH i) (ks.getD i 0):=
 ⟨F2.getD 2 [],C2i,EP,.inr ⟨_,_,rfl⟩,λH K=>by kernel_rfl,by kernel_rfl,rfl,rfl,B2N (n:=n+39) hl,B6a (n:=n+39) k1 k3 hi⟩
theorem C24 (h:p.Ok):WTy L n p.ks p.xs p.ty:=by
 obtain⟨pid,ks,x⟩:=p
 obtain⟨i1,i2,k1,k3,k7,hx⟩:=h
 simp only at k1 k3 k7 hx
 intro i hi
 simp only[Pr.xs,Pr.ty] at hi⊢
 by_cases hlt:i<ks.length
 ·have e1:(KO ks++x.nd)[i]=VH i:=by
   rw[List.getElem_append_left (by rw[Et];exact hlt)];exact Xt _
  have e2:(ks++x.ty ks).getD i 0=ks.getD i 0:=by simp[List.getD,l0l hlt]
  rw[e1,e2]
  exact B2x k1 k3 (by rw[l0g];omega) hlt
 ·have e0:x.nd.length≤1:=by cases x<;>simp[Ex.nd]
  rw[XA2,Et] at hi
  obtain rfl:i=ks.length:=by omega
  have e1:∀y,x.nd=[y]→(KO ks++x.nd)[ks.length]'(by rw[XA2,Et];exact hi)=y:= λy hy=>by
   rw[List.getElem_append_right (by rw[Et];omega)];simp[hy,Et]
  have e2:∀k,x.ty ks=[k]→(ks++x.ty ks).getD ks.length 0=k:= λk hk=>by simp[List.getD,hk]
  have e3:(ks++x.ty ks).take ks.length=ks:=List.take_left' rfl
  rw[e3]
  cases x with
  |no=>simp[Ex.nd] at hi
  |cn i k=>
   rw[e1 _ rfl,e2 _ rfl]
   exact⟨F2.getD 1 [],AA,Dn,.inl rfl,λH K=>by kernel_rfl,by kernel_rfl,rfl,rfl,B2O (n:=n+39) k3,(B6b (B0W L n i hx.1).o (Ue L n k (by have:=hx.2;omega)).o).rv⟩
  |inp j=>
   rw[e1 _ rfl,e2 _ rfl]
   exact B2x k1 k3 k3 hx
  |bi op l r k=>
   obtain⟨h1,h2,h3,h4,h5⟩:=hx
   have ha:=KY k7 h3
   have hb:=KY k7 h4
   rw[e1 _ rfl,e2 _ rfl]
   obtain rfl|rfl|rfl|rfl:op=3∨op=4∨op=5∨op=6:=by omega
   ·exact⟨F2.getD 3 [],Z9,Eu,.inr ⟨_,_,rfl⟩,λH K=>by kernel_rfl,by kernel_rfl,rfl,rfl,B0R (n:=n+39) k1 k3 h3 h4,(B2y k1 k3 h3 h4 (B65 ha hb h5)).rv⟩
   ·exact⟨F2.getD 4 [],Z9,CX,.inr ⟨_,_,rfl⟩,λH K=>by kernel_rfl,by kernel_rfl,rfl,rfl,B0V (n:=n+39) k1 k3 h3 h4,(B2C k1 k3 h3 h4 (B69 ha hb h5)).rv⟩
   ·exact⟨F2.getD 5 [],Z9,Du,.inr ⟨_,_,rfl⟩,λH K=>by kernel_rfl,by kernel_rfl,rfl,rfl,B0T (n:=n+39) k1 k3 h3 h4,(B2A k1 k3 h3 h4 (B67 ha hb h5)).rv⟩
   ·exact⟨F2.getD 6 [],Z9,Dm,.inr ⟨_,_,rfl⟩,λH K=>by kernel_rfl,by kernel_rfl,rfl,rfl,B0U (n:=n+39) k1 k3 h3 h4,(B2B k1 k3 h3 h4 (B68 ha hb h5)).rv⟩
  |po l e k=>
   obtain⟨h1,h2,h3⟩:=hx
   rw[e1 _ rfl,e2 _ rfl]
   exact⟨F2.getD 7 [],C26,DL,.inr ⟨_,_,rfl⟩,λH K=>by kernel_rfl,by kernel_rfl,rfl,rfl,B0S (n:=n+39) k1 k3 h1 h2,(B2z k1 k3 h1 h2 (B66 (KY k7 h1) h2 h3)).rv⟩
theorem C1R {j:Nat} (h:j<54):PS (rt (L+20) (n+41)) HV [.agg (exN j).cs] (S (exT j)):=
 B2 (λH=>by first|exact λK=>by kernel_rfl) (HF.1 (B3F L n) j (Jr.2 h))
theorem B9H {j:Nat} (h:j<54):PS (rt (L+20) (n+41)) EN [.agg (exN j).cs] (S (exT j)):=
 B2 (λH=>by first|exact λK=>by kernel_rfl) (HF.1 (B2M L n) j (Jr.2 h))
theorem B9e {j:Nat} (h:j<3):VH j=exN j:=by unfold exN;rw[if_pos h]
theorem C5W {op l r:Nat} (h1:3≤op) (h2:op<7) (h3:l<3) (h4:r<3):biN op l r=exN (3+9*(op-3)+3*l+r):=by
 obtain rfl|rfl|rfl|rfl:op=3∨op=4∨op=5∨op=6:=by omega
 all_goals obtain rfl|rfl|rfl:l=0∨l=1∨l=2:=by omega
 all_goals obtain rfl|rfl|rfl:r=0∨r=1∨r=2:=by omega
 all_goals rfl
theorem C5V {l e:Nat} (h3:l<3) (h4:e<5):poN l e=exN (39+5*l+e):=by
 obtain rfl|rfl|rfl:l=0∨l=1∨l=2:=by omega
 all_goals obtain rfl|rfl|rfl|rfl|rfl:=lt5 h4
 all_goals rfl
def NdT (L n:Nat) (y:Nd) (t:List UInt8):Prop:=PS (rt (L+20) (n+41)) HV [.agg y.cs] (S t)∧PS (rt (L+20) (n+41)) EN [.agg y.cs] (S t)
theorem A4N {j:Nat} (h:j<54):NdT L n (exN j) (exT j):=⟨C1R h,B9H h⟩
theorem B90 {y:Nd} (H:Hp):OV true depth [.agg y.cs] [.agg y.cs] H false:= λK=>by kernel_rfl
theorem C2j {i k:Nat} (hi:i<33) (hk:k<7):NdT L n (cnN i k) (cnT i k):=
 ⟨(B3E hi (Vq (n:=n+39) (by decide) (by decide)).o (B7c (n:=n+39)).o (RP L n k (by omega)).o (B1c L n i hi).o).ps B90,
  (B2L hi (B8Q (n:=n+39)).o (RC L n k (by omega)).o (B0X L n i hi).o).ps B90⟩
theorem B3T (h:p.Ok):p.ts.length=p.xs.length∧∀i (hi:i<p.xs.length),NdT L n p.xs[i] (p.ts.getD i []):=by
 obtain⟨pid,ks,x⟩:=p
 obtain⟨i1,i2,k1,k3,k7,hx⟩:=h
 simp only at k1 k3 k7 hx
 have hlen:x.tx.length=x.nd.length:=by cases x<;>rfl
 refine⟨by simp[Pr.ts,Pr.xs,Et,hlen],λi hi=> ?_⟩
 simp only[Pr.xs,Pr.ts] at hi⊢
 by_cases hlt:i<ks.length
 ·have e1:(KO ks++x.nd)[i]=VH i:=by
   rw[List.getElem_append_left (by rw[Et];exact hlt)];exact Xt _
  have e2:((List.range ks.length).map exT++x.tx).getD i []=exT i:=by
   rw[List.getD,l0l (by simpa using hlt)];simp[List.getElem?_range hlt]
  rw[e1,e2,B9e (by omega)]
  exact A4N (by omega)
 ·have e0:x.nd.length≤1:=by cases x<;>simp[Ex.nd]
  rw[XA2,Et] at hi
  obtain rfl:i=ks.length:=by omega
  have e1:∀y,x.nd=[y]→(KO ks++x.nd)[ks.length]'(by rw[XA2,Et];exact hi)=y:= λy hy=>by
   rw[List.getElem_append_right (by rw[Et];omega)];simp[hy,Et]
  have e2:∀t,x.tx=[t]→((List.range ks.length).map exT++x.tx).getD ks.length []=t:= λt ht=>by simp[List.getD,ht]
  cases x with
  |no=>simp[Ex.nd] at hi
  |cn i k=>rw[e1 _ rfl,e2 _ rfl];exact C2j hx.1 hx.2
  |inp j=>
   have hj:j<ks.length:=hx
   rw[e1 _ rfl,e2 _ rfl,B9e (by omega)]
   exact A4N (by omega)
  |bi op l r k=>
   obtain⟨h1,h2,h3,h4,h5⟩:=hx
   rw[e1 _ rfl,e2 _ rfl,C5W h1 h2 (by omega) (by omega)]
   exact A4N (by omega)
  |po l e k=>
   obtain⟨h1,h2,h3⟩:=hx
   rw[e1 _ rfl,e2 _ rfl,C5V (by omega) h2]
   exact A4N (by omega)
end
end
end Go.Abs
end
