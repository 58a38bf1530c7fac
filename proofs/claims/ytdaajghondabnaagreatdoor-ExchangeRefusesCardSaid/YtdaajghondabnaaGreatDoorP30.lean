import Derived.Test.YtdaajghondabnaaGreatDoorP29
set_option linter.all false
set_option maxHeartbeats 100000000
noncomputable section
namespace Go.Abs
open Go.RowKit Go.Proofs
set_option maxRecDepth 100000
section
variable{gs ls S T:ed}{x y p:AR}{c:Cd}
def Iv(hn:(gs.map Cd.id).Nodup)(hc:c∈gs):MB (gE gs) c.id=some c:=by
 induction gs with
 |nil=>cases hc
 |cons d gs ih=>
  rw[XI,List.nodup_cons]at hn;show MB ((d.id,d)::gE gs) c.id=some c;unfold MB;rcases Xh.1 hc with rfl|hc
  ·rw[Dq rfl]
  ·have:d.id≠c.id:=λe=>hn.1 (e▸Rc.2 ⟨c,hc,rfl⟩);rw[CF this];exact ih hn.2 hc
def tQ(hn:(gs.map Cd.id).Nodup)(hc:c∈gs):QJ gs c.id=c.ps:=by
 unfold QJ;rw[Iv hn hc]
def A1u(a:x∉gs.map Cd.id):QJ gs x=[]:=by
 unfold QJ;rw[YY (by rw[Xm];exact a)]
def A7h(hn:(gs.map Cd.id).Nodup)(h:ls.Perm gs):QJ ls x=QJ gs x:=by
 have b:(ls.map Cd.id).Perm (gs.map Cd.id):=h.map _;by_cases a:x∈gs.map Cd.id
 ·obtain⟨c,hc,rfl⟩:=Rc.1 a;rw[tQ hn hc,tQ (b.symm.nodup hn) (h.mem_iff.2 hc)]
 ·rw[A1u a,A1u (λhc=>a (b.mem_iff.1 hc))]
def A9G(hn:(gs.map Cd.id).Nodup)(h:ls.Perm gs){out:List AR}:(lH ls out).Perm (lH gs out):=by
 have a:(ls.map Cd.id).Perm (gs.map Cd.id):=h.map _;refine(l35 ((a.symm.nodup hn).sublist List.filter_sublist) (hn.sublist List.filter_sublist)).2 λx=>?_;show x∈lH ls out↔x∈lH gs out;rw[Wm,Wm,a.mem_iff,A7h hn h];simp only[a.mem_iff]
def A7n(hn:(gs.map Cd.id).Nodup)(h:ls.Perm gs):∀(N:Nat)(out:List AR),lP ls N out=lP gs N out:=by
 intro N
 induction N with
 |zero=>intro out;rfl
 |succ N ih=>
  intro out;have e:Et (lH ls out)=Et (lH gs out):=IF ((Bq _).trans ((A9G hn h).trans (Bq _).symm)) (DR _) (DR _);unfold lP;rw[e];cases Et (lH gs out) with
  |nil=>rfl
  |cons m t=>exact ih _
def A7m(hn:(gs.map Cd.id).Nodup)(h:ls.Perm gs):Wp ls=Wp gs:=by
 unfold Wp;rw[h.length_eq];exact A7n hn h _ _
def A7l(hn:(gs.map Cd.id).Nodup)(h:ls.Perm gs):hY ls=hY gs:=by
 unfold hY;rw[A7m hn h,h.length_eq]
def A4e(hn:(gs.map Cd.id).Nodup)(h:ls.Perm gs):Jw ls=Jw gs:=by
 have a:(ls.map Cd.id).Perm (gs.map Cd.id):=h.map _;refine IF ?_ (DR _) (DR _);refine(l35 (vF (a.symm.nodup hn)) (vF hn)).2 λx=>?_;rw[mL,mL,a.mem_iff];simp only[h.mem_iff]
def A43(h:ls.Perm gs):Kj ls=Kj gs:=by
 have a:(ls.map Cd.id).Perm (gs.map Cd.id):=h.map _;refine IF ?_ R_ R_;refine(l35 uR uR).2 λx=>?_;rw[Vz,Vz,a.mem_iff];simp only[h.mem_iff]
inductive Cmp(S:ed):AR->Prop
 |mk {c:Cd}:c∈S->(∀p∈c.ps,Cmp S p)->Cmp S c.id
def Cmp.ids(h:Cmp S x):x∈S.map Cd.id:=by
 cases h with
 |mk h1 _=>exact Rc.2 ⟨_,h1,rfl⟩
def Cmp.mono(a:∀c∈S,c∈T)(h:Cmp S x):Cmp T x:=by
 induction h with
 |mk h1 _ ih=>exact .mk (a _ h1) ih
def Cmp.par(hn:(S.map Cd.id).Nodup)(hc:c∈S)(h:Cmp S c.id):∀p∈c.ps,Cmp S p:=by
 generalize he:c.id=x at h;cases h with
 |@mk d h1 h2=>
  have e:d=c:=by
   have a1:=Iv hn h1;have a2:=Iv hn hc;rw[he,a1]at a2;exact l2b a2
  subst e;exact h2
open Classical in
def I4(S:ed):ed:=S.filter λc=>decide (Cmp S c.id)
def QA:c∈I4 S↔c∈S/\Cmp S c.id:=by
 rw[I4,l2z,@decide_eq_true_iff _ (_)]
def VM:x∈(I4 S).map Cd.id↔Cmp S x:=by
 constructor
 ·intro h;obtain⟨c,hc,rfl⟩:=Rc.1 h;exact(QA.1 hc).2
 ·intro h;obtain⟨c,hc,rfl⟩:=Rc.1 h.ids;exact Rc.2 ⟨c,QA.2 ⟨hc,h⟩,rfl⟩
def Xx(hn:(S.map Cd.id).Nodup):((I4 S).map Cd.id).Nodup:=hn.sublist (List.filter_sublist.map _)
def B21(hn:(S.map Cd.id).Nodup)(h:Cmp S x):¬Anc (I4 S) x x:=by
 have key:∀z,Cmp S z->∀y,Anc (I4 S) z y->¬Anc (I4 S) y y:=by
  intro z hz
  induction hz with
  |@mk c h1 h2 ih=>
   have hc:c∈I4 S:=QA.2 ⟨h1,.mk h1 h2⟩;intro y b;rw[A89]at b;have a:QJ (I4 S) c.id=c.ps:=tQ (Xx hn) hc;rw[a]at b;rcases b with⟨_,b⟩|⟨p,g,_,f⟩
   ·intro d;exact ih y b y d d
   ·exact ih p g y f
 intro e;exact key x h x e e
def A2t(hn:(S.map Cd.id).Nodup):(I4 S).length<=(Wp (I4 S)).length:=
 (B0u (Xx hn)).2 λ_ a=>B21 hn (VM.1 a)
end
section
variable{x:AR}
def RG:List AR->List AR
 |[]=>[]
 |a::l=>match RG l with
  |[]=>[a]
  |b::m=>if a=b then b::m else a::b::m
def Z_:∀{l:List AR},x∈RG l↔x∈l:=by
 intro l
 induction l with
 |nil=>exact Iff.rfl
 |cons a l ih=>
  unfold RG;cases h:RG l with
  |nil=>
   rw[h]at ih;simp only[Xh,List.not_mem_nil,or_false];exact⟨.inl,λd=>d.elim id λd=>absurd (ih.2 d) (by simp)⟩
  |cons b m=>
   rw[h]at ih;show x∈(if a=b then b::m else a::b::m)↔_;by_cases c:a=b
   ·rw[Dq c];subst c;rw[Xh (b:=a) (l:=l),<-ih];exact⟨.inr,λd=>d.elim (λe=>by simp[e]) id⟩
   ·rw[CF c,Xh (b:=a) (l:=b::m),Xh (b:=a) (l:=l),ih]
def wX(B:ed)(ex:List AR):List AR:=RG (Et (ex++Kj B))
def gvn(A:ed)(ws:List AR):ed:=(RG (Et (ws.filter λx=>decide (x∈A.map Cd.id)))).filterMap λx=>MB (gE A) x
def oI{A:ed}{c:Cd}(h:MB (gE A) x=some c):c∈A/\c.id=x:=by
 induction A with
 |nil=>cases h
 |cons d A ih=>
  change MB ((d.id,d)::gE A) x=some c at h;unfold MB at h;by_cases a:d.id=x
  ·rw[Dq a]at h;cases h
   exact⟨by simp,a⟩
  ·rw[CF a]at h;obtain⟨h1,h2⟩:=ih h;exact⟨by simp[h1],h2⟩
end
section
variable{S T:ed}{x:AR}
def Yi(S:ed):List AR:=Et ((S.map Cd.id).filter λx=>@decide (¬Cmp S x) (Classical.propDecidable _))
def T2(S:ed):ed:=(Wp (I4 S)).filterMap λx=>MB (gE S) x
def wF(d:(S.map Cd.id).Nodup):(T2 S).map Cd.id=Wp (I4 S):=by
 have h:∀l:List AR,(∀x∈l,x∈S.map Cd.id)->(l.filterMap λx=>MB (gE S) x).map Cd.id=l:=by
  intro l
  induction l with
  |nil=>intro _;rfl
  |cons a l ih=>
   intro h;obtain⟨c,hc,rfl⟩:=Rc.1 (h a (by simp));rw[List.filterMap_cons,Iv d hc];show c.id::_=_;rw[ih λx b=>h x (by simp[b])]
 exact h _ λx b=>by
  have:=(Su (gs:=I4 S)).1.ids x b;exact(VM.1 this).ids
def A2F(a:(S.map Cd.id).Nodup){c:Cd}:c∈T2 S↔c∈I4 S:=by
 rw[T2,List.mem_filterMap];obtain⟨h1,h2⟩:=Su (gs:=I4 S);constructor
 ·rintro⟨x,d,h⟩;obtain⟨b,rfl⟩:=oI h;exact QA.2 ⟨b,VM.1 (h1.ids _ d)⟩
 ·intro h;have hc:=QA.1 h;exact⟨c.id,h1.all (A2t a) (VM.2 hc.2),Iv a hc.1⟩
end
end Go.Abs
end
noncomputable section
end
noncomputable section
end
noncomputable section
namespace Go.Abs
open Go.RowKit Go.Proofs
set_option maxRecDepth 100000
section
variable{a v:AV}{b:Bool}{H:Hp}{D:Nat}{α:Type}
variable{L n:Nat}
def C0c(l:Is)(h:l.all isV=true):R9 b D l l H false:=by
 have:=K1 (b:=b) (D:=D) (H:=H) (λx:Value=>x) (l.map unV);rw[show((l.map unV).map λx=>AV.v x)=l from A6o h]at this;exact this
section
variable{e sz m:Nat}{ie i2:TI}{cs:Is}
def C0S(hsz:sz≠0)(hz:(B3 ie.zero).length=sz)(j:∀K:KV,FU e sz ie 0 [] [] K=K (.sl sz 0 0 0) [(0,.cells false e [])])(hc:cs.length=m*sz)(h1:cs.all AV.one=true)(hv:cs.all isV=true)(s:(dJ i2.d&&T6 sz (.list m cs))=true)(p:∀(H:Hp)(K:Nat->Is->Af),Tz H (.list m cs) K=K m cs)(hb:m*ie.bytes<=70368744177664)(hm:m<=70368744177664)(k:0<m):
 ∃f c,(∀K:KV,(FU e sz ie 0 [] [] λt g=>DK e sz ie i2 t (.list m cs) g K)=K f c)/\∀b,∃q,Fx b depth f (.list m cs) c q:=by
 have h:Bk [(0,.cells false e [])] e sz (.sl sz 0 0 0) 0 []:=.inr ⟨0,false,rfl,rfl,by simp⟩;obtain⟨f,c,a1,a2,u,w⟩:=apt (ie:=ie) (i2:=i2) h (λK=>p _ K) hc h1 hsz hz s (by rw[Kd];exact hb) (by rw[Kd];exact hm);rw[Kd,l3b]at a2;refine⟨f,c,λK=>?_,λb=>?_⟩
 ·rw[j];exact a1 K
 ·rcases a2 with⟨_,h2,_⟩|⟨r,q,rfl,h2,i⟩
  ·omega
  ·exact⟨_,VE (D:=depth-1) h2 i (C0c cs hv)⟩
def hbt{b m:Nat}(h:b<=1000)(c:m<999):(m+1)*b<=70368744177664:=by
 have:=Nat.mul_le_mul (show m+1<=1000 by omega) h;omega
def Pln(sz:Nat)(a:AV):Prop:=a=Av\/∃m cs,a=.list (m+1) cs/\cs.length=(m+1)*sz/\cs.all AV.one=true/\cs.all isV=true/\m<999
def Pln.fx(h:Pln sz a):Fx true depth a a H false:=by
 rcases h with rfl|⟨m,cs,rfl,_⟩
 ·exact CC
 ·exact OI
end
def C5D(h:Pln 3 a):CS (r! L (n+1)) F0 [a] a:=by
 intro K c;rw[Mf];unfold Fv Ih;rcases h with rfl|⟨m,cs,rfl,h1,h2,g,i⟩
 ·have e:∀{K:K2},Ar A2 .eql Av (AV.v (.slice none 0 0)) K=K (Bo true):=λ{K}=>id rfl;rw[e,Cu];exact c _ _ λb=>⟨false,CC⟩
 ·have e:∀{K:K2},Ar A2 .eql (.list (m+1) cs) (AV.v (.slice none 0 0)) K=K (Bo false):=λ{K}=>id rfl;rw[e,AZ];obtain⟨k,j,d,f⟩:=C0S (e:=Be) (sz:=3) (ie:=BG) (i2:=A2) (by decide) rfl (λK=>by kernel_rfl) h1 h2 g rfl (λH K=>VH) (hbt (show BG.bytes<=1000 by decide) i) (by omega) (by omega);rw[d];exact c _ _ f
def C5C(h:Pln 20 a):CS (r! L (n+1)) Eb [a] a:=by
 intro K c;rw[Me];unfold Fu Ih;rcases h with rfl|⟨m,cs,rfl,h1,h2,g,i⟩
 ·have e:∀{K:K2},Ar Al .eql Av (AV.v (.slice none 0 0)) K=K (Bo true):=λ{K}=>id rfl;rw[e,Cu];exact c _ _ λb=>⟨false,CC⟩
 ·have e:∀{K:K2},Ar Al .eql (.list (m+1) cs) (AV.v (.slice none 0 0)) K=K (Bo false):=λ{K}=>id rfl;rw[e,AZ];obtain⟨k,j,d,f⟩:=C0S (e:=AB) (sz:=20) (ie:=A0) (i2:=Al) (by decide) rfl (λK=>by kernel_rfl) h1 h2 g rfl (λH K=>VH) (hbt (show A0.bytes<=1000 by decide) i) (by omega) (by omega);rw[d];exact c _ _ f
def C5E(h:Pln 26 a):CS (r! L (n+1)) Ec [a] a:=by
 intro K c;rw[Mg];unfold Fw Ih;rcases h with rfl|⟨m,cs,rfl,h1,h2,g,i⟩
 ·have e:∀{K:K2},Ar Aw .eql Av (AV.v (.slice none 0 0)) K=K (Bo true):=λ{K}=>id rfl;rw[e,Cu];exact c _ _ λb=>⟨false,CC⟩
 ·have e:∀{K:K2},Ar Aw .eql (.list (m+1) cs) (AV.v (.slice none 0 0)) K=K (Bo false):=λ{K}=>id rfl;rw[e,AZ];obtain⟨k,j,d,f⟩:=C0S (e:=AY) (sz:=26) (ie:=AM) (i2:=Aw) (by decide) rfl (λK=>by kernel_rfl) h1 h2 g rfl (λH K=>VH) (hbt (show AM.bytes<=1000 by decide) i) (by omega) (by omega);rw[d];exact c _ _ f
def nM{K:KV}:(r! L (n+1)).call Bm [Av] H K=K Av H:=by
 rw[FY];unfold DJ Ih;have e:∀{K:K2},Ar Ac .eql Av (AV.v (.slice none 0 0)) K=K (Bo true):=λ{K}=>id rfl;rw[e,Cu]
def A4j{f:α->Is}(h:∀a,(f a).all isV=true)(l:List α):(l.flatMap f).all isV=true:=by
 rw[GG];intro x d;obtain⟨a,_,c⟩:=l39.1 d;exact GG.1 (h a) x c
def W!{f:α->Is}(h:∀a,(f a).all AV.one=true)(l:List α):(l.flatMap f).all AV.one=true:=by
 rw[GG];intro x d;obtain⟨a,_,c⟩:=l39.1 d;exact GG.1 (h a) x c
def A3Q{ts:dQ}(h:ts.length<=6):Pln 3 (E4 ts):=by
 cases ts with
 |nil=>exact .inl rfl
 |cons a l=>
  simp at h;exact .inr ⟨l.length,(a::l).flatMap NC,rfl,jB NC 3 (λ_=>rfl) (a::l),W! (λ_=>rfl) _,A4j (λ_=>rfl) _,by omega⟩
def B0m{ks:Hb}(h1:1<=ks.length)(h2:ks.length<=6):Pln 20 (BC ks):=by
 cases ks with
 |nil=>simp at h1
 |cons a l=>
  simp at h2;exact .inr ⟨l.length,(a::l).flatMap HI,rfl,jB HI 20 (λ_=>rfl) (a::l),W! (λ_=>rfl) _,A4j (λ_=>rfl) _,by omega⟩
def B0l{xs:List Nd}(h1:1<=xs.length)(h2:xs.length<=9):Pln 26 (Ci xs):=by
 cases xs with
 |nil=>simp at h1
 |cons a l=>
  simp at h2;exact .inr ⟨l.length,(a::l).flatMap Q!,rfl,jB Q! 26 (λ_=>rfl) (a::l),W! (λ_=>rfl) _,A4j (λ_=>rfl) _,by omega⟩
def Cd.fT(c:Cd):AV:=(c.csP Av).getD 28 .dk
def Cd.fI(c:Cd):AV:=(c.csP Av).getD 33 .dk
def Cd.fN(c:Cd):AV:=(c.csP Av).getD 34 .dk
def ZI(c:Cd)(P:AV):(c.csP P).getD 28 .dk=c.fT/\(c.csP P).getD 31 .dk=P/\(c.csP P).getD 33 .dk=c.fI/\(c.csP P).getD 34 .dk=c.fN/\(c.csP P).getD 66 .dk=Av/\(c.csP P).getD 67 .dk=Av:=by
 match c with
 |.re b u=>exact⟨rfl,rfl,rfl,rfl,rfl,rfl⟩
 |.co b p ps none=>exact⟨rfl,rfl,rfl,rfl,rfl,rfl⟩
 |.co b p ps (some (k,vd))=>exact⟨rfl,rfl,rfl,rfl,rfl,rfl⟩
def ZH(c:Cd)(P:AV):(c.csP P).set 28 c.fT=c.csP P/\(∀Q,(c.csP P).set 31 Q=c.csP Q)/\(c.csP P).set 33 c.fI=c.csP P/\(c.csP P).set 34 c.fN=c.csP P/\(c.csP P).set 66 Av=c.csP P/\(c.csP P).set 67 Av=c.csP P:=by
 match c with
 |.re b u=>exact⟨rfl,λQ=>rfl,rfl,rfl,rfl,rfl⟩
 |.co b p ps none=>exact⟨rfl,λQ=>rfl,rfl,rfl,rfl,rfl⟩
 |.co b p ps (some (k,vd))=>exact⟨rfl,λQ=>rfl,rfl,rfl,rfl,rfl⟩
def C0T{c:Cd}(h:c.Ok):Pln 3 c.fT/\Pln 20 c.fI/\Pln 26 c.fN:=by
 match c,h with
 |.re b u,⟨hb,_⟩=>exact⟨A3Q hb.ts.len,.inl rfl,.inl rfl⟩
 |.co b p ps none,⟨hb,d,_⟩=>exact⟨A3Q hb.ts.len,B0m d.k1 (by have:=d.k3;omega),B0l (by have:=d.k1;show 1<=(Lg p.ks++p.x.nd).length;rw[EK,DT];omega) (by
  have:=d.k3;show(Lg p.ks++p.x.nd).length<=9;rw[EK,DT];have:p.x.nd.length<=1:=by cases p.x<;>simp[Ex.nd]
  omega)⟩
 |.co b p ps (some (k,vd)),⟨hb,d,_⟩=>exact⟨A3Q hb.ts.len,B0m d.k1 (by have:=d.k3;omega),B0l (by have:=d.k1;show 1<=(Lg p.ks++p.x.nd).length;rw[EK,DT];omega) (by
  have:=d.k3;show(Lg p.ks++p.x.nd).length<=9;rw[EK,DT];have:p.x.nd.length<=1:=by cases p.x<;>simp[Ex.nd]
  omega)⟩
def Pln.cell{sz:Nat}(h:Pln sz a):B3 a=[a]/\AV.one a=true:=by
 rcases h with rfl|⟨m,cs,rfl,_⟩<;>exact⟨rfl,rfl⟩
def UU.cell{l:List AR}(h:UU H v l):B3 v=[v]/\AV.one v=true:=by
 rcases h with⟨rfl,_⟩|⟨_,_,_,_,rfl,_⟩<;>exact⟨rfl,rfl⟩
def UU.kp{H H':Hp}{l:List AR}(h:UU H v l)(k:∀u y,A9 v u->Ai H u=some y->Ai H' u=some y):UU H' v l:=by
 rcases h with h|⟨r,o,q,cs,rfl,h2,c,d⟩
 ·exact .inl h
 ·exact .inr ⟨r,o,q,cs,rfl,k r _ ⟨_,_,_,rfl⟩ h2,c,d⟩
def UU.fxc{l:List AR}(h:UU H v l)(c:l=[]->v=Av):∃q,Fx b (D+1) v (DD l) H q:=by
 cases l with
 |nil=>rw[c rfl];exact⟨false,CC⟩
 |cons a l=>
  rcases h with⟨_,h⟩|⟨r,o,q,cs,rfl,h2,d,f⟩
  ·cases h
  ·refine⟨true,Xn (q':=false) h2 (by rw[qZ];omega) ?_⟩;rw[d,qZ];have:(AE (a::l)).take (a::l).length=AE (a::l):=l25 (by rw[Bc];omega);rw[this];exact VD _
def A0S{c:Cd}(ae:c.Ok)(af:c.ps.length<100):CT (r! L (n+2)) Lq [.agg c.cs] (.agg c.cs):=by
 intro K hK;rw[dA];unfold OD Dz;obtain⟨pT,pI,pN⟩:=C0T ae;have e0:c.cs=c.csP (DD c.ps):=(A4J c).symm;have one:∀P,AV.one P=true->(c.csP P).all AV.one=true:=λP h=>rL c h;have Y:AV.one (DD c.ps)=true:=by cases c.ps<;>rfl
 have l0:∀{H:Hp},Ai H 0=some (c_ Ad (c.csP (DD c.ps)))->True:=λ_=>trivial;have same:∀{H:Hp}{P:AV}{p:Nat}{i:TI}{v:AV}{K:Ru},Ai H 0=some (c_ Ad (c.csP P))->p<68->i.size=1->B3 v=[v]/\AV.one v=true->(c.csP P).set p v=c.csP P->DF i (.ptr 0 p 0) v H K=K (upd H 0 (c_ Ad (c.csP P))):=λ{H P p i v K}hl hp hi hv hs=>by
  rw[D6 (cs:=c.csP P) hl (by rw[Pb];exact hp) hi hv.1 hv.2,hs]
 have w:∀{H:Hp}{P:AV}{p:Nat}{i:TI}{v:AV}{K:K2},i.d.isAgg=false->Ai H 0=some (c_ Ad (c.csP P))->p<68->(c.csP P).getD p .dk=v->AD i (.ptr 0 p 0) H K=K v:=λ{H P p i v K}hi hl hp hv=>by
  rw[AF (p:=p) hi hl (by rw[Pb];exact hp),hv]
 have eb:∀{K:KV},FN Ad (.agg (c.csP (DD c.ps))) [] K=K (.ptr 0 0 0) [(0,c_ Ad (c.csP (DD c.ps)))]:=λ{K}=>DN (one _ Y);have ea:∀{K:KV},Bx Ad Ae [(0,c_ Ad (c.csP (DD c.ps)))] K=K (.ptr 1 0 0) [(1,c_ Ad CN),(0,c_ Ad (c.csP (DD c.ps)))]:=λ{K}=>B1 (cs:=CN) rfl;rw[e0,eb,ea];have h0:Ai [(1,c_ Ad CN),(0,c_ Ad (c.csP (DD c.ps)))] 0=some (c_ Ad (c.csP (DD c.ps))):=rfl;have h1:Ai [(1,c_ Ad CN),(0,c_ Ad (c.csP (DD c.ps)))] 1=some (c_ Ad CN):=rfl;have w0:Wf [(1,c_ Ad CN),(0,c_ Ad (c.csP (DD c.ps)))]:=AG (AG FH);show CD 26 (.ptr 0 0 0) _=_;rw[fA,fA];show AD A2 (.ptr 0 28 0) [(1,c_ Ad CN),(0,c_ Ad (c.csP (DD c.ps)))] _=_;generalize [(1,c_ Ad CN),(0,c_ Ad (c.csP (DD c.ps)))]=H at h0 h1 w0;rw[w rfl h0 (by decide) (ZI c _).1,AP (C5D (n:=n) pT) (Ao pT.fx AH),fA,fA];show DF A2 (.ptr 0 28 0) c.fT H _=_;rw[same h0 (by decide) rfl pT.cell (ZH c _).1];have Z:=AC (q:=true) (e:=Ad) (cs:=c.csP (DD c.ps)) h0;have a1:Ai (upd H 0 (c_ Ad (c.csP (DD c.ps)))) 1=some (c_ Ad CN):=by rw[Ag (by decide)];exact h1
 have aw:Wf (upd H 0 (c_ Ad (c.csP (DD c.ps)))):=Bj w0;generalize upd H 0 (c_ Ad (c.csP (DD c.ps)))=H1 at Z a1 aw;show CD 31 (.ptr 0 0 0) _=_;rw[fA];show AD Ac (.ptr 0 31 0) H1 _=_;rw[w rfl Z (by decide) (ZI c _).2.1];have main:∀v f,UU f v c.ps->(c.ps=[]->v=Av)->Ai f 0=some (c_ Ad (c.csP (DD c.ps)))->Ai f 1=some (c_ Ad CN)->(∀u,A9 v u->1<u)->Wf f->
  (CD 31 (.ptr 0 0 0) λah=>DF Ac ah v f λr=>CD 32 (.ptr 0 0 0) λai=>CD 1 ai λaj=>AD Al aj r λak=>Ap (r! L (n+1)) Eb [ak] r λam=>
   CD 32 (.ptr 0 0 0) λao=>CD 1 ao λap=>DF Al ap am r λs=>CD 32 (.ptr 0 0 0) λaq=>CD 2 aq λar=>AD Aw ar s λax=>Ap (r! L (n+1)) Ec [ax] s λay=>
   CD 32 (.ptr 0 0 0) λaz=>CD 2 az λa3=>DF Aw a3 ay s λx=>CD 65 (.ptr 0 0 0) λa4=>CD 1 a4 λa5=>AD Ac a5 x λa6=>(r! L (n+1)).call Bm [a6] x λa7 aa=>
   CD 65 (.ptr 0 0 0) λa8=>CD 1 a8 λa9=>DF Ac a9 a7 aa λC=>CD 65 (.ptr 0 0 0) λba=>CD 2 ba λbc=>AD Ac bc C λbd=>(r! L (n+1)).call Bm [bd] C λbe ab=>
   CD 65 (.ptr 0 0 0) λbf=>CD 2 bf λbg=>DF Ac bg be ab λF=>AD Ae (.ptr 0 0 0) F λbh=>DF Ae (.ptr 1 0 0) bh F λJ=>AD Ae (.ptr 1 0 0) J λbj=>K bj J)=some (.agg (c.csP (DD c.ps)),[]):=λv f hv ag b0 b1 hr bw=>by
  rw[fA];show DF Ac (.ptr 0 31 0) v f _=_;rw[D6 (cs:=c.csP (DD c.ps)) b0 (by rw[Pb];decide) rfl hv.cell.1 hv.cell.2,(ZH c _).2.1 v];have M:UU (upd f 0 (c_ Ad (c.csP v))) v c.ps:=hv.kp λu y j X=>by rw[Ag (by have:=hr u j;omega)];exact X
  have c0:=AC (q:=true) (e:=Ad) (cs:=c.csP v) b0;have c1:Ai (upd f 0 (c_ Ad (c.csP v))) 1=some (c_ Ad CN):=by rw[Ag (by decide)];exact b1
  have cw:Wf (upd f 0 (c_ Ad (c.csP v))):=Bj bw;generalize upd f 0 (c_ Ad (c.csP v))=H3 at M c0 c1 cw;have k:∀{H:Hp},Ai H 0=some (c_ Ad (c.csP v))->Ai H 1=some (c_ Ad CN)->UU H v c.ps->Ai (upd H 0 (c_ Ad (c.csP v))) 0=some (c_ Ad (c.csP v))/\Ai (upd H 0 (c_ Ad (c.csP v))) 1=some (c_ Ad CN)/\UU (upd H 0 (c_ Ad (c.csP v))) v c.ps:=λ{H}t g1 g2=>
   ⟨AC t,by rw[Ag (by decide)];exact g1,g2.kp λu y j X=>by rw[Ag (by have:=hr u j;omega)];exact X⟩
  rw[fA,fA];show AD Al (.ptr 0 33 0) H3 _=_;rw[w rfl c0 (by decide) (ZI c _).2.2.1,AP (C5C (n:=n) pI) (Ao pI.fx AH),fA,fA];show DF Al (.ptr 0 33 0) c.fI H3 _=_;rw[same c0 (by decide) rfl pI.cell (ZH c _).2.2.1];obtain⟨d0,d1,N⟩:=k c0 c1 M;generalize upd H3 0 (c_ Ad (c.csP v))=H4 at d0 d1 N;rw[fA,fA];show AD Aw (.ptr 0 34 0) H4 _=_;rw[w rfl d0 (by decide) (ZI c _).2.2.2.1,AP (C5E (n:=n) pN) (Ao pN.fx AH),fA,fA];show DF Aw (.ptr 0 34 0) c.fN H4 _=_;rw[same d0 (by decide) rfl pN.cell (ZH c _).2.2.2.1];obtain⟨f0,f1,O⟩:=k d0 d1 N;generalize upd H4 0 (c_ Ad (c.csP v))=H5 at f0 f1 O;rw[fA,fA];show AD Ac (.ptr 0 66 0) H5 _=_;rw[w rfl f0 (by decide) (ZI c _).2.2.2.2.1,nM,fA,fA];show DF Ac (.ptr 0 66 0) Av H5 _=_;rw[same f0 (by decide) rfl ⟨rfl,rfl⟩ (ZH c _).2.2.2.2.1];obtain⟨t,g1,Q⟩:=k f0 f1 O;generalize upd H5 0 (c_ Ad (c.csP v))=H6 at t g1 Q;rw[fA,fA];show AD Ac (.ptr 0 67 0) H6 _=_;rw[w rfl t (by decide) (ZI c _).2.2.2.2.2,nM,fA,fA];show DF Ac (.ptr 0 67 0) Av H6 _=_;rw[same t (by decide) rfl ⟨rfl,rfl⟩ (ZH c _).2.2.2.2.2];obtain⟨i0,i1,R⟩:=k t g1 Q;generalize upd H6 0 (c_ Ad (c.csP v))=H7 at i0 i1 R;rw[Bu rfl (by exact(Pb c).symm) i0,BX (cs:=CN) (vs:=c.csP v) i1 (by rw[Pb];rfl) rfl (one v hv.cell.2)];have j1:=AC (q:=true) (e:=Ad) (cs:=c.csP v) i1;have V:UU (upd H7 1 (c_ Ad (c.csP v))) v c.ps:=R.kp λu y j X=>by rw[Ag (by have:=hr u j;omega)];exact X
  rw[Bu rfl (by exact(Pb c).symm) j1];rw[<-e0];refine hK _ _ ?_;generalize upd H7 1 (c_ Ad (c.csP v))=H8 at V;obtain⟨q,hq⟩:=V.fxc ag (b:=true) (D:=depth-2);obtain⟨A,B,e,ac,ad⟩:=nL c;rw[e0,e,e];exact⟨_,LF (D:=depth-1) (V' (Z7 A ac) (Ao hq (Z7 B ad)))⟩
 by_cases g:c.ps=[]
 ·have en:DD c.ps=Av:=by rw[g];rfl
  have:=main Av H1 (.inl ⟨rfl,g⟩) (λ_=>rfl) Z a1 (λu j=>absurd j IN) aw;rw[en];rw[en]at this;rw[nM];exact this
 ·refine B3o (n:=n) aw af λv f hv hk hr hw=>main v f hv (λh=>absurd h g) (hk _ _ Z) (hk _ _ a1) (λu j=>?_) hw;have b1:=hr u j;have b2:=aw.lt a1;omega
end
section
variable{L n:Nat}
def B1V{a b:AR}:∀m:List AR,RG (m++[a,b])=RG (m++[a])++if b=a then[] else[b]:=by
 intro m
 induction m with
 |nil=>
  show(match(match([]:List AR) with|[]=>[b]|c::q=>if b=c then c::q else b::c::q) with|[]=>[a]|c::q=>if a=c then c::q else a::c::q)=[a]++_;by_cases h:b=a
  ·subst h;simp
  ·simp[h,Ne.symm h]
 |cons x m ih=>
  have e:∀l:List AR,RG (x::l)=match RG l with|[]=>[x]|c::q=>if x=c then c::q else x::c::q:=λl=>rfl
  rw[List.cons_append,List.cons_append,e,e,ih];cases h:RG (m++[a]) with
  |nil=>
   have:a∈RG (m++[a]):=Z_.2 (by simp);rw[h]at this;cases this
  |cons c q=>
   show(if x=c then c::(q++_) else x::c::(q++_))=(if x=c then c::q else x::c::q)++_;by_cases d:x=c
   ·rw[Dq d,Dq d];rfl
   ·rw[CF d,CF d];rfl
def A2s{l:List AR}{j:Nat}(h1:1<=j)(h:j<l.length):RG (l.take (j+1))=RG (l.take j)++if l[j]=l[j-1] then[] else[l[j]]:=by
 have a:l.take j=l.take (j-1)++[l[j-1]]:=by
  have:=oH (l:=l) (i:=j-1) (by omega);rw[show j-1+1=j by omega]at this;exact this
 have b:l.take (j+1)=l.take (j-1)++[l[j-1],l[j]]:=by
  rw[oH h,a,fQ];rfl
 rw[b,B1V,<-a]
def C0M(l:List AR):(RG l).length<=l.length:=by
 induction l with
 |nil=>exact Mh _
 |cons a l ih=>
  unfold RG;cases h:RG l with
  |nil=>simp
  |cons b m=>
   rw[h]at ih;show(if a=b then b::m else a::b::m).length<=_;split
   ·simp at ih⊢;omega
   ·simp at ih⊢;omega
section
variable{l:List AR}{H:Hp}{K:KV}{x:Af}{R:Rt}
def B1I{r o i m:Nat}{K:K2}(h:i<m):DC Ac (.sl 1 r o m) (I (i:Int)) K=K (.ptr r (o+i) 0):=by
 have a:DC Ac (.sl 1 r o m) (I (i:Int)) K=iN (i:Int) λn=>ck (Nat.blt n m) (fN (Nat.add o (Nat.mul n 1)) λp=>K (.ptr r p 0)):=rfl;rw[a,Kk,Ee];have h1:Nat.blt i m=true:=by rw[Xi];exact h
 rw[h1];show K (.ptr r (o+i*1) 0)=_;rw[qZ]
def C4a{k31:AV->KV}{H0:Hp}{r B:Nat}{q:Bool}{tl:Is}(hb:l.length<1000000)(Q:1<=B)(N:B<l.length)(g:∀cs H',Ai H' r=some (.cells q Aq cs)->cs.length=l.length+tl.length->cs.take (RG l).length=AE (RG l)->Lat H0 H' (λu=>u=r)->k31 (.sl 1 r 0 l.length) (I (RG l).length) H'=x):
 ∀(f i:Nat)(cs:Is)(H':Hp),1<=i->B+i<=l.length->l.length-(B+i)<f->Ai H' r=some (.cells q Aq cs)->cs.length=l.length+tl.length->cs.take (RG (l.take (B+i))).length=AE (RG (l.take (B+i)))->cs.drop (B+i-1)=AE (l.drop (B+i-1))++tl->(RG (l.take (B+i))).length<B+i->Lat H0 H' (λu=>u=r)->
 FI (L+20) R K k31 f (.sl 1 r 0 l.length) (I (RG (l.take (B+i))).length) (.sl 1 r B (l.length-B)) (I i) H'=x:=by
 intro f
 induction f with
 |zero=>intro i cs H' _ _ h;omega
 |succ f ih=>
  intro i cs H' X O V m b t y J D;rw[Mr];unfold FJ IA Km A3;have el:∀K,Bh Ac (.sl 1 r B (l.length-B)) K=K (I ((l.length-B:Nat):Int)):=λK=>id rfl;rw[el];by_cases h:B+i<l.length
  ·have A:∀j,B+i-1<=j->(d:j<l.length)->(hc:j<cs.length)->cs[j]=S l[j]:=λj h1 d hc=>by
    have c:cs[j]?=(cs.drop (B+i-1))[j-(B+i-1)]?:=by rw[qH];congr 1;omega
    rw[y,l0m (by rw[Bc,l0u];omega)]at c;have M:(AE (l.drop (B+i-1)))[j-(B+i-1)]?=some (S l[j]):=by
     unfold AE;rw[yH,qH,show B+i-1+(j-(B+i-1))=j by omega,KL d];rfl
    rw[M,KL hc]at c;exact l2b c
   have e:∀{j:Nat}{K:K2},B+i-1<=j->(d:j<l.length)->AD Ah (.ptr r j 0) H' K=K (S l[j]):=λ{j K}h1 d=>by
    rw[AF (p:=j) rfl m (by omega),UW,KL (by omega:j<cs.length),l1q,A j h1 d (by omega)]
   have a:=A2s (l:=l) (j:=B+i) (by omega) h;rw[Fz (by omega),Cu];simp only[BE];have k:∀{K:K2},DC Ac (.sl 1 r B (l.length-B)) (I (i:Int)) K=K (.ptr r (B+i) 0):=λ{K}=>B1I (by omega);have C:∀{K:K2},DC Ac (.sl 1 r B (l.length-B)) (I ((i-1:Nat):Int)) K=K (.ptr r (B+i-1) 0):=λ{K}=>by
    rw[B1I (by omega),show B+(i-1)=B+i-1 by omega]
   rw[k,Bw,e (by omega) h,Bw,gK (by omega) (by omega),Bw,C,Bw,e (Mh _) (by omega),Bw,RF];by_cases he:l[B+i]=l[B+i-1]
   ·rw[Dq he,V0]at a;rw[HR he];show Au (some (.v (.bool false),[])) _=_;rw[Bw,AZ,Db (by omega)];have:=ih (i+1) cs H' (by omega) (by omega) (by omega) m b (by rw[show B+(i+1)=B+i+1 by omega,a];exact t) (by
     have c:=congrArg (List.drop 1) y;rw[l1a,show B+i-1+1=B+(i+1)-1 by omega]at c;rw[c,l34 (by rw[Bc,l0u];omega)]
     congr 1
     unfold AE;rw[<-List.map_drop,l1a,show B+i-1+1=B+(i+1)-1 by omega]) (by rw[show B+(i+1)=B+i+1 by omega,a];omega) D
    rw[show B+(i+1)=B+i+1 by omega,a]at this;exact this
   ·rw[CF he]at a;rw[HW he];show Au (some (.v (.bool true),[])) _=_;have F:(RG (l.take (B+i))).length<l.length:=by omega
    rw[Bw,Cu,k,e (by omega) h,R5 F,D6 m (by omega) rfl rfl rfl,Db (by omega),Db (by omega)];have w:(RG (l.take (B+i+1))).length=(RG (l.take (B+i))).length+1:=by rw[a,EK];rfl
    have:=ih (i+1) (cs.set (RG (l.take (B+i))).length (S l[B+i])) (upd H' r (.cells q Aq (cs.set (RG (l.take (B+i))).length (S l[B+i])))) (by omega) (by omega) (by omega) (AC m) (by rw[List.length_set];exact b) (by
     rw[show B+(i+1)=B+i+1 by omega,w,a];have s:(RG (l.take (B+i))).length<(cs.set (RG (l.take (B+i))).length (S l[B+i])).length:=by rw[List.length_set];omega
     rw[oH s,List.getElem_set_self,List.take_set_of_le (Mh _),t];simp[AE]) (by
     rw[List.drop_set_of_lt (by omega)];have c:=congrArg (List.drop 1) y;rw[l1a,show B+i-1+1=B+(i+1)-1 by omega]at c;rw[c,l34 (by rw[Bc,l0u];omega)]
     congr 1
     unfold AE;rw[<-List.map_drop,l1a,show B+i-1+1=B+(i+1)-1 by omega]) (by rw[show B+(i+1)=B+i+1 by omega,w];omega) (D.trans (Lat.upd _ _ _ (P:=λu=>u=r) rfl) (λ_ _ h=>h) (λ_ _ h=>h))
    rw[show B+(i+1)=B+i+1 by omega,w]at this;exact this
  ·have d:B+i=l.length:=by omega
   rw[Fp (by omega),AZ];rw[d,l25 (Mh _)]at t J⊢;exact g cs H' m b t D
def B63{v:AV}(wf:Wf H)(h:NB H v l)(hb:l.length<100000)(hL:200000<L)(D:∀N g,NB g N (RG l)->(∀u,A9 N u->A9 v u)->(v=Av->N=Av)->Lat H g (A9 v)->K N g=x):(rt (L+20) (n+1)).call Cw [v] H K=x:=by
 rw[IG];unfold Ew A3;simp only[BE];rw[h.len];have e1:(AV.v (.int .i64 1))=I ((1:Nat):Int):=rfl;have e2:(AV.v (.int .i64 2))=I ((2:Nat):Int):=rfl;rw[e1,e2];by_cases h2:l.length<2
 ·rw[Fz (by omega),Cu];have ec:RG l=l:=by
   match l,h2 with
   |[],_=>rfl
   |[a],_=>rfl
  rw[ec]at D;exact D v H h (λ_ h=>h) (λh=>h) (Lat.refl _ _)
 ·rw[Fp (by omega),AZ];rcases h with⟨_,rfl⟩|⟨r,q,tl,rfl,V⟩
  ·simp at h2
  have C:∀u,A9 (.sl 1 r 0 l.length) u↔u=r:=λu=>⟨λ⟨_,_,_,h⟩=>by injection h with _ h;exact h.symm,λh=>h▸⟨1,0,_,rfl⟩⟩
  have lat:∀{g},Lat H g (λu=>u=r)->Lat H g (A9 (.sl 1 r 0 l.length)):=λk=>⟨k.wf,k.nx,λw u y X hn=>k.keep w u y X λe=>hn ((C u).2 e)⟩
  have s:∀{j:Nat}{K:K2},(M:j<l.length)->AD Ah (.ptr r j 0) H K=K (S l[j]):=λ{j K}M=>by
   rw[AF (p:=j) rfl V (by rw[EK,Bc];omega),UW,l0m (by rw[Bc];omega)];unfold AE;rw[yH,KL M];rfl
  have lp:∀(f i:Nat)(d1 d2:AV),1<=i->i<=l.length->l.length-i<f->RG (l.take i)=l.take i->
   Ej (L+20) (rt (L+20) n) K (λv H=>K v H) f (.sl 1 r 0 l.length) (I i) d1 d2 H=x:=by
   intro f
   induction f with
   |zero=>intro i d1 d2 _ _ h;omega
   |succ f ih=>
    intro i d1 d2 A hi hf hc;rw[Iy];unfold Ek Km A3;have el:∀K,Bh Ac (.sl 1 r 0 l.length) K=K (I l.length):=λK=>id rfl;rw[el];by_cases d:i<l.length
    ·rw[Fz (by omega),Cu,R5 d,Bw,s d,Bw,gK (by omega) (by omega),Bw,R5 (by omega),Bw,s (by omega),Bw,Mn];have b:=A2s (l:=l) (j:=i) A d;by_cases he:l[i]=l[i-1]
     ·rw[Dq he,V0,hc]at b;rw[HR he,Bw,Cu,ZC hi];simp only[BE];rw[e1];have c:(RG (l.take (i+1))).length=i:=by rw[b,l0h];omega
      have main:=C4a (L:=L) (R:=rt (L+20) n) (K:=K) (H0:=H) (r:=r) (B:=i) (q:=q) (tl:=tl) (x:=x)
       (k31:=λF J P=>Es Ac F (some J) none none λY=>vS 1 Ah Y P λO=>Es Ac F none (some J) none λZ=>K Z O)
       (by omega) A d (λcs g g1 g2 g3 g4=>?_) (L+20) 1 (AE l++tl) H (by omega) (by omega) (by omega) V (by rw[EK,Bc]) (by
        rw[c,b,l32 (by rw[Bc];omega)];simp[AE,List.map_take]) (by
        rw[show i+1-1=i by omega,l34 (by rw[Bc];omega)];simp[AE,List.map_drop]) (by rw[c];omega) (Lat.refl _ _)
      ·rw[c]at main;exact main
      ·have t:=C0M l;obtain⟨Q,H2,c1,c2,c3,c4⟩:=B1O (H:=g) (r:=r) (i:=(RG l).length) (m:=l.length-(RG l).length) g1 (by omega);show(Es Ac (.sl 1 r 0 l.length) (some (I ((RG l).length:Nat))) none none _)=_;rw[ZC t,c1,ZD t];refine D _ H2 (.inr ⟨r,q,Q.drop (RG l).length,rfl,?_⟩) (λu X=>?_) (λh=>by cases h) (lat (g4.trans c4 (λ_ _ h=>h) (λ_ _ h=>h)))
       ·rw[c2,<-g3,<-c3,l38]
       ·obtain⟨_,_,_,h⟩:=X;injection h with _ h
        exact⟨1,0,_,by rw[h]⟩
     ·rw[CF he,hc]at b;rw[HW he,Bw,AZ,Db (by omega)];exact ih (i+1) _ _ (by omega) (by omega) (by omega) (by rw[b,oH d])
    ·have M:i=l.length:=by omega
     subst M;rw[l25 (Mh _)]at hc;rw[Fp (by omega),AZ];rw[hc]at D;exact D _ H (.inr ⟨r,q,tl,rfl,V⟩) (λ_ h=>h) (λh=>h) (Lat.refl _ _)
  refine lp (L+20) 1 _ _ (by omega) (by omega) (by omega) ?_
  match l,h2 with
  |[],h2=>simp at h2
  |a::l,_=>rfl
end
end
section
variable{c:Cd}{H:Hp}{D:Nat}
variable{L n:Nat}
section
variable{l:List AR}{P:AR->Bool}
def B5o:(decide (0<=fiN P l 0))=l.any P:=by
 rcases A21 P l 0 with⟨h1,h2⟩|⟨i,d,h1,h2,_⟩
 ·have:l.any P=false:=by
   rw[List.any_eq_false];intro a b;rw[h2 a b];simp
  rw[this,h1];rfl
 ·have:l.any P=true:=List.any_eq_true.2 ⟨_,Qk d,h2⟩;rw[this,h1,HR (by omega)]
def sK{a fn:AV}(f:SA l a)(i:∀(s:AR)(K:KV),C4 (E (L+20)) (r! L n) fn [S s] [] K=K (Bo (P s)) [])(d:Fx true depth fn fn [] false)(hb:l.length<1000000)(h:l.length<L):CS (r! L (n+2)) B8 [a,fn] (Bo (l.any P)):=by
 intro K g;rw[GK];unfold D3 LR;rw[AP (B62 (n:=n) f i hb h) (Ao (f.fx []) (Ao d AH))];have e:∀{K:K2},Ar Ab .geq (I (fiN P l 0)) (AV.v (.int .i64 0)) K=K (Bo (l.any P)):=λ{K}=>by
  rw[KO,B5o]
 rw[e];exact g _ _ λb=>⟨false,CC⟩
end
def A4f{D r:Nat}{es:ed}{f:Option (Hb×Nat)}(h:Ai H r=some (.map false (Di DX (gE es)) f)):Fx true (D+4) (.mp r) (.imap (Di DX (gE es))) H true:=by
 intro K;show IR H r (λx=>qG x λes=>Rb (HV true H (D+3)) es λ_ b=>K true (.imap b))=_;rw[Bp h];show Rb (HV true H (D+3)) (Di DX (gE es)) _=_;have e:∀(es:List (AR×Cd))(F:Bool->IH->Af),Rb (HV true H (D+3)) (Di DX es) F=F false (Di DX es):=by
  intro es
  induction es with
  |nil=>intro F;rfl
  |cons a es ih=>
   intro F;show HV true H (D+3) (.agg a.2.cs) (λq d=>Rb (HV true H (D+3)) (Di DX es) λi g=>F (@Bool.rec (λ_=>Bool) i true q) ((SV a.1,d)::g))=_;rw[A4O,ih];rfl
 rw[e]
section
variable{S out:ed}{x:AR}
def B20(a:∀c∈S,(∀p∈c.ps,p∈out.map Cd.id)->c.id∈out.map Cd.id)(b:Cmp S x):x∈out.map Cd.id:=by
 induction b with
 |mk h1 _ ih=>exact a _ h1 ih
def Zy{l:ed}(h:(l.map Cd.id).Nodup):l.Nodup:=List.Pairwise.of_map Cd.id (λa b d e=>d (e▸rfl)) h
structure Ps(S out:ed):Prop where
 nd:(out.map Cd.id).Nodup
 sub:∀c∈out,c∈S
 cmp:∀c∈out,Cmp S c.id
def Ps.nil:Ps S []:=⟨List.nodup_nil,by simp,by simp⟩
def Ps.add(h:Ps S out)(hc:c∈S)(m:∀p∈c.ps,p∈out.map Cd.id)(hn:c.id∉out.map Cd.id):Ps S (out++[c]):=by
 have g:Cmp S c.id:=.mk hc λp j=>by
  obtain⟨d,f,i⟩:=Rc.1 (m p j);rw[<-i];exact h.cmp d f
 refine⟨?_,λd f=>?_,λd f=>?_⟩
 ·rw[Z6];refine l36.2 ⟨h.nd,by simp,λa k b hb=>?_⟩;simp at hb;subst hb;exact λe=>hn (e▸k)
 ·rcases kB.1 f with f|f
  ·exact h.sub d f
  ·rw[YR]at f;subst f;exact hc
 ·rcases kB.1 f with f|f
  ·exact h.cmp d f
  ·rw[YR]at f;subst f;exact g
def Ps.done(a:(S.map Cd.id).Nodup)(h:Ps S out)(b:∀c∈S,(∀p∈c.ps,p∈out.map Cd.id)->c.id∈out.map Cd.id):out.Perm (I4 S):=by
 refine(l35 (Zy h.nd) (Zy (Xx a))).2 λc=>?_;rw[QA];constructor
 ·exact λhc=>⟨h.sub c hc,h.cmp c hc⟩
 ·rintro⟨h1,h2⟩;obtain⟨d,f,e⟩:=Rc.1 (B20 b h2);have a1:=Iv a h1;have a2:=Iv a (h.sub d f);rw[e,a1]at a2;rw[l2b a2];exact f
def Ps.len(h:Ps S out):out.length<=S.length:=by
 have:=YE h.nd (l2:=S.map Cd.id) λx a=>by
  obtain⟨c,hc,rfl⟩:=Rc.1 a;exact Rc.2 ⟨c,h.sub c hc,rfl⟩
 rw[UH,UH]at this;exact this
def A7a{b:List (AR×Cd)}{k:AR}(h:MB b k=some c):Ma b k c=b:=by
 induction b with
 |nil=>cases h
 |cons e b ih=>
  unfold MB at h;unfold Ma;by_cases he:e.1=k
  ·rw[Dq he]at h⊢;cases h
   obtain⟨a,d⟩:=e;simp only at he;subst he;rfl
  ·rw[CF he]at h⊢;rw[ih h]
end
def C0h{f:Nat}{cs:Is}:Fx true (D+2) (.fn (.func f) [] [.iptr cs]) (.fn (.func f) [] [.iptr cs]) H false:=zY (D:=D+1) (Ao (q:=false) Rq AH)
end
inductive PC where
 |c (d:Cd)
 |z
def PC.cells:PC->Is
 |.c d=>d.cs
 |.z=>CN
structure Pk where
 kd:Int
 ds:List AR
 cs:List PC
def Pk.Right(p:Pk):Prop:=p.ds.length<=64/\p.cs.length<=64/\(∀s∈p.ds,s.length=32)/\((p.cs=[]/\(p.kd=1\/p.kd=2))\/(p.ds=[]/\p.kd=3))
def XD(S:ed):List PC->ed
 |[]=>S
 |.z::l=>XD S l
 |.c d::l=>XD (if d.id∈S.map Cd.id then S else S++[d]) l
def dS(S:ed)(ex:List AR):List Pk:=if wX S ex=[] then[] else[⟨2,wX S ex,[]⟩]
def U_(S:ed)(ds:List AR):List Pk:=if gvn S ds=[] then[] else[⟨3,[],(gvn S ds).map .c⟩]
open Classical in
def L4(S:ed)(p:Pk):ed×List Pk:=
 if p.Right then
  if p.kd=1 then(S,dS S (p.ds.filter λx=>decide (x∉S.map Cd.id)))
  else if p.kd=2 then(S,U_ S p.ds)
  else(XD S p.cs,if(XD S p.cs).length=S.length then[] else dS (XD S p.cs) [])
 else(S,[])
structure StIn(l S:ed):Prop where
 sub:∀c∈S,c∈l
 nd:(S.map Cd.id).Nodup
section
variable{l S T:ed}{c d:Cd}{p:Pk}{x:AR}
def StIn.len(h:StIn l S):S.length<=l.length:=by
 have:=YE h.nd (l2:=l.map Cd.id) λx a=>by
  obtain⟨c,hc,rfl⟩:=Rc.1 a;exact Rc.2 ⟨c,h.sub c hc,rfl⟩
 rw[UH,UH]at this;exact this
theorem StIn.ok(h:StIn l S)(a:GOk l):GOk S:=⟨λc hc=>a.ok c (h.sub c hc),λc hc=>a.nd c (h.sub c hc),h.nd,XV h.len a.len⟩
def StIn.nil:StIn l []:=⟨by simp,List.nodup_nil⟩
def StIn.own(h:StIn l S)(b:GOk l)(hc:c∈l)(f:c.id∈S.map Cd.id):c∈S:=by
 obtain⟨d,a,e⟩:=Rc.1 f;have a1:=Iv b.ids hc;have a2:=Iv b.ids (h.sub d a);rw[e,a1]at a2;rw[l2b a2];exact a
def A7G:∀(S:ed),(∀c∈S,c.ps.length<=3)->(S.flatMap Cd.ps).length<=S.length*3:=by
 intro a
 induction a with
 |nil=>intro _;simp
 |cons c a ih=>
  intro h;have h1:=h c (by simp);have h2:=ih λd b=>h d (by simp[b]);rw[rE,EK,Mi,l1e];omega
def Xz(h:c.Ok):c.ps.length<=3:=by
 match c,h with
 |.re b u,_=>exact l1h _
 |.co b p ps none,⟨_,h2,a,_⟩=>have:=h2.k3;show ps.length<=3;omega
 |.co b p ps (some _),⟨_,h2,a,_⟩=>have:=h2.k3;show ps.length<=3;omega
def B0D(a:GOk S):(Kj S).length<=24:=by
 have h1:=A2H (ids:=S.map Cd.id) (S.flatMap Cd.ps) [];have h2:=A7G S λc hc=>Xz (a.ok c hc);have b:=a.len;rw[Kj,(Bq _).length_eq,UH];simp at h1;simp at h2;omega
def A6d(l:List AR):(RG l).length<=l.length:=by
 induction l with
 |nil=>exact Mh _
 |cons a l ih=>
  unfold RG;cases h:RG l with
  |nil=>simp
  |cons b m=>
   rw[h]at ih;show(if a=b then b::m else a::b::m).length<=_;split
   ·simp at ih⊢;omega
   ·simp at ih⊢;omega
def B2R(a:GOk S){ex:List AR}(h:ex.length<=40):(wX S ex).length<=64:=by
 have:=A6d (Et (ex++Kj S));rw[(Bq _).length_eq,EK]at this;have:=B0D a;unfold wX;omega
def wP(ws:List AR):List Pk:=if ws=[] then[] else[⟨2,ws,[]⟩]
def A2E(h:StIn l S):StIn l (T2 S):=by
 refine⟨λc hc=>h.sub c (QA.1 ((A2F h.nd).1 hc)).1,?_⟩;rw[wF h.nd];exact(Su (gs:=I4 S)).1.nd
end
section
variable{F:AV->KV}{H0:Hp}{b:List (AR×Cd)}{m rb:Nat}
variable{L n:Nat}
section
variable{A out:ed}{s:AR}{H:Hp}{K:KV}{x:Af}
def B5l(h:s∉out.map Cd.id):MB (gE out) s=none:=YY (by rw[Xm];exact h)
def V_(h:s∈out.map Cd.id):∃c,MB (gE out) s=some c:=by
 rcases A5Z (gs:=out) (s:=s) with⟨_,k,a,h1,_⟩|⟨h1,_⟩
 ·exact⟨_,h1⟩
 ·exact absurd h h1
def U'{F:Value->Af}:Mj (S s) F=F (SV s):=id rfl
def C0z{es:IH}{F:K2}:AD Aj (.iptr [.imap es]) H F=F (.imap es):=by kernel_rfl
def A5N{P:Af->Prop}{m:AV}(hm:∀K,yM m H K=K (Di DX b))(d:∀a,(∃c:Is,a=upd ((As H,c_ Ad CN)::H) (As H) (c_ Ad c))->P (F (Bo (MB b s).isSome) (.ptr (As H) 0 0) a)):
 P (Mj (S s) λq=>ZE Ae true m q H λv=>CM v 0 λi=>CM v 1 λj=>Bx Ad Ae H λe g=>DF Ae e i g λh=>F j e h):=by
 rw[U',A4x (f:=DX) (b:=b) hm];cases hc:MB b s with
 |some c=>
  simp only[];rw[FB,FA,B1 (cs:=CN) rfl,BX (cs:=CN) (vs:=c.cs) (Ax (by simp)) EH rfl MA];have:=d _ ⟨c.cs,rfl⟩;rw[hc]at this;exact this
 |none=>
  simp only[];rw[FB,FA,B1 (cs:=CN) rfl]
  erw[BX (cs:=CN) (vs:=CN) (Ax (by simp)) rfl rfl rfl]
  have:=d _ ⟨CN,rfl⟩;rw[hc]at this;exact this
def A45{m:AV}(hm:∀K,yM m H K=K (Di DX b))(h:∀d,(∃c:Is,d=upd ((As H,c_ Ad CN)::H) (As H) (c_ Ad c))->F (Bo (MB b s).isSome) (.ptr (As H) 0 0) d=x):
 (Mj (S s) λq=>ZE Ae true m q H λv=>CM v 0 λi=>CM v 1 λj=>Bx Ad Ae H λe f=>DF Ae e i f λg=>F j e g)=x:=
 A5N (P:=λa=>a=x) hm h
def iZ:(MB (gE out) s).isSome=decide (s∈out.map Cd.id):=by
 by_cases h:s∈out.map Cd.id
 ·obtain⟨c,hc⟩:=V_ h;rw[hc,HR h];rfl
 ·rw[B5l h,HW h];rfl
def C1P:CS (r! L (n+1)) Df [S s,.iptr [.imap (Di DX (gE out))]] (Bo (decide (s∉out.map Cd.id))):=by
 intro K d;rw[NV];unfold GD LR;rw[C0z];refine A45 (b:=gE out) (F:=λe _ c=>MC .not e λa=>K a c) (λK=>id rfl) λf _=>?_;rw[iZ,Eh];have:(!decide (s∈out.map Cd.id))=decide (s∉out.map Cd.id):=by by_cases h:s∈out.map Cd.id<;>simp[h]
 rw[this];exact d _ _ λb=>⟨false,CC⟩
structure Cp(H0:Hp)(m rb:Nat)(out:ed)(H:Hp):Prop where
 mm:Ai H m=some (.map false (Di DX (gE out)) none)
 bb:Ai H rb=some (c_ Az [.mp m])
 wf:Wf H
 keep:∀u y,Ai H0 u=some y->Ai H u=some y
 m0:As H0<=m
 b0:As H0<=rb
 w0:Wf H0
def Cp.ne(h:Cp H0 m rb out H):m≠rb:=λe=>by
 have:=h.mm;rw[e,h.bb]at this;cases this
def Cp.lat{H0 H':Hp}(h:Cp H0 m rb out H)(w:Wf H')(k:∀u y,Ai H u=some y->Ai H' u=some y):Cp H0 m rb out H':=
 ⟨k _ _ h.mm,k _ _ h.bb,w,λu y a=>k u y (h.keep u y a),h.m0,h.b0,h.w0⟩
theorem Cp.it{H0:Hp}{m rb it:Nat}(h:Cp H0 m rb out H)(y:Row)(h1:it≠m/\it≠rb/\As H0<=it):Cp H0 m rb out (upd H it y):=
 ⟨by rw[Ag h1.1.symm];exact h.mm,by rw[Ag h1.2.1.symm];exact h.bb,Bj h.wf,λu z a=>by rw[Ag (by have:=h.w0.lt a;omega)];exact h.keep u z a,h.m0,h.b0,h.w0⟩
def Cp.put(h:Cp H0 m rb out H)(a:ed):Cp H0 m rb a (upd H m (.map false (Di DX (gE a)) none)):=
 ⟨(BH h.mm).trans rfl,by rw[Ag h.ne.symm];exact h.bb,Bj h.wf,λu z c=>by rw[Ag (by have:=h.w0.lt c;have:=h.m0;omega)];exact h.keep u z c,h.m0,h.b0,h.w0⟩
def B16(out:ed)(c:Cd):gE out++[(c.id,c)]=gE (out++[c]):=by simp[gE]
def C0N{m rb it:Nat}{a0 v8 w:AV}{out0:ed}{ad:AV->AV->AV->KV}(hw:VS 6 w w=true)(hg:GOk A)(hL:40000<L)(ac:∀out H,Cp H0 m rb out H->Ps A out->(∀c∈out0,c∈out)->(∀c∈A,(∀p∈c.ps,p∈out0.map Cd.id)->c.id∈out.map Cd.id)->ad a0 (.ptr rb 0 0) v8 (.it it) H=some (w,[]))(O:it≠m/\it≠rb/\As H0<=it):
 ∀(f:Nat)(es:List (AR×Cd))(out:ed)(H:Hp)(o:Option (Value×AV)),es.length<f->(∀e∈es,e∈gE A)->Cp H0 m rb out H->Ps A out->(∀c∈out0,c∈out)->
 (∀c∈A,(c.id,c)∈es\/((∀p∈c.ps,p∈out0.map Cd.id)->c.id∈out.map Cd.id))->Ai H it=some (.iter (Di DX es) o)->
 Ik (L+20) (r! L (n+3)) K ad f a0 (.ptr rb 0 0) v8 (.it it) H=some (w,[]):=by
 intro f
 induction f with
 |zero=>intro es out H o h;omega
 |succ f ih=>
  intro es out H o hf he hc V Z B hl;rw[PB];unfold Il Dz;refine YD (f:=DX) hw hl (λe=>?_) (λa e b ae=>?_)
  ·subst e;rw[GX,AZ];exact ac out H hc V Z λc i=>(B c i).elim (λh=>by cases h) id
  ·subst ae;obtain⟨cd,N,ag⟩:=Rc.1 (he e (by simp));subst ag;have P:=LC (es:=Di DX (a++b)) (o:=some (.string ⟨⟨cd.id⟩⟩,DX cd)) hl;have M:=hc.it (.iter (Di DX (a++b)) (some (.string ⟨⟨cd.id⟩⟩,DX cd))) O;have am:=Xz (hg.ok cd N);rw[GX,Cu];simp only[BE];rw[NM P,GX,Zg];generalize upd H it (.iter (Di DX (a++b)) (some (.string ⟨⟨cd.id⟩⟩,DX cd)))=H1 at P M;obtain⟨Y,e2,aa,w2,k2⟩:=Ip (e:=Ad) (zs:=CN) (vs:=cd.cs) M.wf EH;rw[B1 (cs:=CN) rfl,BX (cs:=CN) (vs:=cd.cs) (Ax (by simp)) EH rfl MA,<-e2,fA,Kd,B27 aa];have j:=M.lat w2 λu y hu=>(k2 u y hu).1;have Q:=(k2 _ _ P).1;have ah:R9 true depth [DD cd.ps,.fn (.func Df) [] [.ptr rb 0 0]] [DD cd.ps,.fn (.func Df) [] [.iptr [.imap (Di DX (gE out))]]] Y true:=
    Ao (q:=false) ((Mt cd.ps).fx Y) (Ao (q:=true) (q':=false) (zY (D:=11) (Ao (q:=true) (q':=false) (Xo (D:=10) j.bb (Ao (q:=true) (q':=false) (A4f (D:=6) j.mm) AH)) AH)) AH)
   have ab:∀{F:K2},Ap (r! L (n+3)) B8 [DD cd.ps,.fn (.func Df) [] [.ptr rb 0 0]] Y F=F (Bo (cd.ps.any λs=>decide (s∉out.map Cd.id))):=λ{F}=>
    AP (sK (n:=n+1) (Mt cd.ps) (λs K=>by
     rw[I' rfl rfl];exact AP C1P (Ao (q:=false) CC (Ao (q:=false) Rq AH))) (C0h (D:=10)) (by omega) (by omega)) ah
   rw[ab,Eh];have k:∀e∈a++b,e∈gE A:=λe X=>he e (by simp at X⊢;rcases X with X|X;exact .inl X;exact .inr (.inr X));have t:(a++b).length<f:=by simp at hf⊢;omega
   by_cases g:∀p∈cd.ps,p∈out.map Cd.id
   ·have e1:(cd.ps.any λs=>decide (s∉out.map Cd.id))=false:=by
     rw[List.any_eq_false];intro p J;simp[g p J]
    rw[e1];show A1 (.v (.bool true)) _ _=_;rw[Cu];have lm:∀{F:K2},AD Aj (.ptr rb 0 0) Y F=F (.mp m):=λ{F}=>AF (p:=0) rfl j.bb (by simp);rw[lm,Bu rfl EH.symm aa];show Mj (S cd.id) _=_;rw[U'];show My (.mp m) (SV cd.id) (DX cd) Y _=_;rw[jG (f:=DX) (b:=gE out) (v:=cd) j.mm];by_cases r:cd.id∈out.map Cd.id
    ·obtain⟨c',ak⟩:=V_ r;obtain⟨d,hd,C⟩:=Rc.1 r;have e3:MB (gE out) cd.id=some cd:=by
      have a1:=Iv V.nd hd;rw[C]at a1;have a2:=Iv hg.ids (V.sub d hd);have a3:=Iv hg.ids N;rw[C,a3]at a2;rw[a1,l2b a2]
     rw[A7a e3];refine ih (a++b) out _ _ t k (j.put out) V Z (λc i=>?_) (by rw[Ag O.1];exact Q);rcases B c i with h|h
     ·simp at h;rcases h with h|h|h
      ·exact .inl (by simp[h])
      ·exact .inr λ_=>by rw[h.1];exact r
      ·exact .inl (by simp[h])
     ·exact .inr h
    ·rw[Zv (by rw[Xm];exact r),B16];refine ih (a++b) (out++[cd]) _ _ t k (j.put (out++[cd])) (V.add N g r) (λc af=>by simp[Z c af]) (λc i=>?_) (by rw[Ag O.1];exact Q);rcases B c i with h|h
     ·simp at h;rcases h with h|h|h
      ·exact .inl (by simp[h])
      ·exact .inr λ_=>by rw[h.1];simp
      ·exact .inl (by simp[h])
     ·exact .inr λR=>by
       have:=h R;rw[Z6];exact kB.2 (.inl this)
   ·have e1:(cd.ps.any λs=>decide (s∉out.map Cd.id))=true:=by
     rw[List.any_eq_true];simp only[Classical.not_forall]at g;obtain⟨p,ai,aj⟩:=g;exact⟨p,ai,by simp only[decide_eq_true_eq];exact aj⟩
    rw[e1];show A1 (.v (.bool false)) _ _=_;rw[AZ];refine ih (a++b) out _ _ t k j V Z (λc i=>?_) Q;rcases B c i with h|h
    ·simp at h;rcases h with h|h|h
     ·exact .inl (by simp[h])
     ·refine .inr λR=>absurd (λp J=>?_) g;rw[<-h.2]at J;obtain⟨d,hd,C⟩:=Rc.1 (R p J);exact Rc.2 ⟨d,Z d hd,C⟩
     ·exact .inl (by simp[h])
    ·exact .inr h
end
end
section
variable{w:AV}{F:K2}{es:IH}{m:Nat}
variable{L n:Nat}
section
variable{A out:ed}{s:AR}{H:Hp}{K:KV}{x:Af}
def vR{a:Option (Hb×Nat)}(h:Ai H m=some (.map false es a)):Ze (.mp m) H F=F (I es.length):=by
 unfold Ze;rw[ZA h,Cy,Kd];rfl
def A2q{ty:Nat}{i:TI}{v:Value}(hz:i.zero=.v v):Bx ty i H K=K (.ptr (As H) 0 0) ((As H,c_ ty [.v v])::H):=by
 unfold Bx;rw[hz,CP,Ca];rfl
def A0C:(Lu (.iptr [.imap es]) λv=>CD 0 v λv=>AD Aj v H F)=F (.imap es):=by kernel_rfl
def A9u{l m:ed}(b:(l.map Cd.id).Nodup)(hm:(m.map Cd.id).Nodup)(e:∀c∈l,c∈m)(he:m.length=l.length):∀c∈m,c∈l:=by
 intro c hc;apply l37;intro hn;have h1:(c::l).Nodup:=List.nodup_cons.2 ⟨hn,Zy b⟩;have h2:=YE h1 (l2:=m) λd a=>by
  rcases Xh.1 a with rfl|a
  ·exact hc
  ·exact e d a
 simp at h2;omega
def C0O{H0:Hp}{m rb:Nat}(R:VS 6 w w=true)(t:GOk A)(O:40000<L)(V:∀out H,Cp H0 m rb out H->out.Perm (I4 A)->K (.mp m) H=some (w,[])):
 ∀(f:Nat)(out:ed)(H:Hp)(d1 d2:AV),A.length-out.length<f->Cp H0 m rb out H->Ps A out->
 FE (L+20) (r! L (n+3)) K f (.iptr [.imap (Di DX (gE A))]) (.ptr rb 0 0) d1 d2 H=some (w,[]):=by
 intro f
 induction f with
 |zero=>intro out H d1 d2 h;omega
 |succ f ih=>
  intro out H d1 d2 X hc B;rw[PD];unfold Im Dz;have lm:∀{out H}{F:K2},Cp H0 m rb out H->AD Aj (.ptr rb 0 0) H F=F (.mp m):=λ{out H F}hc=>AF (p:=0) rfl hc.bb (by simp);have N:∀{out:ed},(Di DX (gE out)).length=out.length:=λ{out}=>by simp[gE]
  simp only[BE];rw[lm hc,vR hc.mm,N,A0C,Xv];have v:Ai ((As H,Row.iter (Di DX (gE A)) none)::H) (As H)=some (.iter (Di DX (gE A)) none):=Ax (by simp);have k:Cp H0 m rb out ((As H,Row.iter (Di DX (gE A)) none)::H):=hc.lat (AG hc.wf) λu y M=>A7 (hc.wf.lt M) M;have m1:=hc.wf.lt hc.mm;have Y:=hc.wf.lt hc.bb;have m3:=hc.m0;refine C0N (n:=n) (out0:=out) R t O (λa D b g J q=>?_) ⟨by omega,by omega,by omega⟩ (L+20) (gE A) out _ none (by have:=t.len;simp[gE];omega) (λe he=>he) k B (λc h=>h) (λc i=>.inl (Rc.2 ⟨c,i,rfl⟩)) v;rw[lm b,vR b.mm,N,Cl];have Q:out.length<=a.length:=by
   have:=YE (Zy B.nd) (l2:=a) J;exact this
  by_cases he:a.length=out.length
  ·rw[HR (by omega),Cu,lm b];refine V a D b (g.done t.ids λc i j=>q c i λp C=>?_);obtain⟨d,P,r⟩:=Rc.1 (j p C);exact Rc.2 ⟨d,A9u B.nd g.nd J he d P,r⟩
  ·rw[HW (by omega),AZ];have:=g.len;exact ih a D _ _ (by omega) b g
def sM(i:VS 6 w w=true)(e:GOk A)(g:40000<L)(wf:Wf H)(j:∀out m a,out.Perm (I4 A)->Ai a m=some (.map false (Di DX (gE out)) none)->As H<=m->Wf a->(∀u y,Ai H u=some y->Ai a u=some y)->As H<=As a->K (.mp m) a=some (w,[])):
 (r! L (n+4)).call FT [.iptr [.imap (Di DX (gE A))]] H K=some (w,[]):=by
 rw[Qu];unfold I8;have em:∀(H:Hp)(K:KV),LN Ae H K=K (.mp (As H)) ((As H,.map false [] none)::H):=λH K=>by
  show Io H (λs=>K (.mp s) ((s,.map false [] (mD Ae.d))::H))=_;rw[Ca];rfl
 rw[em,A2q (v:=.map none) rfl];have w1:=AG (x:=.map false [] none) wf;have h1:Ai ((As H,Row.map false [] none)::H) (As H)=some (.map false [] none):=Ax (by simp);have c:As ((As H,Row.map false [] none)::H)=As H+1:=rfl;rw[c];have h2:Ai ((As H+1,c_ Az [.v (.map none)])::(As H,Row.map false [] none)::H) (As H+1)=some (c_ Az [.v (.map none)]):=Ax (H:=(As H,Row.map false [] none)::H) (by simp);rw[D6 (cs:=[.v (.map none)]) h2 (by simp) rfl rfl rfl];have p:Wf ((As H+1,c_ Az [.v (.map none)])::(As H,Row.map false [] none)::H):=AG (x:=.cells true Az [.v (.map none)]) w1;have k:∀u y,Ai H u=some y->Ai ((As H+1,c_ Az [.v (.map none)])::(As H,Row.map false [] none)::H) u=some y:=λu y b=>by
  have a1:=A7 (x:=.map false [] none) (wf.lt b) b;exact A7 (w1.lt a1) a1
 have f:Ai ((As H+1,c_ Az [.v (.map none)])::(As H,Row.map false [] none)::H) (As H)=some (.map false [] none):=A7 (H:=(As H,Row.map false [] none)::H) (by rw[c];omega) h1;refine C0O (n:=n) (H0:=H) (m:=As H) (rb:=As H+1) i e g (λout a hc h=>?_) (L+20) [] _ _ _ (by have:=e.len;simp;omega) ⟨by rw[Ag (by omega)];exact f,AC h2,Bj p,λu y b=>by rw[Ag (by have:=wf.lt b;omega)];exact k u y b,by omega,by omega,wf⟩ .nil;have:=hc.wf.lt hc.mm;exact j out (As H) a h hc.mm (Mh _) hc.wf hc.keep (by omega)
end
end
section
variable{v w:AV}{H H0:Hp}{A:ed}{m:Nat}
variable{L n:Nat}
def uW(c2 c6:AV)(p:Option (Option Code)):Row:=.loop 13 [(2,c2),(4,Av),(5,AV.dk),(6,c6),(7,AV.dk),(8,AV.dk),(9,AV.dk),(10,AV.dk),(11,AV.dk)] (AJ).2.1 (AJ).2.2.1 (AJ).2.2.2 p
structure CollC(H0:Hp)(r0 s:Nat)(q0:Bool)(e0:Nat)(c6:AV)(l:ed)(v:AV)(H:Hp):Prop where
 at_:Ai H r0=some (.cells q0 e0 [v])
 sl:Bk H Ad 68 v l.length (l.flatMap Cd.cs)
 lp:Ai H s=some (uW (.ptr r0 0 0) c6 (some none))
 new:∀u,A9 v u->u≠r0/\u≠s/\As H0<=u
 wf:Wf H
 keep:∀u y,Ai H0 u=some y->Ai H u=some y
 ne:r0≠s
 r0n:As H0<=r0
 sn:As H0<=s
 w0:Wf H0
def Bk.co{e sz m:Nat}{cs:Is}(h:Bk H e sz v m cs):B3 v=[v]/\AV.one v=true:=by
 rcases h with⟨rfl,_⟩|⟨_,_,rfl,_⟩<;>exact⟨rfl,rfl⟩
variable{K:KV}{x:Af}
def A5t{r0 s e0:Nat}{q0:Bool}{c6 v:AV}{l:ed}{b:Cd}(h:CollC H0 r0 s q0 e0 c6 l v H)(hn:l.length<1000)(hx:∀f g,CollC H0 r0 s q0 e0 c6 (l++[b]) f g->(∀u y,u≠r0->u≠s->¬A9 v u->Ai H u=some y->Ai g u=some y)->(∀u,A9 f u->As H<=u)->K (Bo true) g=x):C4 (E (L+20)) (r! L (n+1)) (.yl s) [.agg b.cs] H K=x:=by
 show NY (r! L (n+1)) s [.agg b.cs] H K=x;rw[Pt h.lp (by kernel_rfl)];have J:(r! L (n+1)).run= λcf=>Mq (E (L+20)) (r! L n) cf:=rfl;rw[J,Hw,B1 (cs:=CN) rfl,BX (cs:=CN) (vs:=b.cs) (Ax (by simp)) EH rfl MA];obtain⟨d,e1,V,w1,k1⟩:=Ip (e:=Ad) (zs:=CN) (vs:=b.cs) h.wf EH;rw[<-e1];have n1:As d=As H+1:=by rw[e1,B4];rfl
 have ae:=h.wf.lt h.at_;have slt:=h.wf.lt h.lp;have j:Ai d s=some (uW (.ptr r0 0 0) c6 (some none)):=(k1 _ _ h.lp).1;have C:Ai d r0=some (.cells q0 e0 [v]):=(k1 _ _ h.at_).1;have ad:∀u,A9 v u->u<As H:=λu c=>by
  rcases h.sl with⟨rfl,_⟩|⟨r,q,rfl,h2,_⟩
  ·exact absurd c IN
  ·obtain⟨_,_,_,X⟩:=c;injection X with _ X
   subst X;exact h.wf.lt h2
 have N:Bk d Ad 68 v l.length (l.flatMap Cd.cs):=by
  rcases h.sl with h1|⟨r,q,rfl,h2,t⟩
  ·exact .inl h1
  ·exact .inr ⟨r,q,rfl,(k1 _ _ h2).1,t⟩
 rw[P0 j];have ab:=Bj (r:=s) (y:=uW (.ptr r0 0 0) c6 none) w1;have D:Ai (upd d s (uW (.ptr r0 0 0) c6 none)) r0=some (.cells q0 e0 [v]):=by rw[Ag h.ne];exact C
 have Y:Ai (upd d s (uW (.ptr r0 0 0) c6 none)) s=some (uW (.ptr r0 0 0) c6 none):=Fk j;have aa:Bk (upd d s (uW (.ptr r0 0 0) c6 none)) Ad 68 v l.length (l.flatMap Cd.cs):=N.lat w1 (Lat.upd d s _ (P:=λu=>u=s) rfl) (λu c=>(h.new u c).2.1);have R:Ai (upd d s (uW (.ptr r0 0 0) c6 none)) (As H)=some (c_ Ad b.cs):=by rw[Ag (by omega)];exact V
 show AD Ak (.ptr r0 0 0) (upd d s (uW (.ptr r0 0 0) c6 none)) _=_;rw[AF (p:=0) rfl D (by simp)];show AD Ae (.ptr (As H) 0 0) (upd d s (uW (.ptr r0 0 0) c6 none)) _=_;rw[Bu rfl EH.symm R];show FU Ad 68 Ae 1 [(0,68,.agg b.cs)] (upd d s (uW (.ptr r0 0 0) c6 none)) (λac O=>DK Ad 68 Ae Ak v ac O _)=_;obtain⟨f,g,h1,h2,t,h4,Q,h6⟩:=wE (ie:=Ae) (i2:=Ak) (ys:=b.cs) aa ab EH MA (by decide) rfl (λ_=>rfl) (by show(_+1)*800<=_;omega) (by omega);rw[C11 EH MA,h1];have n0:¬A9 v r0:=λc=>(h.new r0 c).1 rfl;have ns:¬A9 v s:=λc=>(h.new s c).2.1 rfl;have F:=Q r0 _ D n0;have Z:=Q s _ Y ns;rw[D6 (q:=q0) (e:=e0) (cs:=[v]) F (by simp) rfl h2.co.1 h2.co.2];have ah:As H0<=As H:=by have:=h.r0n;omega
 have ag:As (upd d s (uW (.ptr r0 0 0) c6 none))=As H+1:=by rw[B4,n1]
 have i:∀u,A9 f u->As H<=u:=λu c=>by have:=h6 u c;omega
 have B:∀u,A9 f u->u≠r0/\u≠s/\As H0<=u:=λu c=>by
  have a1:=i u c;exact⟨by omega,by omega,by omega⟩
 have M:Ai (upd g r0 (.cells q0 e0 [f])) s=some (uW (.ptr r0 0 0) c6 none):=by rw[Ag h.ne.symm];exact Z
 show EB (upd g r0 (.cells q0 e0 [f])) s false (some none) _=_;have k:=M;unfold uW at k;rw[Pz k];have kp:∀u y,u≠r0->u≠s->¬A9 v u->Ai H u=some y->Ai (upd (upd g r0 (.cells q0 e0 [f])) s (uW (.ptr r0 0 0) c6 (some none))) u=some y:=λu y h1 h2 t c=>by
  rw[Ag h2,Ag h1];exact Q u y (by rw[Ag h2];exact(k1 _ _ c).1) t
 have e2:(l++[b]).flatMap Cd.cs=l.flatMap Cd.cs++b.cs:=by simp
 refine hx f _ ⟨?_,?_,?_,B,Bj (Bj t),λu y c=>?_,h.ne,h.r0n,h.sn,h.w0⟩ kp i
 ·rw[Ag h.ne];exact AC F
 ·rw[EK,e2];have a:=h2.lat t (Lat.upd g r0 (.cells q0 e0 [f]) (P:=λu=>u=r0) rfl) (λu c=>(B u c).1);exact a.lat (Bj t) (Lat.upd _ s _ (P:=λu=>u=s) rfl) (λu c=>(B u c).2.1)
 ·exact Fk M
 ·have af:=h.w0.lt c;have b1:=h.r0n;have b2:=h.sn;exact kp u y (by omega) (by omega) (λhv=>by have:=(h.new u hv).2.2;omega) (h.keep u y c)
theorem CollC.it{H0 H:Hp}{r0 s e0 it:Nat}{q0:Bool}{c6 v:AV}{l:ed}(h:CollC H0 r0 s q0 e0 c6 l v H)(y:Row)(h1:it≠r0/\it≠s/\As H0<=it)(h2:¬A9 v it):CollC H0 r0 s q0 e0 c6 l v (upd H it y):=
 ⟨by rw[Ag h1.1.symm];exact h.at_,h.sl.lat h.wf (Lat.upd H it y (P:=λu=>u=it) rfl) (λu a e=>h2 (e▸a)),by rw[Ag h1.2.1.symm];exact h.lp,h.new,Bj h.wf,λu z a=>by rw[Ag (by have:=h.w0.lt a;omega)];exact h.keep u z a,h.ne,h.r0n,h.sn,h.w0⟩
def CollC.more{H0 H H':Hp}{r0 s e0:Nat}{q0:Bool}{c6 v:AV}{l:ed}(h:CollC H0 r0 s q0 e0 c6 l v H)(w:Wf H')(k:∀u y,Ai H u=some y->Ai H' u=some y):CollC H0 r0 s q0 e0 c6 l v H':=
 ⟨k _ _ h.at_,by
  rcases h.sl with h1|⟨r,q,rfl,h2,a⟩
  ·exact .inl h1
  ·exact .inr ⟨r,q,rfl,k _ _ h2,a⟩,k _ _ h.lp,h.new,w,λu y b=>k u y (h.keep u y b),h.ne,h.r0n,h.sn,h.w0⟩
structure NewC(H0:Hp)(l:ed)(v:AV)(H:Hp):Prop where
 sl:Bk H Ad 68 v l.length (l.flatMap Cd.cs)
 nil:l=[]->v=Av
 new:∀u,A9 v u->As H0<=u
 wf:Wf H
 keep:∀u y,Ai H0 u=some y->Ai H u=some y
 nx:As H0<=As H
def dV{Q:ed->AV->Prop}{Hs H0:Hp}{g:Nat}{cap:Is}(ws:Wf Hs)(w0:Wf H0)(hn:As H0=As Hs)(i:∀u y,Ai H0 u=some y->Ai Hs u=some y)(h:∀(H:Hp)(F:KV),CollC H0 (As Hs) (As Hs+1) true Bz (.fn (.func g) [] cap) [] Av H->As H=As Hs+2->(∀u y,Ai Hs u=some y->Ai H u=some y)->
  (∀l v b,Q l v->(l=[]->v=Av)->CollC H0 (As Hs) (As Hs+1) true Bz (.fn (.func g) [] cap) l v b->F (.tup []) b=x)->(r! L (n+1)).call g (.yl (As Hs+1)::cap) H F=x)(k:∀l v b,Q l v->NewC H0 l v b->K v b=x):
 (r! L (n+3)).call BF [.fn (.func g) [] cap] Hs K=x:=by
 rw[Nr];unfold Gj;rw[HT];unfold Dc;simp only[BE];rw[nI (by rfl),Wb];have w1:=AG (x:=.cells true Bz [Av]) ws;have c:=Ax (H:=Hs) (x:=.cells true Bz [Av]) (by simp);have j:As ((As Hs,c_ Bz [Av])::Hs)=As Hs+1:=rfl;have q:Wf ((As Hs+1,uW (.ptr (As Hs) 0 0) (.fn (.func g) [] cap) (some none))::(As Hs,c_ Bz [Av])::Hs):=AG (x:=uW (.ptr (As Hs) 0 0) (.fn (.func g) [] cap) (some none)) w1;have e:Ai ((As Hs+1,uW (.ptr (As Hs) 0 0) (.fn (.func g) [] cap) (some none))::(As Hs,c_ Bz [Av])::Hs) (As Hs+1)=some (uW (.ptr (As Hs) 0 0) (.fn (.func g) [] cap) (some none)):=Ax (H:=((As Hs,c_ Bz [Av])::Hs)) (x:=uW (.ptr (As Hs) 0 0) (.fn (.func g) [] cap) (some none)) (by simp[uW]);have ol:∀u y,Ai Hs u=some y->Ai ((As Hs+1,uW (.ptr (As Hs) 0 0) (.fn (.func g) [] cap) (some none))::(As Hs,c_ Bz [Av])::Hs) u=some y:=λu y a=>by
  have a1:=A7 (x:=.cells true Bz [Av]) (ws.lt a) a;exact A7 (w1.lt a1) a1
 have d:Ai ((As Hs+1,uW (.ptr (As Hs) 0 0) (.fn (.func g) [] cap) (some none))::(As Hs,c_ Bz [Av])::Hs) (As Hs)=some (c_ Bz [Av]):=A7 (w1.lt c) c;refine h _ _ ⟨d,.inl ⟨rfl,rfl,rfl⟩,e,λu a=>absurd a IN,q,λu y a=>ol u y (i u y a),by omega,by omega,by omega,w0⟩ rfl ol ?_;intro l v b hq f hc;show IR b (As Hs+1) _=_;rw[Bp hc.lp];show XA4 b (As Hs+1) .gone _=_;rw[Dg];have hr:Ai (upd b (As Hs+1) .gone) (As Hs)=some (c_ Bz [v]):=by rw[Ag (by omega)];exact hc.at_
 show AD Ak (.ptr (As Hs) 0 0) (upd b (As Hs+1) .gone) _=_;rw[AF (p:=0) rfl hr (by simp)];refine k l _ _ hq ⟨?_,f,λu a=>(hc.new u a).2.2,Bj hc.wf,λu y a=>?_,?_⟩
 ·exact hc.sl.lat hc.wf (Lat.upd b _ _ (P:=λu=>u=As Hs+1) rfl) (λu a=>(hc.new u a).2.1)
 ·have:=w0.lt a;rw[Ag (by omega)];exact hc.keep u y a
 ·rw[B4];have:=hc.wf.lt hc.at_;omega
def yV{r0 s it:Nat}{c6 w:AV}{J:Ru}(V:VS 6 w w=true)(D:A.length<1000)(i:∀l v H,l.Perm A->(l=[]->v=Av)->CollC H0 r0 s true Bz c6 l v H->J H=some (w,[]))(d:it≠r0/\it≠s/\As H0<=it):
 ∀(f:Nat)(es:List (AR×Cd))(l:ed)(v:AV)(H:Hp)(o:Option (Value×AV)),es.length<f->(l++es.map Prod.snd).Perm A->(l=[]->v=Av)->CollC H0 r0 s true Bz c6 l v H->¬A9 v it->Ai H it=some (.iter (Di DX es) o)->
 Cc (L+20) (r! L (n+1)) K J f (.yl s) (.it it) H=some (w,[]):=by
 intro f
 induction f with
 |zero=>intro es l v H o h;omega
 |succ f ih=>
  intro es l v H o Q t P hc hv C;rw[Fg];unfold Cg;refine YD (f:=DX) V C (λe=>?_) (λa e b he=>?_)
  ·subst e;rw[GX,AZ];exact i l v H (by simpa using t) P hc
  ·subst he;have c:=hc.it (.iter (Di DX (a++b)) (some (.string ⟨⟨e.1⟩⟩,DX e.2))) d hv;have g:=LC (es:=Di DX (a++b)) (o:=some (.string ⟨⟨e.1⟩⟩,DX e.2)) C;have r:(l++(a++e::b).map Prod.snd).length=A.length:=t.length_eq;simp at r;rw[GX,Cu,NM g,Zg];generalize upd H it (.iter (Di DX (a++b)) (some (.string ⟨⟨e.1⟩⟩,DX e.2)))=Y at g c;obtain⟨Z,O,p,M,F⟩:=Ip (e:=Ad) (zs:=CN) (vs:=e.2.cs) c.wf EH;rw[B1 (cs:=CN) rfl,BX (cs:=CN) (vs:=e.2.cs) (Ax (by simp)) EH rfl MA,<-O,Bu rfl EH.symm p];have q:=c.more M λu y B=>(F u y B).1;have j:=(F _ _ g).1;refine A5t q (by omega) λX N k R hr=>?_;rw[Eh];show A1 (.v (.bool false)) _ _=_;rw[AZ];refine ih (a++b) (l++[e.2]) X N _ (by simp at Q⊢;omega) ?_ (by simp) k (λB=>?_) (R it _ d.1 d.2.1 hv j)
   ·refine List.Perm.trans ?_ t;simp only[Z6,XI,fQ];refine List.Perm.append_left l ?_;show(e.2::(a.map Prod.snd++b.map Prod.snd)).Perm _;exact List.perm_middle.symm
   ·have g1:=hr it B;have g2:=M.lt j;omega
def B15(A:ed):(gE A).map Prod.snd=A:=by
 unfold gE;rw[List.map_map];exact List.map_id A
def B28(es:List (AR×Cd)):(Di DX es).all (λp=>fB 3 p.2)=true:=by
 rw[GG];intro p g;obtain⟨e,_,rfl⟩:=Rc.1 g;show e.2.cs.all (fB 2)=true;have d:∀l:Is,l.all fixB=true->l.all (fB 2)=true:=λl h=>by
  rw[GG]at h⊢;intro a f;have:=h a f;cases a<;>first|rfl|(simp[fixB]at this)
 have h1:∀c:Cd,c.cs.all (fB 2)=true:=λc=>by
  obtain⟨a,b,e,h1,h2⟩:=nL c;rw[<-A4J c,e,List.all_append,d a h1,oF,d b h2];cases c.ps<;>rfl
 exact h1 _
def A8J{Hs:Hp}(V:VS 6 w w=true)(j:A.length<1000)(hL:40000<L)(ws:Wf Hs)(hm:Ai Hs m=some (.map false (Di DX (gE A)) none))(X:∀l v g,l.Perm A->NewC (upd Hs m .gone) l v g->K v g=some (w,[])):
 (r! L (n+4)).call Br [.mp m] Hs (λv H=>(r! L (n+4)).call BF [v] H K)=some (w,[]):=by
 rw[Dp];unfold BB Ih;rw[B1R];have w1:=AG (x:=.cells true Az [.mp m]) ws;have mlt:=ws.lt hm;have hb:Ai ((As Hs,c_ Az [.mp m])::Hs) (As Hs)=some (c_ Az [.mp m]):=Ax (by simp);have t:∀u y,Ai Hs u=some y->Ai ((As Hs,c_ Az [.mp m])::Hs) u=some y:=λu y c=>A7 (ws.lt c) c;have f:=t _ _ hm;have M:As ((As Hs,c_ Az [.mp m])::Hs)=As Hs+1:=rfl;generalize ((As Hs,c_ Az [.mp m])::Hs:Hp)=B at w1 hb t f M;refine dV (n:=n+1) (Q:=λl _=>l.Perm A) (H0:=upd B m .gone) w1 (Bj w1) (B4 _ _ _) (λu y c=>?_) (λH F hc P i O=>?_) (λl v g hq h=>?_)
 ·have d:u≠m:=λe=>by subst e;rw[BH f]at c;cases c
  rwa[Ag d]at c
 ·rw[Dd];unfold B5;simp only[BE];rw[AF (p:=0) rfl (i _ _ hb) (by simp)];show Xw (.mp m) H _=_;have q:=i _ _ f;rw[A69 q (B28 _)];have Z:=hc.wf;have J:Wf (upd H m .gone):=Bj Z;have s:As (upd H m .gone)=As H:=B4 _ _ _;have r:Ai ((As H,Row.iter (Di DX (gE A)) none)::upd H m .gone) (As H)=some (.iter (Di DX (gE A)) none):=by
   have:=Ax (H:=upd H m .gone) (x:=.iter (Di DX (gE A)) none) (by simp)
   rwa[s]at this
  have up:∀u y,u≠m->Ai H u=some y->Ai ((As H,Row.iter (Di DX (gE A)) none)::upd H m .gone) u=some y:=λu y c Y=>by
   have a:Ai (upd H m .gone) u=some y:=by rw[Ag c];exact Y
   have b:=A7 (x:=.iter (Di DX (gE A)) none) (J.lt a) a
   rwa[s]at b
  have D:=AG (x:=.iter (Di DX (gE A)) none) J;rw[s]at D;have C:=w1.lt f;refine yV (n:=n) (A:=A) (H0:=upd B m .gone) V j (λl v g R N k=>O l v g R N k) ⟨by omega,by omega,by rw[B4];omega⟩ (L+20) (gE A) [] Av _ none (by simp[gE];omega) (by rw[B15];simp) (λ_=>rfl)
   ⟨up _ _ (by omega) hc.at_,.inl ⟨rfl,rfl,rfl⟩,up _ _ (by omega) hc.lp,λu c=>absurd c IN,D,λu y c=>?_,hc.ne,hc.r0n,hc.sn,hc.w0⟩ IN r
  have d:u≠m:=λe=>by subst e;rw[BH f]at c;cases c
  exact up u y d (hc.keep u y c)
 ·refine X l v g hq ⟨h.sl,h.nil,λu c=>?_,h.wf,λu y c=>?_,?_⟩
  ·have:=h.new u c;rw[B4]at this⊢;omega
  ·have d:u≠m:=λe=>by subst e;rw[BH hm]at c;cases c
   rw[Ag d]at c;exact h.keep u y (by rw[Ag d];exact t u y c)
  ·have:=h.nx;rw[B4]at this⊢;omega
end
section
variable{F:K2}{x0:Af}
variable{L n:Nat}
def A4G{ty:Nat}{v:AV}{H:Hp}{K:KV}(h:B3 v=[v]/\AV.one v=true):FN ty v H K=K (.ptr (As H) 0 0) ((As H,c_ ty [v])::H):=by
 unfold FN;rw[CP,h.1,FP,Ca];have:[v].all AV.one=true:=by simp[h.2]
 rw[this];rfl
def rP(H:Hp)(x:AV)(A:ed):Prop:=x=.iptr [.imap (Di DX (gE A))]\/∃r m,x=.ptr r 0 0/\Ai H r=some (c_ D0 [.mp m])/\Ai H m=some (.map false (Di DX (gE A)) none)
theorem rP.one{H:Hp}{x:AV}{A:ed}(h:rP H x A):B3 x=[x]/\AV.one x=true:=by
 rcases h with rfl|⟨_,_,rfl,_⟩<;>exact⟨rfl,rfl⟩
def rP.keep{H H':Hp}{x:AV}{A:ed}(h:rP H x A)(k:∀u y,Ai H u=some y->Ai H' u=some y):rP H' x A:=by
 rcases h with rfl|⟨r,m,rfl,h1,h2⟩
 ·exact .inl rfl
 ·exact .inr ⟨r,m,rfl,k _ _ h1,k _ _ h2⟩
def A38{H:Hp}{r m:Nat}(h:Ai H r=some (c_ D0 [.mp m])):(Lu (.ptr r 0 0) λv=>CD 0 v λv=>AD Aj v H F)=F (.mp m):=by
 rw[Iz,fA,Kd,AF (p:=0) rfl h (by simp)];rfl
def rP.fld{H:Hp}{x:AV}{A:ed}(h:rP H x A):∃mm,(∀F:K2,(Lu x λv=>CD 0 v λv=>AD Aj v H F)=F mm)/\∀K,yM mm H K=K (Di DX (gE A)):=by
 rcases h with rfl|⟨r,m,rfl,h1,h2⟩
 ·exact⟨_,λF=>A0C,λK=>id rfl⟩
 ·exact⟨.mp m,λF=>A38 h1,λK=>ZA h2⟩
def rP.nn{H:Hp}{x:AV}{A:ed}(h:rP H x A):R6 BL CX .eql x (.v (.pointer none)) F=F (Bo false):=by
 rcases h with rfl|⟨r,m,rfl,_⟩<;>kernel_rfl
def rP.fx{H:Hp}{x:AV}{A:ed}(h:rP H x A){D:Nat}:∃q,Fx true (D+5) x (.iptr [.imap (Di DX (gE A))]) H q:=by
 rcases h with rfl|⟨r,m,rfl,h1,h2⟩
 ·exact⟨false,Rq⟩
 ·exact⟨true,Xo (D:=D+4) h1 (Ao (q:=true) (q':=false) (A4f (D:=D) h2) AH)⟩
def wK(H:Hp)(v:AV)(l:List AR):Prop:=SA l v\/NB H v l
section
variable{H H' H0:Hp}{v x iv:AV}{l ids:List AR}{A:ed}{K:KV}{w:AV}
theorem wK.one(h:wK H v l):B3 v=[v]/\AV.one v=true:=by
 rcases h with h|h
 ·rcases h with rfl|⟨_,rfl⟩<;>exact⟨rfl,rfl⟩
 ·rcases h with⟨rfl,_⟩|⟨_,_,_,rfl,_⟩<;>exact⟨rfl,rfl⟩
def wK.keep(h:wK H v l)(k:∀u y,Ai H u=some y->Ai H' u=some y):wK H' v l:=h.imp id λh=>h.kp λu y _ a=>k u y a
theorem wK.len(h:wK H v l):Bh Ac v F=F (I l.length):=by
 rcases h with h|h
 ·exact h.len
 ·exact h.len
def wK.get(h:wK H v l){i:Nat}(a:i<l.length):(DC Ac v (I i) λp=>AD Ah p H F)=F (S l[i]):=by
 rcases h with h|h
 ·rw[h.ia a,Ke]
 ·rcases h with⟨rfl,rfl⟩|⟨r,q,b,rfl,h2⟩
  ·simp at a
  ·rw[R5 a,AF (p:=i) rfl h2 (by rw[EK,Bc];omega),UW,l0m (by rw[Bc];exact a)];unfold AE;rw[yH,KL a];rfl
def Vo(A:ed)(ids:List AR):ed:=ids.filterMap λy=>MB (gE A) y
def A7g:(Vo A ids).length<=ids.length:=List.length_filterMap_le _ _
def B5A{r0 s m:Nat}{c6:AV}{k3:Ru}(t:GOk A)(g:∀y∈ids,y∈A.map Cd.id)(u:ids.length<900)(k:Ai H0 m=some (c_ AX [x]))(C:rP H0 x A)(hv:wK H0 iv ids)(e:∀v H,CollC H0 r0 s true Bz c6 (Vo A ids) v H->(Vo A ids=[]->v=Av)->k3 H=x0):
 ∀(f i:Nat)(v:AV)(H:Hp),i<=ids.length->ids.length-i<f->CollC H0 r0 s true Bz c6 (Vo A (ids.take i)) v H->(Vo A (ids.take i)=[]->v=Av)->
 Ii (L+20) (r! L (n+2)) K k3 f (.yl s) (.ptr m 0 0) iv (I ids.length) (I i) H=x0:=by
 intro f
 induction f with
 |zero=>intro i v H _ h;omega
 |succ f ih=>
  intro i v H N M hc r;rw[PA];unfold Ij Dz IA A3;by_cases h:i<ids.length
  ·obtain⟨c,a⟩:∃c,MB (gE A) ids[i]=some c:=V_ (g _ (Qk h));obtain⟨d,_⟩:=oI a;have B:=Xz (t.ok c d);have D:∀{F:K2},AD BL (.ptr m 0 0) H F=F x:=λ{F}=>AF (p:=0) rfl (hc.keep _ _ k) (by simp);obtain⟨mm,f1,f2⟩:=(C.keep hc.keep).fld;rw[Fz (by omega),Cu,(hv.keep hc.keep).get h,D,f1,U',rK (f:=DX) (b:=gE A) f2,a];simp only[];rw[CT.z (A0S (n:=n) (t.ok c d) (by omega)) (oN H)];have q:Vo A (ids.take (i+1))=Vo A (ids.take i)++[c]:=by
    unfold Vo;rw[oH h,List.filterMap_append,List.filterMap_cons,a];rfl
   have P:(Vo A (ids.take i)).length<=i:=by
    have:=A7g (A:=A) (ids:=ids.take i);rw[l0h]at this;omega
   refine A5t hc (by omega) λJ H' j O hr=>?_;rw[Eh];show A1 (.v (.bool false)) _ _=_;rw[AZ,Db (by omega)];exact ih (i+1) J H' (by omega) (by omega) (by rw[q];exact j) (by rw[q];simp)
  ·have:i=ids.length:=by omega
   subst this;rw[wQ]at hc r;rw[Fp (by omega),AZ];exact e v H hc r
def A95(D:GOk A)(c:∀y∈ids,y∈A.map Cd.id)(e:ids.length<900)(M:40000<L)(wf:Wf H)(q:rP H x A)(hv:wK H iv ids)(C:∀v H',NewC H (Vo A ids) v H'->K v H'=x0):
 (r! L (n+6)).call Ie [x,iv] H (λv H=>(r! L (n+6)).call BF [v] H K)=x0:=by
 rw[Tu];unfold Ka LR;rw[A4G q.one,A4G hv.one];have w1:=AG (x:=.cells true AX [x]) wf;have m:As ((As H,c_ AX [x])::H)=As H+1:=rfl;rw[m];have j:Wf ((As H+1,c_ A8 [iv])::(As H,c_ AX [x])::H):=AG (x:=.cells true A8 [iv]) w1;have f:∀u y,Ai H u=some y->Ai ((As H+1,c_ A8 [iv])::(As H,c_ AX [x])::H) u=some y:=λu y a=>by
  have a1:=A7 (x:=.cells true AX [x]) (wf.lt a) a;exact A7 (w1.lt a1) a1
 have b1:Ai ((As H+1,c_ A8 [iv])::(As H,c_ AX [x])::H) (As H)=some (c_ AX [x]):=A7 (H:=(As H,c_ AX [x])::H) (by rw[m];omega) (Ax (by simp));have b2:Ai ((As H+1,c_ A8 [iv])::(As H,c_ AX [x])::H) (As H+1)=some (c_ A8 [iv]):=Ax (H:=(As H,c_ AX [x])::H) (by simp);have t:As ((As H+1,c_ A8 [iv])::(As H,c_ AX [x])::H)=As H+2:=rfl;generalize ((As H+1,c_ A8 [iv])::(As H,c_ AX [x])::H:Hp)=g at j f b1 b2 t;refine dV (n:=n+3) (Q:=λl _=>l=Vo A ids) (H0:=g) j j rfl (λu y a=>a) (λk F hc J d B=>?_) (λl v H' hq b=>?_)
 ·rw[Qt];unfold I7 A3;simp only[BE];have li:∀{F:K2},AD Ac (.ptr (As H+1) 0 0) k F=F iv:=λ{F}=>AF (p:=0) rfl (d _ _ b2) (by simp);have r:(AV.v (.int .i64 0))=I ((0:Nat):Int):=rfl;rw[li,(hv.keep f).keep d|>.len,r];exact B5A (n:=n+1) (r0:=As g) (s:=As g+1) (H0:=g) D c e b1 (q.keep f) (hv.keep f) (λv H' i h=>B _ v H' rfl h i) (L+20) 0 Av k (by omega) (by omega) (by simpa [Vo] using hc) (λ_=>rfl)
 ·subst hq;refine C v H' ⟨b.sl,b.nil,λu a=>?_,b.wf,λu y a=>b.keep u y (f u y a),?_⟩
  ·have:=b.new u a;omega
  ·have:=b.nx;omega
end
end
section
variable{v:AV}{F:K2}{p q:AV->Bool}
variable{L n:Nat}
def C0L(c:Cd)(g:∀z,p (I z)=true)(h:∀s,p (S s)=true)(hn:p Av=true)(a:p c.fT=true)(d:p c.fI=true)(e:p c.fN=true)(f:p (DD c.ps)=true):c.cs.all p=true:=by
 match c,a,d,e,f with
 |.re b u,a,_,_,_=>
  have a:p (E4 b.ts)=true:=a;show(DW 1 b.m (uu u) (qn b.c) (qd b.c) (E4 b.ts) (qn b.r) (qd b.r) Av 0 Av Av u0 r0 0).all p=true;simp only[oF,l3a,g,h,hn,a,l1g]
 |.co b q ps none,a,d,e,f=>
  have a:p (E4 b.ts)=true:=a;have d:p (BC q.ks)=true:=d;have e:p (Ci q.xs)=true:=e;have f:p (DD ps)=true:=f;show(DW 2 b.m (uu q.out) (qn b.c) (qd b.c) (E4 b.ts) (qn b.r) (qd b.r) (DD ps) q.id (BC q.ks) (Ci q.xs) (uu q.out) r0 0).all p=true;simp only[oF,l3a,g,h,hn,a,d,e,f,l1g]
 |.co b q ps (some (k,vd)),a,d,e,f=>
  have a:p (E4 b.ts)=true:=a;have d:p (BC q.ks)=true:=d;have e:p (Ci q.xs)=true:=e;have f:p (DD ps)=true:=f;show(DW 3 b.m (uu q.out) (qn b.c) (qd b.c) (E4 b.ts) (qn b.r) (qd b.r) (DD ps) q.id (BC q.ks) (Ci q.xs) (uu q.out) (rr k) vd).all p=true;simp only[oF,l3a,g,h,hn,a,d,e,f,l1g]
def A9j(h:∀t:Int×Int,(NC t).all q=true)(ts:dQ):(ts.flatMap NC).all q=true:=by
 rw[GG];intro x c;obtain⟨a,_,b⟩:=l39.1 c;exact GG.1 (h a) x b
def B0Z(h:∀k:Nat,(HI k).all q=true)(ks:Hb):(ks.flatMap HI).all q=true:=by
 rw[GG];intro x c;obtain⟨a,_,b⟩:=l39.1 c;exact GG.1 (h a) x b
def B0B(h:∀y:Nd,(Q! y).all q=true)(xs:List Nd):(xs.flatMap Q!).all q=true:=by
 rw[GG];intro x c;obtain⟨a,_,b⟩:=l39.1 c;exact GG.1 (h a) x b
def kS(h:∀s,q (S s)=true)(l:List AR):(AE l).all q=true:=by
 rw[GG];intro x b;obtain⟨a,_,rfl⟩:=Rc.1 b;exact h a
def fl1(a:AV):Bool:=match a with
 |.v _=>true
 |.list _ cs=>cs.all SW
 |_=>false
def A9i(hn:p Av=true)(a:∀n l,l.all SW=true->l.all (pl 4)=true->p (.list n l)=true)(ts:dQ):p (E4 ts)=true:=by
 cases ts with
 |nil=>exact hn
 |cons t ts=>exact a _ _ (A9j (λ_=>rfl) _) (A9j (λ_=>rfl) _)
def B6u(hn:p Av=true)(a:∀n l,l.all SW=true->l.all (pl 4)=true->p (.list n l)=true)(ks:Hb):p (BC ks)=true:=by
 cases ks with
 |nil=>exact a _ _ rfl rfl
 |cons t ts=>exact a _ _ (B0Z (λ_=>rfl) _) (B0Z (λ_=>rfl) _)
def B6i(hn:p Av=true)(a:∀n l,l.all SW=true->l.all (pl 4)=true->p (.list n l)=true)(xs:List Nd):p (Ci xs)=true:=by
 cases xs with
 |nil=>exact a _ _ rfl rfl
 |cons t ts=>exact a _ _ (B0B (λ_=>rfl) _) (B0B (λ_=>rfl) _)
def B6d(hn:p Av=true)(a:∀n l,l.all SW=true->l.all (pl 4)=true->p (.list n l)=true)(ps:List AR):p (DD ps)=true:=by
 cases ps with
 |nil=>exact hn
 |cons t ts=>exact a _ _ (kS (λ_=>rfl) _) (kS (λ_=>rfl) _)
def B5E(c:Cd)(d:∀z,p (I z)=true)(e:∀s,p (S s)=true)(hn:p Av=true)(a:∀n l,l.all SW=true->l.all (pl 4)=true->p (.list n l)=true):c.cs.all p=true:=by
 refine C0L c d e hn ?_ ?_ ?_ (B6d hn a _)
 ·match c with
  |.re b u=>exact A9i hn a b.ts
  |.co b q ps none=>exact A9i hn a b.ts
  |.co b q ps (some (k,vd))=>exact A9i hn a b.ts
 ·match c with
  |.re b u=>exact hn
  |.co b q ps none=>exact B6u hn a q.ks
  |.co b q ps (some (k,vd))=>exact B6u hn a q.ks
 ·match c with
  |.re b u=>exact hn
  |.co b q ps none=>exact B6i hn a q.xs
  |.co b q ps (some (k,vd))=>exact B6i hn a q.xs
def C0V(c:Cd):c.cs.all fl1=true:=B5E c (λ_=>rfl) (λ_=>rfl) rfl λ_ _ h _=>h
def C0U(c:Cd):c.cs.all (pl 5)=true:=B5E c (λ_=>rfl) (λ_=>rfl) rfl λ_ _ _ h=>h
def B4O(l:ed):pl 6 (eP l)=true:=by
 cases l with
 |nil=>rfl
 |cons c l=>
  show((c::l).flatMap Cd.cs).all (pl 5)=true;rw[GG];intro x d;obtain⟨a,_,b⟩:=l39.1 d;exact GG.1 (C0U a) x b
section
variable{H:Hp}{D:Nat}
def C33{a:AV}(h:fl1 a=true):NI H D a F=F a:=by
 cases a with
 |v x=>cases D<;>rfl
 |list n cs=>
  have h:cs.all SW=true:=h;have e:NI H D (.list n cs) F=ck (cs.all SW) (F (.list n cs)):=by cases D<;>rfl
  rw[e,h];rfl
 |_=>simp[fl1]at h
def B0J:∀(l:Is),l.all fl1=true->∀F:Is->Af,SO (NI H D) l F=F l:=by
 intro l
 induction l with
 |nil=>intro _ F;rfl
 |cons a l ih=>
  intro h F;simp only[oF,KF]at h;show NI H D a (λb=>SO (NI H D) l λc=>F (b::c))=_;rw[C33 h.1,ih h.2]
def B0K{l:ed}(h:Bk H Ad 68 v l.length (l.flatMap Cd.cs))(f:l=[]->v=Av):NI H (D+1) v F=F (eP l):=by
 cases l with
 |nil=>rw[f rfl];rfl
 |cons c l=>
  rcases h with⟨_,h1,_⟩|⟨r,q,rfl,h2,j⟩
  ·simp at h1
  ·have e:NI H (D+1) (.sl 68 r 0 (c::l).length) F=IR H r λx=>Ki x λ_ cs=>EO (Nat.mul (c::l).length 68) (Dn 0 cs) λd=>SO (NI H D) d λb=>F (.list (c::l).length b):=rfl;rw[e,Bp h2];show EO ((c::l).length*68) (Dn 0 ((c::l).flatMap Cd.cs)) (λd=>SO (NI H D) d λb=>F (.list (c::l).length b))=_;rw[CA,rB,KS _ _ _ (by omega),l25 (by omega),B0J _ (by
    rw[GG];intro x i;obtain⟨a,_,g⟩:=l39.1 i;exact GG.1 (C0V a) x g)]
   rfl
end
def vH{D:Nat}{H:Hp}{l:ed}(h:Bk H Ad 68 v l.length (l.flatMap Cd.cs))(b:l=[]->v=Av):∃q,Fx true (D+1) v (eP l) H q:=by
 cases l with
 |nil=>exact⟨false,by rw[b rfl];exact CC⟩
 |cons c l=>
  rcases h with⟨_,h1,_⟩|⟨r,q,rfl,h2,d⟩
  ·simp at h1
  ·exact⟨true,VE (q':=false) h2 d (Z7 _ (by
    rw[GG];intro x f;obtain⟨a,_,e⟩:=l39.1 f;exact GG.1 (B5E (p:=fixB) a (λ_=>rfl) (λ_=>rfl) rfl λ_ _ _ _=>rfl) x e))⟩
section
variable{A:ed}{H:Hp}{x:AV}{w:AV}{K:KV}
def B0t(a:GOk A){out:ed}(b:out.Perm (I4 A)):hY out=.tup [DD (Wp (I4 A)),I 0]:=by
 rw[A7l (Xx a.ids) b];unfold hY;rw[Dq (A2t a.ids)]
def A4L(a:GOk A){out:ed}(b:out.Perm (I4 A)):GOk out:=by
 have d:∀c∈out,c∈A:=λc hc=>(QA.1 (b.mem_iff.1 hc)).1;refine⟨λc hc=>a.ok c (d c hc),λc hc=>a.nd c (d c hc),(b.map _).symm.nodup (Xx a.ids),?_⟩;have h1:(I4 A).length<=A.length:=l30 _ _;have h2:=a.len;rw[b.length_eq];omega
def A9c(k:VS 6 w w=true)(b:GOk A)(t:200000<L)(s:∀v H,NewC [] (T2 A) v H->K v H=some (w,[])):
 (r! L (n+82)).call BS [.iptr [.imap (Di DX (gE A))]] [] K=some (w,[]):=by
 rw[UB];unfold Kz;have C:rP [] (.iptr [.imap (Di DX (gE A))]) A:=.inl rfl;rw[C.nn,AZ];refine sM (n:=n+77) k b (by omega) FH λout m N h hm _ w1 _ n1=>?_;have B:=A4L b h;refine A8J (n:=n+77) k (by have:=B.len;omega) (by omega) w1 hm λl v i f g=>?_;have d:=A4L b (f.trans h);obtain⟨q,hq⟩:=vH (D:=11) g.sl g.nil;have e:∀{F:K2},Ap (r! L (n+81)) Ql [v] i F=F (.tup [DD (Wp (I4 A)),I 0]):=λ{F}=>by
  have:=AP (H:=i) (K:=F) (B3a (L:=L) (n:=n+1) d t (λc hc=>by have:=Xz (d.ok c hc);omega) (Rp l)) (Ao hq AH);rw[this,B0t b (f.trans h)]
 rw[e,GX,Zg];refine A95 (n:=n+75) (A:=A) b (λy J=>?_) ?_ (by omega) g.wf (.inl rfl) (.inl (Mt _)) λM r a=>s M r ⟨a.sl,a.nil,λu j=>l1h _,a.wf,λu y j=>by simp[Ai]at j,l1h _⟩
 ·exact(VM.1 ((Su (gs:=I4 A)).1.ids y J)).ids
 ·have h1:=(Su (gs:=I4 A)).1.len;have h2:(I4 A).length<=A.length:=l30 _ _;have O:=b.len;omega
def A0U(g:GOk A)(f:200000<L)(j:rP H x A):JR (r! L (n+82)) BS [x] H F=F (eP (T2 A)):=by
 have h:VS 6 (eP (T2 A)) (eP (T2 A))=true:=Tk 6 _ (B4O _);rcases j with rfl|⟨r,m,rfl,h1,h2⟩
 ·show Ap (r! L (n+82)) BS [.iptr [.imap (Di DX (gE A))]] H F=_;exact CT.z (λK i=>A9c h g f λv H b=>i v H (vH (D:=11) b.sl b.nil)) (Ao (q:=false) Rq AH)
 ·have e:JR (r! L (n+82)) BS [.ptr r 0 0] H F=IR H r λx=>gM x λq _ cs=>match q,cs with
   |true,[.mp m]=>IR H m λy=>qG y λa=>ck (a.all λp=>fB 3 p.2) (Au ((r! L (n+82)).call BS [.iptr [.imap a]] [] λv c=>NI c depth v λd=>some (d,[])) F)
   |_,_=>none:=rfl
  rw[e,Bp h1];show(IR H m λy=>qG y λa=>ck (a.all λp=>fB 3 p.2) (Au ((r! L (n+82)).call BS [.iptr [.imap a]] [] λv c=>NI c depth v λd=>some (d,[])) F))=_;rw[Bp h2];show ck ((Di DX (gE A)).all λp=>fB 3 p.2) _=_;rw[B28,A9c (w:=eP (T2 A)) h g f λv H b=>by rw[show depth=11+1 from rfl,B0K b.sl b.nil]];rfl
end
end
section
variable{L n:Nat}
def lA:Ha:=[190,37,193,108,62,69,192,54,146,30,179,35,185,160,42,118,74,72,34,96,70,26,154,115,110,60,175,172,120,42,152,121]
def gL:Cd:=.re ⟨⟨1,1,1,0,0⟩, -80,0,[(1, -8),(2, -8),(3, -8),(4, -8),(5, -8)]⟩ 0
def A9t:cdM 0 0 0 0 0 0 0 0 0 0 0 0 none []=gL:=by kernel_rfl
def dY:gL.id=lA:=by kernel_rfl
end
section
variable{L n:Nat}
def RT(R:Rt)(f:Nat)(args:Is)(v:AV):Prop:=(R.call f args [] λv a=>HV true a depth v λ_ b=>some (b,[]))=some (v,[])
def A0t{R:Rt}{f:Nat}{args args':Is}{v:AV}{H:Hp}{K:K2}(hc:RT R f args' v)(a:R9 true depth args args' H false):Ap R f args H K=K v:=by
 unfold Ap;rw[a];show Au (R.call f args' [] _) K=K v;rw[show((!false)=true) from rfl,hc];rfl
end
section
variable{F:K2}{PP:Af->Prop}{H0:Hp}{D:Nat}
variable{L n:Nat}
def PC.Ok:PC->Prop
 |.c d=>d.Ok/\d.ps.Nodup
 |.z=>True
def PC.id:PC->AR
 |.c d=>d.id
 |.z=>[]
def PC.len(p:PC):p.cells.length=68:=by
 cases p with
 |c d=>exact EH
 |z=>rfl
theorem PC.one(p:PC):p.cells.all AV.one=true:=by
 cases p with
 |c d=>exact MA
 |z=>rfl
def PC.fxD{H:Hp}(p:PC):Fx true (D+3) (.agg p.cells) (.agg p.cells) H false:=by
 cases p with
 |c d=>exact A4O
 |z=>exact λK=>by kernel_rfl
def PC.fx{H:Hp}(p:PC):Fx true depth (.agg p.cells) (.agg p.cells) H false:=p.fxD (D:=9)
theorem PC.fixB(p:PC):p.cells.all Go.Abs.fixB=true:=by
 cases p with
 |c d=>exact B5E d (λ_=>rfl) (λ_=>rfl) rfl λ_ _ _ _=>rfl
 |z=>rfl
def hC(l:List PC):(l.flatMap PC.cells).length=l.length*68:=A61 PC.len l
def A5C(l:ed):(l.map PC.c).flatMap PC.cells=l.flatMap Cd.cs:=by
 induction l with
 |nil=>rfl
 |cons a l ih=>rw[XI,rE,rE,ih];rfl
def B4F(l:List PC):(l.flatMap PC.cells).all Go.Abs.fixB=true:=by
 rw[GG];intro x c;obtain⟨a,_,b⟩:=l39.1 c;exact GG.1 a.fixB x b
def dR(H:Hp)(v:AV)(l:List PC):Prop:=(v=Av/\l=[])\/v=.list l.length (l.flatMap PC.cells)\/∃r q b,v=.sl 68 r 0 l.length/\Ai H r=some (.cells q Ad (l.flatMap PC.cells++b))
section
variable{H H':Hp}{v a:AV}{l:List PC}{gs A:ed}{K:KV}{x0:Af}{x:AV}
def dR.of_LA(h:LA gs a):dR H a (gs.map .c):=by
 rcases h with rfl|⟨rfl,rfl⟩
 ·exact .inr (.inl (by rw[UH,A5C]))
 ·exact .inl ⟨rfl,rfl⟩
def dR.keep(h:dR H v l)(k:∀u y,A9 v u->Ai H u=some y->Ai H' u=some y):dR H' v l:=by
 rcases h with h|h|⟨r,q,b,rfl,h⟩
 ·exact .inl h
 ·exact .inr (.inl h)
 ·exact .inr (.inr ⟨r,q,b,rfl,k r _ ⟨_,_,_,rfl⟩ h⟩)
theorem dR.one(h:dR H v l):B3 v=[v]/\AV.one v=true:=by
 rcases h with⟨rfl,_⟩|rfl|⟨_,_,_,rfl,_⟩<;>exact⟨rfl,rfl⟩
def dR.len(h:dR H v l):Bh Ak v F=F (I l.length):=by
 rcases h with⟨rfl,rfl⟩|rfl|⟨_,_,_,rfl,_⟩<;>exact r_ rfl
def dR.get(h:dR H v l){i:Nat}(b:i<l.length):(DC Ak v (I i) λp=>AD Ae p H F)=F (.agg l[i].cells):=by
 rcases h with⟨rfl,rfl⟩|rfl|⟨r,q,s,rfl,h⟩
 ·simp at b
 ·rw[Zf (f:=PC.cells) rfl PC.len b];cases l[i] with
  |c d=>exact nH
  |z=>exact r_ rfl
 ·rw[C0C b];have e:AD Ae (.ptr r (i*68) 0) H F=IR H r λx=>Ki x λ_ cs=>EO 68 (Dn (Nat.add (i*68) 0) cs) λc=>F (.agg c):=r_ rfl;rw[e,Bp h];show EO 68 (Dn (i*68+0) (l.flatMap PC.cells++s)) (λc=>F (.agg c))=_;rw[Nat.add_zero];have j:=hC l;have hm:(i+1)*68<=l.length*68:=l28 _ b;rw[CA,KS _ _ _ (by rw[l0u,EK];omega),l34 (by omega),l32 (by rw[l0u];omega)];have g:l=l.take i++l[i]::l.drop (i+1):=by rw[<-uZ b,l38]
  have k:(l.flatMap PC.cells).drop (i*68)=l[i].cells++(l.drop (i+1)).flatMap PC.cells:=by
   conv=>lhs;rw[g]
   have m:((l.take i).flatMap PC.cells).length=i*68:=by rw[hC,l0h];congr 1;omega
   rw[l2l,<-m,List.drop_left,rE]
  rw[k,List.take_left' (PC.len _)]
def dR.fx(h:dR H v l):∃a q,dR [] a l/\Fx true (D+1) v a H q:=by
 rcases h with⟨rfl,rfl⟩|rfl|⟨r,q,b,rfl,h⟩
 ·exact⟨Av,false,.inl ⟨rfl,rfl⟩,CC⟩
 ·exact⟨_,false,.inr (.inl rfl),OI⟩
 ·refine⟨.list l.length (l.flatMap PC.cells),true,.inr (.inl rfl),Xn (q':=false) h (by rw[EK,hC];omega) ?_⟩;rw[rB,l32 (by rw[hC];omega),l25 (by rw[hC];omega)];exact Z7 _ (B4F l)
def C2q:RT (r! L (n+64)) FK [.agg CN] (S []):=by unfold RT;kernel_rfl
def C1J:RT (r! L (n+64)) IQ [.agg CN] (S []):=by unfold RT;kernel_rfl
def C2z(e:40000<L){p:PC}(b:p.Ok):Ap (r! L (n+64)) FK [.agg p.cells] H F=F (S p.id):=by
 cases p with
 |c d=>exact AP (A02 (n:=n) e b.1 b.2) (Ao (PC.fx (.c d)) AH)
 |z=>exact A0t (C2q (L:=L) (n:=n)) (Ao (PC.fx .z) AH)
def C1L(e:40000<L){p:PC}(b:p.Ok):Ap (r! L (n+64)) IQ [.agg p.cells] H F=F (S p.id):=by
 cases p with
 |c d=>exact AP (B22 (n:=n+1) e b.1 b.2) (Ao (PC.fx (.c d)) AH)
 |z=>exact A0t (C1J (L:=L) (n:=n)) (Ao (PC.fx .z) AH)
def C05{m:KV}(J:∀p∈l,p.Ok)(hb:l.length<1000)(B:40000<L)(C:dR H0 a l)(w0:Wf H0)(M:∀v H,NewSl H0 (l.map PC.id) v H->(l=[]->v=Av)->PP (m v H)):∀(f i:Nat)(v:AV)(H:Hp),i<=l.length->l.length-i<f->NewSl H0 ((l.take i).map PC.id) v H->(l.take i=[]->v=Av)->
 PP (Wd (L+20) (r! L (n+64)) K m f a v (I i) H):=by
 intro f
 induction f with
 |zero=>intro i v H _ h;omega
 |succ f ih=>
  intro i v H Q P b j;rw[tD];unfold We IA A3;have d:dR H a l:=C.keep λu y _ c=>b.keep u y c;rw[d.len];by_cases h:i<l.length
  ·have g:=b.sl;obtain⟨N,H',r,k,s,O,t,w⟩:=A6m l[i].id g b.wf (by simp;omega);rw[Fz (by omega),Cu,d.get h,C2z (n:=n) B (J _ (Qk h)),r,Db (by omega)];have q:(l.take i).map PC.id++[l[i].id]=(l.take (i+1)).map PC.id:=by rw[oH h,Z6];rfl
   rw[q]at k;have nx:=b.nx;refine ih (i+1) N H' (by omega) (by omega) ⟨k,λu c=>XV nx (w u c),s,λu y c=>t u y (b.keep u y c) λhv=>?_,by omega⟩ (λe=>by have:=congrArg List.length e;rw[l0h,Re]at this;omega);have a1:=w0.lt c;have a2:=b.new u hv;omega
  ·rw[Fp (by omega),AZ];have:i=l.length:=by omega
   subst this;rw[wQ]at b j;exact M v H b j
def A9e(f:∀p∈l,p.Ok)(hb:l.length<1000)(d:40000<L)(e:dR H a l)(wf:Wf H)(g:∀v H',NewSl H (l.map PC.id) v H'->(l=[]->v=Av)->PP (K v H')):PP ((r! L (n+65)).call Qy [a] H K):=by
 rw[xQ];unfold YF A3;simp only[BE];have c:(AV.v (.int .i64 0))=I ((0:Nat):Int):=rfl;rw[c];exact C05 f hb d e wf g (L+20) 0 Av H (by omega) (by omega) ⟨.inl ⟨rfl,rfl,rfl⟩,λu b=>absurd b IN,wf,λu y b=>b,Mh _⟩ (λ_=>rfl)
def C1S(d:∀p∈l,p.Ok)(hb:l.length<1000)(b:40000<L)(c:dR H a l)(wf:Wf H)(e:∀v H',NewSl H (l.map PC.id) v H'->(l=[]->v=Av)->K v H'=x0):(r! L (n+65)).call Qy [a] H K=x0:=
 A9e (PP:=λa=>a=x0) d hb b c wf e
def NewSl.sat{ss:List AR}(h:NewSl H0 ss v H)(c:ss=[]->v=Av):NB H v ss:=by
 rcases h.sl with⟨rfl,_,h1⟩|⟨r,q,rfl,h2,_⟩
 ·refine .inl ⟨rfl,?_⟩;cases ss with
  |nil=>rfl
  |cons a b=>cases h1
 ·exact .inr ⟨r,q,[],rfl,by rw[V0];exact h2⟩
def B2n(b:GOk A):GOk (T2 A):=by
 have d:=A2E (l:=A) ⟨λc h=>h,b.ids⟩;exact d.ok b
def B9D(b:GOk gs):∀p∈gs.map PC.c,p.Ok:=λp d=>by
 obtain⟨c,hc,rfl⟩:=Rc.1 d;exact⟨b.ok c hc,b.nd c hc⟩
def B4E(gs:ed):(gs.map PC.c).map PC.id=gs.map Cd.id:=by rw[List.map_map];rfl
def B7a(d:GOk A)(i:200000<L)(j:rP H x A)(wf:Wf H)(h:∀v H',NewSl H ((T2 A).map Cd.id) v H'->((T2 A)=[]->v=Av)->PP (K v H')):PP ((r! L (n+83)).call TJ [x] H K):=by
 rw[yB];unfold YM;have f:=B2n d;rw[A0U (n:=n) d i j];refine A9e (n:=n+17) (l:=(T2 A).map .c) (B9D f) (by rw[UH];have:=f.len;omega) (by omega) (dR.of_LA (Rp _)) wf λv H' b g=>?_;rw[B4E]at b;exact h v H' b λe=>g (by rw[e];rfl)
end
end
section
variable{i r:Nat}
variable{L n:Nat}
section
variable{H H0 H':Hp}{v a1 a2:AV}{l l1 l2 ps:List AR}{A:ed}{K:KV}{x0:Af}{x:AV}
def A5i(h:NB H v l)(hn:l.length<1000000000)(m:∀H',NB H' v (Et l)->Lat H H' (A9 v)->K (.tup []) H'=x0):
 (r! L (n+4)).call AL [v] H K=x0:=by
 rcases h with⟨rfl,rfl⟩|⟨r,q,b,rfl,c⟩
 ·have e:(r! L (n+4)).call AL [Av] H K=K (.tup []) H:=by kernel_rfl
  rw[e];exact m H (.inl ⟨rfl,rfl⟩) (Lat.refl _ _)
 ·by_cases p:l=[]
  ·subst p;have e:(r! L (n+4)).call AL [.sl 1 r 0 0] H K=K (.tup []) H:=by
    have f:(r! L (n+4)).call AL [.sl 1 r 0 0] H K=T7 [.sl 1 r 0 0] H K (Zl (E (L+20)) (nT (L+20)) (r! L (n+3)) AL [.sl 1 r 0 0] H K):=rfl;have j:Zl (E (L+20)) (nT (L+20)) (r! L (n+3)) AL [.sl 1 r 0 0] H K=K (.tup []) H:=by kernel_rfl
    rw[f,j];unfold T7;simp only[c];split
    ·rename_i xs _;cases xs<;>rfl
    ·rfl
   show(r! L (n+4)).call AL [.sl 1 r 0 0] H K=x0;rw[e];exact m H (.inr ⟨r,q,b,rfl,c⟩) (Lat.refl _ _)
  ·have f:∀K,(r! L (n+4)).call AL [.sl 1 r 0 l.length] H K=T7 [.sl 1 r 0 l.length] H K (Zl (E (L+20)) (nT (L+20)) (r! L (n+3)) AL [.sl 1 r 0 l.length] H K):=λK=>rfl;rw[f];have k:∀(l:List Ha),Vi (AE l)=some l:=λl=>by
    induction l with
    |nil=>rfl
    |cons a l ih=>show(Vi (AE l)).map _=_;rw[ih];rfl
   have t:0<l.length:=List.length_pos_iff.2 p;have s:=(Bq l).length_eq;have j:∀alt K,T7 [.sl 1 r 0 l.length] H K alt=Ey 0 (AE (Et l)) (AE l++b) λd=>XA4 H r (.cells q Aq d) λH'=>K (.tup []) H':=λalt K=>by
    unfold T7;simp only[c,rB];rw[l32 (by rw[Bc];omega),l25 (by rw[Bc];omega),k];have g:(Nat.beq l.length l.length&&(Nat.blt l.length 4611686018427387904&&Nat.blt 0 l.length))=true:=by simp;omega
    simp only[g];rfl
   rw[j,Iu _ _ _ _ (by rw[Bc,EK,Bc];omega),Dg];have u:splice (AE l++b) 0 (AE (Et l))=AE (Et l)++b:=by
    unfold splice;rw[List.take_zero,l3b,Kd,Bc,s]
    congr 1
    have:l.length=(AE l).length:=(Bc l).symm;rw[this,List.drop_left]
   rw[u];refine m _ (.inr ⟨r,q,b,by rw[s],AC c⟩) (Lat.upd H r _ ⟨1,0,l.length,rfl⟩)
def SA.src(h:SA l v){F:Nat->Is->Af}:Tz H v F=F l.length (AE l):=by
 rcases h with rfl|⟨rfl,rfl⟩
 ·rfl
 ·rfl
def SA.ok(h:SA l v):(dJ Ac.d&&T6 1 v)=true:=by
 rcases h with rfl|⟨rfl,rfl⟩<;>rfl
def B64{ss:List AR}(e:Bk H Aq 1 v ss.length (AE ss))(b:SA l a1)(hn:ss.length+l.length<1000000):
 ∃a H',(∀K:KV,DK Aq 1 Ah Ac v a1 H K=K a H')/\Bk H' Aq 1 a (ss++l).length (AE (ss++l))/\(∀u,A9 a u->u=As H)/\Lat H H' (A9 v):=by
 obtain⟨a,H',h1,h2,c,d⟩:=apt (ie:=Ah) (i2:=Ac) e (λK=>b.src (F:=K)) (by rw[Bc,qZ]) (kS (λ_=>rfl) l) (by decide) rfl b.ok (by show(ss.length+l.length)*16<=_;omega) (by omega);refine⟨a,H',h1,?_,c,d⟩;rw[EK];have:AE (ss++l)=AE ss++AE l:=by simp[AE]
 rw[this];exact h2
def SA.cell(h:SA l v):B3 v=[v]/\AV.one v=true:=by rcases h with rfl|⟨_,rfl⟩<;>exact⟨rfl,rfl⟩
def A6b{q:Bool}{e:Nat}{cs:Is}{F:K2}(h:Ai H r=some (.cells q e cs))(a:i<cs.length):AD Ac (.ptr r i 0) H F=F (cs.getD i .dk):=AF (p:=i) rfl h a
def B1G{r i m:Nat}{F:K2}(h:i<m):DC ES (.sl 1 r 0 m) (I (i:Int)) F=F (.ptr r i 0):=by
 have a:DC ES (.sl 1 r 0 m) (I (i:Int)) F=iN (i:Int) λn=>ck (Nat.blt n m) (fN (Nat.add 0 (Nat.mul n 1)) λp=>F (.ptr r p 0)):=rfl;rw[a,Kk,Ee];have h1:Nat.blt i m=true:=by rw[Xi];exact h
 rw[h1];show F (.ptr r (0+i*1) 0)=_;rw[Kd,qZ]
def B7b{k:Nat}(e:k<1000000)(a:k=0->K Av H=x0)(b:0<k->K (.sl 1 (As H) 0 0) ((As H,.cells false Aq [])::H)=x0):(r! L (n+1)).call Fb [Av,I (k:Int)] H K=x0:=by
 have c:(r! L (n+1)).call Fb [Av,I (k:Int)] H K=A1Q Aq [Av,I (k:Int)] H K (Zl (E (L+20)) (nT (L+20)) (r! L n) Fb [Av,I (k:Int)] H K):=rfl;rw[c];have d:∀alt,A1Q Aq [Av,I (k:Int)] H K alt=@Bool.rec (λ_=>Af) (@Bool.rec (λ_=>Af) alt (K Av H) (Nat.beq k 0)) (Io H λr=>K (.sl 1 r 0 0) ((r,.cells false Aq [])::H)) (Nat.blt 0 k&&Nat.ble k 1000000):=λalt=>rfl;rw[d];by_cases h:k=0
 ·subst h;exact a rfl
 ·have g:(Nat.blt 0 k&&Nat.ble k 1000000)=true:=by simp;omega
  rw[g,<-b (by omega)];exact Ca _ _
def A99(wf:Wf H)(hr:Ai H r=some (.cells false A8 [a1,a2]))(h1:SA l1 a1)(h2:SA l2 a2)(V:l1.length<100000)(X:l2.length<100000)(hL:40000<L)(R:∀v H',NewSl H (l1++l2) v H'->K v H'=x0):
 (r! L (n+2)).call Gw [.sl 1 r 0 2] H K=x0:=by
 rw[Nq];unfold Gi A3;simp only[BE];have el:∀{F:K2},Bh ES (.sl 1 r 0 2) F=F (I ((2:Nat):Int)):=λ{F}=>r_ rfl;have Q:(AV.v (.int .i64 0))=I ((0:Nat):Int):=rfl;have C:∀{c}{F:K2},Ai c r=some (.cells false A8 [a1,a2])->(DC ES (.sl 1 r 0 2) (I ((0:Nat):Int)) λp=>AD Ac p c F)=F a1:=λ{c F}h=>by
  rw[B1G (by decide),A6b h (by simp)];rfl
 have D:∀{c}{F:K2},Ai c r=some (.cells false A8 [a1,a2])->(DC ES (.sl 1 r 0 2) (I ((1:Nat):Int)) λp=>AD Ac p c F)=F a2:=λ{c F}h=>by
  rw[B1G (by decide),A6b h (by simp)];rfl
 rw[el,Q];have s:∀{a b:Nat}{F:K2},a+b<1000000->Ar Ab .add (I (a:Int)) (I (b:Int)) F=F (I ((a+b:Nat):Int)):=λ{a b F}h=>by
  rw[CY,CQ (by omega) (by omega)];simp
 have M:∀{a:Nat}{F:K2},Ar Ab .lss (I (a:Int)) (AV.v (.int .i64 0)) F=F (Bo false):=λ{a F}=>by rw[D8,HW (by omega)]
 have tail:∀(v:AV)(c:Hp),Bk c Aq 1 v 0 (AE [])->(∀u,A9 v u->As H<=u)->Wf c->(∀u y,Ai H u=some y->Ai c u=some y)->As H<=As c->
  ∀d1 d2 t w B:AV,FV (L+20) (r! L (n+1)) K (λq f=>K q f) (L+20) d1 d2 v t w B (.sl 1 r 0 2) (I ((2:Nat):Int)) (I ((0:Nat):Int)) c=x0:=λv c Y hv w1 k1 n1 d1 d2 t w B=>by
  have lat:∀{v:AV}{c e:Hp},(∀u,A9 v u->As H<=u)->Lat c e (A9 v)->Wf c->(∀u y,Ai H u=some y->Ai c u=some y)->∀u y,Ai H u=some y->Ai e u=some y:=λ{v c e}hv k w1 k1 u y d=>
   k.keep w1 u y (k1 u y d) λhr=>by have:=hv u hr;have:=wf.lt d;omega
  obtain⟨v2,e,Z,s2,s3,j⟩:=B64 (ss:=[]) Y h1 (by simp;omega);have O:=j.wf w1;have J:=lat hv j w1 k1;have n2:=j.nx;obtain⟨v3,P,t1,N,t3,m⟩:=B64 (ss:=[]++l1) s2 h2 (by simp;omega);have g:∀u,A9 v2 u->As H<=u:=λu d=>by have:=s3 u d;omega
  have k3:=lat g m O J;rw[Ft];unfold Dt IA A3;rw[Fz (by omega),Cu,C (k1 _ _ hr),Z,Db (by omega),Ft];unfold Dt IA A3;rw[Fz (by omega),Cu,D (J _ _ hr),t1,Db (by omega),Ft];unfold Dt IA A3;rw[Fp (by omega),AZ];have n3:=m.nx;exact R v3 P ⟨by rw[l3b]at N;exact N,λu d=>by have:=t3 u d;omega,m.wf O,k3,by omega⟩
 rw[Fs];unfold Ds IA A3;simp only[BE];rw[Fz (by omega),Cu,C hr,h1.len,s (by omega),M,AZ,Db (by omega),Fs];unfold Ds IA A3;simp only[BE];rw[Fz (by omega),Cu,D hr,h2.len,s (by omega),M,AZ,Db (by omega),Fs];unfold Ds IA A3;rw[Fp (by omega),AZ];refine B7b (n:=n) (by omega) (λhz=>?_) (λhp=>?_)
 ·rw[el];exact tail Av H (.inl ⟨rfl,rfl,rfl⟩) (λu d=>absurd d IN) wf (λu y d=>d) (Mh _) _ _ _ _ _
 ·rw[el];exact tail _ _ (.inr ⟨As H,false,rfl,Ax (by simp),rfl⟩) (λu ⟨_,_,_,d⟩=>by injection d with _ d;omega) (AG wf) (λu y d=>A7 (wf.lt d) d) (l1u _) _ _ _ _ _
end
end
section
variable{L n:Nat}
section
variable{H H0 H':Hp}{v a1 a2 lv:AV}{l ex:List AR}{A:ed}{K:KV}{x0:Af}{x w:AV}
def A6G{Hs:Hp}(s:VS 6 w w=true)(c:A.length<1000)(B:40000<L)(ws:Wf Hs)(t:∀l v H',l.Perm A->NewC Hs l v H'->K v H'=some (w,[])):
 (r! L (n+4)).call Br [.imap (Di DX (gE A))] Hs (λv H=>(r! L (n+4)).call BF [v] H K)=some (w,[]):=by
 rw[Dp];unfold BB Ih;rw[vT];have w1:=AG (x:=.cells true Az [.imap (Di DX (gE A))]) ws;have hb:Ai ((As Hs,c_ Az [.imap (Di DX (gE A))])::Hs) (As Hs)=some (c_ Az [.imap (Di DX (gE A))]):=Ax (by simp);have h:∀u y,Ai Hs u=some y->Ai ((As Hs,c_ Az [.imap (Di DX (gE A))])::Hs) u=some y:=λu y a=>A7 (ws.lt a) a;have j:As ((As Hs,c_ Az [.imap (Di DX (gE A))])::Hs)=As Hs+1:=rfl;generalize ((As Hs,c_ Az [.imap (Di DX (gE A))])::Hs:Hp)=g at w1 hb h j;refine dV (n:=n+1) (Q:=λl _=>l.Perm A) (H0:=g) w1 w1 rfl (λu y a=>a) (λH F hc q e m=>?_) (λl v H' hq b=>?_)
 ·rw[Dd];unfold B5;simp only[BE];rw[AF (p:=0) rfl (e _ _ hb) (by simp)];show Xw (.imap (Di DX (gE A))) H _=_;rw[Xv];have i:=hc.wf;have f:Ai ((As H,Row.iter (Di DX (gE A)) none)::H) (As H)=some (.iter (Di DX (gE A)) none):=Ax (by simp);refine yV (n:=n) (A:=A) (H0:=g) s c (λl v H' r k d=>m l v H' r k d) ⟨by omega,by omega,by omega⟩ (L+20) (gE A) [] Av _ none (by simp[gE];omega) (by rw[B15];simp) (λ_=>rfl)
   (hc.more (AG i) λu y a=>A7 (i.lt a) a) IN f
 ·refine t l v H' hq ⟨b.sl,b.nil,λu a=>?_,b.wf,λu y a=>b.keep u y (h u y a),?_⟩
  ·have:=b.new u a;omega
  ·have:=b.nx;omega
def pkA(p:Pk):Is:=[I p.kd,DD p.ds,match p.cs with|[]=>Av|c::cs=>.list (c::cs).length ((c::cs).flatMap PC.cells)]
def xL(l:List Pk):AV:=match l with
 |[]=>Av
 |p::l=>.list (p::l).length ((p::l).flatMap pkA)
def B9C{ws:List AR}:pl 6 (xL (wP ws))=true:=by
 unfold wP;split
 ·rfl
 ·show([I 2,DD ws,Av]++[]).all (pl 5)=true;have:pl 5 (DD ws)=true:=B6d (p:=pl 5) rfl (λ_ _ _ h=>h) ws;simp only[V0,oF,this];rfl
def C0e{D:Nat}{b:Bool}(h:NB H v l)(c:l≠[]):Fx b (D+1) v (DD l) H true:=by
 rcases h with⟨_,h⟩|⟨r,q,d,rfl,h2⟩
 ·exact absurd h c
 ·have e:DD l=.list l.length (AE l):=by
   cases l with
   |nil=>exact absurd rfl c
   |cons a b=>rfl
  rw[e];refine Xn (q':=false) h2 (by rw[EK,Bc];omega) ?_;rw[rB,l32 (by rw[Bc];omega),l25 (by rw[Bc];omega)];exact K1 (λs=>Value.string ⟨⟨s⟩⟩) l
def ckT{X:Af}:ck true X=X:=rfl
def B5C(h1:B3 a1=[a1]/\AV.one a1=true)(h2:B3 a2=[a2]/\AV.one a2=true):FU A8 1 Ac 2 [(0,1,a1),(1,1,a2)] H K=K (.sl 1 (As H) 0 2) ((As H,.cells false A8 [a1,a2])::H):=by
 have c:FU A8 1 Ac 2 [(0,1,a1),(1,1,a2)] H K=GY a1 λvs=>HK vs 0 λn=>ck (Nat.beq n 1) (ck (NT vs) (Ey 0 vs [Av,Av] λb=>GY a2 λvs=>HK vs 0 λn=>ck (Nat.beq n 1) (ck (NT vs) (Ey 1 vs b λa=>Io H λs=>K (.sl 1 s 0 2) ((s,.cells false A8 a)::H))))):=r_ rfl;have e:NT [a1]=true:=by rw[FP];simp[h1.2]
 have f:NT [a2]=true:=by rw[FP];simp[h2.2]
 have k1:Nat.beq (0+[a1].length) 1=true:=rfl;have d:Nat.beq (0+[a2].length) 1=true:=rfl;rw[c,CP,h1.1,Cy,e,k1,ckT,ckT,Iu _ _ _ _ (by simp)];show(GY a2 λvs=>HK vs 0 λn=>ck (Nat.beq n 1) (ck (NT vs) (Ey 1 vs [a1,Av] λa=>Io H λs=>K (.sl 1 s 0 2) ((s,.cells false A8 a)::H))))=_;rw[CP,h2.1,Cy,f,d,ckT,ckT,Iu _ _ _ _ (by simp),Ca];rfl
def B1Q{c:Int}(h1:B3 a1=[a1]/\AV.one a1=true)(h2:B3 a2=[a2]/\AV.one a2=true):FU Ay 3 A5 1 [(0,3,.agg [I c,a1,a2])] H K=K (.sl 3 (As H) 0 1) ((As H,.cells false Ay [I c,a1,a2])::H):=by
 have b:FU Ay 3 A5 1 [(0,3,.agg [I c,a1,a2])] H K=GY (.agg [I c,a1,a2]) λvs=>HK vs 0 λn=>ck (Nat.beq n 3) (ck (NT vs) (Ey 0 vs [I 0,Av,Av] λa=>Io H λs=>K (.sl 3 s 0 1) ((s,.cells false Ay a)::H))):=r_ rfl;have d:NT [I c,a1,a2]=true:=by rw[FP];simp[h1.2,h2.2];rfl
 have hc:B3 (.agg [I c,a1,a2])=[I c,a1,a2]:=rfl;have k1:Nat.beq (0+[I c,a1,a2].length) 3=true:=rfl;rw[b,CP,hc,Cy,d,k1,ckT,ckT,Iu _ _ _ _ (by simp),Ca];rfl
def A8I(d:GOk A)(hL:200000<L)(hx:rP H x A)(hv:wK H lv ex)(he:ex.length<=40){F:K2}:Ap (r! L (n+82)) XA3 [x,lv] H F=F (xL (dS A ex)):=by
 obtain⟨q1,u⟩:=hx.fx (D:=7);obtain⟨N,q2,Z,y⟩:∃Q q,SA ex Q/\Fx true depth lv Q H q:=by
  rcases hv with h|h
  ·exact⟨lv,false,h,h.fx H⟩
  ·exact h.fx (D:=11)
 refine AP (λK f=>?_) (Ao u (Ao y AH));have hw:VS 6 (xL (dS A ex)) (xL (dS A ex))=true:=Tk 6 _ B9C;rw[Tt];unfold JZ Dz A3;have xf:∀{F:K2},(Lu (.iptr [.imap (Di DX (gE A))]) λv1=>CD 0 v1 λO=>AD Aj O [] F)=F (.imap (Di DX (gE A))):=λ{F}=>A0C;rw[xf];refine A6G (n:=n+77) hw (by have:=d.len;omega) (by omega) FH λl v P k t=>?_;have i:GOk l:=⟨λc hc=>d.ok c (k.mem_iff.1 hc),λc hc=>d.nd c (k.mem_iff.1 hc),(k.map _).symm.nodup d.ids,by rw[k.length_eq];exact d.len⟩
 obtain⟨q3,C⟩:=vH (D:=11) t.sl t.nil;have e:∀{F:K2},Ap (r! L (n+81)) MY [v] P F=F (DD (Kj A)):=λ{F}=>by
  have:=AP (H:=P) (K:=F) (A6N (L:=L) (n:=n+1) i (by omega) (λc hc=>by have:=Xz (i.ok c hc);omega) (Rp l)) (Ao C AH);rw[this,A43 k]
 rw[e,B5C Z.cell (Mt _).cell];have w1:=t.wf;have w2:=AG (x:=.cells false A8 [N,DD (Kj A)]) w1;have R:=B0D d;refine A99 (n:=n+79) w2 (Ax (by simp)) Z (Mt _) (by omega) (by omega) (by omega) λO H2 g=>?_;have J:NB H2 O (ex++Kj A):=by
  rcases g.sl with⟨rfl,h1,h2⟩|⟨r,q,rfl,h2,_⟩
  ·refine .inl ⟨rfl,?_⟩;exact mH h1
  ·exact .inr ⟨r,q,[],rfl,by rw[V0];exact h2⟩
 refine A5i (n:=n+77) J (by rw[EK];omega) λH3 M k3=>?_;have w3:=k3.wf g.wf;refine B63 (n:=n+80) w3 M (by rw[(Bq _).length_eq,EK];omega) (by omega) λv4 H4 a Y V k4=>?_;have e4:RG (Et (ex++Kj A))=wX A ex:=rfl;rw[e4]at a;rw[a.len,Cl];have aa:=B2R d (ex:=ex) he;unfold dS at f⊢;by_cases hz:wX A ex=[]
 ·rw[Dq hz]at f⊢;rw[HR (by rw[hz];rfl),Cu];exact f _ _ λb=>⟨false,CC⟩
 ·rw[CF hz]at f⊢;have X:0<(wX A ex).length:=List.length_pos_iff.2 hz;rw[HW (by omega),AZ,a.len];have p:∀{F:K2},eMM true (I ((wX A ex).length:Int)) (AV.v (.int .i64 64)) F=F (I ((wX A ex).length:Int)):=λ{F}=>B1z (by omega);rw[p];rcases a with⟨_,h⟩|⟨r,q,tl,rfl,j⟩
  ·exact absurd h hz
  have s:∀{F:K2},Es Ac (.sl 1 r 0 (wX A ex).length) none (some (I ((wX A ex).length:Int))) none F=F (.sl 1 r 0 (wX A ex).length):=λ{F}=>ZD (Mh _);have m:∀{F:K2},BP A5 [(0,1,(AV.v (.int .i64 2))),(1,1,.sl 1 r 0 (wX A ex).length)] F=F (.agg [I 2,.sl 1 r 0 (wX A ex).length,Av]):=λ{F}=>by kernel_rfl
  rw[s,m,B1Q ⟨rfl,rfl⟩ ⟨rfl,rfl⟩];have w4:=k4.wf w3;have B:=A7 (x:=.cells false Ay [I 2,.sl 1 r 0 (wX A ex).length,Av]) (w4.lt j) j;refine f _ _ λb=>⟨true,?_⟩
  show Fx b depth _ (.list 1 ([I 2,DD (wX A ex),Av]++[])) _ true;exact VE (D:=11) (q':=true) (Ax (by simp)) rfl (Ao (q:=false) CC (Ao (q:=true) (q':=false) (C0e (D:=10) (.inr ⟨r,q,tl,rfl,B⟩) hz) (Ao (q:=false) CC AH)))
end
end
section
variable{P:Af->Prop}
variable{L n:Nat}
section
variable{H H0 H':Hp}{v dv cv:AV}{A:ed}{K:KV}{x0:Af}{x:AV}{r m:Nat}{p:PC}{q:Pk}
structure StAt(H:Hp)(r m:Nat)(A:ed):Prop where
 st:Ai H r=some (c_ D0 [.mp m])
 mm:Ai H m=some (.map false (Di DX (gE A)) none)
def StAt.sv(h:StAt H r m A):rP H (.ptr r 0 0) A:=.inr ⟨r,m,rfl,h.st,h.mm⟩
def StAt.ne(h:StAt H r m A):r≠m:=λe=>by
 have:=h.mm;rw[<-e,h.st]at this;cases this
def StAt.keep(h:StAt H r m A)(k:∀u y,Ai H u=some y->Ai H' u=some y):StAt H' r m A:=⟨k _ _ h.st,k _ _ h.mm⟩
def B61:(r! L (n+1)).call OU [] H K=K (.ptr (As H+1) 0 0) ((As H+1,c_ D0 [.mp (As H)])::(As H,.map false [] none)::H):=by
 rw[mA];unfold SI q0N;have em:∀(H:Hp)(K:KV),LN Ae H K=K (.mp (As H)) ((As H,.map false [] none)::H):=λH K=>by
  show Io H (λs=>K (.mp s) ((s,.map false [] (mD Ae.d))::H))=_;rw[Ca];rfl
 have a:∀{m:Nat}{F:K2},BP CX [(0,1,.mp m)] F=F (.agg [.mp m]):=λ{m F}=>by kernel_rfl
 rw[em,a,DN (by rfl)];rfl
def B0z(wf:Wf H):StAt ((As H+1,c_ D0 [.mp (As H)])::(As H,.map false [] none)::H) (As H+1) (As H) []/\Wf ((As H+1,c_ D0 [.mp (As H)])::(As H,.map false [] none)::H)/\
 ∀u y,Ai H u=some y->Ai ((As H+1,c_ D0 [.mp (As H)])::(As H,.map false [] none)::H) u=some y:=by
 have w1:=AG (x:=.map false [] none) wf;have b:As ((As H,Row.map false [] none)::H)=As H+1:=rfl;refine⟨⟨Ax (H:=(As H,Row.map false [] none)::H) (by simp),A7 (H:=(As H,Row.map false [] none)::H) (by rw[b];omega) (Ax (by simp))⟩,AG (x:=.cells true D0 [.mp (As H)]) w1,λu y a=>?_⟩;have a1:=A7 (x:=.map false [] none) (wf.lt a) a;exact A7 (w1.lt a1) a1
def Tn(A:ed):PC->ed×Bool×Int
 |.z=>(A,false,280)
 |.c d=>if d.id∈A.map Cd.id then(A,false,0) else(A++[d],true,0)
def C5g:(Di DX (gE A)).length=A.length:=by simp[gE]
def A9d(hL:40000<L)(B:p.Ok)(wf:Wf H)(Q:StAt H r m A)(O:A.length<60)(j:∀H',StAt H' r m (Tn A p).1->Lat H H' (λu=>u=m)->P (K (.tup [Bo (Tn A p).2.1,I (Tn A p).2.2]) H')):P ((r! L (n+65)).call G7 [.ptr r 0 0,.agg p.cells] H K):=by
 rw[U9];unfold Kx LR;rw[DN p.one];have w1:=AG (x:=.cells true Ad p.cells) wf;have D:∀u y,Ai H u=some y->Ai ((As H,c_ Ad p.cells)::H) u=some y:=λu y e=>A7 (wf.lt e) e;have b1:Ai ((As H,c_ Ad p.cells)::H) (As H)=some (c_ Ad p.cells):=Ax (by simp);have n1:As ((As H,c_ Ad p.cells)::H)=As H+1:=rfl;generalize ((As H,c_ Ad p.cells)::H:Hp)=N at w1 D b1 n1;rw[Bu rfl p.len.symm b1,C1L (n:=n) hL B];have V:=Q.keep D;rw[A38 V.st];refine A5N (b:=gE A) (F:=λab ac X=>Ar Ah .eql (S p.id) (AV.v (.string ⟨⟨[]⟩⟩)) λad=>_) (λF=>ZA V.mm) λa h2=>?_;obtain⟨cc,s⟩:=h2;have R:∀u y,Ai N u=some y->Ai a u=some y:=λu y e=>by
  have:=w1.lt e;rw[s,Ag (by omega)];exact A7 this e
 have w2:Wf a:=by rw[s];exact Bj (AG w1)
 have n2:As H<=As a:=by rw[s,B4];show As H<=As N+1;omega
 have k:∀u y,Ai H u=some y->Ai a u=some y:=λu y e=>R u y (D u y e);have g:=Q.keep k;have C:Lat H a (λu=>u=m):=⟨λ_=>w2,n2,λ_ u y e _=>k u y e⟩
 have w:∀{F:K2},Ar Ah .eql (S p.id) (AV.v (.string ⟨⟨[]⟩⟩)) F=F (Bo (decide (p.id=[]))):=λ{F}=>Mn;simp only[w];cases p with
 |z=>
  rw[show decide (PC.z.id=[])=true from rfl,Cu];exact j a g C
 |c d=>
  rw[show decide ((PC.c d).id=[])=false from HW (wA d),AZ];have ef:MB (gE A) (PC.c d).id=MB (gE A) d.id:=rfl;rw[ef,iZ];by_cases i:d.id∈A.map Cd.id
  ·rw[HR i,Cu];have t:Tn A (.c d)=(A,false,0):=Dq i;rw[t]at j;exact j a g C
  ·rw[HW i,AZ];have t:Tn A (.c d)=(A++[d],true,0):=CF i;rw[t]at j;rw[A38 g.st,vR g.mm,C5g];have Y:∀{F:K2},Ar Ab .geq (I (A.length:Int)) (AV.v (.int .i64 64)) F=F (Bo false):=λ{F}=>by rw[KO,HW (by omega)]
   rw[Y,AZ];have b2:=R _ _ b1;have Z:∀{F:K2},(Au (Lu (.ptr r 0 0) λv=>some (v,[])) λJ=>Au (CD 0 J λv=>some (v,[])) λM=>Au (AD Aj M a λv=>some (v,[])) F)=F (.mp m):=λ{F}=>by
    rw[Iz,Bw,fA,Bw,Kd,AF (p:=0) rfl g.st (by simp),Bw];rfl
   rw[Z,Bu rfl (PC.len (.c d)).symm b2,Bw];have aa:=Xz B.1;show P (Au (Ap (r! L (n+64)) Lq [.agg d.cs] a λv=>some (v,[])) _);rw[CT.z (A0S (n:=n+62) B.1 (by omega)) (oN a),Bw,U'];show P (Dy (My (.mp m) (SV d.id) (DX d) a λH=>some (AV.v undef,H)) _);rw[jG (f:=DX) (b:=gE A) (v:=d) g.mm,Cb,Zv (by rw[Xm];exact i),B16];refine j _ ⟨by rw[Ag g.ne];exact g.st,(BH g.mm).trans rfl⟩ (C.trans (Lat.upd a m _ (P:=λu=>u=m) rfl) (λ_ _ h=>h) (λ_ _ h=>h))
def B7m(c:40000<L)(d:p.Ok)(wf:Wf H)(e:StAt H r m A)(b:A.length<60)(f:∀H',StAt H' r m (Tn A p).1->Lat H H' (λu=>u=m)->K (.tup [Bo (Tn A p).2.1,I (Tn A p).2.2]) H'=x0):(r! L (n+65)).call G7 [.ptr r 0 0,.agg p.cells] H K=x0:=
 A9d (P:=λa=>a=x0) c d wf e b f
def A8V(d:40000<L)(e:p.Ok)(wf:Wf H)(f:StAt H r m A)(a:A.length<60)(g:∀H',StAt H' r m (Tn A p).1->Lat H H' (λu=>u=m)->P (K (I (Tn A p).2.2) H')):P ((r! L (n+66)).call XA1 [.ptr r 0 0,.agg p.cells] H K):=by
 rw[UA];unfold Ky A3;rw[DN p.one];have w1:=AG (x:=.cells true Ad p.cells) wf;have k:∀u y,Ai H u=some y->Ai ((As H,c_ Ad p.cells)::H) u=some y:=λu y b=>A7 (wf.lt b) b;have b1:Ai ((As H,c_ Ad p.cells)::H) (As H)=some (c_ Ad p.cells):=Ax (by simp);have c:=f.keep k;have j:Lat H ((As H,c_ Ad p.cells)::H) (λu=>u=m):=Lat.cons _ _ _;rw[c.sv.nn,AZ,Bu rfl p.len.symm b1];refine A9d (n:=n) d e w1 c a λH' s i=>?_;rw[GX,Zg];exact g H' s (j.trans i (λ_ _ h=>h) (λ_ _ h=>h))
def C4y(H:Hp)(v:AV)(q:Pk):Prop:=∃dv cv,v=.agg [I q.kd,dv,cv]/\wK H dv q.ds/\dR H cv q.cs
def C4X{s:AR}:CS (r! L (n+1)) J3 [S s] (Bo (decide (s.length≠32))):=by
 intro K d;rw[WX];unfold L9 Ih;have a:∀{F:K2},Bh Ah (S s) F=F (I (s.length:Int)):=λ{F}=>by
  have:Bh Ah (S s) F=HK s 0 λn=>F (.v (.int .i64 (.ofNat n))):=r_ rfl;rw[this,Cy,Kd];rfl
 have c:(!decide ((s.length:Int)=32))=decide (s.length≠32):=by
  by_cases h:s.length=32
  ·simp[h]
  ·simp[h];omega
 rw[a,I3,c];exact d _ _ λb=>⟨false,CC⟩
abbrev r1F:AV:=.fn (.func J3) [] []
def A8S(hL:40000<L)(w:SA q.ds dv)(hc:dR [] cv q.cs)(Y:q.ds.length<1000)(X:q.cs.length<1000):CS (r! L (n+4)) Mm [.agg [I q.kd,dv,cv]] (Bo (@decide q.Right (Classical.propDecidable _))):=by
 intro K i;rw[eK];unfold PK Ih;have C:AV.one cv=true:=hc.one.2;have D:AV.one dv=true:=w.cell.2;rw[DN (by simp[C,D];rfl)];have J:As ([]:Hp)=0:=rfl;simp only[J];have a:Ai [(0,c_ Ay [I q.kd,dv,cv])] 0=some (c_ Ay [I q.kd,dv,cv]):=rfl;have c:∀{j:Nat}{F:K2},CD j (.ptr 0 0 0) F=F (.ptr 0 j 0):=λ{j F}=>by rw[fA,Kd]
 generalize [(0,c_ Ay [I q.kd,dv,cv])]=H at a;have g:∀{F:K2},AD Ab (.ptr 0 0 0) H F=F (I q.kd):=λ{F}=>AF (p:=0) rfl a (by simp);have y:∀{F:K2},AD Ac (.ptr 0 1 0) H F=F dv:=λ{F}=>AF (p:=1) rfl a (by simp);have O:∀{F:K2},AD Ak (.ptr 0 2 0) H F=F cv:=λ{F}=>AF (p:=2) rfl a (by simp);have d1:∀{F:K2},Bh Ac dv F=F (I q.ds.length):=λ{F}=>w.len;have d2:∀{F:K2},Bh Ak cv F=F (I q.cs.length):=λ{F}=>by
  rcases hc with⟨rfl,h⟩|rfl|⟨_,_,_,_,h⟩
  ·rw[h];rfl
  ·exact r_ rfl
  ·simp[Ai]at h
 have R:∀{F:K2},Ar Ab .gtr (I (q.ds.length:Int)) (AV.v (.int .i64 64)) F=F (Bo (decide (64<q.ds.length))):=λ{F}=>by rw[Ef];congr 3;simp;omega
 have V:∀{F:K2},Ar Ab .gtr (I (q.cs.length:Int)) (AV.v (.int .i64 64)) F=F (Bo (decide (64<q.cs.length))):=λ{F}=>by rw[Ef];congr 3;simp;omega
 have Q:∀{F:K2},Ar Ab .eql (I (q.ds.length:Int)) (AV.v (.int .i64 0)) F=F (Bo (decide (q.ds=[]))):=λ{F}=>by rw[Cl];congr 3;simp
 have Z:∀{F:K2},Ar Ab .eql (I (q.cs.length:Int)) (AV.v (.int .i64 0)) F=F (Bo (decide (q.cs=[]))):=λ{F}=>by rw[Cl];congr 3;simp
 have k1:∀{z:Int}{F:K2},Ar Ab .eql (I q.kd) (AV.v (.int .i64 z)) F=F (Bo (decide (q.kd=z))):=λ{z F}=>Cl;have t:∀{F:K2},Ap (r! L (n+3)) B8 [dv,r1F] H F=F (Bo (q.ds.any λs=>decide (s.length≠32))):=λ{F}=>
  AP (sK (n:=n+1) w (λs K=>by
   have e:C4 (E (L+20)) (r! L (n+1)) r1F [S s] [] K=Ap (r! L (n+1)) J3 [S s] [] λv=>K v []:=by kernel_rfl
   rw[e];exact AP C4X (Ao (q:=false) CC AH)) (λK=>rfl) (by omega) (by omega)) (Ao (w.fx H) (Ao (q:=false) (λK=>rfl) AH))
 simp only[c,y,d1,R];by_cases h1:64<q.ds.length
 ·have hn:¬q.Right:=λ⟨h,_⟩=>by omega
  simp only[HR h1,zX,Cb,UV];rw[Cu];rw[@decide_eq_false _ (_) hn]at i⊢;exact i _ _ λb=>⟨false,CC⟩
 simp only[HW h1,gT,gU,Cb,c,O,d2,V,RC];by_cases h2:64<q.cs.length
 ·have hn:¬q.Right:=λ⟨_,h,_⟩=>by omega
  simp only[HR h2,zX,Cb,UV];rw[Cu];rw[@decide_eq_false _ (_) hn]at i⊢;exact i _ _ λb=>⟨false,CC⟩
 simp only[HW h2,gT,gU,Cb,c,y,t,RC];by_cases k:∀s∈q.ds,s.length=32
 rotate_left
 ·have hn:¬q.Right:=λ⟨_,_,h,_⟩=>k h;have B:(q.ds.any λs=>decide (s.length≠32))=true:=by
   simp only[Classical.not_forall]at k;obtain⟨s,M,N⟩:=k;exact List.any_eq_true.2 ⟨s,M,by simpa using N⟩
  rw[B,Cu];rw[@decide_eq_false _ (_) hn]at i⊢;exact i _ _ λb=>⟨false,CC⟩
 have B:(q.ds.any λs=>decide (s.length≠32))=false:=by
  rw[List.any_eq_false];intro s M;simp[k s M]
 rw[B,AZ];simp only[c,O,d2,Z];have fin:∀(b:Bool)(H:Hp),(b=true↔q.Right)->K (Bo b) H=some (Bo (@decide q.Right (Classical.propDecidable _)),[]):=λb H hb=>by
  have e:b=@decide q.Right (Classical.propDecidable _):=by
   cases b
   ·exact(@decide_eq_false _ (_) λh=>by have:=hb.2 h;cases this).symm
   ·exact(@decide_eq_true _ (_) (hb.1 rfl)).symm
  rw[e];exact i _ _ λb=>⟨false,CC⟩
 have f:q.Right↔(q.cs=[]/\(q.kd=1\/q.kd=2))\/(q.ds=[]/\q.kd=3):=⟨λ⟨_,_,_,h⟩=>h,λh=>⟨by omega,by omega,k,h⟩⟩
 by_cases d:q.cs=[]
 ·by_cases kk:q.kd=1
  ·simp only[HR d,gT,iW,zX,gU,Cb,c,g,k1,HR kk,UV,RC];exact fin true H ⟨λ_=>f.2 (.inl ⟨d,.inl kk⟩),λ_=>rfl⟩
  ·by_cases u:q.kd=2
   ·simp only[HR d,gT,iW,zX,gU,Cb,c,g,k1,HW kk,HR u,UV,RC];exact fin true H ⟨λ_=>f.2 (.inl ⟨d,.inr u⟩),λ_=>rfl⟩
   ·simp only[HR d,gT,iW,zX,gU,Cb,c,g,k1,HW kk,HW u,UV,RC,y,d1,Q];by_cases d0:q.ds=[]
    ·simp only[HR d0,gT,iW,zX,gU,Cb,c,g,k1,UV,RC];refine fin _ H ⟨λh=>f.2 (.inr ⟨d0,by simpa using h⟩),λh=>?_⟩;rcases f.1 h with⟨_,h|h⟩|⟨_,h⟩
     ·exact absurd h kk
     ·exact absurd h u
     ·exact HR h
    ·simp only[HW d0,gT,iW,zX,gU,Cb,c,g,k1,UV,RC];refine fin false H ⟨λh=>(by cases h),λh=>?_⟩;rcases f.1 h with⟨_,h|h⟩|⟨h,_⟩
     ·exact absurd h kk
     ·exact absurd h u
     ·exact absurd h d0
 ·simp only[HW d,gT,iW,zX,gU,Cb,c,g,k1,UV,RC,y,d1,Q];by_cases d0:q.ds=[]
  ·simp only[HR d0,gT,iW,zX,gU,Cb,c,g,k1,UV,RC];refine fin _ H ⟨λh=>f.2 (.inr ⟨d0,by simpa using h⟩),λh=>?_⟩;rcases f.1 h with⟨h,_⟩|⟨_,h⟩
   ·exact absurd h d
   ·exact HR h
  ·simp only[HW d0,gT,iW,zX,gU,Cb,c,g,k1,UV,RC];refine fin false H ⟨λh=>(by cases h),λh=>?_⟩;rcases f.1 h with⟨h,_⟩|⟨h,_⟩
   ·exact absurd h d
   ·exact absurd h d0
def A5j{pv:AV}(f:40000<L)(i:C4y H pv q)(d:q.ds.length<1000)(b:q.cs.length<1000){F:K2}:Ap (r! L (n+4)) Mm [pv] H F=F (Bo (@decide q.Right (Classical.propDecidable _))):=by
 obtain⟨dv,cv,rfl,g,hc⟩:=i;obtain⟨s,q1,c,f1⟩:∃e j,SA q.ds e/\Fx true 11 dv e H j:=by
  rcases g with h|h
  ·refine⟨dv,false,h,?_⟩;rcases h with rfl|⟨_,rfl⟩<;>exact λK=>rfl
  ·exact h.fx (D:=10)
 obtain⟨k,q2,a,f2⟩:=hc.fx (D:=10);exact AP (A8S (n:=n) f c a d b) (Ao (LF (D:=11) (Ao (q:=false) CC (Ao f1 (Ao f2 AH)))) AH)
end
end
end Go.Abs
end
