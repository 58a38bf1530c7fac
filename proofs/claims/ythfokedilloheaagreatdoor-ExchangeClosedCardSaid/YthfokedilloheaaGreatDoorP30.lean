import Derived.Test.YthfokedilloheaaGreatDoorP29
set_option linter.all false
set_option maxHeartbeats 100000000
noncomputable section
namespace Go.Abs
open Go.RowKit Go.Proofs
set_option maxRecDepth 100000
section
variable{gs ls S T:eo}{x y p:AP}{c:Cd}
def Iy(hn:(gs.map Cd.id).Nodup)(hc:c∈gs):MG (gE gs) c.id=some c:=by
 induction gs with
 |nil=>cases hc
 |cons d gs ih=>
  rw[XC,List.nodup_cons]at hn;show MG ((d.id,d)::gE gs) c.id=some c;unfold MG;rcases Xd.1 hc with rfl|hc
  ·rw[Dr rfl]
  ·have:d.id≠c.id:=λe=>hn.1 (e▸PW.2 ⟨c,hc,rfl⟩);rw[CD this];exact ih hn.2 hc
def gQ(hn:(gs.map Cd.id).Nodup)(hc:c∈gs):QK gs c.id=c.ps:=by
 unfold QK;rw[Iy hn hc]
def A1h(a:x∉gs.map Cd.id):QK gs x=[]:=by
 unfold QK;rw[YV (by rw[Xi];exact a)]
def A7e(hn:(gs.map Cd.id).Nodup)(h:ls.Perm gs):QK ls x=QK gs x:=by
 have hi:(ls.map Cd.id).Perm (gs.map Cd.id):=h.map _;by_cases a:x∈gs.map Cd.id
 ·obtain⟨c,hc,rfl⟩:=PW.1 a;rw[gQ hn hc,gQ (hi.symm.nodup hn) (h.mem_iff.2 hc)]
 ·rw[A1h a,A1h (λhc=>a (hi.mem_iff.1 hc))]
def A9L(hn:(gs.map Cd.id).Nodup)(h:ls.Perm gs){out:List AP}:(lI ls out).Perm (lI gs out):=by
 have hi:(ls.map Cd.id).Perm (gs.map Cd.id):=h.map _;refine(l35 ((hi.symm.nodup hn).sublist List.filter_sublist) (hn.sublist List.filter_sublist)).2 λx=>?_;show x∈lI ls out↔x∈lI gs out;rw[Wk,Wk,hi.mem_iff,A7e hn h];simp only[hi.mem_iff]
def A7k(hn:(gs.map Cd.id).Nodup)(h:ls.Perm gs):∀(N:Nat)(out:List AP),lQ ls N out=lQ gs N out:=by
 intro N
 induction N with
 |zero=>intro out;rfl
 |succ N ih=>
  intro out;have e:Et (lI ls out)=Et (lI gs out):=II ((Bl _).trans ((A9L hn h).trans (Bl _).symm)) (DM _) (DM _);unfold lQ;rw[e];cases Et (lI gs out) with
  |nil=>rfl
  |cons m t=>exact ih _
def A7j(hn:(gs.map Cd.id).Nodup)(h:ls.Perm gs):Wn ls=Wn gs:=by
 unfold Wn;rw[h.length_eq];exact A7k hn h _ _
def A7i(hn:(gs.map Cd.id).Nodup)(h:ls.Perm gs):gW ls=gW gs:=by
 unfold gW;rw[A7j hn h,h.length_eq]
def A46(hn:(gs.map Cd.id).Nodup)(h:ls.Perm gs):Jw ls=Jw gs:=by
 have hi:(ls.map Cd.id).Perm (gs.map Cd.id):=h.map _;refine II ?_ (DM _) (DM _);refine(l35 (uW (hi.symm.nodup hn)) (uW hn)).2 λx=>?_;rw[mM,mM,hi.mem_iff];simp only[h.mem_iff]
def uI(h:ls.Perm gs):JN ls=JN gs:=by
 have hi:(ls.map Cd.id).Perm (gs.map Cd.id):=h.map _;refine II ?_ P' P';refine(l35 uJ uJ).2 λx=>?_;rw[RG,RG,hi.mem_iff];simp only[h.mem_iff]
inductive Cmp(S:eo):AP->Prop
 |mk {c:Cd}:c∈S->(∀p∈c.ps,Cmp S p)->Cmp S c.id
def Cmp.ids(h:Cmp S x):x∈S.map Cd.id:=by
 cases h with
 |mk h1 _=>exact PW.2 ⟨_,h1,rfl⟩
def Cmp.mono(a:∀c∈S,c∈T)(h:Cmp S x):Cmp T x:=by
 induction h with
 |mk h1 _ ih=>exact .mk (a _ h1) ih
def Cmp.par(hn:(S.map Cd.id).Nodup)(hc:c∈S)(h:Cmp S c.id):∀p∈c.ps,Cmp S p:=by
 generalize he:c.id=x at h;cases h with
 |@mk d h1 h2=>
  have e:d=c:=by
   have a1:=Iy hn h1;have a2:=Iy hn hc;rw[he,a1]at a2;exact l2b a2
  subst e;exact h2
open Classical in
def Hd(S:eo):eo:=S.filter λc=>decide (Cmp S c.id)
def KY:c∈Hd S↔c∈S/\Cmp S c.id:=by
 rw[Hd,l2z,@decide_eq_true_iff _ (_)]
def Tk:x∈(Hd S).map Cd.id↔Cmp S x:=by
 constructor
 ·intro h;obtain⟨c,hc,rfl⟩:=PW.1 h;exact(KY.1 hc).2
 ·intro h;obtain⟨c,hc,rfl⟩:=PW.1 h.ids;exact PW.2 ⟨c,KY.2 ⟨hc,h⟩,rfl⟩
def TO(hn:(S.map Cd.id).Nodup):((Hd S).map Cd.id).Nodup:=hn.sublist (List.filter_sublist.map _)
def A2h(hn:(S.map Cd.id).Nodup)(hc:c∈Hd S)(a:p∈c.ps):p∈(Hd S).map Cd.id:=by
 obtain⟨h1,h2⟩:=KY.1 hc;exact Tk.2 (h2.par hn h1 p a)
def A7Y(hn:(S.map Cd.id).Nodup):JN (Hd S)=[]:=by
 rw[List.eq_nil_iff_forall_not_mem];intro x b;obtain⟨h1,c,hc,a⟩:=RG.1 b;exact h1 (A2h hn hc a)
def B23(hn:(S.map Cd.id).Nodup)(h:Cmp S x):¬Anc (Hd S) x x:=by
 have key:∀z,Cmp S z->∀y,Anc (Hd S) z y->¬Anc (Hd S) y y:=by
  intro z hz
  induction hz with
  |@mk c h1 h2 ih=>
   have hc:c∈Hd S:=KY.2 ⟨h1,.mk h1 h2⟩;intro y b;rw[A88]at b;have a:QK (Hd S) c.id=c.ps:=gQ (TO hn) hc;rw[a]at b;rcases b with⟨_,b⟩|⟨p,g,_,f⟩
   ·intro d;exact ih y b y d d
   ·exact ih p g y f
 intro e;exact key x h x e e
def A2g(hn:(S.map Cd.id).Nodup):(Hd S).length<=(Wn (Hd S)).length:=
 (B0z (TO hn)).2 λ_ a=>B23 hn (Tk.1 a)
end
section
variable{x:AP}
def RI:List AP->List AP
 |[]=>[]
 |a::l=>match RI l with
  |[]=>[a]
  |b::m=>if a=b then b::m else a::b::m
def X!:∀{l:List AP},x∈RI l↔x∈l:=by
 intro l
 induction l with
 |nil=>exact Iff.rfl
 |cons a l ih=>
  unfold RI;cases h:RI l with
  |nil=>
   rw[h]at ih;simp only[Xd,List.not_mem_nil,or_false];exact⟨.inl,λd=>d.elim id λd=>absurd (ih.2 d) (by simp)⟩
  |cons b m=>
   rw[h]at ih;show x∈(if a=b then b::m else a::b::m)↔_;by_cases c:a=b
   ·rw[Dr c];subst c;rw[Xd (b:=a) (l:=l),<-ih];exact⟨.inr,λd=>d.elim (λe=>by simp[e]) id⟩
   ·rw[CD c,Xd (b:=a) (l:=b::m),Xd (b:=a) (l:=l),ih]
def wK(B:eo)(ex:List AP):List AP:=RI (Et (ex++JN B))
def gvn(A:eo)(ws:List AP):eo:=(RI (Et (ws.filter λx=>decide (x∈A.map Cd.id)))).filterMap λx=>MG (gE A) x
def oM{A:eo}{c:Cd}(h:MG (gE A) x=some c):c∈A/\c.id=x:=by
 induction A with
 |nil=>cases h
 |cons d A ih=>
  change MG ((d.id,d)::gE A) x=some c at h;unfold MG at h;by_cases a:d.id=x
  ·rw[Dr a]at h;cases h
   exact⟨by simp,a⟩
  ·rw[CD a]at h;obtain⟨h1,h2⟩:=ih h;exact⟨by simp[h1],h2⟩
end
section
variable{S T:eo}{x:AP}
def T9(S:eo):List AP:=Et ((S.map Cd.id).filter λx=>@decide (¬Cmp S x) (Classical.propDecidable _))
def A6B:x∈T9 S↔x∈S.map Cd.id/\¬Cmp S x:=by
 rw[T9,(Bl _).mem_iff,l2z,@decide_eq_true_iff _ (_)]
def J7(S:eo):eo:=(Wn (Hd S)).filterMap λx=>MG (gE S) x
def jR(d:(S.map Cd.id).Nodup):(J7 S).map Cd.id=Wn (Hd S):=by
 have h:∀l:List AP,(∀x∈l,x∈S.map Cd.id)->(l.filterMap λx=>MG (gE S) x).map Cd.id=l:=by
  intro l
  induction l with
  |nil=>intro _;rfl
  |cons a l ih=>
   intro h;obtain⟨c,hc,rfl⟩:=PW.1 (h a (by simp));rw[List.filterMap_cons,Iy d hc];show c.id::_=_;rw[ih λx b=>h x (by simp[b])]
 exact h _ λx b=>by
  have:=(Qq (gs:=Hd S)).1.ids x b;exact(Tk.1 this).ids
def VK(a:(S.map Cd.id).Nodup){c:Cd}:c∈J7 S↔c∈Hd S:=by
 rw[J7,List.mem_filterMap];obtain⟨h1,h2⟩:=Qq (gs:=Hd S);constructor
 ·rintro⟨x,d,h⟩;obtain⟨b,rfl⟩:=oM h;exact KY.2 ⟨b,Tk.1 (h1.ids _ d)⟩
 ·intro h;have hc:=KY.1 h;exact⟨c.id,h1.all (A2g a) (Tk.2 hc.2),Iy a hc.1⟩
end
end Go.Abs
end
noncomputable section
end
noncomputable section
end
noncomputable section
namespace Go.Abs
open Go.RowKit Go.Proofs
set_option maxRecDepth 100000
section
variable{a v:AV}{b:Bool}{H:Hp}{D:Nat}{α:Type}
variable{L n:Nat}
def C0c(l:Is)(h:l.all isV=true):Rm b D l l H false:=by
 have:=K7 (b:=b) (D:=D) (H:=H) (λx:Value=>x) (l.map unV);rw[show((l.map unV).map λx=>AV.v x)=l from A6j h]at this;exact this
section
variable{e sz m:Nat}{ie i2:TI}{cs:Is}
def C0S(hsz:sz≠0)(hz:(B0 ie.zero).length=sz)(j:∀K:KV,FV e sz ie 0 [] [] K=K (.sl sz 0 0 0) [(0,.cells false e [])])(hc:cs.length=m*sz)(h1:cs.all AV.one=true)(hv:cs.all isV=true)(s:(dG i2.d&&RW sz (.list m cs))=true)(p:∀(H:Hp)(K:Nat->Is->Af),T7 H (.list m cs) K=K m cs)(hb:m*ie.bytes<=70368744177664)(hm:m<=70368744177664)(k:0<m):
 ∃f c,(∀K:KV,(FV e sz ie 0 [] [] λt g=>Dy e sz ie i2 t (.list m cs) g K)=K f c)/\∀b,∃q,Fx b depth f (.list m cs) c q:=by
 have h:AU [(0,.cells false e [])] e sz (.sl sz 0 0 0) 0 []:=.inr ⟨0,false,rfl,rfl,by simp⟩;obtain⟨f,c,a1,a2,u,w⟩:=apt (ie:=ie) (i2:=i2) h (λK=>p _ K) hc h1 hsz hz s (by rw[Kk];exact hb) (by rw[Kk];exact hm);rw[Kk,l3b]at a2;refine⟨f,c,λK=>?_,λb=>?_⟩
 ·rw[j];exact a1 K
 ·rcases a2 with⟨_,h2,_⟩|⟨r,q,rfl,h2,i⟩
  ·omega
  ·exact⟨_,VA (D:=depth-1) h2 i (C0c cs hv)⟩
def hbt{b m:Nat}(h:b<=1000)(c:m<999):(m+1)*b<=70368744177664:=by
 have:=Nat.mul_le_mul (show m+1<=1000 by omega) h;omega
def Pln(sz:Nat)(a:AV):Prop:=a=Av\/∃m cs,a=.list (m+1) cs/\cs.length=(m+1)*sz/\cs.all AV.one=true/\cs.all isV=true/\m<999
def Pln.fx(h:Pln sz a):Fx true depth a a H false:=by
 rcases h with rfl|⟨m,cs,rfl,_⟩
 ·exact CA
 ·exact OD
end
def C5t(h:Pln 3 a):CS (r! L (n+1)) Fz [a] a:=by
 intro K c;rw[Mp];unfold Fv HX;rcases h with rfl|⟨m,cs,rfl,h1,h2,g,i⟩
 ·have e:∀{K:K2},As AD .eql Av (AV.v (.slice none 0 0)) K=K (Bo true):=λ{K}=>id rfl;rw[e,Co];exact c _ _ λb=>⟨false,CA⟩
 ·have e:∀{K:K2},As AD .eql (.list (m+1) cs) (AV.v (.slice none 0 0)) K=K (Bo false):=λ{K}=>id rfl;rw[e,Ba];obtain⟨k,j,d,f⟩:=C0S (e:=Bf) (sz:=3) (ie:=BY) (i2:=AD) (by decide) rfl (λK=>by kernel_rfl) h1 h2 g rfl (λH K=>VD) (hbt (show BY.bytes<=1000 by decide) i) (by omega) (by omega);rw[d];exact c _ _ f
def C5s(h:Pln 20 a):CS (r! L (n+1)) DZ [a] a:=by
 intro K c;rw[Mn];unfold Fu HX;rcases h with rfl|⟨m,cs,rfl,h1,h2,g,i⟩
 ·have e:∀{K:K2},As Ap .eql Av (AV.v (.slice none 0 0)) K=K (Bo true):=λ{K}=>id rfl;rw[e,Co];exact c _ _ λb=>⟨false,CA⟩
 ·have e:∀{K:K2},As Ap .eql (.list (m+1) cs) (AV.v (.slice none 0 0)) K=K (Bo false):=λ{K}=>id rfl;rw[e,Ba];obtain⟨k,j,d,f⟩:=C0S (e:=AB) (sz:=20) (ie:=A0) (i2:=Ap) (by decide) rfl (λK=>by kernel_rfl) h1 h2 g rfl (λH K=>VD) (hbt (show A0.bytes<=1000 by decide) i) (by omega) (by omega);rw[d];exact c _ _ f
def C5u(h:Pln 26 a):CS (r! L (n+1)) Ea [a] a:=by
 intro K c;rw[Mq];unfold Fw HX;rcases h with rfl|⟨m,cs,rfl,h1,h2,g,i⟩
 ·have e:∀{K:K2},As Az .eql Av (AV.v (.slice none 0 0)) K=K (Bo true):=λ{K}=>id rfl;rw[e,Co];exact c _ _ λb=>⟨false,CA⟩
 ·have e:∀{K:K2},As Az .eql (.list (m+1) cs) (AV.v (.slice none 0 0)) K=K (Bo false):=λ{K}=>id rfl;rw[e,Ba];obtain⟨k,j,d,f⟩:=C0S (e:=AY) (sz:=26) (ie:=AN) (i2:=Az) (by decide) rfl (λK=>by kernel_rfl) h1 h2 g rfl (λH K=>VD) (hbt (show AN.bytes<=1000 by decide) i) (by omega) (by omega);rw[d];exact c _ _ f
def nM{K:KV}:(r! L (n+1)).call Bk [Av] H K=K Av H:=by
 rw[FU];unfold DF HX;have e:∀{K:K2},As Ab .eql Av (AV.v (.slice none 0 0)) K=K (Bo true):=λ{K}=>id rfl;rw[e,Co]
def A4b{f:α->Is}(h:∀a,(f a).all isV=true)(l:List α):(l.flatMap f).all isV=true:=by
 rw[G9];intro x d;obtain⟨a,_,c⟩:=l39.1 d;exact G9.1 (h a) x c
def T?{f:α->Is}(h:∀a,(f a).all AV.one=true)(l:List α):(l.flatMap f).all AV.one=true:=by
 rw[G9];intro x d;obtain⟨a,_,c⟩:=l39.1 d;exact G9.1 (h a) x c
def A3I{ts:kG}(h:ts.length<=6):Pln 3 (FI ts):=by
 cases ts with
 |nil=>exact .inl rfl
 |cons a l=>
  simp at h;exact .inr ⟨l.length,(a::l).flatMap OZ,rfl,iZ OZ 3 (λ_=>rfl) (a::l),T? (λ_=>rfl) _,A4b (λ_=>rfl) _,by omega⟩
def B0q{ks:Hb}(h1:1<=ks.length)(h2:ks.length<=6):Pln 20 (BS ks):=by
 cases ks with
 |nil=>simp at h1
 |cons a l=>
  simp at h2;exact .inr ⟨l.length,(a::l).flatMap HO,rfl,iZ HO 20 (λ_=>rfl) (a::l),T? (λ_=>rfl) _,A4b (λ_=>rfl) _,by omega⟩
def B0p{xs:List Nd}(h1:1<=xs.length)(h2:xs.length<=9):Pln 26 (Cx xs):=by
 cases xs with
 |nil=>simp at h1
 |cons a l=>
  simp at h2;exact .inr ⟨l.length,(a::l).flatMap N?,rfl,iZ N? 26 (λ_=>rfl) (a::l),T? (λ_=>rfl) _,A4b (λ_=>rfl) _,by omega⟩
def Cd.fT(c:Cd):AV:=(c.csP Av).getD 28 .dk
def Cd.fI(c:Cd):AV:=(c.csP Av).getD 33 .dk
def Cd.fN(c:Cd):AV:=(c.csP Av).getD 34 .dk
def ZE(c:Cd)(P:AV):(c.csP P).getD 28 .dk=c.fT/\(c.csP P).getD 31 .dk=P/\(c.csP P).getD 33 .dk=c.fI/\(c.csP P).getD 34 .dk=c.fN/\(c.csP P).getD 66 .dk=Av/\(c.csP P).getD 67 .dk=Av:=by
 match c with
 |.re b u=>exact⟨rfl,rfl,rfl,rfl,rfl,rfl⟩
 |.co b p ps none=>exact⟨rfl,rfl,rfl,rfl,rfl,rfl⟩
 |.co b p ps (some (k,vd))=>exact⟨rfl,rfl,rfl,rfl,rfl,rfl⟩
def ZD(c:Cd)(P:AV):(c.csP P).set 28 c.fT=c.csP P/\(∀Q,(c.csP P).set 31 Q=c.csP Q)/\(c.csP P).set 33 c.fI=c.csP P/\(c.csP P).set 34 c.fN=c.csP P/\(c.csP P).set 66 Av=c.csP P/\(c.csP P).set 67 Av=c.csP P:=by
 match c with
 |.re b u=>exact⟨rfl,λQ=>rfl,rfl,rfl,rfl,rfl⟩
 |.co b p ps none=>exact⟨rfl,λQ=>rfl,rfl,rfl,rfl,rfl⟩
 |.co b p ps (some (k,vd))=>exact⟨rfl,λQ=>rfl,rfl,rfl,rfl,rfl⟩
def C0T{c:Cd}(h:c.Ok):Pln 3 c.fT/\Pln 20 c.fI/\Pln 26 c.fN:=by
 match c,h with
 |.re b u,⟨hb,_⟩=>exact⟨A3I hb.ts.len,.inl rfl,.inl rfl⟩
 |.co b p ps none,⟨hb,d,_⟩=>exact⟨A3I hb.ts.len,B0q d.k1 (by have:=d.k3;omega),B0p (by have:=d.k1;show 1<=(L2 p.ks++p.x.nd).length;rw[Ez,Ed];omega) (by
  have:=d.k3;show(L2 p.ks++p.x.nd).length<=9;rw[Ez,Ed];have:p.x.nd.length<=1:=by cases p.x<;>simp[Ex.nd]
  omega)⟩
 |.co b p ps (some (k,vd)),⟨hb,d,_⟩=>exact⟨A3I hb.ts.len,B0q d.k1 (by have:=d.k3;omega),B0p (by have:=d.k1;show 1<=(L2 p.ks++p.x.nd).length;rw[Ez,Ed];omega) (by
  have:=d.k3;show(L2 p.ks++p.x.nd).length<=9;rw[Ez,Ed];have:p.x.nd.length<=1:=by cases p.x<;>simp[Ex.nd]
  omega)⟩
def Pln.cell{sz:Nat}(h:Pln sz a):B0 a=[a]/\AV.one a=true:=by
 rcases h with rfl|⟨m,cs,rfl,_⟩<;>exact⟨rfl,rfl⟩
def UR.cell{l:List AP}(h:UR H v l):B0 v=[v]/\AV.one v=true:=by
 rcases h with⟨rfl,_⟩|⟨_,_,_,_,rfl,_⟩<;>exact⟨rfl,rfl⟩
def UR.kp{H H':Hp}{l:List AP}(h:UR H v l)(k:∀u y,A4 v u->Ai H u=some y->Ai H' u=some y):UR H' v l:=by
 rcases h with h|⟨r,o,q,cs,rfl,h2,c,d⟩
 ·exact .inl h
 ·exact .inr ⟨r,o,q,cs,rfl,k r _ ⟨_,_,_,rfl⟩ h2,c,d⟩
def UR.fxc{l:List AP}(h:UR H v l)(c:l=[]->v=Av):∃q,Fx b (D+1) v (DV l) H q:=by
 cases l with
 |nil=>rw[c rfl];exact⟨false,CA⟩
 |cons a l=>
  rcases h with⟨_,h⟩|⟨r,o,q,cs,rfl,h2,d,f⟩
  ·cases h
  ·refine⟨true,Xj (q':=false) h2 (by rw[oI];omega) ?_⟩;rw[d,oI];have:(A9 (a::l)).take (a::l).length=A9 (a::l):=l25 (by rw[AZ];omega);rw[this];exact V0 _
def A0J{c:Cd}(ae:c.Ok)(af:c.ps.length<100):CT (r! L (n+2)) Lx [.agg c.cs] (.agg c.cs):=by
 intro K hK;rw[ZX];unfold O9 DI;obtain⟨pT,pI,pN⟩:=C0T ae;have e0:c.cs=c.csP (DV c.ps):=(A4C c).symm;have one:∀P,AV.one P=true->(c.csP P).all AV.one=true:=λP h=>rM c h;have Y:AV.one (DV c.ps)=true:=by cases c.ps<;>rfl
 have l0:∀{H:Hp},Ai H 0=some (c_ Ad (c.csP (DV c.ps)))->True:=λ_=>trivial;have same:∀{H:Hp}{P:AV}{p:Nat}{i:TI}{v:AV}{K:Ru},Ai H 0=some (c_ Ad (c.csP P))->p<68->i.size=1->B0 v=[v]/\AV.one v=true->(c.csP P).set p v=c.csP P->DN i (.ptr 0 p 0) v H K=K (upd H 0 (c_ Ad (c.csP P))):=λ{H P p i v K}hl hp hi hv hs=>by
  rw[D5 (cs:=c.csP P) hl (by rw[OV];exact hp) hi hv.1 hv.2,hs]
 have w:∀{H:Hp}{P:AV}{p:Nat}{i:TI}{v:AV}{K:K2},i.d.isAgg=false->Ai H 0=some (c_ Ad (c.csP P))->p<68->(c.csP P).getD p .dk=v->AE i (.ptr 0 p 0) H K=K v:=λ{H P p i v K}hi hl hp hv=>by
  rw[AL (p:=p) hi hl (by rw[OV];exact hp),hv]
 have eb:∀{K:KV},GZ Ad (.agg (c.csP (DV c.ps))) [] K=K (.ptr 0 0 0) [(0,c_ Ad (c.csP (DV c.ps)))]:=λ{K}=>Es (one _ Y);have ea:∀{K:KV},Bw Ad Ae [(0,c_ Ad (c.csP (DV c.ps)))] K=K (.ptr 1 0 0) [(1,c_ Ad C7),(0,c_ Ad (c.csP (DV c.ps)))]:=λ{K}=>Bv (cs:=C7) rfl;rw[e0,eb,ea];have h0:Ai [(1,c_ Ad C7),(0,c_ Ad (c.csP (DV c.ps)))] 0=some (c_ Ad (c.csP (DV c.ps))):=rfl;have h1:Ai [(1,c_ Ad C7),(0,c_ Ad (c.csP (DV c.ps)))] 1=some (c_ Ad C7):=rfl;have w0:Wf [(1,c_ Ad C7),(0,c_ Ad (c.csP (DV c.ps)))]:=AF (AF Fq);show CL 26 (.ptr 0 0 0) _=_;rw[fA,fA];show AE AD (.ptr 0 28 0) [(1,c_ Ad C7),(0,c_ Ad (c.csP (DV c.ps)))] _=_;generalize [(1,c_ Ad C7),(0,c_ Ad (c.csP (DV c.ps)))]=H at h0 h1 w0;rw[w rfl h0 (by decide) (ZE c _).1,AQ (C5t (n:=n) pT) (Ao pT.fx AI),fA,fA];show DN AD (.ptr 0 28 0) c.fT H _=_;rw[same h0 (by decide) rfl pT.cell (ZD c _).1];have Z:=AC (q:=true) (e:=Ad) (cs:=c.csP (DV c.ps)) h0;have a1:Ai (upd H 0 (c_ Ad (c.csP (DV c.ps)))) 1=some (c_ Ad C7):=by rw[Ag (by decide)];exact h1
 have aw:Wf (upd H 0 (c_ Ad (c.csP (DV c.ps)))):=Bi w0;generalize upd H 0 (c_ Ad (c.csP (DV c.ps)))=H1 at Z a1 aw;show CL 31 (.ptr 0 0 0) _=_;rw[fA];show AE Ab (.ptr 0 31 0) H1 _=_;rw[w rfl Z (by decide) (ZE c _).2.1];have main:∀v f,UR f v c.ps->(c.ps=[]->v=Av)->Ai f 0=some (c_ Ad (c.csP (DV c.ps)))->Ai f 1=some (c_ Ad C7)->(∀u,A4 v u->1<u)->Wf f->
  (CL 31 (.ptr 0 0 0) λah=>DN Ab ah v f λr=>CL 32 (.ptr 0 0 0) λai=>CL 1 ai λaj=>AE Ap aj r λak=>Aq (r! L (n+1)) DZ [ak] r λam=>
   CL 32 (.ptr 0 0 0) λao=>CL 1 ao λap=>DN Ap ap am r λs=>CL 32 (.ptr 0 0 0) λaq=>CL 2 aq λar=>AE Az ar s λax=>Aq (r! L (n+1)) Ea [ax] s λay=>
   CL 32 (.ptr 0 0 0) λaz=>CL 2 az λa3=>DN Az a3 ay s λx=>CL 65 (.ptr 0 0 0) λa4=>CL 1 a4 λa5=>AE Ab a5 x λa6=>(r! L (n+1)).call Bk [a6] x λa7 aa=>
   CL 65 (.ptr 0 0 0) λa8=>CL 1 a8 λa9=>DN Ab a9 a7 aa λC=>CL 65 (.ptr 0 0 0) λba=>CL 2 ba λbc=>AE Ab bc C λbd=>(r! L (n+1)).call Bk [bd] C λbe ab=>
   CL 65 (.ptr 0 0 0) λbf=>CL 2 bf λbg=>DN Ab bg be ab λF=>AE Ae (.ptr 0 0 0) F λbh=>DN Ae (.ptr 1 0 0) bh F λJ=>AE Ae (.ptr 1 0 0) J λbj=>K bj J)=some (.agg (c.csP (DV c.ps)),[]):=λv f hv ag b0 b1 hr bw=>by
  rw[fA];show DN Ab (.ptr 0 31 0) v f _=_;rw[D5 (cs:=c.csP (DV c.ps)) b0 (by rw[OV];decide) rfl hv.cell.1 hv.cell.2,(ZD c _).2.1 v];have M:UR (upd f 0 (c_ Ad (c.csP v))) v c.ps:=hv.kp λu y j X=>by rw[Ag (by have:=hr u j;omega)];exact X
  have c0:=AC (q:=true) (e:=Ad) (cs:=c.csP v) b0;have c1:Ai (upd f 0 (c_ Ad (c.csP v))) 1=some (c_ Ad C7):=by rw[Ag (by decide)];exact b1
  have cw:Wf (upd f 0 (c_ Ad (c.csP v))):=Bi bw;generalize upd f 0 (c_ Ad (c.csP v))=H3 at M c0 c1 cw;have k:∀{H:Hp},Ai H 0=some (c_ Ad (c.csP v))->Ai H 1=some (c_ Ad C7)->UR H v c.ps->Ai (upd H 0 (c_ Ad (c.csP v))) 0=some (c_ Ad (c.csP v))/\Ai (upd H 0 (c_ Ad (c.csP v))) 1=some (c_ Ad C7)/\UR (upd H 0 (c_ Ad (c.csP v))) v c.ps:=λ{H}t g1 g2=>
   ⟨AC t,by rw[Ag (by decide)];exact g1,g2.kp λu y j X=>by rw[Ag (by have:=hr u j;omega)];exact X⟩
  rw[fA,fA];show AE Ap (.ptr 0 33 0) H3 _=_;rw[w rfl c0 (by decide) (ZE c _).2.2.1,AQ (C5s (n:=n) pI) (Ao pI.fx AI),fA,fA];show DN Ap (.ptr 0 33 0) c.fI H3 _=_;rw[same c0 (by decide) rfl pI.cell (ZD c _).2.2.1];obtain⟨d0,d1,N⟩:=k c0 c1 M;generalize upd H3 0 (c_ Ad (c.csP v))=H4 at d0 d1 N;rw[fA,fA];show AE Az (.ptr 0 34 0) H4 _=_;rw[w rfl d0 (by decide) (ZE c _).2.2.2.1,AQ (C5u (n:=n) pN) (Ao pN.fx AI),fA,fA];show DN Az (.ptr 0 34 0) c.fN H4 _=_;rw[same d0 (by decide) rfl pN.cell (ZD c _).2.2.2.1];obtain⟨f0,f1,O⟩:=k d0 d1 N;generalize upd H4 0 (c_ Ad (c.csP v))=H5 at f0 f1 O;rw[fA,fA];show AE Ab (.ptr 0 66 0) H5 _=_;rw[w rfl f0 (by decide) (ZE c _).2.2.2.2.1,nM,fA,fA];show DN Ab (.ptr 0 66 0) Av H5 _=_;rw[same f0 (by decide) rfl ⟨rfl,rfl⟩ (ZD c _).2.2.2.2.1];obtain⟨t,g1,Q⟩:=k f0 f1 O;generalize upd H5 0 (c_ Ad (c.csP v))=H6 at t g1 Q;rw[fA,fA];show AE Ab (.ptr 0 67 0) H6 _=_;rw[w rfl t (by decide) (ZE c _).2.2.2.2.2,nM,fA,fA];show DN Ab (.ptr 0 67 0) Av H6 _=_;rw[same t (by decide) rfl ⟨rfl,rfl⟩ (ZD c _).2.2.2.2.2];obtain⟨i0,i1,R⟩:=k t g1 Q;generalize upd H6 0 (c_ Ad (c.csP v))=H7 at i0 i1 R;rw[Br rfl (by exact(OV c).symm) i0,BQ (cs:=C7) (vs:=c.csP v) i1 (by rw[OV];rfl) rfl (one v hv.cell.2)];have j1:=AC (q:=true) (e:=Ad) (cs:=c.csP v) i1;have V:UR (upd H7 1 (c_ Ad (c.csP v))) v c.ps:=R.kp λu y j X=>by rw[Ag (by have:=hr u j;omega)];exact X
  rw[Br rfl (by exact(OV c).symm) j1];rw[<-e0];refine hK _ _ ?_;generalize upd H7 1 (c_ Ad (c.csP v))=H8 at V;obtain⟨q,hq⟩:=V.fxc ag (b:=true) (D:=depth-2);obtain⟨A,B,e,ac,ad⟩:=nL c;rw[e0,e,e];exact⟨_,LL (D:=depth-1) (S! (Zz A ac) (Ao hq (Zz B ad)))⟩
 by_cases g:c.ps=[]
 ·have en:DV c.ps=Av:=by rw[g];rfl
  have:=main Av H1 (.inl ⟨rfl,g⟩) (λ_=>rfl) Z a1 (λu j=>absurd j Ie) aw;rw[en];rw[en]at this;rw[nM];exact this
 ·refine B3w (n:=n) aw af λv f hv hk hr hw=>main v f hv (λh=>absurd h g) (hk _ _ Z) (hk _ _ a1) (λu j=>?_) hw;have b1:=hr u j;have b2:=aw.lt a1;omega
end
section
variable{L n:Nat}
def B1X{a b:AP}:∀m:List AP,RI (m++[a,b])=RI (m++[a])++if b=a then[] else[b]:=by
 intro m
 induction m with
 |nil=>
  show(match(match([]:List AP) with|[]=>[b]|c::q=>if b=c then c::q else b::c::q) with|[]=>[a]|c::q=>if a=c then c::q else a::c::q)=[a]++_;by_cases h:b=a
  ·subst h;simp
  ·simp[h,Ne.symm h]
 |cons x m ih=>
  have e:∀l:List AP,RI (x::l)=match RI l with|[]=>[x]|c::q=>if x=c then c::q else x::c::q:=λl=>rfl
  rw[List.cons_append,List.cons_append,e,e,ih];cases h:RI (m++[a]) with
  |nil=>
   have:a∈RI (m++[a]):=X!.2 (by simp);rw[h]at this;cases this
  |cons c q=>
   show(if x=c then c::(q++_) else x::c::(q++_))=(if x=c then c::q else x::c::q)++_;by_cases d:x=c
   ·rw[Dr d,Dr d];rfl
   ·rw[CD d,CD d];rfl
def A2f{l:List AP}{j:Nat}(h1:1<=j)(h:j<l.length):RI (l.take (j+1))=RI (l.take j)++if l[j]=l[j-1] then[] else[l[j]]:=by
 have a:l.take j=l.take (j-1)++[l[j-1]]:=by
  have:=oJ (l:=l) (i:=j-1) (by omega);rw[show j-1+1=j by omega]at this;exact this
 have b:l.take (j+1)=l.take (j-1)++[l[j-1],l[j]]:=by
  rw[oJ h,a,eK];rfl
 rw[b,B1X,<-a]
def C0M(l:List AP):(RI l).length<=l.length:=by
 induction l with
 |nil=>exact LH _
 |cons a l ih=>
  unfold RI;cases h:RI l with
  |nil=>simp
  |cons b m=>
   rw[h]at ih;show(if a=b then b::m else a::b::m).length<=_;split
   ·simp at ih⊢;omega
   ·simp at ih⊢;omega
section
variable{l:List AP}{H:Hp}{K:KV}{x:Af}{R:Rt}
def B1K{r o i m:Nat}{K:K2}(h:i<m):D1 Ab (.sl 1 r o m) (I (i:Int)) K=K (.ptr r (o+i) 0):=by
 have a:D1 Ab (.sl 1 r o m) (I (i:Int)) K=iN (i:Int) λn=>ck (Nat.blt n m) (fN (Nat.add o (Nat.mul n 1)) λp=>K (.ptr r p 0)):=rfl;rw[a,Kr,Ef];have h1:Nat.blt i m=true:=by rw[Xe];exact h
 rw[h1];show K (.ptr r (o+i*1) 0)=_;rw[oI]
def C40{k31:AV->KV}{H0:Hp}{r B:Nat}{q:Bool}{tl:Is}(hb:l.length<1000000)(Q:1<=B)(N:B<l.length)(g:∀cs H',Ai H' r=some (.cells q Al cs)->cs.length=l.length+tl.length->cs.take (RI l).length=A9 (RI l)->Lat H0 H' (λu=>u=r)->k31 (.sl 1 r 0 l.length) (I (RI l).length) H'=x):
 ∀(f i:Nat)(cs:Is)(H':Hp),1<=i->B+i<=l.length->l.length-(B+i)<f->Ai H' r=some (.cells q Al cs)->cs.length=l.length+tl.length->cs.take (RI (l.take (B+i))).length=A9 (RI (l.take (B+i)))->cs.drop (B+i-1)=A9 (l.drop (B+i-1))++tl->(RI (l.take (B+i))).length<B+i->Lat H0 H' (λu=>u=r)->
 FE (L+20) R K k31 f (.sl 1 r 0 l.length) (I (RI (l.take (B+i))).length) (.sl 1 r B (l.length-B)) (I i) H'=x:=by
 intro f
 induction f with
 |zero=>intro i cs H' _ _ h;omega
 |succ f ih=>
  intro i cs H' hi O V m b t y J D;rw[Mx];unfold FF HV Nc A2;have el:∀K,Bp Ab (.sl 1 r B (l.length-B)) K=K (I ((l.length-B:Nat):Int)):=λK=>id rfl;rw[el];by_cases h:B+i<l.length
  ·have A:∀j,B+i-1<=j->(d:j<l.length)->(hc:j<cs.length)->cs[j]=S l[j]:=λj h1 d hc=>by
    have c:cs[j]?=(cs.drop (B+i-1))[j-(B+i-1)]?:=by rw[qJ];congr 1;omega
    rw[y,l0m (by rw[AZ,l0u];omega)]at c;have M:(A9 (l.drop (B+i-1)))[j-(B+i-1)]?=some (S l[j]):=by
     unfold A9;rw[xU,qJ,show B+i-1+(j-(B+i-1))=j by omega,KL d];rfl
    rw[M,KL hc]at c;exact l2b c
   have e:∀{j:Nat}{K:K2},B+i-1<=j->(d:j<l.length)->AE Ah (.ptr r j 0) H' K=K (S l[j]):=λ{j K}h1 d=>by
    rw[AL (p:=j) rfl m (by omega),UT,KL (by omega:j<cs.length),l1q,A j h1 d (by omega)]
   have a:=A2f (l:=l) (j:=B+i) (by omega) h;rw[FG (by omega),Co];simp only[BH];have k:∀{K:K2},D1 Ab (.sl 1 r B (l.length-B)) (I (i:Int)) K=K (.ptr r (B+i) 0):=λ{K}=>B1K (by omega);have C:∀{K:K2},D1 Ab (.sl 1 r B (l.length-B)) (I ((i-1:Nat):Int)) K=K (.ptr r (B+i-1) 0):=λ{K}=>by
    rw[B1K (by omega),show B+(i-1)=B+i-1 by omega]
   rw[k,B6,e (by omega) h,B6,gF (by omega) (by omega),B6,C,B6,e (LH _) (by omega),B6,ZC];by_cases he:l[B+i]=l[B+i-1]
   ·rw[Dr he,US]at a;rw[GI he];show Au (some (.v (.bool false),[])) _=_;rw[B6,Ba,Dd (by omega)];have:=ih (i+1) cs H' (by omega) (by omega) (by omega) m b (by rw[show B+(i+1)=B+i+1 by omega,a];exact t) (by
     have c:=congrArg (List.drop 1) y;rw[l1a,show B+i-1+1=B+(i+1)-1 by omega]at c;rw[c,l34 (by rw[AZ,l0u];omega)]
     congr 1
     unfold A9;rw[<-List.map_drop,l1a,show B+i-1+1=B+(i+1)-1 by omega]) (by rw[show B+(i+1)=B+i+1 by omega,a];omega) D
    rw[show B+(i+1)=B+i+1 by omega,a]at this;exact this
   ·rw[CD he]at a;rw[HN he];show Au (some (.v (.bool true),[])) _=_;have F:(RI (l.take (B+i))).length<l.length:=by omega
    rw[B6,Co,k,e (by omega) h,RA F,D5 m (by omega) rfl rfl rfl,Dd (by omega),Dd (by omega)];have w:(RI (l.take (B+i+1))).length=(RI (l.take (B+i))).length+1:=by rw[a,Ez];rfl
    have:=ih (i+1) (cs.set (RI (l.take (B+i))).length (S l[B+i])) (upd H' r (.cells q Al (cs.set (RI (l.take (B+i))).length (S l[B+i])))) (by omega) (by omega) (by omega) (AC m) (by rw[List.length_set];exact b) (by
     rw[show B+(i+1)=B+i+1 by omega,w,a];have s:(RI (l.take (B+i))).length<(cs.set (RI (l.take (B+i))).length (S l[B+i])).length:=by rw[List.length_set];omega
     rw[oJ s,List.getElem_set_self,List.take_set_of_le (LH _),t];simp[A9]) (by
     rw[List.drop_set_of_lt (by omega)];have c:=congrArg (List.drop 1) y;rw[l1a,show B+i-1+1=B+(i+1)-1 by omega]at c;rw[c,l34 (by rw[AZ,l0u];omega)]
     congr 1
     unfold A9;rw[<-List.map_drop,l1a,show B+i-1+1=B+(i+1)-1 by omega]) (by rw[show B+(i+1)=B+i+1 by omega,w];omega) (D.trans (Lat.upd _ _ _ (P:=λu=>u=r) rfl) (λ_ _ h=>h) (λ_ _ h=>h))
    rw[show B+(i+1)=B+i+1 by omega,w]at this;exact this
  ·have d:B+i=l.length:=by omega
   rw[FB (by omega),Ba];rw[d,l25 (LH _)]at t J⊢;exact g cs H' m b t D
def B67{v:AV}(wf:Wf H)(h:Km H v l)(hb:l.length<100000)(hL:200000<L)(D:∀N g,Km g N (RI l)->(∀u,A4 N u->A4 v u)->(v=Av->N=Av)->Lat H g (A4 v)->K N g=x):(rt (L+20) (n+1)).call Cr [v] H K=x:=by
 rw[IJ];unfold Ew A2;simp only[BH];rw[h.len];have e1:(AV.v (.int .i64 1))=I ((1:Nat):Int):=rfl;have e2:(AV.v (.int .i64 2))=I ((2:Nat):Int):=rfl;rw[e1,e2];by_cases h2:l.length<2
 ·rw[FG (by omega),Co];have ec:RI l=l:=by
   match l,h2 with
   |[],_=>rfl
   |[a],_=>rfl
  rw[ec]at D;exact D v H h (λ_ h=>h) (λh=>h) (Lat.refl _ _)
 ·rw[FB (by omega),Ba];rcases h with⟨_,rfl⟩|⟨r,q,tl,rfl,V⟩
  ·simp at h2
  have C:∀u,A4 (.sl 1 r 0 l.length) u↔u=r:=λu=>⟨λ⟨_,_,_,h⟩=>by injection h with _ h;exact h.symm,λh=>h▸⟨1,0,_,rfl⟩⟩
  have lat:∀{g},Lat H g (λu=>u=r)->Lat H g (A4 (.sl 1 r 0 l.length)):=λk=>⟨k.wf,k.nx,λw u y X hn=>k.keep w u y X λe=>hn ((C u).2 e)⟩
  have s:∀{j:Nat}{K:K2},(M:j<l.length)->AE Ah (.ptr r j 0) H K=K (S l[j]):=λ{j K}M=>by
   rw[AL (p:=j) rfl V (by rw[Ez,AZ];omega),UT,l0m (by rw[AZ];omega)];unfold A9;rw[xU,KL M];rfl
  have lp:∀(f i:Nat)(d1 d2:AV),1<=i->i<=l.length->l.length-i<f->RI (l.take i)=l.take i->
   Ei (L+20) (rt (L+20) n) K (λv H=>K v H) f (.sl 1 r 0 l.length) (I i) d1 d2 H=x:=by
   intro f
   induction f with
   |zero=>intro i d1 d2 _ _ h;omega
   |succ f ih=>
    intro i d1 d2 A hi hf hc;rw[I2];unfold Ej Nc A2;have el:∀K,Bp Ab (.sl 1 r 0 l.length) K=K (I l.length):=λK=>id rfl;rw[el];by_cases d:i<l.length
    ·rw[FG (by omega),Co,RA d,B6,s d,B6,gF (by omega) (by omega),B6,RA (by omega),B6,s (by omega),B6,Lb];have b:=A2f (l:=l) (j:=i) A d;by_cases he:l[i]=l[i-1]
     ·rw[Dr he,US,hc]at b;rw[GI he,B6,Co,ZA hi];simp only[BH];rw[e1];have c:(RI (l.take (i+1))).length=i:=by rw[b,zF];omega
      have main:=C40 (L:=L) (R:=rt (L+20) n) (K:=K) (H0:=H) (r:=r) (B:=i) (q:=q) (tl:=tl) (x:=x)
       (k31:=λF J P=>DS Ab F (some J) none none λY=>vJ 1 Ah Y P λO=>DS Ab F none (some J) none λZ=>K Z O)
       (by omega) A d (λcs g g1 g2 g3 g4=>?_) (L+20) 1 (A9 l++tl) H (by omega) (by omega) (by omega) V (by rw[Ez,AZ]) (by
        rw[c,b,l32 (by rw[AZ];omega)];simp[A9,List.map_take]) (by
        rw[show i+1-1=i by omega,l34 (by rw[AZ];omega)];simp[A9,List.map_drop]) (by rw[c];omega) (Lat.refl _ _)
      ·rw[c]at main;exact main
      ·have t:=C0M l;obtain⟨Q,H2,c1,c2,c3,c4⟩:=B1Q (H:=g) (r:=r) (i:=(RI l).length) (m:=l.length-(RI l).length) g1 (by omega);show(DS Ab (.sl 1 r 0 l.length) (some (I ((RI l).length:Nat))) none none _)=_;rw[ZA t,c1,VE t];refine D _ H2 (.inr ⟨r,q,Q.drop (RI l).length,rfl,?_⟩) (λu X=>?_) (λh=>by cases h) (lat (g4.trans c4 (λ_ _ h=>h) (λ_ _ h=>h)))
       ·rw[c2,<-g3,<-c3,l38]
       ·obtain⟨_,_,_,h⟩:=X;injection h with _ h
        exact⟨1,0,_,by rw[h]⟩
     ·rw[CD he,hc]at b;rw[HN he,B6,Ba,Dd (by omega)];exact ih (i+1) _ _ (by omega) (by omega) (by omega) (by rw[b,oJ d])
    ·have M:i=l.length:=by omega
     subst M;rw[l25 (LH _)]at hc;rw[FB (by omega),Ba];rw[hc]at D;exact D _ H (.inr ⟨r,q,tl,rfl,V⟩) (λ_ h=>h) (λh=>h) (Lat.refl _ _)
  refine lp (L+20) 1 _ _ (by omega) (by omega) (by omega) ?_
  match l,h2 with
  |[],h2=>simp at h2
  |a::l,_=>rfl
end
end
section
variable{c:Cd}{H:Hp}{D:Nat}
variable{L n:Nat}
section
variable{l:List AP}{P:AP->Bool}
def B5p:(decide (0<=fiN P l 0))=l.any P:=by
 rcases A1O P l 0 with⟨h1,h2⟩|⟨i,hi,h1,h2,_⟩
 ·have:l.any P=false:=by
   rw[List.any_eq_false];intro a b;rw[h2 a b];simp
  rw[this,h1];rfl
 ·have:l.any P=true:=List.any_eq_true.2 ⟨_,NT hi,h2⟩;rw[this,h1,GI (by omega)]
def sJ{a fn:AV}(f:SA l a)(i:∀(s:AP)(K:KV),Cw (E (L+20)) (r! L n) fn [S s] [] K=K (Bo (P s)) [])(d:Fx true depth fn fn [] false)(hb:l.length<1000000)(h:l.length<L):CS (r! L (n+2)) B5 [a,fn] (Bo (l.any P)):=by
 intro K g;rw[GM];unfold D2 L8;rw[AQ (B66 (n:=n) f i hb h) (Ao (f.fx []) (Ao d AI))];have e:∀{K:K2},As Ac .geq (I (fiN P l 0)) (AV.v (.int .i64 0)) K=K (Bo (l.any P)):=λ{K}=>by
  rw[KX,B5p]
 rw[e];exact g _ _ λb=>⟨false,CA⟩
end
def A47{D r:Nat}{es:eo}{f:Option (Hb×Nat)}(h:Ai H r=some (.map false (Df DU (gE es)) f)):Fx true (D+4) (.mp r) (.imap (Df DU (gE es))) H true:=by
 intro K;show IQ H r (λx=>qI x λes=>Rj (Ia true H (D+3)) es λ_ b=>K true (.imap b))=_;rw[Bn h];show Rj (Ia true H (D+3)) (Df DU (gE es)) _=_;have e:∀(es:List (AP×Cd))(F:Bool->IH->Af),Rj (Ia true H (D+3)) (Df DU es) F=F false (Df DU es):=by
  intro es
  induction es with
  |nil=>intro F;rfl
  |cons a es ih=>
   intro F;show Ia true H (D+3) (.agg a.2.cs) (λq d=>Rj (Ia true H (D+3)) (Df DU es) λi g=>F (@Bool.rec (λ_=>Bool) i true q) ((SV a.1,d)::g))=_;rw[A4H,ih];rfl
 rw[e]
section
variable{S out:eo}{x:AP}
def B22(a:∀c∈S,(∀p∈c.ps,p∈out.map Cd.id)->c.id∈out.map Cd.id)(b:Cmp S x):x∈out.map Cd.id:=by
 induction b with
 |mk h1 _ ih=>exact a _ h1 ih
def Zv{l:eo}(h:(l.map Cd.id).Nodup):l.Nodup:=List.Pairwise.of_map Cd.id (λa b d e=>d (e▸rfl)) h
structure Ps(S out:eo):Prop where
 nd:(out.map Cd.id).Nodup
 sub:∀c∈out,c∈S
 cmp:∀c∈out,Cmp S c.id
def Ps.nil:Ps S []:=⟨List.nodup_nil,by simp,by simp⟩
def Ps.add(h:Ps S out)(hc:c∈S)(m:∀p∈c.ps,p∈out.map Cd.id)(hn:c.id∉out.map Cd.id):Ps S (out++[c]):=by
 have g:Cmp S c.id:=.mk hc λp j=>by
  obtain⟨d,f,i⟩:=PW.1 (m p j);rw[<-i];exact h.cmp d f
 refine⟨?_,λd f=>?_,λd f=>?_⟩
 ·rw[XS];refine l36.2 ⟨h.nd,by simp,λa k b hb=>?_⟩;simp at hb;subst hb;exact λe=>hn (e▸k)
 ·rcases Zx.1 f with f|f
  ·exact h.sub d f
  ·rw[XR]at f;subst f;exact hc
 ·rcases Zx.1 f with f|f
  ·exact h.cmp d f
  ·rw[XR]at f;subst f;exact g
def Ps.done(a:(S.map Cd.id).Nodup)(h:Ps S out)(b:∀c∈S,(∀p∈c.ps,p∈out.map Cd.id)->c.id∈out.map Cd.id):out.Perm (Hd S):=by
 refine(l35 (Zv h.nd) (Zv (TO a))).2 λc=>?_;rw[KY];constructor
 ·exact λhc=>⟨h.sub c hc,h.cmp c hc⟩
 ·rintro⟨h1,h2⟩;obtain⟨d,f,e⟩:=PW.1 (B22 b h2);have a1:=Iy a h1;have a2:=Iy a (h.sub d f);rw[e,a1]at a2;rw[l2b a2];exact f
def Ps.len(h:Ps S out):out.length<=S.length:=by
 have:=YB h.nd (l2:=S.map Cd.id) λx a=>by
  obtain⟨c,hc,rfl⟩:=PW.1 a;exact PW.2 ⟨c,h.sub c hc,rfl⟩
 rw[Po,Po]at this;exact this
def A77{b:List (AP×Cd)}{k:AP}(h:MG b k=some c):Ml b k c=b:=by
 induction b with
 |nil=>cases h
 |cons e b ih=>
  unfold MG at h;unfold Ml;by_cases he:e.1=k
  ·rw[Dr he]at h⊢;cases h
   obtain⟨a,d⟩:=e;simp only at he;subst he;rfl
  ·rw[CD he]at h⊢;rw[ih h]
end
def C0h{f:Nat}{cs:Is}:Fx true (D+2) (.fn (.func f) [] [.iptr cs]) (.fn (.func f) [] [.iptr cs]) H false:=zM (D:=D+1) (Ao (q:=false) Rx AI)
end
inductive PC where
 |c (d:Cd)
 |z
def PC.cells:PC->Is
 |.c d=>d.cs
 |.z=>C7
structure Pk where
 kd:Int
 ds:List AP
 cs:List PC
def Pk.Right(p:Pk):Prop:=p.ds.length<=64/\p.cs.length<=64/\(∀s∈p.ds,s.length=32)/\((p.cs=[]/\(p.kd=1\/p.kd=2))\/(p.ds=[]/\p.kd=3))
def Rf(S:eo):List PC->eo
 |[]=>S
 |.z::l=>Rf S l
 |.c d::l=>Rf (if d.id∈S.map Cd.id then S else S++[d]) l
def dN(S:eo)(ex:List AP):List Pk:=if wK S ex=[] then[] else[⟨2,wK S ex,[]⟩]
def S'(S:eo)(ds:List AP):List Pk:=if gvn S ds=[] then[] else[⟨3,[],(gvn S ds).map .c⟩]
open Classical in
def Lr(S:eo)(p:Pk):eo×List Pk:=
 if p.Right then
  if p.kd=1 then(S,dN S (p.ds.filter λx=>decide (x∉S.map Cd.id)))
  else if p.kd=2 then(S,S' S p.ds)
  else(Rf S p.cs,if(Rf S p.cs).length=S.length then[] else dN (Rf S p.cs) [])
 else(S,[])
structure StIn(l S:eo):Prop where
 sub:∀c∈S,c∈l
 nd:(S.map Cd.id).Nodup
section
variable{l S T:eo}{c d:Cd}{p:Pk}{x:AP}
def StIn.len(h:StIn l S):S.length<=l.length:=by
 have:=YB h.nd (l2:=l.map Cd.id) λx a=>by
  obtain⟨c,hc,rfl⟩:=PW.1 a;exact PW.2 ⟨c,h.sub c hc,rfl⟩
 rw[Po,Po]at this;exact this
theorem StIn.ok(h:StIn l S)(a:GOk l):GOk S:=⟨λc hc=>a.ok c (h.sub c hc),λc hc=>a.nd c (h.sub c hc),h.nd,fG h.len a.len⟩
def StIn.nil:StIn l []:=⟨by simp,List.nodup_nil⟩
def StIn.own(h:StIn l S)(b:GOk l)(hc:c∈l)(hi:c.id∈S.map Cd.id):c∈S:=by
 obtain⟨d,a,e⟩:=PW.1 hi;have a1:=Iy b.ids hc;have a2:=Iy b.ids (h.sub d a);rw[e,a1]at a2;rw[l2b a2];exact a
def StIn.add1(h:StIn l S)(g:d∈l):StIn l (if d.id∈S.map Cd.id then S else S++[d]):=by
 split
 ·exact h
 ·rename_i hn;refine⟨λc hc=>?_,?_⟩
  ·rcases Zx.1 hc with hc|hc
   ·exact h.sub c hc
   ·rw[XR]at hc;subst hc;exact g
  ·rw[XS];refine l36.2 ⟨h.nd,by simp,λa f b hb=>?_⟩;simp at hb;subst hb;exact λe=>hn (e▸f)
def B5U:∀(cs:List PC){S:eo},StIn l S->(∀d,PC.c d∈cs->d∈l)->StIn l (Rf S cs):=by
 intro cs
 induction cs with
 |nil=>intro S h _;exact h
 |cons a cs ih=>
  intro S h hc;cases a with
  |z=>exact ih h λd b=>hc d (by simp[b])
  |c d=>exact ih (h.add1 (hc d (by simp))) λd b=>hc d (by simp[b])
def A2y:∀(cs:List PC){S:eo},(∀c∈S,c∈Rf S cs)/\(∀c∈Rf S cs,c∈S\/PC.c c∈cs)/\S.length<=(Rf S cs).length:=by
 intro cs
 induction cs with
 |nil=>intro S;exact⟨λ_ h=>h,λ_ h=>.inl h,LH _⟩
 |cons a cs ih=>
  intro S;cases a with
  |z=>
   obtain⟨h1,h2,b⟩:=ih (S:=S);exact⟨h1,λc hc=>(h2 c hc).imp id λh=>by simp[h],b⟩
  |c d=>
   obtain⟨h1,h2,b⟩:=ih (S:=if d.id∈S.map Cd.id then S else S++[d]);have e:Rf S (.c d::cs)=Rf (if d.id∈S.map Cd.id then S else S++[d]) cs:=rfl;rw[e];by_cases h:d.id∈S.map Cd.id
   ·rw[Dr h]at h1 h2 b⊢;exact⟨h1,λc hc=>(h2 c hc).imp id λh=>by simp[h],b⟩
   ·rw[CD h]at h1 h2 b⊢;refine⟨λc hc=>h1 c (by simp[hc]),λc hc=>?_,by simp at b;omega⟩;rcases h2 c hc with h|h
    ·rcases Zx.1 h with h|h
     ·exact .inl h
     ·rw[XR]at h;exact .inr (by simp[h])
    ·exact .inr (by simp[h])
def A7E:∀(S:eo),(∀c∈S,c.ps.length<=3)->(S.flatMap Cd.ps).length<=S.length*3:=by
 intro a
 induction a with
 |nil=>intro _;simp
 |cons c a ih=>
  intro h;have h1:=h c (by simp);have h2:=ih λd b=>h d (by simp[b]);rw[oK,Ez,Mr,l1e];omega
def TP(h:c.Ok):c.ps.length<=3:=by
 match c,h with
 |.re b u,_=>exact l1h _
 |.co b p ps none,⟨_,h2,a,_⟩=>have:=h2.k3;show ps.length<=3;omega
 |.co b p ps (some _),⟨_,h2,a,_⟩=>have:=h2.k3;show ps.length<=3;omega
def B0H(a:GOk S):(JN S).length<=24:=by
 have h1:=A2z (ids:=S.map Cd.id) (S.flatMap Cd.ps) [];have h2:=A7E S λc hc=>TP (a.ok c hc);have b:=a.len;rw[JN,(Bl _).length_eq,Po];simp at h1;simp at h2;omega
def A6a(l:List AP):(RI l).length<=l.length:=by
 induction l with
 |nil=>exact LH _
 |cons a l ih=>
  unfold RI;cases h:RI l with
  |nil=>simp
  |cons b m=>
   rw[h]at ih;show(if a=b then b::m else a::b::m).length<=_;split
   ·simp at ih⊢;omega
   ·simp at ih⊢;omega
def B2Z(a:GOk S){ex:List AP}(h:ex.length<=40):(wK S ex).length<=64:=by
 have:=A6a (Et (ex++JN S));rw[(Bl _).length_eq,Ez]at this;have:=B0H a;unfold wK;omega
def wP(ws:List AP):List Pk:=if ws=[] then[] else[⟨2,ws,[]⟩]
def B2r(h:StIn l S):StIn l (J7 S):=by
 refine⟨λc hc=>h.sub c (KY.1 ((VK h.nd).1 hc)).1,?_⟩;rw[jR h.nd];exact(Qq (gs:=Hd S)).1.nd
end
section
variable{F:AV->KV}{H0:Hp}{b:List (AP×Cd)}{m rb:Nat}
variable{L n:Nat}
section
variable{A out:eo}{s:AP}{H:Hp}{K:KV}{x:Af}
def B5m(h:s∉out.map Cd.id):MG (gE out) s=none:=YV (by rw[Xi];exact h)
def T!(h:s∈out.map Cd.id):∃c,MG (gE out) s=some c:=by
 rcases A5W (gs:=out) (s:=s) with⟨_,k,a,h1,_⟩|⟨h1,_⟩
 ·exact⟨_,h1⟩
 ·exact absurd h h1
def R!{F:Value->Af}:Mt (S s) F=F (SV s):=id rfl
def C0z{es:IH}{F:K2}:AE Aj (.iptr [.imap es]) H F=F (.imap es):=by kernel_rfl
def A5J{P:Af->Prop}{m:AV}(hm:∀K,xY m H K=K (Df DU b))(d:∀a,(∃c:Is,a=upd ((Ar H,c_ Ad C7)::H) (Ar H) (c_ Ad c))->P (F (Bo (MG b s).isSome) (.ptr (Ar H) 0 0) a)):
 P (Mt (S s) λq=>ZB Ae true m q H λv=>CV v 0 λi=>CV v 1 λj=>Bw Ad Ae H λe g=>DN Ae e i g λh=>F j e h):=by
 rw[R!,A4p (f:=DU) (b:=b) hm];cases hc:MG b s with
 |some c=>
  simp only[];rw[Fl,Fk,Bv (cs:=C7) rfl,BQ (cs:=C7) (vs:=c.cs) (Ax (by simp)) Eb rfl Ma];have:=d _ ⟨c.cs,rfl⟩;rw[hc]at this;exact this
 |none=>
  simp only[];rw[Fl,Fk,Bv (cs:=C7) rfl]
  erw[BQ (cs:=C7) (vs:=C7) (Ax (by simp)) rfl rfl rfl]
  have:=d _ ⟨C7,rfl⟩;rw[hc]at this;exact this
def A3X{m:AV}(hm:∀K,xY m H K=K (Df DU b))(h:∀d,(∃c:Is,d=upd ((Ar H,c_ Ad C7)::H) (Ar H) (c_ Ad c))->F (Bo (MG b s).isSome) (.ptr (Ar H) 0 0) d=x):
 (Mt (S s) λq=>ZB Ae true m q H λv=>CV v 0 λi=>CV v 1 λj=>Bw Ad Ae H λe f=>DN Ae e i f λg=>F j e g)=x:=
 A5J (P:=λa=>a=x) hm h
def iX:(MG (gE out) s).isSome=decide (s∈out.map Cd.id):=by
 by_cases h:s∈out.map Cd.id
 ·obtain⟨c,hc⟩:=T! h;rw[hc,GI h];rfl
 ·rw[B5m h,HN h];rfl
def C1M:CS (r! L (n+1)) De [S s,.iptr [.imap (Df DU (gE out))]] (Bo (decide (s∉out.map Cd.id))):=by
 intro K d;rw[NS];unfold GD L8;rw[C0z];refine A3X (b:=gE out) (F:=λe _ c=>MB .not e λa=>K a c) (λK=>id rfl) λf _=>?_;rw[iX,DR];have:(!decide (s∈out.map Cd.id))=decide (s∉out.map Cd.id):=by by_cases h:s∈out.map Cd.id<;>simp[h]
 rw[this];exact d _ _ λb=>⟨false,CA⟩
structure Cp(H0:Hp)(m rb:Nat)(out:eo)(H:Hp):Prop where
 mm:Ai H m=some (.map false (Df DU (gE out)) none)
 bb:Ai H rb=some (c_ Ay [.mp m])
 wf:Wf H
 keep:∀u y,Ai H0 u=some y->Ai H u=some y
 m0:Ar H0<=m
 b0:Ar H0<=rb
 w0:Wf H0
def Cp.ne(h:Cp H0 m rb out H):m≠rb:=λe=>by
 have:=h.mm;rw[e,h.bb]at this;cases this
def Cp.lat{H0 H':Hp}(h:Cp H0 m rb out H)(w:Wf H')(k:∀u y,Ai H u=some y->Ai H' u=some y):Cp H0 m rb out H':=
 ⟨k _ _ h.mm,k _ _ h.bb,w,λu y a=>k u y (h.keep u y a),h.m0,h.b0,h.w0⟩
theorem Cp.it{H0:Hp}{m rb it:Nat}(h:Cp H0 m rb out H)(y:Row)(h1:it≠m/\it≠rb/\Ar H0<=it):Cp H0 m rb out (upd H it y):=
 ⟨by rw[Ag h1.1.symm];exact h.mm,by rw[Ag h1.2.1.symm];exact h.bb,Bi h.wf,λu z a=>by rw[Ag (by have:=h.w0.lt a;omega)];exact h.keep u z a,h.m0,h.b0,h.w0⟩
def Cp.put(h:Cp H0 m rb out H)(a:eo):Cp H0 m rb a (upd H m (.map false (Df DU (gE a)) none)):=
 ⟨(BF h.mm).trans rfl,by rw[Ag h.ne.symm];exact h.bb,Bi h.wf,λu z c=>by rw[Ag (by have:=h.w0.lt c;have:=h.m0;omega)];exact h.keep u z c,h.m0,h.b0,h.w0⟩
def B19(out:eo)(c:Cd):gE out++[(c.id,c)]=gE (out++[c]):=by simp[gE]
def C0N{m rb it:Nat}{a0 v8 w:AV}{out0:eo}{ad:AV->AV->AV->KV}(hw:VQ 6 w w=true)(hg:GOk A)(hL:40000<L)(ac:∀out H,Cp H0 m rb out H->Ps A out->(∀c∈out0,c∈out)->(∀c∈A,(∀p∈c.ps,p∈out0.map Cd.id)->c.id∈out.map Cd.id)->ad a0 (.ptr rb 0 0) v8 (.it it) H=some (w,[]))(O:it≠m/\it≠rb/\Ar H0<=it):
 ∀(f:Nat)(es:List (AP×Cd))(out:eo)(H:Hp)(o:Option (Value×AV)),es.length<f->(∀e∈es,e∈gE A)->Cp H0 m rb out H->Ps A out->(∀c∈out0,c∈out)->
 (∀c∈A,(c.id,c)∈es\/((∀p∈c.ps,p∈out0.map Cd.id)->c.id∈out.map Cd.id))->Ai H it=some (.iter (Df DU es) o)->
 Ip (L+20) (r! L (n+3)) K ad f a0 (.ptr rb 0 0) v8 (.it it) H=some (w,[]):=by
 intro f
 induction f with
 |zero=>intro es out H o h;omega
 |succ f ih=>
  intro es out H o hf he hc V Z B hl;rw[PB];unfold Iq DI;refine Y0 (f:=DU) hw hl (λe=>?_) (λa e b ae=>?_)
  ·subst e;rw[Gz,Ba];exact ac out H hc V Z λc i=>(B c i).elim (λh=>by cases h) id
  ·subst ae;obtain⟨cd,N,ag⟩:=PW.1 (he e (by simp));subst ag;have P:=LG (es:=Df DU (a++b)) (o:=some (.string ⟨⟨cd.id⟩⟩,DU cd)) hl;have M:=hc.it (.iter (Df DU (a++b)) (some (.string ⟨⟨cd.id⟩⟩,DU cd))) O;have am:=TP (hg.ok cd N);rw[Gz,Co];simp only[BH];rw[NK P,Gz,UJ];generalize upd H it (.iter (Df DU (a++b)) (some (.string ⟨⟨cd.id⟩⟩,DU cd)))=H1 at P M;obtain⟨Y,e2,aa,w2,k2⟩:=HF (e:=Ad) (zs:=C7) (vs:=cd.cs) M.wf Eb;rw[Bv (cs:=C7) rfl,BQ (cs:=C7) (vs:=cd.cs) (Ax (by simp)) Eb rfl Ma,<-e2,fA,Kk,B2b aa];have j:=M.lat w2 λu y hu=>(k2 u y hu).1;have Q:=(k2 _ _ P).1;have ah:Rm true depth [DV cd.ps,.fn (.func De) [] [.ptr rb 0 0]] [DV cd.ps,.fn (.func De) [] [.iptr [.imap (Df DU (gE out))]]] Y true:=
    Ao (q:=false) ((My cd.ps).fx Y) (Ao (q:=true) (q':=false) (zM (D:=11) (Ao (q:=true) (q':=false) (Xk (D:=10) j.bb (Ao (q:=true) (q':=false) (A47 (D:=6) j.mm) AI)) AI)) AI)
   have ab:∀{F:K2},Aq (r! L (n+3)) B5 [DV cd.ps,.fn (.func De) [] [.ptr rb 0 0]] Y F=F (Bo (cd.ps.any λs=>decide (s∉out.map Cd.id))):=λ{F}=>
    AQ (sJ (n:=n+1) (My cd.ps) (λs K=>by
     rw[F' rfl rfl];exact AQ C1M (Ao (q:=false) CA (Ao (q:=false) Rx AI))) (C0h (D:=10)) (by omega) (by omega)) ah
   rw[ab,DR];have k:∀e∈a++b,e∈gE A:=λe X=>he e (by simp at X⊢;rcases X with X|X;exact .inl X;exact .inr (.inr X));have t:(a++b).length<f:=by simp at hf⊢;omega
   by_cases g:∀p∈cd.ps,p∈out.map Cd.id
   ·have e1:(cd.ps.any λs=>decide (s∉out.map Cd.id))=false:=by
     rw[List.any_eq_false];intro p J;simp[g p J]
    rw[e1];show A1 (.v (.bool true)) _ _=_;rw[Co];have lm:∀{F:K2},AE Aj (.ptr rb 0 0) Y F=F (.mp m):=λ{F}=>AL (p:=0) rfl j.bb (by simp);rw[lm,Br rfl Eb.symm aa];show Mt (S cd.id) _=_;rw[R!];show MC (.mp m) (SV cd.id) (DU cd) Y _=_;rw[jE (f:=DU) (b:=gE out) (v:=cd) j.mm];by_cases r:cd.id∈out.map Cd.id
    ·obtain⟨c',ak⟩:=T! r;obtain⟨d,hd,C⟩:=PW.1 r;have e3:MG (gE out) cd.id=some cd:=by
      have a1:=Iy V.nd hd;rw[C]at a1;have a2:=Iy hg.ids (V.sub d hd);have a3:=Iy hg.ids N;rw[C,a3]at a2;rw[a1,l2b a2]
     rw[A77 e3];refine ih (a++b) out _ _ t k (j.put out) V Z (λc i=>?_) (by rw[Ag O.1];exact Q);rcases B c i with h|h
     ·simp at h;rcases h with h|h|h
      ·exact .inl (by simp[h])
      ·exact .inr λ_=>by rw[h.1];exact r
      ·exact .inl (by simp[h])
     ·exact .inr h
    ·rw[Zr (by rw[Xi];exact r),B19];refine ih (a++b) (out++[cd]) _ _ t k (j.put (out++[cd])) (V.add N g r) (λc af=>by simp[Z c af]) (λc i=>?_) (by rw[Ag O.1];exact Q);rcases B c i with h|h
     ·simp at h;rcases h with h|h|h
      ·exact .inl (by simp[h])
      ·exact .inr λ_=>by rw[h.1];simp
      ·exact .inl (by simp[h])
     ·exact .inr λR=>by
       have:=h R;rw[XS];exact Zx.2 (.inl this)
   ·have e1:(cd.ps.any λs=>decide (s∉out.map Cd.id))=true:=by
     rw[List.any_eq_true];simp only[Classical.not_forall]at g;obtain⟨p,ai,aj⟩:=g;exact⟨p,ai,by simp only[decide_eq_true_eq];exact aj⟩
    rw[e1];show A1 (.v (.bool false)) _ _=_;rw[Ba];refine ih (a++b) out _ _ t k j V Z (λc i=>?_) Q;rcases B c i with h|h
    ·simp at h;rcases h with h|h|h
     ·exact .inl (by simp[h])
     ·refine .inr λR=>absurd (λp J=>?_) g;rw[<-h.2]at J;obtain⟨d,hd,C⟩:=PW.1 (R p J);exact PW.2 ⟨d,Z d hd,C⟩
     ·exact .inl (by simp[h])
    ·exact .inr h
end
end
section
variable{w:AV}{F:K2}{es:IH}{m:Nat}
variable{L n:Nat}
section
variable{A out:eo}{s:AP}{H:Hp}{K:KV}{x:Af}
def vH{a:Option (Hb×Nat)}(h:Ai H m=some (.map false es a)):Zb (.mp m) H F=F (I es.length):=by
 unfold Zb;rw[Z8 h,Cs,Kk];rfl
def A2d{ty:Nat}{i:TI}{v:Value}(hz:i.zero=.v v):Bw ty i H K=K (.ptr (Ar H) 0 0) ((Ar H,c_ ty [.v v])::H):=by
 unfold Bw;rw[hz,CM,Ca];rfl
def A0u:(L0 (.iptr [.imap es]) λv=>CL 0 v λv=>AE Aj v H F)=F (.imap es):=by kernel_rfl
def A9z{l m:eo}(b:(l.map Cd.id).Nodup)(hm:(m.map Cd.id).Nodup)(e:∀c∈l,c∈m)(he:m.length=l.length):∀c∈m,c∈l:=by
 intro c hc;apply l37;intro hn;have h1:(c::l).Nodup:=List.nodup_cons.2 ⟨hn,Zv b⟩;have h2:=YB h1 (l2:=m) λd a=>by
  rcases Xd.1 a with rfl|a
  ·exact hc
  ·exact e d a
 simp at h2;omega
def C0O{H0:Hp}{m rb:Nat}(R:VQ 6 w w=true)(t:GOk A)(O:40000<L)(V:∀out H,Cp H0 m rb out H->out.Perm (Hd A)->K (.mp m) H=some (w,[])):
 ∀(f:Nat)(out:eo)(H:Hp)(d1 d2:AV),A.length-out.length<f->Cp H0 m rb out H->Ps A out->
 FA (L+20) (r! L (n+3)) K f (.iptr [.imap (Df DU (gE A))]) (.ptr rb 0 0) d1 d2 H=some (w,[]):=by
 intro f
 induction f with
 |zero=>intro out H d1 d2 h;omega
 |succ f ih=>
  intro out H d1 d2 X hc B;rw[PD];unfold Ir DI;have lm:∀{out H}{F:K2},Cp H0 m rb out H->AE Aj (.ptr rb 0 0) H F=F (.mp m):=λ{out H F}hc=>AL (p:=0) rfl hc.bb (by simp);have N:∀{out:eo},(Df DU (gE out)).length=out.length:=λ{out}=>by simp[gE]
  simp only[BH];rw[lm hc,vH hc.mm,N,A0u,Xr];have v:Ai ((Ar H,Row.iter (Df DU (gE A)) none)::H) (Ar H)=some (.iter (Df DU (gE A)) none):=Ax (by simp);have k:Cp H0 m rb out ((Ar H,Row.iter (Df DU (gE A)) none)::H):=hc.lat (AF hc.wf) λu y M=>A6 (hc.wf.lt M) M;have m1:=hc.wf.lt hc.mm;have Y:=hc.wf.lt hc.bb;have m3:=hc.m0;refine C0N (n:=n) (out0:=out) R t O (λa D b g J q=>?_) ⟨by omega,by omega,by omega⟩ (L+20) (gE A) out _ none (by have:=t.len;simp[gE];omega) (λe he=>he) k B (λc h=>h) (λc i=>.inl (PW.2 ⟨c,i,rfl⟩)) v;rw[lm b,vH b.mm,N,Cv];have Q:out.length<=a.length:=by
   have:=YB (Zv B.nd) (l2:=a) J;exact this
  by_cases he:a.length=out.length
  ·rw[GI (by omega),Co,lm b];refine V a D b (g.done t.ids λc i j=>q c i λp C=>?_);obtain⟨d,P,r⟩:=PW.1 (j p C);exact PW.2 ⟨d,A9z B.nd g.nd J he d P,r⟩
  ·rw[HN (by omega),Ba];have:=g.len;exact ih a D _ _ (by omega) b g
def sL(i:VQ 6 w w=true)(e:GOk A)(g:40000<L)(wf:Wf H)(j:∀out m a,out.Perm (Hd A)->Ai a m=some (.map false (Df DU (gE out)) none)->Ar H<=m->Wf a->(∀u y,Ai H u=some y->Ai a u=some y)->Ar H<=Ar a->K (.mp m) a=some (w,[])):
 (r! L (n+4)).call FP [.iptr [.imap (Df DU (gE A))]] H K=some (w,[]):=by
 rw[Qu];unfold IB;have em:∀(H:Hp)(K:KV),LX Ae H K=K (.mp (Ar H)) ((Ar H,.map false [] none)::H):=λH K=>by
  show It H (λs=>K (.mp s) ((s,.map false [] (mF Ae.d))::H))=_;rw[Ca];rfl
 rw[em,A2d (v:=.map none) rfl];have w1:=AF (x:=.map false [] none) wf;have h1:Ai ((Ar H,Row.map false [] none)::H) (Ar H)=some (.map false [] none):=Ax (by simp);have c:Ar ((Ar H,Row.map false [] none)::H)=Ar H+1:=rfl;rw[c];have h2:Ai ((Ar H+1,c_ Ay [.v (.map none)])::(Ar H,Row.map false [] none)::H) (Ar H+1)=some (c_ Ay [.v (.map none)]):=Ax (H:=(Ar H,Row.map false [] none)::H) (by simp);rw[D5 (cs:=[.v (.map none)]) h2 (by simp) rfl rfl rfl];have p:Wf ((Ar H+1,c_ Ay [.v (.map none)])::(Ar H,Row.map false [] none)::H):=AF (x:=.cells true Ay [.v (.map none)]) w1;have k:∀u y,Ai H u=some y->Ai ((Ar H+1,c_ Ay [.v (.map none)])::(Ar H,Row.map false [] none)::H) u=some y:=λu y b=>by
  have a1:=A6 (x:=.map false [] none) (wf.lt b) b;exact A6 (w1.lt a1) a1
 have f:Ai ((Ar H+1,c_ Ay [.v (.map none)])::(Ar H,Row.map false [] none)::H) (Ar H)=some (.map false [] none):=A6 (H:=(Ar H,Row.map false [] none)::H) (by rw[c];omega) h1;refine C0O (n:=n) (H0:=H) (m:=Ar H) (rb:=Ar H+1) i e g (λout a hc h=>?_) (L+20) [] _ _ _ (by have:=e.len;simp;omega) ⟨by rw[Ag (by omega)];exact f,AC h2,Bi p,λu y b=>by rw[Ag (by have:=wf.lt b;omega)];exact k u y b,by omega,by omega,wf⟩ .nil;have:=hc.wf.lt hc.mm;exact j out (Ar H) a h hc.mm (LH _) hc.wf hc.keep (by omega)
end
end
section
variable{v w:AV}{H H0:Hp}{A:eo}{m:Nat}
variable{L n:Nat}
def uN(c2 c6:AV)(p:Option (Option Code)):Row:=.loop 13 [(2,c2),(4,Av),(5,AV.dk),(6,c6),(7,AV.dk),(8,AV.dk),(9,AV.dk),(10,AV.dk),(11,AV.dk)] (AH).2.1 (AH).2.2.1 (AH).2.2.2 p
structure CollC(H0:Hp)(r0 s:Nat)(q0:Bool)(e0:Nat)(c6:AV)(l:eo)(v:AV)(H:Hp):Prop where
 at_:Ai H r0=some (.cells q0 e0 [v])
 sl:AU H Ad 68 v l.length (l.flatMap Cd.cs)
 lp:Ai H s=some (uN (.ptr r0 0 0) c6 (some none))
 new:∀u,A4 v u->u≠r0/\u≠s/\Ar H0<=u
 wf:Wf H
 keep:∀u y,Ai H0 u=some y->Ai H u=some y
 ne:r0≠s
 r0n:Ar H0<=r0
 sn:Ar H0<=s
 w0:Wf H0
def AU.co{e sz m:Nat}{cs:Is}(h:AU H e sz v m cs):B0 v=[v]/\AV.one v=true:=by
 rcases h with⟨rfl,_⟩|⟨_,_,rfl,_⟩<;>exact⟨rfl,rfl⟩
variable{K:KV}{x:Af}
def A5p{r0 s e0:Nat}{q0:Bool}{c6 v:AV}{l:eo}{b:Cd}(h:CollC H0 r0 s q0 e0 c6 l v H)(hn:l.length<1000)(hx:∀f g,CollC H0 r0 s q0 e0 c6 (l++[b]) f g->(∀u y,u≠r0->u≠s->¬A4 v u->Ai H u=some y->Ai g u=some y)->(∀u,A4 f u->Ar H<=u)->K (Bo true) g=x):Cw (E (L+20)) (r! L (n+1)) (.yl s) [.agg b.cs] H K=x:=by
 show NV (r! L (n+1)) s [.agg b.cs] H K=x;rw[Pq h.lp (by kernel_rfl)];have J:(r! L (n+1)).run= λcf=>Pt (E (L+20)) (r! L n) cf:=rfl;rw[J,HC,Bv (cs:=C7) rfl,BQ (cs:=C7) (vs:=b.cs) (Ax (by simp)) Eb rfl Ma];obtain⟨d,e1,V,w1,k1⟩:=HF (e:=Ad) (zs:=C7) (vs:=b.cs) h.wf Eb;rw[<-e1];have n1:Ar d=Ar H+1:=by rw[e1,B1];rfl
 have ae:=h.wf.lt h.at_;have slt:=h.wf.lt h.lp;have j:Ai d s=some (uN (.ptr r0 0 0) c6 (some none)):=(k1 _ _ h.lp).1;have C:Ai d r0=some (.cells q0 e0 [v]):=(k1 _ _ h.at_).1;have ad:∀u,A4 v u->u<Ar H:=λu c=>by
  rcases h.sl with⟨rfl,_⟩|⟨r,q,rfl,h2,_⟩
  ·exact absurd c Ie
  ·obtain⟨_,_,_,X⟩:=c;injection X with _ X
   subst X;exact h.wf.lt h2
 have N:AU d Ad 68 v l.length (l.flatMap Cd.cs):=by
  rcases h.sl with h1|⟨r,q,rfl,h2,t⟩
  ·exact .inl h1
  ·exact .inr ⟨r,q,rfl,(k1 _ _ h2).1,t⟩
 rw[P0 j];have ab:=Bi (r:=s) (y:=uN (.ptr r0 0 0) c6 none) w1;have D:Ai (upd d s (uN (.ptr r0 0 0) c6 none)) r0=some (.cells q0 e0 [v]):=by rw[Ag h.ne];exact C
 have Y:Ai (upd d s (uN (.ptr r0 0 0) c6 none)) s=some (uN (.ptr r0 0 0) c6 none):=Fg j;have aa:AU (upd d s (uN (.ptr r0 0 0) c6 none)) Ad 68 v l.length (l.flatMap Cd.cs):=N.lat w1 (Lat.upd d s _ (P:=λu=>u=s) rfl) (λu c=>(h.new u c).2.1);have R:Ai (upd d s (uN (.ptr r0 0 0) c6 none)) (Ar H)=some (c_ Ad b.cs):=by rw[Ag (by omega)];exact V
 show AE Ak (.ptr r0 0 0) (upd d s (uN (.ptr r0 0 0) c6 none)) _=_;rw[AL (p:=0) rfl D (by simp)];show AE Ae (.ptr (Ar H) 0 0) (upd d s (uN (.ptr r0 0 0) c6 none)) _=_;rw[Br rfl Eb.symm R];show FV Ad 68 Ae 1 [(0,68,.agg b.cs)] (upd d s (uN (.ptr r0 0 0) c6 none)) (λac O=>Dy Ad 68 Ae Ak v ac O _)=_;obtain⟨f,g,h1,h2,t,h4,Q,h6⟩:=vU (ie:=Ae) (i2:=Ak) (ys:=b.cs) aa ab Eb Ma (by decide) rfl (λ_=>rfl) (by show(_+1)*800<=_;omega) (by omega);rw[C10 Eb Ma,h1];have n0:¬A4 v r0:=λc=>(h.new r0 c).1 rfl;have ns:¬A4 v s:=λc=>(h.new s c).2.1 rfl;have F:=Q r0 _ D n0;have Z:=Q s _ Y ns;rw[D5 (q:=q0) (e:=e0) (cs:=[v]) F (by simp) rfl h2.co.1 h2.co.2];have ah:Ar H0<=Ar H:=by have:=h.r0n;omega
 have ag:Ar (upd d s (uN (.ptr r0 0 0) c6 none))=Ar H+1:=by rw[B1,n1]
 have i:∀u,A4 f u->Ar H<=u:=λu c=>by have:=h6 u c;omega
 have B:∀u,A4 f u->u≠r0/\u≠s/\Ar H0<=u:=λu c=>by
  have a1:=i u c;exact⟨by omega,by omega,by omega⟩
 have M:Ai (upd g r0 (.cells q0 e0 [f])) s=some (uN (.ptr r0 0 0) c6 none):=by rw[Ag h.ne.symm];exact Z
 show EB (upd g r0 (.cells q0 e0 [f])) s false (some none) _=_;have k:=M;unfold uN at k;rw[Pz k];have kp:∀u y,u≠r0->u≠s->¬A4 v u->Ai H u=some y->Ai (upd (upd g r0 (.cells q0 e0 [f])) s (uN (.ptr r0 0 0) c6 (some none))) u=some y:=λu y h1 h2 t c=>by
  rw[Ag h2,Ag h1];exact Q u y (by rw[Ag h2];exact(k1 _ _ c).1) t
 have e2:(l++[b]).flatMap Cd.cs=l.flatMap Cd.cs++b.cs:=by simp
 refine hx f _ ⟨?_,?_,?_,B,Bi (Bi t),λu y c=>?_,h.ne,h.r0n,h.sn,h.w0⟩ kp i
 ·rw[Ag h.ne];exact AC F
 ·rw[Ez,e2];have a:=h2.lat t (Lat.upd g r0 (.cells q0 e0 [f]) (P:=λu=>u=r0) rfl) (λu c=>(B u c).1);exact a.lat (Bi t) (Lat.upd _ s _ (P:=λu=>u=s) rfl) (λu c=>(B u c).2.1)
 ·exact Fg M
 ·have af:=h.w0.lt c;have b1:=h.r0n;have b2:=h.sn;exact kp u y (by omega) (by omega) (λhv=>by have:=(h.new u hv).2.2;omega) (h.keep u y c)
theorem CollC.it{H0 H:Hp}{r0 s e0 it:Nat}{q0:Bool}{c6 v:AV}{l:eo}(h:CollC H0 r0 s q0 e0 c6 l v H)(y:Row)(h1:it≠r0/\it≠s/\Ar H0<=it)(h2:¬A4 v it):CollC H0 r0 s q0 e0 c6 l v (upd H it y):=
 ⟨by rw[Ag h1.1.symm];exact h.at_,h.sl.lat h.wf (Lat.upd H it y (P:=λu=>u=it) rfl) (λu a e=>h2 (e▸a)),by rw[Ag h1.2.1.symm];exact h.lp,h.new,Bi h.wf,λu z a=>by rw[Ag (by have:=h.w0.lt a;omega)];exact h.keep u z a,h.ne,h.r0n,h.sn,h.w0⟩
def CollC.more{H0 H H':Hp}{r0 s e0:Nat}{q0:Bool}{c6 v:AV}{l:eo}(h:CollC H0 r0 s q0 e0 c6 l v H)(w:Wf H')(k:∀u y,Ai H u=some y->Ai H' u=some y):CollC H0 r0 s q0 e0 c6 l v H':=
 ⟨k _ _ h.at_,by
  rcases h.sl with h1|⟨r,q,rfl,h2,a⟩
  ·exact .inl h1
  ·exact .inr ⟨r,q,rfl,k _ _ h2,a⟩,k _ _ h.lp,h.new,w,λu y b=>k u y (h.keep u y b),h.ne,h.r0n,h.sn,h.w0⟩
structure NewC(H0:Hp)(l:eo)(v:AV)(H:Hp):Prop where
 sl:AU H Ad 68 v l.length (l.flatMap Cd.cs)
 nil:l=[]->v=Av
 new:∀u,A4 v u->Ar H0<=u
 wf:Wf H
 keep:∀u y,Ai H0 u=some y->Ai H u=some y
 nx:Ar H0<=Ar H
def dQ{Q:eo->AV->Prop}{Hs H0:Hp}{g:Nat}{cap:Is}(ws:Wf Hs)(w0:Wf H0)(hn:Ar H0=Ar Hs)(i:∀u y,Ai H0 u=some y->Ai Hs u=some y)(h:∀(H:Hp)(F:KV),CollC H0 (Ar Hs) (Ar Hs+1) true Bx (.fn (.func g) [] cap) [] Av H->Ar H=Ar Hs+2->(∀u y,Ai Hs u=some y->Ai H u=some y)->
  (∀l v b,Q l v->(l=[]->v=Av)->CollC H0 (Ar Hs) (Ar Hs+1) true Bx (.fn (.func g) [] cap) l v b->F (.tup []) b=x)->(r! L (n+1)).call g (.yl (Ar Hs+1)::cap) H F=x)(k:∀l v b,Q l v->NewC H0 l v b->K v b=x):
 (r! L (n+3)).call BD [.fn (.func g) [] cap] Hs K=x:=by
 rw[Nr];unfold Gf;rw[HY];unfold Da;simp only[BH];rw[nI (by rfl),Wa];have w1:=AF (x:=.cells true Bx [Av]) ws;have c:=Ax (H:=Hs) (x:=.cells true Bx [Av]) (by simp);have j:Ar ((Ar Hs,c_ Bx [Av])::Hs)=Ar Hs+1:=rfl;have q:Wf ((Ar Hs+1,uN (.ptr (Ar Hs) 0 0) (.fn (.func g) [] cap) (some none))::(Ar Hs,c_ Bx [Av])::Hs):=AF (x:=uN (.ptr (Ar Hs) 0 0) (.fn (.func g) [] cap) (some none)) w1;have e:Ai ((Ar Hs+1,uN (.ptr (Ar Hs) 0 0) (.fn (.func g) [] cap) (some none))::(Ar Hs,c_ Bx [Av])::Hs) (Ar Hs+1)=some (uN (.ptr (Ar Hs) 0 0) (.fn (.func g) [] cap) (some none)):=Ax (H:=((Ar Hs,c_ Bx [Av])::Hs)) (x:=uN (.ptr (Ar Hs) 0 0) (.fn (.func g) [] cap) (some none)) (by simp[uN]);have ol:∀u y,Ai Hs u=some y->Ai ((Ar Hs+1,uN (.ptr (Ar Hs) 0 0) (.fn (.func g) [] cap) (some none))::(Ar Hs,c_ Bx [Av])::Hs) u=some y:=λu y a=>by
  have a1:=A6 (x:=.cells true Bx [Av]) (ws.lt a) a;exact A6 (w1.lt a1) a1
 have d:Ai ((Ar Hs+1,uN (.ptr (Ar Hs) 0 0) (.fn (.func g) [] cap) (some none))::(Ar Hs,c_ Bx [Av])::Hs) (Ar Hs)=some (c_ Bx [Av]):=A6 (w1.lt c) c;refine h _ _ ⟨d,.inl ⟨rfl,rfl,rfl⟩,e,λu a=>absurd a Ie,q,λu y a=>ol u y (i u y a),by omega,by omega,by omega,w0⟩ rfl ol ?_;intro l v b hq f hc;show IQ b (Ar Hs+1) _=_;rw[Bn hc.lp];show LJ b (Ar Hs+1) .gone _=_;rw[Dg];have hr:Ai (upd b (Ar Hs+1) .gone) (Ar Hs)=some (c_ Bx [v]):=by rw[Ag (by omega)];exact hc.at_
 show AE Ak (.ptr (Ar Hs) 0 0) (upd b (Ar Hs+1) .gone) _=_;rw[AL (p:=0) rfl hr (by simp)];refine k l _ _ hq ⟨?_,f,λu a=>(hc.new u a).2.2,Bi hc.wf,λu y a=>?_,?_⟩
 ·exact hc.sl.lat hc.wf (Lat.upd b _ _ (P:=λu=>u=Ar Hs+1) rfl) (λu a=>(hc.new u a).2.1)
 ·have:=w0.lt a;rw[Ag (by omega)];exact hc.keep u y a
 ·rw[B1];have:=hc.wf.lt hc.at_;omega
def yK{r0 s it:Nat}{c6 w:AV}{J:Ru}(V:VQ 6 w w=true)(D:A.length<1000)(i:∀l v H,l.Perm A->(l=[]->v=Av)->CollC H0 r0 s true Bx c6 l v H->J H=some (w,[]))(d:it≠r0/\it≠s/\Ar H0<=it):
 ∀(f:Nat)(es:List (AP×Cd))(l:eo)(v:AV)(H:Hp)(o:Option (Value×AV)),es.length<f->(l++es.map Prod.snd).Perm A->(l=[]->v=Av)->CollC H0 r0 s true Bx c6 l v H->¬A4 v it->Ai H it=some (.iter (Df DU es) o)->
 Cb (L+20) (r! L (n+1)) K J f (.yl s) (.it it) H=some (w,[]):=by
 intro f
 induction f with
 |zero=>intro es l v H o h;omega
 |succ f ih=>
  intro es l v H o Q t P hc hv C;rw[Fb];unfold Cc;refine Y0 (f:=DU) V C (λe=>?_) (λa e b he=>?_)
  ·subst e;rw[Gz,Ba];exact i l v H (by simpa using t) P hc
  ·subst he;have c:=hc.it (.iter (Df DU (a++b)) (some (.string ⟨⟨e.1⟩⟩,DU e.2))) d hv;have g:=LG (es:=Df DU (a++b)) (o:=some (.string ⟨⟨e.1⟩⟩,DU e.2)) C;have r:(l++(a++e::b).map Prod.snd).length=A.length:=t.length_eq;simp at r;rw[Gz,Co,NK g,UJ];generalize upd H it (.iter (Df DU (a++b)) (some (.string ⟨⟨e.1⟩⟩,DU e.2)))=Y at g c;obtain⟨Z,O,p,M,F⟩:=HF (e:=Ad) (zs:=C7) (vs:=e.2.cs) c.wf Eb;rw[Bv (cs:=C7) rfl,BQ (cs:=C7) (vs:=e.2.cs) (Ax (by simp)) Eb rfl Ma,<-O,Br rfl Eb.symm p];have q:=c.more M λu y B=>(F u y B).1;have j:=(F _ _ g).1;refine A5p q (by omega) λX N k R hr=>?_;rw[DR];show A1 (.v (.bool false)) _ _=_;rw[Ba];refine ih (a++b) (l++[e.2]) X N _ (by simp at Q⊢;omega) ?_ (by simp) k (λB=>?_) (R it _ d.1 d.2.1 hv j)
   ·refine List.Perm.trans ?_ t;simp only[XS,XC,eK];refine List.Perm.append_left l ?_;show(e.2::(a.map Prod.snd++b.map Prod.snd)).Perm _;exact List.perm_middle.symm
   ·have g1:=hr it B;have g2:=M.lt j;omega
def B18(A:eo):(gE A).map Prod.snd=A:=by
 unfold gE;rw[List.map_map];exact List.map_id A
def B2c(es:List (AP×Cd)):(Df DU es).all (λp=>eW 3 p.2)=true:=by
 rw[G9];intro p g;obtain⟨e,_,rfl⟩:=PW.1 g;show e.2.cs.all (eW 2)=true;have d:∀l:Is,l.all fixB=true->l.all (eW 2)=true:=λl h=>by
  rw[G9]at h⊢;intro a f;have:=h a f;cases a<;>first|rfl|(simp[fixB]at this)
 have h1:∀c:Cd,c.cs.all (eW 2)=true:=λc=>by
  obtain⟨a,b,e,h1,h2⟩:=nL c;rw[<-A4C c,e,List.all_append,d a h1,oG,d b h2];cases c.ps<;>rfl
 exact h1 _
def A8I{Hs:Hp}(V:VQ 6 w w=true)(j:A.length<1000)(hL:40000<L)(ws:Wf Hs)(hm:Ai Hs m=some (.map false (Df DU (gE A)) none))(X:∀l v g,l.Perm A->NewC (upd Hs m .gone) l v g->K v g=some (w,[])):
 (r! L (n+4)).call Bq [.mp m] Hs (λv H=>(r! L (n+4)).call BD [v] H K)=some (w,[]):=by
 rw[Dq];unfold BB HX;rw[B1T];have w1:=AF (x:=.cells true Ay [.mp m]) ws;have mlt:=ws.lt hm;have hb:Ai ((Ar Hs,c_ Ay [.mp m])::Hs) (Ar Hs)=some (c_ Ay [.mp m]):=Ax (by simp);have t:∀u y,Ai Hs u=some y->Ai ((Ar Hs,c_ Ay [.mp m])::Hs) u=some y:=λu y c=>A6 (ws.lt c) c;have f:=t _ _ hm;have M:Ar ((Ar Hs,c_ Ay [.mp m])::Hs)=Ar Hs+1:=rfl;generalize ((Ar Hs,c_ Ay [.mp m])::Hs:Hp)=B at w1 hb t f M;refine dQ (n:=n+1) (Q:=λl _=>l.Perm A) (H0:=upd B m .gone) w1 (Bi w1) (B1 _ _ _) (λu y c=>?_) (λH F hc P i O=>?_) (λl v g hq h=>?_)
 ·have d:u≠m:=λe=>by subst e;rw[BF f]at c;cases c
  rwa[Ag d]at c
 ·rw[Db];unfold B2;simp only[BH];rw[AL (p:=0) rfl (i _ _ hb) (by simp)];show Xs (.mp m) H _=_;have q:=i _ _ f;rw[A66 q (B2c _)];have Z:=hc.wf;have J:Wf (upd H m .gone):=Bi Z;have s:Ar (upd H m .gone)=Ar H:=B1 _ _ _;have r:Ai ((Ar H,Row.iter (Df DU (gE A)) none)::upd H m .gone) (Ar H)=some (.iter (Df DU (gE A)) none):=by
   have:=Ax (H:=upd H m .gone) (x:=.iter (Df DU (gE A)) none) (by simp)
   rwa[s]at this
  have up:∀u y,u≠m->Ai H u=some y->Ai ((Ar H,Row.iter (Df DU (gE A)) none)::upd H m .gone) u=some y:=λu y c Y=>by
   have a:Ai (upd H m .gone) u=some y:=by rw[Ag c];exact Y
   have b:=A6 (x:=.iter (Df DU (gE A)) none) (J.lt a) a
   rwa[s]at b
  have D:=AF (x:=.iter (Df DU (gE A)) none) J;rw[s]at D;have C:=w1.lt f;refine yK (n:=n) (A:=A) (H0:=upd B m .gone) V j (λl v g R N k=>O l v g R N k) ⟨by omega,by omega,by rw[B1];omega⟩ (L+20) (gE A) [] Av _ none (by simp[gE];omega) (by rw[B18];simp) (λ_=>rfl)
   ⟨up _ _ (by omega) hc.at_,.inl ⟨rfl,rfl,rfl⟩,up _ _ (by omega) hc.lp,λu c=>absurd c Ie,D,λu y c=>?_,hc.ne,hc.r0n,hc.sn,hc.w0⟩ Ie r
  have d:u≠m:=λe=>by subst e;rw[BF f]at c;cases c
  exact up u y d (hc.keep u y c)
 ·refine X l v g hq ⟨h.sl,h.nil,λu c=>?_,h.wf,λu y c=>?_,?_⟩
  ·have:=h.new u c;rw[B1]at this⊢;omega
  ·have d:u≠m:=λe=>by subst e;rw[BF hm]at c;cases c
   rw[Ag d]at c;exact h.keep u y (by rw[Ag d];exact t u y c)
  ·have:=h.nx;rw[B1]at this⊢;omega
end
section
variable{F:K2}{x0:Af}
variable{L n:Nat}
def A4y{ty:Nat}{v:AV}{H:Hp}{K:KV}(h:B0 v=[v]/\AV.one v=true):GZ ty v H K=K (.ptr (Ar H) 0 0) ((Ar H,c_ ty [v])::H):=by
 unfold GZ;rw[CM,h.1,FN,Ca];have:[v].all AV.one=true:=by simp[h.2]
 rw[this];rfl
def oS(H:Hp)(x:AV)(A:eo):Prop:=x=.iptr [.imap (Df DU (gE A))]\/∃r m,x=.ptr r 0 0/\Ai H r=some (c_ Dz [.mp m])/\Ai H m=some (.map false (Df DU (gE A)) none)
theorem oS.one{H:Hp}{x:AV}{A:eo}(h:oS H x A):B0 x=[x]/\AV.one x=true:=by
 rcases h with rfl|⟨_,_,rfl,_⟩<;>exact⟨rfl,rfl⟩
def oS.keep{H H':Hp}{x:AV}{A:eo}(h:oS H x A)(k:∀u y,Ai H u=some y->Ai H' u=some y):oS H' x A:=by
 rcases h with rfl|⟨r,m,rfl,h1,h2⟩
 ·exact .inl rfl
 ·exact .inr ⟨r,m,rfl,k _ _ h1,k _ _ h2⟩
def A2Z{H:Hp}{r m:Nat}(h:Ai H r=some (c_ Dz [.mp m])):(L0 (.ptr r 0 0) λv=>CL 0 v λv=>AE Aj v H F)=F (.mp m):=by
 rw[I3,fA,Kk,AL (p:=0) rfl h (by simp)];rfl
def oS.fld{H:Hp}{x:AV}{A:eo}(h:oS H x A):∃mm,(∀F:K2,(L0 x λv=>CL 0 v λv=>AE Aj v H F)=F mm)/\∀K,xY mm H K=K (Df DU (gE A)):=by
 rcases h with rfl|⟨r,m,rfl,h1,h2⟩
 ·exact⟨_,λF=>A0u,λK=>id rfl⟩
 ·exact⟨.mp m,λF=>A2Z h1,λK=>Z8 h2⟩
def oS.nn{H:Hp}{x:AV}{A:eo}(h:oS H x A):Rb BA CC .eql x (.v (.pointer none)) F=F (Bo false):=by
 rcases h with rfl|⟨r,m,rfl,_⟩<;>kernel_rfl
def oS.fx{H:Hp}{x:AV}{A:eo}(h:oS H x A){D:Nat}:∃q,Fx true (D+5) x (.iptr [.imap (Df DU (gE A))]) H q:=by
 rcases h with rfl|⟨r,m,rfl,h1,h2⟩
 ·exact⟨false,Rx⟩
 ·exact⟨true,Xk (D:=D+4) h1 (Ao (q:=true) (q':=false) (A47 (D:=D) h2) AI)⟩
def jY(H:Hp)(v:AV)(l:List AP):Prop:=SA l v\/Km H v l
section
variable{H H' H0:Hp}{v x iv:AV}{l ids:List AP}{A:eo}{K:KV}{w:AV}
theorem jY.one(h:jY H v l):B0 v=[v]/\AV.one v=true:=by
 rcases h with h|h
 ·rcases h with rfl|⟨_,rfl⟩<;>exact⟨rfl,rfl⟩
 ·rcases h with⟨rfl,_⟩|⟨_,_,_,rfl,_⟩<;>exact⟨rfl,rfl⟩
def jY.keep(h:jY H v l)(k:∀u y,Ai H u=some y->Ai H' u=some y):jY H' v l:=h.imp id λh=>h.kp λu y _ a=>k u y a
theorem jY.len(h:jY H v l):Bp Ab v F=F (I l.length):=by
 rcases h with h|h
 ·exact h.len
 ·exact h.len
def jY.get(h:jY H v l){i:Nat}(hi:i<l.length):(D1 Ab v (I i) λp=>AE Ah p H F)=F (S l[i]):=by
 rcases h with h|h
 ·rw[h.ia hi,KD]
 ·rcases h with⟨rfl,rfl⟩|⟨r,q,a,rfl,h2⟩
  ·simp at hi
  ·rw[RA hi,AL (p:=i) rfl h2 (by rw[Ez,AZ];omega),UT,l0m (by rw[AZ];exact hi)];unfold A9;rw[xU,KL hi];rfl
def Vm(A:eo)(ids:List AP):eo:=ids.filterMap λy=>MG (gE A) y
def A7d:(Vm A ids).length<=ids.length:=List.length_filterMap_le _ _
def B5B{r0 s m:Nat}{c6:AV}{k3:Ru}(t:GOk A)(g:∀y∈ids,y∈A.map Cd.id)(u:ids.length<900)(k:Ai H0 m=some (c_ AX [x]))(C:oS H0 x A)(hv:jY H0 iv ids)(e:∀v H,CollC H0 r0 s true Bx c6 (Vm A ids) v H->(Vm A ids=[]->v=Av)->k3 H=x0):
 ∀(f i:Nat)(v:AV)(H:Hp),i<=ids.length->ids.length-i<f->CollC H0 r0 s true Bx c6 (Vm A (ids.take i)) v H->(Vm A (ids.take i)=[]->v=Av)->
 Im (L+20) (r! L (n+2)) K k3 f (.yl s) (.ptr m 0 0) iv (I ids.length) (I i) H=x0:=by
 intro f
 induction f with
 |zero=>intro i v H _ h;omega
 |succ f ih=>
  intro i v H hi M hc r;rw[PA];unfold Io DI HV A2;by_cases h:i<ids.length
  ·obtain⟨c,a⟩:∃c,MG (gE A) ids[i]=some c:=T! (g _ (NT h));obtain⟨d,_⟩:=oM a;have B:=TP (t.ok c d);have D:∀{F:K2},AE BA (.ptr m 0 0) H F=F x:=λ{F}=>AL (p:=0) rfl (hc.keep _ _ k) (by simp);obtain⟨mm,f1,f2⟩:=(C.keep hc.keep).fld;rw[FG (by omega),Co,(hv.keep hc.keep).get h,D,f1,R!,rJ (f:=DU) (b:=gE A) f2,a];simp only[];rw[CT.z (A0J (n:=n) (t.ok c d) (by omega)) (oR H)];have q:Vm A (ids.take (i+1))=Vm A (ids.take i)++[c]:=by
    unfold Vm;rw[oJ h,List.filterMap_append,List.filterMap_cons,a];rfl
   have O:(Vm A (ids.take i)).length<=i:=by
    have:=A7d (A:=A) (ids:=ids.take i);rw[zF]at this;omega
   refine A5p hc (by omega) λJ H' j N hr=>?_;rw[DR];show A1 (.v (.bool false)) _ _=_;rw[Ba,Dd (by omega)];exact ih (i+1) J H' (by omega) (by omega) (by rw[q];exact j) (by rw[q];simp)
  ·have:i=ids.length:=by omega
   subst this;rw[wC]at hc r;rw[FB (by omega),Ba];exact e v H hc r
def A98(D:GOk A)(c:∀y∈ids,y∈A.map Cd.id)(e:ids.length<900)(M:40000<L)(wf:Wf H)(q:oS H x A)(hv:jY H iv ids)(C:∀v H',NewC H (Vm A ids) v H'->K v H'=x0):
 (r! L (n+6)).call Ik [x,iv] H (λv H=>(r! L (n+6)).call BD [v] H K)=x0:=by
 rw[Tx];unfold Kd L8;rw[A4y q.one,A4y hv.one];have w1:=AF (x:=.cells true AX [x]) wf;have m:Ar ((Ar H,c_ AX [x])::H)=Ar H+1:=rfl;rw[m];have j:Wf ((Ar H+1,c_ A7 [iv])::(Ar H,c_ AX [x])::H):=AF (x:=.cells true A7 [iv]) w1;have f:∀u y,Ai H u=some y->Ai ((Ar H+1,c_ A7 [iv])::(Ar H,c_ AX [x])::H) u=some y:=λu y a=>by
  have a1:=A6 (x:=.cells true AX [x]) (wf.lt a) a;exact A6 (w1.lt a1) a1
 have b1:Ai ((Ar H+1,c_ A7 [iv])::(Ar H,c_ AX [x])::H) (Ar H)=some (c_ AX [x]):=A6 (H:=(Ar H,c_ AX [x])::H) (by rw[m];omega) (Ax (by simp));have b2:Ai ((Ar H+1,c_ A7 [iv])::(Ar H,c_ AX [x])::H) (Ar H+1)=some (c_ A7 [iv]):=Ax (H:=(Ar H,c_ AX [x])::H) (by simp);have t:Ar ((Ar H+1,c_ A7 [iv])::(Ar H,c_ AX [x])::H)=Ar H+2:=rfl;generalize ((Ar H+1,c_ A7 [iv])::(Ar H,c_ AX [x])::H:Hp)=g at j f b1 b2 t;refine dQ (n:=n+3) (Q:=λl _=>l=Vm A ids) (H0:=g) j j rfl (λu y a=>a) (λk F hc J d B=>?_) (λl v H' hq b=>?_)
 ·rw[Qt];unfold IA A2;simp only[BH];have li:∀{F:K2},AE Ab (.ptr (Ar H+1) 0 0) k F=F iv:=λ{F}=>AL (p:=0) rfl (d _ _ b2) (by simp);have r:(AV.v (.int .i64 0))=I ((0:Nat):Int):=rfl;rw[li,(hv.keep f).keep d|>.len,r];exact B5B (n:=n+1) (r0:=Ar g) (s:=Ar g+1) (H0:=g) D c e b1 (q.keep f) (hv.keep f) (λv H' i h=>B _ v H' rfl h i) (L+20) 0 Av k (by omega) (by omega) (by simpa [Vm] using hc) (λ_=>rfl)
 ·subst hq;refine C v H' ⟨b.sl,b.nil,λu a=>?_,b.wf,λu y a=>b.keep u y (f u y a),?_⟩
  ·have:=b.new u a;omega
  ·have:=b.nx;omega
end
end
section
variable{v:AV}{F:K2}{p q:AV->Bool}
variable{L n:Nat}
def C0L(c:Cd)(hi:∀z,p (I z)=true)(g:∀s,p (S s)=true)(hn:p Av=true)(a:p c.fT=true)(d:p c.fI=true)(e:p c.fN=true)(f:p (DV c.ps)=true):c.cs.all p=true:=by
 match c,a,d,e,f with
 |.re b u,a,_,_,_=>
  have a:p (FI b.ts)=true:=a;show(E4 1 b.m (uu u) (qn b.c) (qd b.c) (FI b.ts) (qn b.r) (qd b.r) Av 0 Av Av u0 r0 0).all p=true;simp only[oG,l3a,hi,g,hn,a,l1g]
 |.co b q ps none,a,d,e,f=>
  have a:p (FI b.ts)=true:=a;have d:p (BS q.ks)=true:=d;have e:p (Cx q.xs)=true:=e;have f:p (DV ps)=true:=f;show(E4 2 b.m (uu q.out) (qn b.c) (qd b.c) (FI b.ts) (qn b.r) (qd b.r) (DV ps) q.id (BS q.ks) (Cx q.xs) (uu q.out) r0 0).all p=true;simp only[oG,l3a,hi,g,hn,a,d,e,f,l1g]
 |.co b q ps (some (k,vd)),a,d,e,f=>
  have a:p (FI b.ts)=true:=a;have d:p (BS q.ks)=true:=d;have e:p (Cx q.xs)=true:=e;have f:p (DV ps)=true:=f;show(E4 3 b.m (uu q.out) (qn b.c) (qd b.c) (FI b.ts) (qn b.r) (qd b.r) (DV ps) q.id (BS q.ks) (Cx q.xs) (uu q.out) (rr k) vd).all p=true;simp only[oG,l3a,hi,g,hn,a,d,e,f,l1g]
def A9o(h:∀t:Int×Int,(OZ t).all q=true)(ts:kG):(ts.flatMap OZ).all q=true:=by
 rw[G9];intro x c;obtain⟨a,_,b⟩:=l39.1 c;exact G9.1 (h a) x b
def B12(h:∀k:Nat,(HO k).all q=true)(ks:Hb):(ks.flatMap HO).all q=true:=by
 rw[G9];intro x c;obtain⟨a,_,b⟩:=l39.1 c;exact G9.1 (h a) x b
def B0F(h:∀y:Nd,(N? y).all q=true)(xs:List Nd):(xs.flatMap N?).all q=true:=by
 rw[G9];intro x c;obtain⟨a,_,b⟩:=l39.1 c;exact G9.1 (h a) x b
def Yl(h:∀s,q (S s)=true)(l:List AP):(A9 l).all q=true:=by
 rw[G9];intro x b;obtain⟨a,_,rfl⟩:=PW.1 b;exact h a
def fl1(a:AV):Bool:=match a with
 |.v _=>true
 |.list _ cs=>cs.all SZ
 |_=>false
def A9n(hn:p Av=true)(a:∀n l,l.all SZ=true->l.all (pl 4)=true->p (.list n l)=true)(ts:kG):p (FI ts)=true:=by
 cases ts with
 |nil=>exact hn
 |cons t ts=>exact a _ _ (A9o (λ_=>rfl) _) (A9o (λ_=>rfl) _)
def B6v(hn:p Av=true)(a:∀n l,l.all SZ=true->l.all (pl 4)=true->p (.list n l)=true)(ks:Hb):p (BS ks)=true:=by
 cases ks with
 |nil=>exact a _ _ rfl rfl
 |cons t ts=>exact a _ _ (B12 (λ_=>rfl) _) (B12 (λ_=>rfl) _)
def B6j(hn:p Av=true)(a:∀n l,l.all SZ=true->l.all (pl 4)=true->p (.list n l)=true)(xs:List Nd):p (Cx xs)=true:=by
 cases xs with
 |nil=>exact a _ _ rfl rfl
 |cons t ts=>exact a _ _ (B0F (λ_=>rfl) _) (B0F (λ_=>rfl) _)
def B6e(hn:p Av=true)(a:∀n l,l.all SZ=true->l.all (pl 4)=true->p (.list n l)=true)(ps:List AP):p (DV ps)=true:=by
 cases ps with
 |nil=>exact hn
 |cons t ts=>exact a _ _ (Yl (λ_=>rfl) _) (Yl (λ_=>rfl) _)
def B5F(c:Cd)(hi:∀z,p (I z)=true)(d:∀s,p (S s)=true)(hn:p Av=true)(a:∀n l,l.all SZ=true->l.all (pl 4)=true->p (.list n l)=true):c.cs.all p=true:=by
 refine C0L c hi d hn ?_ ?_ ?_ (B6e hn a _)
 ·match c with
  |.re b u=>exact A9n hn a b.ts
  |.co b q ps none=>exact A9n hn a b.ts
  |.co b q ps (some (k,vd))=>exact A9n hn a b.ts
 ·match c with
  |.re b u=>exact hn
  |.co b q ps none=>exact B6v hn a q.ks
  |.co b q ps (some (k,vd))=>exact B6v hn a q.ks
 ·match c with
  |.re b u=>exact hn
  |.co b q ps none=>exact B6j hn a q.xs
  |.co b q ps (some (k,vd))=>exact B6j hn a q.xs
def C0V(c:Cd):c.cs.all fl1=true:=B5F c (λ_=>rfl) (λ_=>rfl) rfl λ_ _ h _=>h
def C0U(c:Cd):c.cs.all (pl 5)=true:=B5F c (λ_=>rfl) (λ_=>rfl) rfl λ_ _ _ h=>h
def B4R(l:eo):pl 6 (eH l)=true:=by
 cases l with
 |nil=>rfl
 |cons c l=>
  show((c::l).flatMap Cd.cs).all (pl 5)=true;rw[G9];intro x d;obtain⟨a,_,b⟩:=l39.1 d;exact G9.1 (C0U a) x b
section
variable{H:Hp}{D:Nat}
def C2X{a:AV}(h:fl1 a=true):NH H D a F=F a:=by
 cases a with
 |v x=>cases D<;>rfl
 |list n cs=>
  have h:cs.all SZ=true:=h;have e:NH H D (.list n cs) F=ck (cs.all SZ) (F (.list n cs)):=by cases D<;>rfl
  rw[e,h];rfl
 |_=>simp[fl1]at h
def B0N:∀(l:Is),l.all fl1=true->∀F:Is->Af,SR (NH H D) l F=F l:=by
 intro l
 induction l with
 |nil=>intro _ F;rfl
 |cons a l ih=>
  intro h F;simp only[oG,KK]at h;show NH H D a (λb=>SR (NH H D) l λc=>F (b::c))=_;rw[C2X h.1,ih h.2]
def B0O{l:eo}(h:AU H Ad 68 v l.length (l.flatMap Cd.cs))(f:l=[]->v=Av):NH H (D+1) v F=F (eH l):=by
 cases l with
 |nil=>rw[f rfl];rfl
 |cons c l=>
  rcases h with⟨_,h1,_⟩|⟨r,q,rfl,h2,j⟩
  ·simp at h1
  ·have e:NH H (D+1) (.sl 68 r 0 (c::l).length) F=IQ H r λx=>Kq x λ_ cs=>EL (Nat.mul (c::l).length 68) (Do 0 cs) λd=>SR (NH H D) d λb=>F (.list (c::l).length b):=rfl;rw[e,Bn h2];show EL ((c::l).length*68) (Do 0 ((c::l).flatMap Cd.cs)) (λd=>SR (NH H D) d λb=>F (.list (c::l).length b))=_;rw[C9,rC,KZ _ _ _ (by omega),l25 (by omega),B0N _ (by
    rw[G9];intro x i;obtain⟨a,_,g⟩:=l39.1 i;exact G9.1 (C0V a) x g)]
   rfl
end
def uX{D:Nat}{H:Hp}{l:eo}(h:AU H Ad 68 v l.length (l.flatMap Cd.cs))(b:l=[]->v=Av):∃q,Fx true (D+1) v (eH l) H q:=by
 cases l with
 |nil=>exact⟨false,by rw[b rfl];exact CA⟩
 |cons c l=>
  rcases h with⟨_,h1,_⟩|⟨r,q,rfl,h2,d⟩
  ·simp at h1
  ·exact⟨true,VA (q':=false) h2 d (Zz _ (by
    rw[G9];intro x f;obtain⟨a,_,e⟩:=l39.1 f;exact G9.1 (B5F (p:=fixB) a (λ_=>rfl) (λ_=>rfl) rfl λ_ _ _ _=>rfl) x e))⟩
section
variable{A:eo}{H:Hp}{x:AV}{w:AV}{K:KV}
def B0y(a:GOk A){out:eo}(b:out.Perm (Hd A)):gW out=.tup [DV (Wn (Hd A)),I 0]:=by
 rw[A7i (TO a.ids) b];unfold gW;rw[Dr (A2g a.ids)]
def A4E(a:GOk A){out:eo}(b:out.Perm (Hd A)):GOk out:=by
 have d:∀c∈out,c∈A:=λc hc=>(KY.1 (b.mem_iff.1 hc)).1;refine⟨λc hc=>a.ok c (d c hc),λc hc=>a.nd c (d c hc),(b.map _).symm.nodup (TO a.ids),?_⟩;have h1:(Hd A).length<=A.length:=l30 _ _;have h2:=a.len;rw[b.length_eq];omega
def A9g(k:VQ 6 w w=true)(b:GOk A)(t:200000<L)(s:∀v H,NewC [] (J7 A) v H->K v H=some (w,[])):
 (r! L (n+82)).call Cu [.iptr [.imap (Df DU (gE A))]] [] K=some (w,[]):=by
 rw[Ux];unfold K4;have C:oS [] (.iptr [.imap (Df DU (gE A))]) A:=.inl rfl;rw[C.nn,Ba];refine sL (n:=n+77) k b (by omega) Fq λout m N h hm _ w1 _ n1=>?_;have B:=A4E b h;refine A8I (n:=n+77) k (by have:=B.len;omega) (by omega) w1 hm λl v i f g=>?_;have d:=A4E b (f.trans h);obtain⟨q,hq⟩:=uX (D:=11) g.sl g.nil;have e:∀{F:K2},Aq (r! L (n+81)) Ql [v] i F=F (.tup [DV (Wn (Hd A)),I 0]):=λ{F}=>by
  have:=AQ (H:=i) (K:=F) (B3h (L:=L) (n:=n+1) d t (λc hc=>by have:=TP (d.ok c hc);omega) (Xb l)) (Ao hq AI);rw[this,B0y b (f.trans h)]
 rw[e,Gz,UJ];refine A98 (n:=n+75) (A:=A) b (λy J=>?_) ?_ (by omega) g.wf (.inl rfl) (.inl (My _)) λM r a=>s M r ⟨a.sl,a.nil,λu j=>l1h _,a.wf,λu y j=>by simp[Ai]at j,l1h _⟩
 ·exact(Tk.1 ((Qq (gs:=Hd A)).1.ids y J)).ids
 ·have h1:=(Qq (gs:=Hd A)).1.len;have h2:(Hd A).length<=A.length:=l30 _ _;have O:=b.len;omega
def A5g(g:GOk A)(f:200000<L)(j:oS H x A):Lc (r! L (n+82)) Cu [x] H F=F (eH (J7 A)):=by
 have h:VQ 6 (eH (J7 A)) (eH (J7 A))=true:=Tq 6 _ (B4R _);rcases j with rfl|⟨r,m,rfl,h1,h2⟩
 ·show Aq (r! L (n+82)) Cu [.iptr [.imap (Df DU (gE A))]] H F=_;exact CT.z (λK i=>A9g h g f λv H b=>i v H (uX (D:=11) b.sl b.nil)) (Ao (q:=false) Rx AI)
 ·have e:Lc (r! L (n+82)) Cu [.ptr r 0 0] H F=IQ H r λx=>gH x λq _ cs=>match q,cs with
   |true,[.mp m]=>IQ H m λy=>qI y λa=>ck (a.all λp=>eW 3 p.2) (Au ((r! L (n+82)).call Cu [.iptr [.imap a]] [] λv c=>NH c depth v λd=>some (d,[])) F)
   |_,_=>none:=rfl
  rw[e,Bn h1];show(IQ H m λy=>qI y λa=>ck (a.all λp=>eW 3 p.2) (Au ((r! L (n+82)).call Cu [.iptr [.imap a]] [] λv c=>NH c depth v λd=>some (d,[])) F))=_;rw[Bn h2];show ck ((Df DU (gE A)).all λp=>eW 3 p.2) _=_;rw[B2c,A9g (w:=eH (J7 A)) h g f λv H b=>by rw[show depth=11+1 from rfl,B0O b.sl b.nil]];rfl
end
end
section
variable{L n:Nat}
def lA:Ha:=[190,37,193,108,62,69,192,54,146,30,179,35,185,160,42,118,74,72,34,96,70,26,154,115,110,60,175,172,120,42,152,121]
def gG:Cd:=.re ⟨⟨1,1,1,0,0⟩, -80,0,[(1, -8),(2, -8),(3, -8),(4, -8),(5, -8)]⟩ 0
def A9y:cdM 0 0 0 0 0 0 0 0 0 0 0 0 none []=gG:=by kernel_rfl
def dT:gG.id=lA:=by kernel_rfl
end
section
variable{L n:Nat}
def RT(R:Rt)(f:Nat)(args:Is)(v:AV):Prop:=(R.call f args [] λv a=>Ia true a depth v λ_ b=>some (b,[]))=some (v,[])
def A0l{R:Rt}{f:Nat}{args args':Is}{v:AV}{H:Hp}{K:K2}(hc:RT R f args' v)(a:Rm true depth args args' H false):Aq R f args H K=K v:=by
 unfold Aq;rw[a];show Au (R.call f args' [] _) K=K v;rw[show((!false)=true) from rfl,hc];rfl
end
section
variable{F:K2}{PP:Af->Prop}{H0:Hp}{ss:List AP}{D:Nat}
variable{L n:Nat}
def PC.Ok:PC->Prop
 |.c d=>d.Ok/\d.ps.Nodup
 |.z=>True
def PC.id:PC->AP
 |.c d=>d.id
 |.z=>[]
def PC.len(p:PC):p.cells.length=68:=by
 cases p with
 |c d=>exact Eb
 |z=>rfl
theorem PC.one(p:PC):p.cells.all AV.one=true:=by
 cases p with
 |c d=>exact Ma
 |z=>rfl
def PC.fxD{H:Hp}(p:PC):Fx true (D+3) (.agg p.cells) (.agg p.cells) H false:=by
 cases p with
 |c d=>exact A4H
 |z=>exact λK=>by kernel_rfl
def PC.fx{H:Hp}(p:PC):Fx true depth (.agg p.cells) (.agg p.cells) H false:=p.fxD (D:=9)
theorem PC.fixB(p:PC):p.cells.all Go.Abs.fixB=true:=by
 cases p with
 |c d=>exact B5F d (λ_=>rfl) (λ_=>rfl) rfl λ_ _ _ _=>rfl
 |z=>rfl
def Zs(l:List PC):(l.flatMap PC.cells).length=l.length*68:=A5Y PC.len l
def A5x(l:eo):(l.map PC.c).flatMap PC.cells=l.flatMap Cd.cs:=by
 induction l with
 |nil=>rfl
 |cons a l ih=>rw[XC,oK,oK,ih];rfl
def B4I(l:List PC):(l.flatMap PC.cells).all Go.Abs.fixB=true:=by
 rw[G9];intro x c;obtain⟨a,_,b⟩:=l39.1 c;exact G9.1 a.fixB x b
def ZH(H:Hp)(v:AV)(l:List PC):Prop:=(v=Av/\l=[])\/v=.list l.length (l.flatMap PC.cells)\/∃r q b,v=.sl 68 r 0 l.length/\Ai H r=some (.cells q Ad (l.flatMap PC.cells++b))
section
variable{H H':Hp}{v a:AV}{l:List PC}{gs A:eo}{K:KV}{x0:Af}{x:AV}
def ZH.of_LA(h:LA gs a):ZH H a (gs.map .c):=by
 rcases h with rfl|⟨rfl,rfl⟩
 ·exact .inr (.inl (by rw[Po,A5x]))
 ·exact .inl ⟨rfl,rfl⟩
def ZH.keep(h:ZH H v l)(k:∀u y,A4 v u->Ai H u=some y->Ai H' u=some y):ZH H' v l:=by
 rcases h with h|h|⟨r,q,b,rfl,h⟩
 ·exact .inl h
 ·exact .inr (.inl h)
 ·exact .inr (.inr ⟨r,q,b,rfl,k r _ ⟨_,_,_,rfl⟩ h⟩)
theorem ZH.one(h:ZH H v l):B0 v=[v]/\AV.one v=true:=by
 rcases h with⟨rfl,_⟩|rfl|⟨_,_,_,rfl,_⟩<;>exact⟨rfl,rfl⟩
def ZH.len(h:ZH H v l):Bp Ak v F=F (I l.length):=by
 rcases h with⟨rfl,rfl⟩|rfl|⟨_,_,_,rfl,_⟩<;>exact r_ rfl
def ZH.get(h:ZH H v l){i:Nat}(hi:i<l.length):(D1 Ak v (I i) λp=>AE Ae p H F)=F (.agg l[i].cells):=by
 rcases h with⟨rfl,rfl⟩|rfl|⟨r,q,m,rfl,h⟩
 ·simp at hi
 ·rw[Xu (f:=PC.cells) rfl PC.len hi];cases l[i] with
  |c d=>exact nH
  |z=>exact r_ rfl
 ·rw[C0C hi];have e:AE Ae (.ptr r (i*68) 0) H F=IQ H r λx=>Kq x λ_ cs=>EL 68 (Do (Nat.add (i*68) 0) cs) λc=>F (.agg c):=r_ rfl;rw[e,Bn h];show EL 68 (Do (i*68+0) (l.flatMap PC.cells++m)) (λc=>F (.agg c))=_;rw[Nat.add_zero];have g:=Zs l;have hm:(i+1)*68<=l.length*68:=l28 _ hi;rw[C9,KZ _ _ _ (by rw[l0u,Ez];omega),l34 (by omega),l32 (by rw[l0u];omega)];have b:l=l.take i++l[i]::l.drop (i+1):=by rw[<-rF hi,l38]
  have j:(l.flatMap PC.cells).drop (i*68)=l[i].cells++(l.drop (i+1)).flatMap PC.cells:=by
   conv=>lhs;rw[b]
   have k:((l.take i).flatMap PC.cells).length=i*68:=by rw[Zs,zF];congr 1;omega
   rw[l2l,<-k,List.drop_left,oK]
  rw[j,List.take_left' (PC.len _)]
def ZH.fx(h:ZH H v l):∃a q,ZH [] a l/\Fx true (D+1) v a H q:=by
 rcases h with⟨rfl,rfl⟩|rfl|⟨r,q,b,rfl,h⟩
 ·exact⟨Av,false,.inl ⟨rfl,rfl⟩,CA⟩
 ·exact⟨_,false,.inr (.inl rfl),OD⟩
 ·refine⟨.list l.length (l.flatMap PC.cells),true,.inr (.inl rfl),Xj (q':=false) h (by rw[Ez,Zs];omega) ?_⟩;rw[rC,l32 (by rw[Zs];omega),l25 (by rw[Zs];omega)];exact Zz _ (B4I l)
def C2m:RT (r! L (n+64)) FH [.agg C7] (S []):=by unfold RT;kernel_rfl
def C1H:RT (r! L (n+64)) FL [.agg C7] (S []):=by unfold RT;kernel_rfl
def C2v(e:40000<L){p:PC}(b:p.Ok):Aq (r! L (n+64)) FH [.agg p.cells] H F=F (S p.id):=by
 cases p with
 |c d=>exact AQ (Y' (n:=n) e b.1 b.2) (Ao (PC.fx (.c d)) AI)
 |z=>exact A0l (C2m (L:=L) (n:=n)) (Ao (PC.fx .z) AI)
def B64(e:40000<L){p:PC}(b:p.Ok):Aq (r! L (n+64)) FL [.agg p.cells] H F=F (S p.id):=by
 cases p with
 |c d=>exact AQ (B26 (n:=n+1) e b.1 b.2) (Ao (PC.fx (.c d)) AI)
 |z=>exact A0l (C1H (L:=L) (n:=n)) (Ao (PC.fx .z) AI)
def C05{m:KV}(J:∀p∈l,p.Ok)(hb:l.length<1000)(B:40000<L)(C:ZH H0 a l)(w0:Wf H0)(M:∀v H,NewSl H0 (l.map PC.id) v H->(l=[]->v=Av)->PP (m v H)):∀(f i:Nat)(v:AV)(H:Hp),i<=l.length->l.length-i<f->NewSl H0 ((l.take i).map PC.id) v H->(l.take i=[]->v=Av)->
 PP (Wb (L+20) (r! L (n+64)) K m f a v (I i) H):=by
 intro f
 induction f with
 |zero=>intro i v H _ h;omega
 |succ f ih=>
  intro i v H hi P b j;rw[tC];unfold Wc HV A2;have d:ZH H a l:=C.keep λu y _ c=>b.keep u y c;rw[d.len];by_cases h:i<l.length
  ·have g:=b.sl;obtain⟨N,H',r,k,s,O,t,w⟩:=A2r l[i].id g b.wf (by simp;omega);rw[FG (by omega),Co,d.get h,C2v (n:=n) B (J _ (NT h)),r,Dd (by omega)];have q:(l.take i).map PC.id++[l[i].id]=(l.take (i+1)).map PC.id:=by rw[oJ h,XS];rfl
   rw[q]at k;have nx:=b.nx;refine ih (i+1) N H' (by omega) (by omega) ⟨k,λu c=>fG nx (w u c),s,λu y c=>t u y (b.keep u y c) λhv=>?_,by omega⟩ (λe=>by have:=congrArg List.length e;rw[zF,Rk]at this;omega);have a1:=w0.lt c;have a2:=b.new u hv;omega
  ·rw[FB (by omega),Ba];have:i=l.length:=by omega
   subst this;rw[wC]at b j;exact M v H b j
def A9i(f:∀p∈l,p.Ok)(hb:l.length<1000)(d:40000<L)(e:ZH H a l)(wf:Wf H)(g:∀v H',NewSl H (l.map PC.id) v H'->(l=[]->v=Av)->PP (K v H')):PP ((r! L (n+65)).call Ks [a] H K):=by
 rw[xD];unfold YC A2;simp only[BH];have c:(AV.v (.int .i64 0))=I ((0:Nat):Int):=rfl;rw[c];exact C05 f hb d e wf g (L+20) 0 Av H (by omega) (by omega) ⟨.inl ⟨rfl,rfl,rfl⟩,λu b=>absurd b Ie,wf,λu y b=>b,LH _⟩ (λ_=>rfl)
def A9j(d:∀p∈l,p.Ok)(hb:l.length<1000)(b:40000<L)(c:ZH H a l)(wf:Wf H)(e:∀v H',NewSl H (l.map PC.id) v H'->(l=[]->v=Av)->K v H'=x0):(r! L (n+65)).call Ks [a] H K=x0:=
 A9i (PP:=λa=>a=x0) d hb b c wf e
def NewSl.sat(h:NewSl H0 ss v H)(c:ss=[]->v=Av):Km H v ss:=by
 rcases h.sl with⟨rfl,_,h1⟩|⟨r,q,rfl,h2,_⟩
 ·refine .inl ⟨rfl,?_⟩;cases ss with
  |nil=>rfl
  |cons a b=>cases h1
 ·exact .inr ⟨r,q,[],rfl,by rw[US];exact h2⟩
def jQ(b:GOk A):GOk (J7 A):=by
 have d:=B2r (l:=A) ⟨λc h=>h,b.ids⟩;exact d.ok b
def B0t(b:GOk gs):∀p∈gs.map PC.c,p.Ok:=λp d=>by
 obtain⟨c,hc,rfl⟩:=PW.1 d;exact⟨b.ok c hc,b.nd c hc⟩
def A5y(gs:eo):(gs.map PC.c).map PC.id=gs.map Cd.id:=by rw[List.map_map];rfl
def A91(d:GOk A)(i:200000<L)(j:oS H x A)(wf:Wf H)(h:∀v H',NewSl H ((J7 A).map Cd.id) v H'->((J7 A)=[]->v=Av)->PP (K v H')):PP ((r! L (n+83)).call LQ [x] H K):=by
 rw[xN];unfold YJ;have f:=jQ d;rw[A5g (n:=n) d i j];refine A9i (n:=n+17) (l:=(J7 A).map .c) (B0t f) (by rw[Po];have:=f.len;omega) (by omega) (ZH.of_LA (Xb _)) wf λv H' b g=>?_;rw[A5y]at b;exact h v H' b λe=>g (by rw[e];rfl)
def A90(d:GOk A)(c:200000<L)(e:oS H x A)(wf:Wf H)(b:∀v H',NewSl H ((J7 A).map Cd.id) v H'->((J7 A)=[]->v=Av)->K v H'=x0):(r! L (n+83)).call LQ [x] H K=x0:=
 A91 (PP:=λa=>a=x0) d c e wf b
def A95{b:AV}{s:AP}(hb:jY H b ss)(j:ss.length<900)(g:40000<L):Aq (r! L (n+2)) NJ [b,S s] H F=F (Bo (decide (s∈ss))):=by
 obtain⟨f,q,c,hq⟩:∃f q,SA ss f/\Fx true depth b f H q:=by
  rcases hb with h|h
  ·exact⟨b,false,h,h.fx H⟩
  ·exact h.fx (D:=11)
 refine AQ (λK d=>?_) (Ao hq (Ao (q:=false) CA AI));rw[xO];unfold YK L8;rw[AQ (B6d (n:=n) c (by omega) (by omega)) (Ao (c.fx []) (Ao (q:=false) CA AI))];by_cases h:s∈ss
 ·obtain⟨k,i,_,_,e⟩:=iR ss 0 h;rw[e,Gz,UJ];rw[GI h]at d⊢;exact d _ _ λb=>⟨false,CA⟩
 ·rw[iS ss 0 h,Gz,UJ];rw[HN h]at d⊢;exact d _ _ λb=>⟨false,CA⟩
end
end
section
variable{i r:Nat}
variable{L n:Nat}
section
variable{H H0 H':Hp}{v a1 a2:AV}{l l1 l2 ps:List AP}{A:eo}{K:KV}{x0:Af}{x:AV}
def A5c(h:Km H v l)(hn:l.length<1000000000)(m:∀H',Km H' v (Et l)->Lat H H' (A4 v)->K (.tup []) H'=x0):
 (r! L (n+4)).call AJ [v] H K=x0:=by
 rcases h with⟨rfl,rfl⟩|⟨r,q,b,rfl,c⟩
 ·have e:(r! L (n+4)).call AJ [Av] H K=K (.tup []) H:=by kernel_rfl
  rw[e];exact m H (.inl ⟨rfl,rfl⟩) (Lat.refl _ _)
 ·by_cases p:l=[]
  ·subst p;have e:(r! L (n+4)).call AJ [.sl 1 r 0 0] H K=K (.tup []) H:=by
    have f:(r! L (n+4)).call AJ [.sl 1 r 0 0] H K=TB [.sl 1 r 0 0] H K (Zg (E (L+20)) (nT (L+20)) (r! L (n+3)) AJ [.sl 1 r 0 0] H K):=rfl;have j:Zg (E (L+20)) (nT (L+20)) (r! L (n+3)) AJ [.sl 1 r 0 0] H K=K (.tup []) H:=by kernel_rfl
    rw[f,j];unfold TB;simp only[c];split
    ·rename_i xs _;cases xs<;>rfl
    ·rfl
   show(r! L (n+4)).call AJ [.sl 1 r 0 0] H K=x0;rw[e];exact m H (.inr ⟨r,q,b,rfl,c⟩) (Lat.refl _ _)
  ·have f:∀K,(r! L (n+4)).call AJ [.sl 1 r 0 l.length] H K=TB [.sl 1 r 0 l.length] H K (Zg (E (L+20)) (nT (L+20)) (r! L (n+3)) AJ [.sl 1 r 0 l.length] H K):=λK=>rfl;rw[f];have k:∀(l:List Ha),Vf (A9 l)=some l:=λl=>by
    induction l with
    |nil=>rfl
    |cons a l ih=>show(Vf (A9 l)).map _=_;rw[ih];rfl
   have t:0<l.length:=List.length_pos_iff.2 p;have s:=(Bl l).length_eq;have j:∀alt K,TB [.sl 1 r 0 l.length] H K alt=Ey 0 (A9 (Et l)) (A9 l++b) λd=>LJ H r (.cells q Al d) λH'=>K (.tup []) H':=λalt K=>by
    unfold TB;simp only[c,rC];rw[l32 (by rw[AZ];omega),l25 (by rw[AZ];omega),k];have g:(Nat.beq l.length l.length&&(Nat.blt l.length 4611686018427387904&&Nat.blt 0 l.length))=true:=by simp;omega
    simp only[g];rfl
   rw[j,Ix _ _ _ _ (by rw[AZ,Ez,AZ];omega),Dg];have u:splice (A9 l++b) 0 (A9 (Et l))=A9 (Et l)++b:=by
    unfold splice;rw[List.take_zero,l3b,Kk,AZ,s]
    congr 1
    have:l.length=(A9 l).length:=(AZ l).symm;rw[this,List.drop_left]
   rw[u];refine m _ (.inr ⟨r,q,b,by rw[s],AC c⟩) (Lat.upd H r _ ⟨1,0,l.length,rfl⟩)
def SA.src(h:SA l v){F:Nat->Is->Af}:T7 H v F=F l.length (A9 l):=by
 rcases h with rfl|⟨rfl,rfl⟩
 ·rfl
 ·rfl
def SA.ok(h:SA l v):(dG Ab.d&&RW 1 v)=true:=by
 rcases h with rfl|⟨rfl,rfl⟩<;>rfl
def B68{ss:List AP}(e:AU H Al 1 v ss.length (A9 ss))(b:SA l a1)(hn:ss.length+l.length<1000000):
 ∃a H',(∀K:KV,Dy Al 1 Ah Ab v a1 H K=K a H')/\AU H' Al 1 a (ss++l).length (A9 (ss++l))/\(∀u,A4 a u->u=Ar H)/\Lat H H' (A4 v):=by
 obtain⟨a,H',h1,h2,c,d⟩:=apt (ie:=Ah) (i2:=Ab) e (λK=>b.src (F:=K)) (by rw[AZ,oI]) (Yl (λ_=>rfl) l) (by decide) rfl b.ok (by show(ss.length+l.length)*16<=_;omega) (by omega);refine⟨a,H',h1,?_,c,d⟩;rw[Ez];have:A9 (ss++l)=A9 ss++A9 l:=by simp[A9]
 rw[this];exact h2
def SA.cell(h:SA l v):B0 v=[v]/\AV.one v=true:=by rcases h with rfl|⟨_,rfl⟩<;>exact⟨rfl,rfl⟩
def A68{q:Bool}{e:Nat}{cs:Is}{F:K2}(h:Ai H r=some (.cells q e cs))(hi:i<cs.length):AE Ab (.ptr r i 0) H F=F (cs.getD i .dk):=AL (p:=i) rfl h hi
def B1I{r i m:Nat}{F:K2}(h:i<m):D1 EP (.sl 1 r 0 m) (I (i:Int)) F=F (.ptr r i 0):=by
 have a:D1 EP (.sl 1 r 0 m) (I (i:Int)) F=iN (i:Int) λn=>ck (Nat.blt n m) (fN (Nat.add 0 (Nat.mul n 1)) λp=>F (.ptr r p 0)):=rfl;rw[a,Kr,Ef];have h1:Nat.blt i m=true:=by rw[Xe];exact h
 rw[h1];show F (.ptr r (0+i*1) 0)=_;rw[Kk,oI]
def B7b{k:Nat}(e:k<1000000)(a:k=0->K Av H=x0)(b:0<k->K (.sl 1 (Ar H) 0 0) ((Ar H,.cells false Al [])::H)=x0):(r! L (n+1)).call EY [Av,I (k:Int)] H K=x0:=by
 have c:(r! L (n+1)).call EY [Av,I (k:Int)] H K=A1C Al [Av,I (k:Int)] H K (Zg (E (L+20)) (nT (L+20)) (r! L n) EY [Av,I (k:Int)] H K):=rfl;rw[c];have d:∀alt,A1C Al [Av,I (k:Int)] H K alt=@Bool.rec (λ_=>Af) (@Bool.rec (λ_=>Af) alt (K Av H) (Nat.beq k 0)) (It H λr=>K (.sl 1 r 0 0) ((r,.cells false Al [])::H)) (Nat.blt 0 k&&Nat.ble k 1000000):=λalt=>rfl;rw[d];by_cases h:k=0
 ·subst h;exact a rfl
 ·have g:(Nat.blt 0 k&&Nat.ble k 1000000)=true:=by simp;omega
  rw[g,<-b (by omega)];exact Ca _ _
def A9c(wf:Wf H)(hr:Ai H r=some (.cells false A7 [a1,a2]))(h1:SA l1 a1)(h2:SA l2 a2)(V:l1.length<100000)(X:l2.length<100000)(hL:40000<L)(R:∀v H',NewSl H (l1++l2) v H'->K v H'=x0):
 (r! L (n+2)).call Gs [.sl 1 r 0 2] H K=x0:=by
 rw[Nq];unfold Ge A2;simp only[BH];have el:∀{F:K2},Bp EP (.sl 1 r 0 2) F=F (I ((2:Nat):Int)):=λ{F}=>r_ rfl;have Q:(AV.v (.int .i64 0))=I ((0:Nat):Int):=rfl;have C:∀{c}{F:K2},Ai c r=some (.cells false A7 [a1,a2])->(D1 EP (.sl 1 r 0 2) (I ((0:Nat):Int)) λp=>AE Ab p c F)=F a1:=λ{c F}h=>by
  rw[B1I (by decide),A68 h (by simp)];rfl
 have D:∀{c}{F:K2},Ai c r=some (.cells false A7 [a1,a2])->(D1 EP (.sl 1 r 0 2) (I ((1:Nat):Int)) λp=>AE Ab p c F)=F a2:=λ{c F}h=>by
  rw[B1I (by decide),A68 h (by simp)];rfl
 rw[el,Q];have s:∀{a b:Nat}{F:K2},a+b<1000000->As Ac .add (I (a:Int)) (I (b:Int)) F=F (I ((a+b:Nat):Int)):=λ{a b F}h=>by
  rw[Dl,CX (by omega) (by omega)];simp
 have M:∀{a:Nat}{F:K2},As Ac .lss (I (a:Int)) (AV.v (.int .i64 0)) F=F (Bo false):=λ{a F}=>by rw[Dk,HN (by omega)]
 have tail:∀(v:AV)(c:Hp),AU c Al 1 v 0 (A9 [])->(∀u,A4 v u->Ar H<=u)->Wf c->(∀u y,Ai H u=some y->Ai c u=some y)->Ar H<=Ar c->
  ∀d1 d2 t w B:AV,FQ (L+20) (r! L (n+1)) K (λq f=>K q f) (L+20) d1 d2 v t w B (.sl 1 r 0 2) (I ((2:Nat):Int)) (I ((0:Nat):Int)) c=x0:=λv c Y hv w1 k1 n1 d1 d2 t w B=>by
  have lat:∀{v:AV}{c e:Hp},(∀u,A4 v u->Ar H<=u)->Lat c e (A4 v)->Wf c->(∀u y,Ai H u=some y->Ai c u=some y)->∀u y,Ai H u=some y->Ai e u=some y:=λ{v c e}hv k w1 k1 u y d=>
   k.keep w1 u y (k1 u y d) λhr=>by have:=hv u hr;have:=wf.lt d;omega
  obtain⟨v2,e,Z,s2,s3,j⟩:=B68 (ss:=[]) Y h1 (by simp;omega);have O:=j.wf w1;have J:=lat hv j w1 k1;have n2:=j.nx;obtain⟨v3,P,t1,N,t3,m⟩:=B68 (ss:=[]++l1) s2 h2 (by simp;omega);have g:∀u,A4 v2 u->Ar H<=u:=λu d=>by have:=s3 u d;omega
  have k3:=lat g m O J;rw[Fs];unfold Dt HV A2;rw[FG (by omega),Co,C (k1 _ _ hr),Z,Dd (by omega),Fs];unfold Dt HV A2;rw[FG (by omega),Co,D (J _ _ hr),t1,Dd (by omega),Fs];unfold Dt HV A2;rw[FB (by omega),Ba];have n3:=m.nx;exact R v3 P ⟨by rw[l3b]at N;exact N,λu d=>by have:=t3 u d;omega,m.wf O,k3,by omega⟩
 rw[XA2];unfold Ds HV A2;simp only[BH];rw[FG (by omega),Co,C hr,h1.len,s (by omega),M,Ba,Dd (by omega),XA2];unfold Ds HV A2;simp only[BH];rw[FG (by omega),Co,D hr,h2.len,s (by omega),M,Ba,Dd (by omega),XA2];unfold Ds HV A2;rw[FB (by omega),Ba];refine B7b (n:=n) (by omega) (λhz=>?_) (λhp=>?_)
 ·rw[el];exact tail Av H (.inl ⟨rfl,rfl,rfl⟩) (λu d=>absurd d Ie) wf (λu y d=>d) (LH _) _ _ _ _ _
 ·rw[el];exact tail _ _ (.inr ⟨Ar H,false,rfl,Ax (by simp),rfl⟩) (λu ⟨_,_,_,d⟩=>by injection d with _ d;omega) (AF wf) (λu y d=>A6 (wf.lt d) d) (l1u _) _ _ _ _ _
end
end
section
variable{L n:Nat}
section
variable{H H0 H':Hp}{v a1 a2 lv:AV}{l ex:List AP}{A:eo}{K:KV}{x0:Af}{x w:AV}
def A6D{Hs:Hp}(s:VQ 6 w w=true)(c:A.length<1000)(B:40000<L)(ws:Wf Hs)(t:∀l v H',l.Perm A->NewC Hs l v H'->K v H'=some (w,[])):
 (r! L (n+4)).call Bq [.imap (Df DU (gE A))] Hs (λv H=>(r! L (n+4)).call BD [v] H K)=some (w,[]):=by
 rw[Dq];unfold BB HX;rw[vK];have w1:=AF (x:=.cells true Ay [.imap (Df DU (gE A))]) ws;have hb:Ai ((Ar Hs,c_ Ay [.imap (Df DU (gE A))])::Hs) (Ar Hs)=some (c_ Ay [.imap (Df DU (gE A))]):=Ax (by simp);have h:∀u y,Ai Hs u=some y->Ai ((Ar Hs,c_ Ay [.imap (Df DU (gE A))])::Hs) u=some y:=λu y a=>A6 (ws.lt a) a;have j:Ar ((Ar Hs,c_ Ay [.imap (Df DU (gE A))])::Hs)=Ar Hs+1:=rfl;generalize ((Ar Hs,c_ Ay [.imap (Df DU (gE A))])::Hs:Hp)=g at w1 hb h j;refine dQ (n:=n+1) (Q:=λl _=>l.Perm A) (H0:=g) w1 w1 rfl (λu y a=>a) (λH F hc q e m=>?_) (λl v H' hq b=>?_)
 ·rw[Db];unfold B2;simp only[BH];rw[AL (p:=0) rfl (e _ _ hb) (by simp)];show Xs (.imap (Df DU (gE A))) H _=_;rw[Xr];have i:=hc.wf;have f:Ai ((Ar H,Row.iter (Df DU (gE A)) none)::H) (Ar H)=some (.iter (Df DU (gE A)) none):=Ax (by simp);refine yK (n:=n) (A:=A) (H0:=g) s c (λl v H' r k d=>m l v H' r k d) ⟨by omega,by omega,by omega⟩ (L+20) (gE A) [] Av _ none (by simp[gE];omega) (by rw[B18];simp) (λ_=>rfl)
   (hc.more (AF i) λu y a=>A6 (i.lt a) a) Ie f
 ·refine t l v H' hq ⟨b.sl,b.nil,λu a=>?_,b.wf,λu y a=>b.keep u y (h u y a),?_⟩
  ·have:=b.new u a;omega
  ·have:=b.nx;omega
def pkA(p:Pk):Is:=[I p.kd,DV p.ds,match p.cs with|[]=>Av|c::cs=>.list (c::cs).length ((c::cs).flatMap PC.cells)]
def wY(l:List Pk):AV:=match l with
 |[]=>Av
 |p::l=>.list (p::l).length ((p::l).flatMap pkA)
def B9E{ws:List AP}:pl 6 (wY (wP ws))=true:=by
 unfold wP;split
 ·rfl
 ·show([I 2,DV ws,Av]++[]).all (pl 5)=true;have:pl 5 (DV ws)=true:=B6e (p:=pl 5) rfl (λ_ _ _ h=>h) ws;simp only[US,oG,this];rfl
def C0e{D:Nat}{b:Bool}(h:Km H v l)(c:l≠[]):Fx b (D+1) v (DV l) H true:=by
 rcases h with⟨_,h⟩|⟨r,q,d,rfl,h2⟩
 ·exact absurd h c
 ·have e:DV l=.list l.length (A9 l):=by
   cases l with
   |nil=>exact absurd rfl c
   |cons a b=>rfl
  rw[e];refine Xj (q':=false) h2 (by rw[Ez,AZ];omega) ?_;rw[rC,l32 (by rw[AZ];omega),l25 (by rw[AZ];omega)];exact K7 (λs=>Value.string ⟨⟨s⟩⟩) l
def ckT{X:Af}:ck true X=X:=rfl
def B5D(h1:B0 a1=[a1]/\AV.one a1=true)(h2:B0 a2=[a2]/\AV.one a2=true):FV A7 1 Ab 2 [(0,1,a1),(1,1,a2)] H K=K (.sl 1 (Ar H) 0 2) ((Ar H,.cells false A7 [a1,a2])::H):=by
 have c:FV A7 1 Ab 2 [(0,1,a1),(1,1,a2)] H K=He a1 λvs=>HQ vs 0 λn=>ck (Nat.beq n 1) (ck (NQ vs) (Ey 0 vs [Av,Av] λb=>He a2 λvs=>HQ vs 0 λn=>ck (Nat.beq n 1) (ck (NQ vs) (Ey 1 vs b λa=>It H λs=>K (.sl 1 s 0 2) ((s,.cells false A7 a)::H))))):=r_ rfl;have e:NQ [a1]=true:=by rw[FN];simp[h1.2]
 have f:NQ [a2]=true:=by rw[FN];simp[h2.2]
 have k1:Nat.beq (0+[a1].length) 1=true:=rfl;have d:Nat.beq (0+[a2].length) 1=true:=rfl;rw[c,CM,h1.1,Cs,e,k1,ckT,ckT,Ix _ _ _ _ (by simp)];show(He a2 λvs=>HQ vs 0 λn=>ck (Nat.beq n 1) (ck (NQ vs) (Ey 1 vs [a1,Av] λa=>It H λs=>K (.sl 1 s 0 2) ((s,.cells false A7 a)::H))))=_;rw[CM,h2.1,Cs,f,d,ckT,ckT,Ix _ _ _ _ (by simp),Ca];rfl
def B1S{c:Int}(h1:B0 a1=[a1]/\AV.one a1=true)(h2:B0 a2=[a2]/\AV.one a2=true):FV Aw 3 A3 1 [(0,3,.agg [I c,a1,a2])] H K=K (.sl 3 (Ar H) 0 1) ((Ar H,.cells false Aw [I c,a1,a2])::H):=by
 have b:FV Aw 3 A3 1 [(0,3,.agg [I c,a1,a2])] H K=He (.agg [I c,a1,a2]) λvs=>HQ vs 0 λn=>ck (Nat.beq n 3) (ck (NQ vs) (Ey 0 vs [I 0,Av,Av] λa=>It H λs=>K (.sl 3 s 0 1) ((s,.cells false Aw a)::H))):=r_ rfl;have d:NQ [I c,a1,a2]=true:=by rw[FN];simp[h1.2,h2.2];rfl
 have hc:B0 (.agg [I c,a1,a2])=[I c,a1,a2]:=rfl;have k1:Nat.beq (0+[I c,a1,a2].length) 3=true:=rfl;rw[b,CM,hc,Cs,d,k1,ckT,ckT,Ix _ _ _ _ (by simp),Ca];rfl
def A8H(d:GOk A)(hL:200000<L)(hx:oS H x A)(hv:jY H lv ex)(he:ex.length<=40){F:K2}:Aq (r! L (n+82)) Ij [x,lv] H F=F (wY (dN A ex)):=by
 obtain⟨q1,u⟩:=hx.fx (D:=7);obtain⟨N,q2,Z,y⟩:∃Q q,SA ex Q/\Fx true depth lv Q H q:=by
  rcases hv with h|h
  ·exact⟨lv,false,h,h.fx H⟩
  ·exact h.fx (D:=11)
 refine AQ (λK f=>?_) (Ao u (Ao y AI));have hw:VQ 6 (wY (dN A ex)) (wY (dN A ex))=true:=Tq 6 _ B9E;rw[Tw];unfold Kb DI A2;have xf:∀{F:K2},(L0 (.iptr [.imap (Df DU (gE A))]) λv1=>CL 0 v1 λO=>AE Aj O [] F)=F (.imap (Df DU (gE A))):=λ{F}=>A0u;rw[xf];refine A6D (n:=n+77) hw (by have:=d.len;omega) (by omega) Fq λl v P k t=>?_;have i:GOk l:=⟨λc hc=>d.ok c (k.mem_iff.1 hc),λc hc=>d.nd c (k.mem_iff.1 hc),(k.map _).symm.nodup d.ids,by rw[k.length_eq];exact d.len⟩
 obtain⟨q3,C⟩:=uX (D:=11) t.sl t.nil;have e:∀{F:K2},Aq (r! L (n+81)) Js [v] P F=F (DV (JN A)):=λ{F}=>by
  have:=AQ (H:=P) (K:=F) (yJ (L:=L) (n:=n+1) i (by omega) (λc hc=>by have:=TP (i.ok c hc);omega) (Xb l)) (Ao C AI);rw[this,uI k]
 rw[e,B5D Z.cell (My _).cell];have w1:=t.wf;have w2:=AF (x:=.cells false A7 [N,DV (JN A)]) w1;have R:=B0H d;refine A9c (n:=n+79) w2 (Ax (by simp)) Z (My _) (by omega) (by omega) (by omega) λO H2 g=>?_;have J:Km H2 O (ex++JN A):=by
  rcases g.sl with⟨rfl,h1,h2⟩|⟨r,q,rfl,h2,_⟩
  ·refine .inl ⟨rfl,?_⟩;exact kC h1
  ·exact .inr ⟨r,q,[],rfl,by rw[US];exact h2⟩
 refine A5c (n:=n+77) J (by rw[Ez];omega) λH3 M k3=>?_;have w3:=k3.wf g.wf;refine B67 (n:=n+80) w3 M (by rw[(Bl _).length_eq,Ez];omega) (by omega) λv4 H4 a Y V k4=>?_;have e4:RI (Et (ex++JN A))=wK A ex:=rfl;rw[e4]at a;rw[a.len,Cv];have aa:=B2Z d (ex:=ex) he;unfold dN at f⊢;by_cases hz:wK A ex=[]
 ·rw[Dr hz]at f⊢;rw[GI (by rw[hz];rfl),Co];exact f _ _ λb=>⟨false,CA⟩
 ·rw[CD hz]at f⊢;have X:0<(wK A ex).length:=List.length_pos_iff.2 hz;rw[HN (by omega),Ba,a.len];have p:∀{F:K2},eMM true (I ((wK A ex).length:Int)) (AV.v (.int .i64 64)) F=F (I ((wK A ex).length:Int)):=λ{F}=>B1B (by omega);rw[p];rcases a with⟨_,h⟩|⟨r,q,tl,rfl,j⟩
  ·exact absurd h hz
  have s:∀{F:K2},DS Ab (.sl 1 r 0 (wK A ex).length) none (some (I ((wK A ex).length:Int))) none F=F (.sl 1 r 0 (wK A ex).length):=λ{F}=>VE (LH _);have m:∀{F:K2},BR A3 [(0,1,(AV.v (.int .i64 2))),(1,1,.sl 1 r 0 (wK A ex).length)] F=F (.agg [I 2,.sl 1 r 0 (wK A ex).length,Av]):=λ{F}=>by kernel_rfl
  rw[s,m,B1S ⟨rfl,rfl⟩ ⟨rfl,rfl⟩];have w4:=k4.wf w3;have B:=A6 (x:=.cells false Aw [I 2,.sl 1 r 0 (wK A ex).length,Av]) (w4.lt j) j;refine f _ _ λb=>⟨true,?_⟩
  show Fx b depth _ (.list 1 ([I 2,DV (wK A ex),Av]++[])) _ true;exact VA (D:=11) (q':=true) (Ax (by simp)) rfl (Ao (q:=false) CA (Ao (q:=true) (q':=false) (C0e (D:=10) (.inr ⟨r,q,tl,rfl,B⟩) hz) (Ao (q:=false) CA AI)))
end
end
end Go.Abs
end
