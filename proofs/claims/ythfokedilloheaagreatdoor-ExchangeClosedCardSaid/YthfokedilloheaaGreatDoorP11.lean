import Derived.Test.YthfokedilloheaaGreatDoorP10
set_option linter.all false
set_option maxHeartbeats 100000000
noncomputable section
namespace Go.Abs
open Go.RowKit Go.Proofs
set_option maxRecDepth 100000
section
variable{K:K2}{s:Ha}
def Fl{a b:AV}:CV (.tup [a,b]) 0 K=K a:=id rfl
def Fk{a b:AV}:CV (.tup [a,b]) 1 K=K b:=id rfl
def B7{i:TI}{a b:Ha}(d:a.length+b.length<9223372036854775808):As i .add (S a) (S b) K=K (S (a++b)):=by
 have e:As i .add (S a) (S b) K=YX a b λl=>ck (Nat.blt l.length 9223372036854775808) (K (.v (.string ⟨⟨l⟩⟩))):=rfl;have c:Nat.blt (a++b).length 9223372036854775808=true:=by rw[Xe,Ez];exact d
 rw[e,MZ,c];rfl
def B1s(f:Nat):∀z,(B1t f z).length<=f:=by
 induction f with
 |zero=>intro z;exact LH _
 |succ f ih=>
  intro z;unfold B1t;split
  ·simp
  ·have:=ih (z/128);simp;omega
def TN(z:Int):(enc z).length<=9:=B1s 9 _
def U_(s:Ha):Ha:=enc s.length++s
def A13(L n:Nat)(h:s.length<390):PS (r! L (n+5)) OL [S s] (.tup [S (U_ s),I 0]):=by
 refine CS.ps (λK a=>?_) (λH=>fx1);rw[ZO];unfold Oo HX;rw[Qf rfl,DT,Fa,CD (by simp;omega),Qf rfl,A14 L n (by omega) (by omega),Fl,Fk,B7 (by have:=TN (s.length:Int);omega)];exact a _ _ (λb=>⟨false,eQ (Ao (q:=false) (q':=false) CA (Ao (q:=false) (q':=false) CA AI))⟩)
def A0z(L n:Nat)(h:s.length<390):PS (r! L (n+9)) Qb [S s] (.tup [S (U_ s),I 0]):=by
 refine CS.ps (λK a=>?_) (λH=>fx1);rw[dY];unfold PE HX;rw[Qf rfl,DT,Fa,CD (by simp;omega),Qf rfl,A0A L n (by omega) (by omega),Fl,Fk,B7 (by have:=TN (s.length:Int);omega)];exact a _ _ (λb=>⟨false,eQ (Ao (q:=false) (q':=false) CA (Ao (q:=false) (q':=false) CA AI))⟩)
end
section
variable{k:KV}{H:Hp}{i:Nat}
def Fi(l:List Int):Is:=l.map λz=>.v (.int .i64 z)
def A9(l:List Ha):Is:=l.map λs=>S s
def Jn(l:List Int):Ha:=(l.map enc).flatten
def I5(l:List Ha):Ha:=(l.map U_).flatten
def Xg{l:List Int}{k:Nat}(h:k<l.length):(Fi l).getD k .dk=I l[k]:=by
 simp[Fi,UT,h]
def Px{l:List Ha}{k:Nat}(h:k<l.length):(A9 l).getD k .dk=S l[k]:=by
 simp[A9,UT,h]
def F7(l:List Int):(Jn l).length<=9*l.length:=by
 induction l with
 |nil=>simp[Jn]
 |cons z l ih=>
  have:=TN z;simp[Jn]at ih⊢;omega
def F6(l:List Ha)(h:∀s∈l,s.length<390):(I5 l).length<=400*l.length:=by
 induction l with
 |nil=>simp[I5]
 |cons s l ih=>
  have h1:=TN (s.length:Int);have h2:=h s (by simp);have a:=ih (λs b=>h s (by simp[b]));simp only[I5,XC,l1d,Ez,Mr,U_]at a⊢;omega
def zX(l:List Int)(h:i<l.length):Jn (l.take (i+1))=Jn (l.take i)++enc l[i]:=by
 unfold Jn;rw[oJ h,XS,List.flatten_append];simp only[XC,List.map_nil,l1d,List.flatten_nil,US]
def zW(l:List Ha)(h:i<l.length):I5 (l.take (i+1))=I5 (l.take i)++U_ l[i]:=by
 unfold I5;rw[oJ h,XS,List.flatten_append];simp only[XC,List.map_nil,l1d,List.flatten_nil,US]
variable{L n:Nat}{K:KV}{x:Af}
def B9K{l:List Int}(g:l.length<100)(hz:∀z∈l, -10<=z/\z<1090)(c:k (S (Jn l)) H=x):
 ∀(f i:Nat),i<=l.length->l.length-i<f->Mk (L+20) (r! L (n+4)) K k f (.list l.length (Fi l)) (S (Jn (l.take i))) (I i) H=x:=by
 intro f
 induction f with
 |zero=>intro i _ h;omega
 |succ f ih=>
  intro i hi e;rw[Ni];unfold JV HV A2;have el:∀K,Bp Bs (.list l.length (Fi l)) K=K (I l.length):=λK=>id rfl;rw[el,Dk,Fa];by_cases h:i<l.length
  ·rw[Dr (by simp;omega)];have a:=hz l[i] (NT h);have b:(Jn (l.take i)).length<=9*l.length:=by
    have:=F7 (l.take i);have d:(l.take i).length<=l.length:=by simp;omega
    omega
   rw[eV rfl (by simp[Fi]) (by omega) (by omega),mI,Ny rfl,Xg h,A14 L n a.1 a.2,Fl,Fk,B7 (by have:=TN l[i];omega),<-zX l h,Dl,CX (by omega) (by omega),RU];exact ih (i+1) (by omega) (by omega)
  ·rw[CD (by simp;omega)];have:i=l.length:=by omega
   subst this;rw[wC];exact c
def yS{l:List Int}(c:l.length<100)(d:l.length<L)(hz:∀z∈l, -10<=z/\z<1090):CS (r! L (n+5)) Eu [.list l.length (Fi l)] (S (Jn l)):=by
 intro K a;rw[TF];unfold MV A2;simp only[BH];refine B9K c hz ?_ (L+20) 0 (by omega) (by omega);exact a _ _ (λb=>⟨false,CA⟩)
def B7q{l:List Ha}(m:l.length<100)(hz:∀s∈l,s.length<390)(e:k (S (I5 l)) H=x):
 ∀(f i:Nat),i<=l.length->l.length-i<f->RY (L+20) (r! L (n+5)) K k f (.list l.length (A9 l)) (S (I5 (l.take i))) (I i) H=x:=by
 intro f
 induction f with
 |zero=>intro i _ h;omega
 |succ f ih=>
  intro i hi j;rw[Vj];unfold Oa HV A2;have el:∀K,Bp Ab (.list l.length (A9 l)) K=K (I l.length):=λK=>id rfl;rw[el,Dk,Fa];by_cases h:i<l.length
  ·rw[Dr (by simp;omega)];have b:=hz l[i] (NT h);have c:(I5 (l.take i)).length<=400*l.length:=by
    have:=F6 (l.take i) (λs d=>hz s (l29 d));have g:(l.take i).length<=l.length:=by simp;omega
    omega
   have a:(U_ l[i]).length<=400:=by unfold U_;rw[Ez];have:=TN (l[i].length:Int);omega
   rw[eV rfl (by simp[A9]) (by omega) (by omega),mI,Ny rfl,Px h,A13 L n b,Fl,Fk,B7 (by omega),<-zW l h,Dl,CX (by omega) (by omega),RU];exact ih (i+1) (by omega) (by omega)
  ·rw[CD (by simp;omega)];have:i=l.length:=by omega
   subst this;rw[wC];exact e
def A5o{l:List Ha}(c:l.length<100)(d:l.length<L)(hz:∀s∈l,s.length<390):CS (r! L (n+6)) Hq [.list l.length (A9 l)] (S (I5 l)):=by
 intro K a;rw[XB];unfold Qj A2;simp only[BH];refine B7q c hz ?_ (L+20) 0 (by omega) (by omega);exact a _ _ (λb=>⟨false,CA⟩)
end
section
variable{m:Nat}{p:Nat->Bool}
structure UD where
 (p0 q0 p1 q1 p2 q2 p3 q3 p4 q4 p5 q5 p6 q6:Int)
 (fn fd on od:Ha)
 (kd sc:Int)
abbrev UD.cs(u:UD):Is:=[I u.p0,I u.q0,I u.p1,I u.q1,I u.p2,I u.q2,I u.p3,I u.q3,I u.p4,I u.q4,I u.p5,I u.q5,I u.p6,I u.q6,S u.fn,S u.fd,S u.on,S u.od,I u.kd,I u.sc]
def u0:UD:=⟨0,0,0,0,0,0,0,0,0,0,0,0,0,0,[],[],[],[],0,0⟩
def nA:Ha:=[49]
def nB:Ha:=[49,48,48,48]
def nC:Ha:=[49,48,48,48,48,48,48]
def nD:Ha:=[49,48,48,48,48,48,48,48,48,48]
def uD(a b c:Int)(f d:Ha)(s:Int):UD:=⟨a,1,0,1,b,1,0,1,c,1,0,1,0,1,f,d,[48],[49],0,s⟩
def C1R:List UD:=[
 uD 1 0 0 nA nA 1,
 uD 0 1 0 nA nA 1,
 uD 1 0 0 nA nB 1,
 uD 0 0 0 nA nA 2,
 ⟨0,1,0,1,0,1,0,1,1,1,0,1,0,1,[49],[49],[53,52,54,51],[50,48],0,0⟩,
 uD 0 0 1 nA nA 1,
 uD 2 0 0 nA nA 1,
 uD 1 1 0 nA nA 1,
 uD 1 (-1) 0 nA nA 1,
 uD 2 0 0 nA nB 1,
 uD 0 0 0 nB nA 2,
 uD 1 0 1 nA nA 1,
 uD 1 0 (-1) nA nA 1,
 uD 3 0 0 nA nA 1,
 uD (-1) 0 0 nA nA 1,
 uD (-2) 0 0 nA nA 1,
 uD (-1) 1 0 nA nA 1,
 uD 0 2 0 nA nA 1,
 uD 1 1 0 nA nB 1,
 uD (-1) 1 0 nB nA 1,
 uD 0 1 1 nA nA 1,
 uD 0 1 (-1) nA nA 1,
 uD 2 1 0 nA nA 1,
 uD (-2) 1 0 nA nA 1,
 uD 0 (-1) 0 nA nA 1,
 uD 0 3 0 nA nA 1,
 uD 0 (-2) 0 nA nA 1,
 uD 0 0 0 nA nB 2,
 uD 1 (-1) 0 nA nB 1,
 uD 2 0 0 nA nC 1,
 uD 1 0 1 nA nB 1,
 uD 1 0 (-1) nA nB 1,
 uD 3 0 0 nA nB 1,
 uD (-1) 0 0 nA nB 1,
 uD (-1) 0 0 nB nA 1,
 uD 3 0 0 nA nD 1,
 uD (-2) 0 0 nC nA 1,
 uD 0 0 (-1) nA nA 1,
 uD (-1) 0 1 nA nA 1,
 uD 0 (-1) 1 nA nA 1,
 uD (-1) 0 1 nB nA 1,
 uD 0 0 2 nA nA 1,
 uD 2 0 1 nA nA 1,
 uD (-2) 0 1 nA nA 1,
 uD 0 0 3 nA nA 1,
 uD 0 0 (-2) nA nA 1,
 uD 2 (-1) 0 nA nA 1,
 uD 1 0 0 nB nA 1,
 uD 2 0 (-1) nA nA 1,
 uD 4 0 0 nA nA 1,
 uD 6 0 0 nA nA 1,
 uD (-4) 0 0 nA nA 1]
def uu(k:Nat):UD:=C1R.getD k u0
def nE:Ha:=[49,47,49,48,48,48]
def nF:Ha:=[49,47,49,48,48,48,48,48,48]
def nG:Ha:=[49,47,49,48,48,48,48,48,48,48,48,48]
def nK:Ha:=[32,107,105,110,100,32,48,32,102,97,99,116,111,114,32]
def nO:Ha:=[32,111,102,102,115,101,116,32,48]
def nR:Ha:=[114,97,116,105,111]
def nU(f t:Ha):Ha:=[100,105,102,102,101,114,101,110,99,101]++(nK++(f++(nO++(32::t))))
def B7p:List Ha:=[
 nU nA [109,94,49],
 nU nA [115,94,49],
 nU nE [109,94,49],
 nR++(nK++(nA++nO)),
 [97,98,115,111,108,117,116,101,32,107,105,110,100,32,48,32,102,97,99,116,111,114,32,49,32,111,102,102,115,101,116,32,53,52,54,51,47,50,48,32,75,94,49],
 nU nA [75,94,49],
 nU nA [109,94,50],
 nU nA [109,94,49,32,115,94,49],
 nU nA [109,94,49,32,115,94,45,49],
 nU nE [109,94,50],
 nR++(nK++(nB++nO)),
 nU nA [109,94,49,32,75,94,49],
 nU nA [109,94,49,32,75,94,45,49],
 nU nA [109,94,51],
 nU nA [109,94,45,49],
 nU nA [109,94,45,50],
 nU nA [109,94,45,49,32,115,94,49],
 nU nA [115,94,50],
 nU nE [109,94,49,32,115,94,49],
 nU nB [109,94,45,49,32,115,94,49],
 nU nA [115,94,49,32,75,94,49],
 nU nA [115,94,49,32,75,94,45,49],
 nU nA [109,94,50,32,115,94,49],
 nU nA [109,94,45,50,32,115,94,49],
 nU nA [115,94,45,49],
 nU nA [115,94,51],
 nU nA [115,94,45,50],
 nR++(nK++(nE++nO)),
 nU nE [109,94,49,32,115,94,45,49],
 nU nF [109,94,50],
 nU nE [109,94,49,32,75,94,49],
 nU nE [109,94,49,32,75,94,45,49],
 nU nE [109,94,51],
 nU nE [109,94,45,49],
 nU nB [109,94,45,49],
 nU nG [109,94,51],
 nU nC [109,94,45,50],
 nU nA [75,94,45,49],
 nU nA [109,94,45,49,32,75,94,49],
 nU nA [115,94,45,49,32,75,94,49],
 nU nB [109,94,45,49,32,75,94,49],
 nU nA [75,94,50],
 nU nA [109,94,50,32,75,94,49],
 nU nA [109,94,45,50,32,75,94,49],
 nU nA [75,94,51],
 nU nA [75,94,45,50],
 nU nA [109,94,50,32,115,94,45,49],
 nU nB [109,94,49],
 nU nA [109,94,50,32,75,94,45,49],
 nU nA [109,94,52],
 nU nA [109,94,54],
 nU nA [109,94,45,52]]
def L5(k:Nat):Ha:=B7p.getD k []
def C4Q:List (List (List (Option Nat))):=[
 [[some 0,none,none,none,none,none,none],
  [none,some 1,none,none,none,none,none],
  [none,none,some 2,none,none,none,none],
  [none,none,none,some 3,none,none,none],
  [none,none,none,none,none,some 4,none],
  [none,none,none,none,some 4,some 5,none],
  [none,none,none,none,none,none,some 6]],
 [[some 0,none,none,none,none,none,none],
  [none,some 1,none,none,none,none,none],
  [none,none,some 2,none,none,none,none],
  [none,none,none,some 3,none,none,none],
  [none,none,none,none,some 5,some 4,none],
  [none,none,none,none,none,some 5,none],
  [none,none,none,none,none,none,some 6]],
 [[some 6,some 7,some 9,some 0,none,some 11,some 13],
  [some 7,some 17,some 18,some 1,none,some 20,some 22],
  [some 9,some 18,some 29,some 2,none,some 30,some 32],
  [some 0,some 1,some 2,some 3,none,some 5,some 6],
  [none,none,none,none,none,none,none],
  [some 11,some 20,some 30,some 5,none,some 41,some 42],
  [some 13,some 22,some 32,some 6,none,some 42,some 49]],
 [[some 3,some 8,some 10,some 0,none,some 12,some 14],
  [some 16,some 3,some 19,some 1,none,some 21,some 23],
  [some 27,some 28,some 3,some 2,none,some 31,some 33],
  [some 14,some 24,some 34,some 3,none,some 37,some 15],
  [none,none,none,none,none,none,none],
  [some 38,some 39,some 40,some 5,none,some 3,some 43],
  [some 0,some 46,some 47,some 6,none,some 48,some 3]]]
def VM(o i j:Nat):Option Nat:=((C4Q.getD o []).getD i []).getD j none
def mW(k:Nat):Int:=([2, -1,3, -2,1]:List Int).getD k 0
def C1Q:List (List (Option Nat)):=[[some 6,some 14,some 13,some 15,some 0],
 [some 17,some 24,some 25,some 26,some 1],
 [some 29,some 34,some 35,some 36,some 2],
 [some 3,some 3,some 3,some 3,some 3],
 [none,none,none,none,none],
 [some 41,some 37,some 44,some 45,some 5],
 [some 49,some 15,some 50,some 51,some 6]]
def Yh(i k:Nat):Option Nat:=(C1Q.getD i []).getD k none
def Ko:Option Nat->AV
 |some k=>.tup [.agg (uu k).cs,I 0]
 |none=>.tup [.agg u0.cs,I 70]
def isU:Option Nat->Bool
 |some _=>true
 |none=>false
def B2u(p:Nat->Bool)(m:Nat):Nat->Prop
 |0=>True
 |c+1=>((List.range m).all λk=>p (c*m+k))=true/\B2u p m c
def dW:B2u p m 0:=trivial
def dV{m c:Nat}(h:((List.range m).all λk=>p (c*m+k))=true)(h2:B2u p m c):B2u p m (c+1):=⟨h,h2⟩
def dU:∀{c:Nat},B2u p m c->∀{i:Nat},i<c*m->p i=true:=by
 intro c
 induction c with
 |zero=>intro _ i hi;omega
 |succ c ih=>
  intro h i hi;by_cases hc:i<c*m
  ·exact ih h.2 hc
  ·have h1:=G9.1 h.1 (i-c*m) (KT.2 (by rw[l1e]at hi;omega));have e:c*m+(i-c*m)=i:=by omega
   rw[e]at h1;exact h1
end
section
variable{v:AV}{x y:Af}{f:Nat}{R:Rt}
def oV:Rt->Nat->Is->Hp->K2->Af:=Classical.choose (⟨Aq,rfl⟩:∃z:Rt->Nat->Is->Hp->K2->Af,Aq=z)
def zO:Aq=oV:=Classical.choose_spec (⟨Aq,rfl⟩:∃z:Rt->Nat->Is->Hp->K2->Af,Aq=z)
def eBi:TI->BinOp->AV->AV->K2->Af:=Classical.choose (⟨As,rfl⟩:∃z:TI->BinOp->AV->AV->K2->Af,As=z)
def bO:As=eBi:=Classical.choose_spec (⟨As,rfl⟩:∃z:TI->BinOp->AV->AV->K2->Af,As=z)
def eEq:List LK->BinOp->AV->AV->K2->Af:=Classical.choose (⟨XU,rfl⟩:∃z:List LK->BinOp->AV->AV->K2->Af,XU=z)
def qO:XU=eEq:=Classical.choose_spec (⟨XU,rfl⟩:∃z:List LK->BinOp->AV->AV->K2->Af,XU=z)
def cnd:AV->Af->Af->Af:=Classical.choose (⟨A1,rfl⟩:∃z:AV->Af->Af->Af,A1=z)
def cO:A1=cnd:=Classical.choose_spec (⟨A1,rfl⟩:∃z:AV->Af->Af->Af,A1=z)
def Qn:cnd (.v (.bool true)) x y=x:=by rw[<-cO];rfl
def GJ:cnd (.v (.bool false)) x y=y:=by rw[<-cO];rfl
section
variable{K:K2}{i:TI}{k:IntKind}{a b:Int}{s u:Ha}
def Q6(h:a=b):eBi i .eql (.v (.int k a)) (.v (.int k b)) K=K (Bo true):=by rw[<-bO,Cv,GI h]
def XG(h:a≠b):eBi i .eql (.v (.int k a)) (.v (.int k b)) K=K (Bo false):=by rw[<-bO,Cv,HN h]
def B0E(h:a=b):eBi i .neq (.v (.int k a)) (.v (.int k b)) K=K (Bo false):=by rw[<-bO,I6,GI h];rfl
def A5K(h:a<=b):eBi i .leq (.v (.int k a)) (.v (.int k b)) K=K (Bo true):=by rw[<-bO,jL,GI h]
def A5U(h:b<=a):eBi i .geq (.v (.int k a)) (.v (.int k b)) K=K (Bo true):=by rw[<-bO,KX,GI h]
end
def A89:∀{ks:List LK}{xs:Hx},fits ks xs=true->Zi xs xs=some true:=by
 intro ks
 induction ks with
 |nil=>intro xs h;cases xs with|nil=>rfl|cons a l=>simp[fits]at h
 |cons k ks ih=>
  intro xs h;cases xs with
  |nil=>rfl
  |cons a l=>
   simp only[fits,KK]at h;have h2:=ih h.2;have e:Zi (a::l) (a::l)=(match iO a a with|some b=>(match Zi l l with|some c=>some (b&&c)|none=>none)|none=>none):=rfl;rw[e,h2];have h1:iO a a=some true:=by
    have h1:=h.1;cases k<;>cases a<;>simp[LK.fit]at h1<;>simp[iO,QX,QZ]
   rw[h1];rfl
def A5V(xs:Hx):∀K:Hx->Af,oL (xs.map AV.v) K=K xs:=by
 induction xs with
 |nil=>intro K;rfl
 |cons a l ih=>intro K;exact ih _
def B1N{ks:List LK}(xs:Hx)(h:fits ks xs=true)(K:K2):eEq ks .eql (.agg (xs.map AV.v)) (.agg (xs.map AV.v)) K=K (Bo true):=by
 rw[<-qO];have e:XU ks .eql (.agg (xs.map AV.v)) (.agg (xs.map AV.v)) K=oL (xs.map AV.v) λc=>oL (xs.map AV.v) λd=>ck (fits ks c) (match Zi c d,BinOp.eql with
  |some q,.eql=>bB q K
  |some q,.neq=>bB (!q) K
  |_,_=>none):=rfl
 rw[e,A5V,A5V,A89 h,h];show bB true K=_;rw[OX]
def vI(u:UD)(K:K2):eEq LV .eql (.agg u.cs) (.agg u.cs) K=K (Bo true):=
 B1N (ks:=LV) [.int .i64 u.p0,.int .i64 u.q0,.int .i64 u.p1,.int .i64 u.q1,.int .i64 u.p2,.int .i64 u.q2,.int .i64 u.p3,.int .i64 u.q3,.int .i64 u.p4,.int .i64 u.q4,.int .i64 u.p5,.int .i64 u.q5,.int .i64 u.p6,.int .i64 u.q6,.string ⟨⟨u.fn⟩⟩,.string ⟨⟨u.fd⟩⟩,.string ⟨⟨u.on⟩⟩,.string ⟨⟨u.od⟩⟩,.int .i64 u.kd,.int .i64 u.sc] rfl K
def LS(R:Rt)(f:Nat)(args':Is)(v:AV):Prop:=∀(q:Bool)(args:Is)(H:Hp),Rm true depth args args' H q->∀K,oV R f args H K=K v
def CS.ls{args':Is}(h:CS R f args' v):LS R f args' v:=λ_ _ _ c _=>by rw[<-zO];exact AQ h c
def PO(R:Rt)(f:Nat)(args:Is)(v:AV):Prop:=∀H K,oV R f args H K=K v
def PS.o{args:Is}(h:PS R f args v):PO R f args v:=λH K=>by rw[<-zO];exact h H K
end
section
variable{L n:Nat}
attribute [local irreducible] Aq rt oV eBi eEq cnd As XU A1
def fX{z a hi:Int}(h1:a<=z)(h2:z<=hi):PS (rt (L+20) (n+1)) FK [I z,I a,I hi] (Bo true):=by
 refine CS.ps (λK c=>?_) (λH=>λK=>by kernel_rfl);rewrite[WW];unfold LF q3N
 try rewrite[zO]
 try rewrite[bO]
 try rewrite[qO]
 try rewrite[cO]
 conv=>lhs;whnf
 rewrite[A5U h1]
 conv=>lhs;whnf
 rewrite[A5K h2]
 conv=>lhs;whnf
 exact c _ _ (λb=>⟨false,λK=>by kernel_rfl⟩)
def Yp{z a hi:Int}(h1:a<=z)(h2:z<=hi):PS (rt (L+20) (n+1)) IZ [I z,I a,I hi] (Bo true):=by
 refine CS.ps (λK c=>?_) (λH=>λK=>by kernel_rfl);rewrite[lR];unfold Sy q3N
 try rewrite[zO]
 try rewrite[bO]
 try rewrite[qO]
 try rewrite[cO]
 conv=>lhs;whnf
 rewrite[A5U h1]
 conv=>lhs;whnf
 rewrite[A5K h2]
 conv=>lhs;whnf
 exact c _ _ (λb=>⟨false,λK=>by kernel_rfl⟩)
def Sl(T:AV):Prop:=T=.v (.slice none 0 0)\/∃n cs,T=.list n cs
abbrev Av:AV:=.v (.slice none 0 0)
abbrev CN(u:UD):Is:=[I u.p0,I u.q0,I u.p1,I u.q1,I u.p2,I u.q2,I u.p3,I u.q3,I u.p4,I u.q4,I u.p5,I u.q5,I u.p6,I u.q6,S u.fn,S u.fd,S u.on,S u.od,I u.kd,I u.sc]
abbrev dJ(ca cb:Ha)(T:AV)(ra rb:Ha):Is:=[S ca,S cb,T,S ra,S rb]
abbrev BL(id:Int)(ins nds:AV)(u:UD):Is:=[I id,ins,nds,
 I u.p0,I u.q0,I u.p1,I u.q1,I u.p2,I u.q2,I u.p3,I u.q3,I u.p4,I u.q4,I u.p5,I u.q5,I u.p6,I u.q6,S u.fn,S u.fd,S u.on,S u.od,I u.kd,I u.sc]
structure RD where
 k:Int
 (a1 a2 b1 b2 c1 c2 d1 d2:Ha)
abbrev RD.cs(r:RD):Is:=[I r.k,S r.a1,S r.a2,S r.b1,S r.b2,S r.c1,S r.c2,S r.d1,S r.d2]
def r0:RD:=⟨0,[],[],[],[],[],[],[],[]⟩
structure ND where
 (lab num itm tim day:Int)
def rr(k:Nat):RD:=⟨k,[45,53],[49],[50,53],[50],if k=2 then[49] else[48],if k=2 then[50] else[49],[49],[50,48]⟩
abbrev E4(kd:Int)(m:ND)(u:UD)(ca cb:Ha)(T:AV)(ra rb:Ha)(P:AV)(id:Int)(ins nds:AV)(o:UD)(r:RD)(vd:Int):Is:=[I kd,I m.lab,I m.num,I m.itm,I m.tim,I m.day,
 I u.p0,I u.q0,I u.p1,I u.q1,I u.p2,I u.q2,I u.p3,I u.q3,I u.p4,I u.q4,I u.p5,I u.q5,I u.p6,I u.q6,S u.fn,S u.fd,S u.on,S u.od,I u.kd,I u.sc,
 S ca,S cb,T,S ra,S rb,P,I id,ins,nds,
 I o.p0,I o.q0,I o.p1,I o.q1,I o.p2,I o.q2,I o.p3,I o.q3,I o.p4,I o.q4,I o.p5,I o.q5,I o.p6,I o.q6,S o.fn,S o.fd,S o.on,S o.od,I o.kd,I o.sc,
 I r.k,S r.a1,S r.a2,S r.b1,S r.b2,S r.c1,S r.c2,S r.d1,S r.d2,I vd,I 0,Av,Av]
def ND.ok(m:ND):Prop:=1<=m.lab/\m.lab<=9/\1<=m.num/\m.num<=9/\1<=m.itm/\m.itm<=9/\0<=m.tim/\m.tim<=100/\0<=m.day/\m.day<=100
abbrev A54:Is:=[zI,zL,zL,zI,zI,zI,zI,zI,zI,zI,zI,zI,zI,zI,zI,zI,zI,zS,zS,zS,zS,zI,zI]
def A8R:PS (rt (L+20) (n+40)) Qe [.agg (BL 0 Av Av u0),.agg A54] (Bo true):=BM (λH K=>by kernel_rfl) (by kernel_rfl)
def B00:PS (rt (L+20) (n+40)) jB [.agg (BL 0 Av Av u0),.agg A54] (Bo true):=BM (λH K=>by kernel_rfl) (by kernel_rfl)
section
variable{m:ND}{u o:UD}{ca cb ra rb:Ha}{T P ins nds:AV}{id vd:Int}{r:RD}
def A6F(hm:m.ok)(s:Sl T)(q:∃n cs,P=.list n cs)(i:∃n cs,ins=.list n cs)(p:∃n cs,nds=.list n cs)(hc:LS (rt (L+20) (n+60)) Hu [.agg (E4 2 m u ca cb T ra rb P id ins nds o r0 0)] (Bo true))(v:PO (rt (L+20) (n+60)) Mu [.agg (CN u)] (Bo true))(t:LS (rt (L+20) (n+60)) LU [.agg (dJ ca cb T ra rb)] (Bo true)):
 CS (rt (L+20) (n+61)) Er [.agg (E4 2 m u ca cb T ra rb P id ins nds o r0 0)] (Bo true):=by
 intro K j;obtain⟨h1,h2,e,w,f,x,g,y,h,d⟩:=hm;obtain⟨n1,c1,rfl⟩:=q;obtain⟨n2,c2,rfl⟩:=i;obtain⟨A,c3,rfl⟩:=p;have hb:∀{z c hi:Int},c<=z->z<=hi->PO (rt (L+20) (n+60)) FK [I z,I c,I hi] (Bo true):=λa b=>(fX a b).o;rcases s with rfl|⟨B,c4,rfl⟩
 all_goals
  rewrite[JE];unfold Gj HX
  try rewrite[zO]
  try rewrite[bO]
  try rewrite[qO]
  try rewrite[cO]
  generalize rt (L+20) (n+60)=R at*
  conv=>lhs;whnf
  rewrite[hb h1 (by omega)]
  conv=>lhs;whnf
  rewrite[hb e (by omega)]
  conv=>lhs;whnf
  rewrite[hb f (by omega)]
  conv=>lhs;whnf
  rewrite[hb g (by omega)]
  conv=>lhs;whnf
  rewrite[hb h (by omega)]
  conv=>lhs;whnf
  rewrite[v]
  conv=>lhs;whnf
  rewrite[(t) false _ _ ?hq]
  case hq=>exact λK=>by kernel_rfl
  conv=>lhs;whnf
  rewrite[GJ]
  conv=>lhs;whnf
  rewrite[show∀K,eEq J4 BinOp.eql (AV.agg [I r0.k,S r0.a1,S r0.a2,S r0.b1,S r0.b2,S r0.c1,S r0.c2,S r0.d1,S r0.d2]) (AV.agg [zI,zS,zS,zS,zS,zS,zS,zS,zS]) K=K (Bo true) from λK=>by rw[<-qO];kernel_rfl]
  conv=>lhs;whnf
  rewrite[Q6 ?hc]
  case hc=>decide
  conv=>lhs;whnf
  rewrite[XG ?hc]
  case hc=>decide
  conv=>lhs;whnf
  rewrite[GJ]
  conv=>lhs;whnf
  rewrite[Q6 ?hc]
  case hc=>decide
  conv=>lhs;whnf
  rewrite[Qn]
  conv=>lhs;whnf
  rewrite[(hc) false _ _ ?hq]
  case hq=>exact λK=>by kernel_rfl
  conv=>lhs;whnf
  exact j _ _ (λb=>⟨false,λK=>by kernel_rfl⟩)
def A6G(hm:m.ok)(j:Sl T)(q:PO (rt (L+20) (n+60)) Qe [.agg (BL 0 Av Av o),.agg A54] (Bo true))(s:PO (rt (L+20) (n+60)) Mu [.agg (CN u)] (Bo true))(p:LS (rt (L+20) (n+60)) LU [.agg (dJ ca cb T ra rb)] (Bo true)):
 CS (rt (L+20) (n+61)) Er [.agg (E4 1 m u ca cb T ra rb Av 0 Av Av o r0 0)] (Bo true):=by
 intro K i;obtain⟨h1,h2,e,t,f,v,g,w,h,d⟩:=hm;have hb:∀{z c hi:Int},c<=z->z<=hi->PO (rt (L+20) (n+60)) FK [I z,I c,I hi] (Bo true):=λa b=>(fX a b).o;rcases j with rfl|⟨x,c4,rfl⟩
 all_goals
  rewrite[JE];unfold Gj HX
  try rewrite[zO]
  try rewrite[bO]
  try rewrite[qO]
  try rewrite[cO]
  generalize rt (L+20) (n+60)=R at*
  conv=>lhs;whnf
  rewrite[hb h1 (by omega)]
  conv=>lhs;whnf
  rewrite[hb e (by omega)]
  conv=>lhs;whnf
  rewrite[hb f (by omega)]
  conv=>lhs;whnf
  rewrite[hb g (by omega)]
  conv=>lhs;whnf
  rewrite[hb h (by omega)]
  conv=>lhs;whnf
  rewrite[s]
  conv=>lhs;whnf
  rewrite[(p) false _ _ ?hq]
  case hq=>exact λK=>by kernel_rfl
  conv=>lhs;whnf
  rewrite[GJ]
  conv=>lhs;whnf
  rewrite[show∀K,eEq J4 BinOp.eql (AV.agg [I r0.k,S r0.a1,S r0.a2,S r0.b1,S r0.b2,S r0.c1,S r0.c2,S r0.d1,S r0.d2]) (AV.agg [zI,zS,zS,zS,zS,zS,zS,zS,zS]) K=K (Bo true) from λK=>by rw[<-qO];kernel_rfl]
  conv=>lhs;whnf
  rewrite[Q6 ?hc]
  case hc=>decide
  conv=>lhs;whnf
  rewrite[Q6 ?hc]
  case hc=>decide
  conv=>lhs;whnf
  rewrite[Qn]
  conv=>lhs;whnf
  rewrite[Q6 ?hc]
  case hc=>decide
  conv=>lhs;whnf
  rewrite[q]
  conv=>lhs;whnf
  exact i _ _ (λb=>⟨false,λK=>by kernel_rfl⟩)
def A6E(hm:m.ok)(v:Sl T)(t:∃n cs,P=.list n cs)(p:∃n cs,ins=.list n cs)(s:∃n cs,nds=.list n cs)(c:∀K,eEq J4 BinOp.eql (AV.agg r.cs) (AV.agg [zI,zS,zS,zS,zS,zS,zS,zS,zS]) K=K (Bo false))(hr:PO (rt (L+20) (n+60)) YZ [.agg r.cs] (Bo true))(d:1<=vd)(e:vd<=3)(x:PO (rt (L+20) (n+60)) Mu [.agg (CN u)] (Bo true))(w:LS (rt (L+20) (n+60)) LU [.agg (dJ ca cb T ra rb)] (Bo true))(hc:LS (rt (L+20) (n+60)) Hu [.agg (E4 3 m u ca cb T ra rb P id ins nds o r vd)] (Bo true)):
 CS (rt (L+20) (n+61)) Er [.agg (E4 3 m u ca cb T ra rb P id ins nds o r vd)] (Bo true):=by
 intro K q;obtain⟨h1,h2,h,y,i,A,j,B,k,g⟩:=hm;obtain⟨n1,c1,rfl⟩:=t;obtain⟨n2,c2,rfl⟩:=p;obtain⟨C,c3,rfl⟩:=s;have hb:∀{z f hi:Int},f<=z->z<=hi->PO (rt (L+20) (n+60)) FK [I z,I f,I hi] (Bo true):=λa b=>(fX a b).o;rcases v with rfl|⟨D,c4,rfl⟩
 all_goals
  rewrite[JE];unfold Gj HX
  try rewrite[zO]
  try rewrite[bO]
  try rewrite[qO]
  try rewrite[cO]
  generalize rt (L+20) (n+60)=R at*
  conv=>lhs;whnf
  rewrite[hb h1 (by omega)]
  conv=>lhs;whnf
  rewrite[hb h (by omega)]
  conv=>lhs;whnf
  rewrite[hb i (by omega)]
  conv=>lhs;whnf
  rewrite[hb j (by omega)]
  conv=>lhs;whnf
  rewrite[hb k (by omega)]
  conv=>lhs;whnf
  rewrite[x]
  conv=>lhs;whnf
  rewrite[(w) false _ _ ?hq]
  case hq=>exact λK=>by kernel_rfl
  conv=>lhs;whnf
  rewrite[GJ]
  conv=>lhs;whnf
  rewrite[c]
  conv=>lhs;whnf
  rewrite[XG ?hc]
  case hc=>decide
  conv=>lhs;whnf
  rewrite[GJ]
  conv=>lhs;whnf
  rewrite[XG ?hc]
  case hc=>decide
  conv=>lhs;whnf
  rewrite[GJ]
  conv=>lhs;whnf
  rewrite[Q6 ?hc]
  case hc=>decide
  conv=>lhs;whnf
  rewrite[Qn]
  conv=>lhs;whnf
  rewrite[(hc) false _ _ ?hq]
  case hq=>exact λK=>by kernel_rfl
  conv=>lhs;whnf
  rewrite[hr]
  conv=>lhs;whnf
  rewrite[hb d e]
  conv=>lhs;whnf
  exact q _ _ (λb=>⟨false,λK=>by kernel_rfl⟩)
end
end
section
variable{c2:Is}{n2:Nat}
variable{L n:Nat}
attribute [local irreducible] Aq rt oV eBi eEq cnd As XU A1
section
variable{m:ND}{u o:UD}{ca cb ra rb:Ha}{T P ins nds:AV}{id vd:Int}{r:RD}
def A74(hm:m.ok)(j:Sl T)(hr:PO (rt (L+20) (n+60)) JH [.agg r0.cs] (Bo false))(q:PO (rt (L+20) (n+60)) jB [.agg (BL 0 Av Av o),.agg A54] (Bo true))(s:PO (rt (L+20) (n+60)) F3 [.agg (CN u)] (Bo true))(p:LS (rt (L+20) (n+60)) JJ [.agg (dJ ca cb T ra rb)] (Bo true)):
 CS (rt (L+20) (n+61)) F0 [.agg (E4 1 m u ca cb T ra rb Av 0 Av Av o r0 0)] (.tup [Bo true,Bo false]):=by
 intro K i;obtain⟨h1,h2,e,t,f,v,g,w,h,d⟩:=hm;have hb:∀{z c hi:Int},c<=z->z<=hi->PO (rt (L+20) (n+60)) IZ [I z,I c,I hi] (Bo true):=λa b=>(Yp a b).o;rcases j with rfl|⟨x,c4,rfl⟩
 all_goals
  rewrite[JZ];unfold IV HX
  try rewrite[zO]
  try rewrite[bO]
  try rewrite[qO]
  try rewrite[cO]
  generalize rt (L+20) (n+60)=R at*
  conv=>lhs;whnf
  rewrite[XG ?hc]
  case hc=>decide
  conv=>lhs;whnf
  rewrite[s]
  conv=>lhs;whnf
  rewrite[(p) false _ _ ?hq]
  case hq=>exact λK=>by kernel_rfl
  conv=>lhs;whnf
  rewrite[hb h1 (by omega)]
  conv=>lhs;whnf
  rewrite[hb e (by omega)]
  conv=>lhs;whnf
  rewrite[hb f (by omega)]
  conv=>lhs;whnf
  rewrite[hb g (by omega)]
  conv=>lhs;whnf
  rewrite[hb h (by omega)]
  conv=>lhs;whnf
  rewrite[GJ]
  conv=>lhs;whnf
  rewrite[hr]
  conv=>lhs;whnf
  rewrite[show∀K,eEq J4 BinOp.neq (AV.agg [I r0.k,S r0.a1,S r0.a2,S r0.b1,S r0.b2,S r0.c1,S r0.c2,S r0.d1,S r0.d2]) (AV.agg [zI,zS,zS,zS,zS,zS,zS,zS,zS]) K=K (Bo false) from λK=>by rw[<-qO];kernel_rfl]
  conv=>lhs;whnf
  rewrite[B0E ?hc]
  case hc=>decide
  conv=>lhs;whnf
  rewrite[GJ]
  conv=>lhs;whnf
  rewrite[Q6 ?hc]
  case hc=>decide
  conv=>lhs;whnf
  rewrite[Qn]
  conv=>lhs;whnf
  rewrite[q]
  conv=>lhs;whnf
  rewrite[Q6 ?hc]
  case hc=>decide
  conv=>lhs;whnf
  exact i _ _ (λb=>⟨false,λK=>by kernel_rfl⟩)
def A73(hm:m.ok)(q:Sl T)(hr:PO (rt (L+20) (n+60)) JH [.agg r0.cs] (Bo false))(p:∃n cs,P=.list n cs)(j:∃n cs,nds=.list n cs)(t:LS (rt (L+20) (n+60)) Iz [P] (.tup [Bo true,I n2]))(hv:LS (rt (L+20) (n+60)) FZ [.agg (BL id (.list n2 c2) nds u)] (Bo true))(v:PO (rt (L+20) (n+60)) F3 [.agg (CN u)] (Bo true))(s:LS (rt (L+20) (n+60)) JJ [.agg (dJ ca cb T ra rb)] (Bo true)):
 CS (rt (L+20) (n+61)) F0 [.agg (E4 2 m u ca cb T ra rb P id (.list n2 c2) nds u r0 0)] (.tup [Bo true,Bo false]):=by
 intro K i;obtain⟨h1,h2,e,w,f,x,g,y,h,d⟩:=hm;obtain⟨n1,c1,rfl⟩:=p;obtain⟨A,c3,rfl⟩:=j;have hb:∀{z c hi:Int},c<=z->z<=hi->PO (rt (L+20) (n+60)) IZ [I z,I c,I hi] (Bo true):=λa b=>(Yp a b).o;rcases q with rfl|⟨B,c4,rfl⟩
 all_goals
  rewrite[JZ];unfold IV HX
  try rewrite[zO]
  try rewrite[bO]
  try rewrite[qO]
  try rewrite[cO]
  generalize rt (L+20) (n+60)=R at*
  conv=>lhs;whnf
  rewrite[XG ?hc]
  case hc=>decide
  conv=>lhs;whnf
  rewrite[v]
  conv=>lhs;whnf
  rewrite[(s) false _ _ ?hq]
  case hq=>exact λK=>by kernel_rfl
  conv=>lhs;whnf
  rewrite[hb h1 (by omega)]
  conv=>lhs;whnf
  rewrite[hb e (by omega)]
  conv=>lhs;whnf
  rewrite[hb f (by omega)]
  conv=>lhs;whnf
  rewrite[hb g (by omega)]
  conv=>lhs;whnf
  rewrite[hb h (by omega)]
  conv=>lhs;whnf
  rewrite[GJ]
  conv=>lhs;whnf
  rewrite[hr]
  conv=>lhs;whnf
  rewrite[show∀K,eEq J4 BinOp.neq (AV.agg [I r0.k,S r0.a1,S r0.a2,S r0.b1,S r0.b2,S r0.c1,S r0.c2,S r0.d1,S r0.d2]) (AV.agg [zI,zS,zS,zS,zS,zS,zS,zS,zS]) K=K (Bo false) from λK=>by rw[<-qO];kernel_rfl]
  conv=>lhs;whnf
  rewrite[B0E ?hc]
  case hc=>decide
  conv=>lhs;whnf
  rewrite[GJ]
  conv=>lhs;whnf
  rewrite[XG ?hc]
  case hc=>decide
  conv=>lhs;whnf
  rewrite[GJ]
  conv=>lhs;whnf
  rewrite[Q6 ?hc]
  case hc=>decide
  conv=>lhs;whnf
  rewrite[Qn]
  conv=>lhs;whnf
  rewrite[Qn]
  conv=>lhs;whnf
  rewrite[(t) false _ _ ?hq]
  case hq=>exact λK=>by kernel_rfl
  conv=>lhs;whnf
  rewrite[(hv) false _ _ ?hq]
  case hq=>exact λK=>by kernel_rfl
  conv=>lhs;whnf
  rewrite[Q6 ?hc]
  case hc=>rfl
  conv=>lhs;whnf
  rewrite[vI u]
  conv=>lhs;whnf
  exact i _ _ (λb=>⟨false,λK=>by kernel_rfl⟩)
def A72(hm:m.ok)(s:Sl T)(hr:PO (rt (L+20) (n+60)) JH [.agg r.cs] (Bo true))(c:1<=vd)(d:vd<=3)(q:∃n cs,P=.list n cs)(p:∃n cs,nds=.list n cs)(v:LS (rt (L+20) (n+60)) Iz [P] (.tup [Bo true,I n2]))(hv:LS (rt (L+20) (n+60)) FZ [.agg (BL id (.list n2 c2) nds u)] (Bo true))(w:PO (rt (L+20) (n+60)) F3 [.agg (CN u)] (Bo true))(t:LS (rt (L+20) (n+60)) JJ [.agg (dJ ca cb T ra rb)] (Bo true)):
 CS (rt (L+20) (n+61)) F0 [.agg (E4 3 m u ca cb T ra rb P id (.list n2 c2) nds u r vd)] (.tup [Bo true,Bo true]):=by
 intro K k;obtain⟨h1,h2,g,x,h,y,i,A,j,f⟩:=hm;obtain⟨n1,c1,rfl⟩:=q;obtain⟨B,c3,rfl⟩:=p;have hb:∀{z e hi:Int},e<=z->z<=hi->PO (rt (L+20) (n+60)) IZ [I z,I e,I hi] (Bo true):=λa b=>(Yp a b).o;rcases s with rfl|⟨C,c4,rfl⟩
 all_goals
  rewrite[JZ];unfold IV HX
  try rewrite[zO]
  try rewrite[bO]
  try rewrite[qO]
  try rewrite[cO]
  generalize rt (L+20) (n+60)=R at*
  conv=>lhs;whnf
  rewrite[Q6 ?hc]
  case hc=>decide
  conv=>lhs;whnf
  rewrite[w]
  conv=>lhs;whnf
  rewrite[(t) false _ _ ?hq]
  case hq=>exact λK=>by kernel_rfl
  conv=>lhs;whnf
  rewrite[hb h1 (by omega)]
  conv=>lhs;whnf
  rewrite[hb g (by omega)]
  conv=>lhs;whnf
  rewrite[hb h (by omega)]
  conv=>lhs;whnf
  rewrite[hb i (by omega)]
  conv=>lhs;whnf
  rewrite[hb j (by omega)]
  conv=>lhs;whnf
  rewrite[GJ]
  conv=>lhs;whnf
  rewrite[hr]
  conv=>lhs;whnf
  rewrite[hb c d]
  conv=>lhs;whnf
  rewrite[GJ]
  conv=>lhs;whnf
  rewrite[XG ?hc]
  case hc=>decide
  conv=>lhs;whnf
  rewrite[GJ]
  conv=>lhs;whnf
  rewrite[XG ?hc]
  case hc=>decide
  conv=>lhs;whnf
  rewrite[GJ]
  conv=>lhs;whnf
  rewrite[Q6 ?hc]
  case hc=>decide
  conv=>lhs;whnf
  rewrite[Qn]
  conv=>lhs;whnf
  rewrite[(v) false _ _ ?hq]
  case hq=>exact λK=>by kernel_rfl
  conv=>lhs;whnf
  rewrite[(hv) false _ _ ?hq]
  case hq=>exact λK=>by kernel_rfl
  conv=>lhs;whnf
  rewrite[Q6 ?hc]
  case hc=>rfl
  conv=>lhs;whnf
  rewrite[vI u]
  conv=>lhs;whnf
  exact k _ _ (λb=>⟨false,λK=>by kernel_rfl⟩)
end
end
section
variable{L n:Nat}
attribute [local irreducible] Aq rt oV eBi eEq cnd As XU A1
section
variable{m:ND}{u:UD}{ca cb ra rb:Ha}{T nds:AV}{kd id vd:Int}{r:RD}
def sK{n2:Nat}{c1 c2:Is}(d:Sl T)(c:∃n cs,nds=.list n cs)(e:LS (rt (L+20) (n+59)) JL [.list n2 c1] (Bo true))(hv:LS (rt (L+20) (n+59)) Gw [.agg (BL id (.list n2 c2) nds u)] (Bo true)):
 CS (rt (L+20) (n+60)) Hu [.agg (E4 kd m u ca cb T ra rb (.list n2 c1) id (.list n2 c2) nds u r vd)] (Bo true):=by
 intro K a;obtain⟨f,c3,rfl⟩:=c;rcases d with rfl|⟨g,c4,rfl⟩
 all_goals
  rewrite[SN];unfold JF HX
  try rewrite[zO]
  try rewrite[bO]
  try rewrite[qO]
  try rewrite[cO]
  generalize rt (L+20) (n+59)=R at*
  conv=>lhs;whnf
  rewrite[(e) false _ _ ?hq]
  case hq=>exact λK=>by kernel_rfl
  conv=>lhs;whnf
  rewrite[(hv) false _ _ ?hq]
  case hq=>exact λK=>by kernel_rfl
  conv=>lhs;whnf
  rewrite[Q6 ?hc]
  case hc=>rfl
  conv=>lhs;whnf
  rewrite[vI u]
  conv=>lhs;whnf
  exact a _ _ (λb=>⟨false,λK=>by kernel_rfl⟩)
end
end
section
variable{x y:Af}{a b:Int}{i:Nat}
variable{L n:Nat}
abbrev Ls(l:List Ha):AV:=.list l.length (A9 l)
def Nb{l:List Ha}{K:K2}:Bp Ab (Ls l) K=K (I l.length):=id rfl
def Th{l:List Ha}{K:K2}(h:i<l.length):D1 Ab (Ls l) (I i) K=K (.iptr [S l[i]]):=by
 rw[eV rfl (by simp[A9]) (by omega) (by omega),mI,Px h]
def KD{s:Ha}{H:Hp}{K:K2}:AE Ah (.iptr [S s]) H K=K (S s):=Ny rfl
def Dd{ty:TI}{K:K2}(h:i<1000000000):As ty .add (I i) (.v (.int .i64 1)) K=K (I ((i+1:Nat):Int)):=by
 rw[Dl,CX (by omega) (by omega),RU]
def FG{ty:TI}{K:K2}(h:a<b):As ty .lss (I a) (I b) K=K (Bo true):=by rw[Dk,GI h]
def FB{ty:TI}{K:K2}(h:¬a<b):As ty .lss (I a) (I b) K=K (Bo false):=by rw[Dk,HN h]
def Co:A1 (.v (.bool true)) x y=x:=id rfl
def Ba:A1 (.v (.bool false)) x y=y:=id rfl
def B6{v:AV}{H:Hp}{K:K2}:Au (some (v,H)) K=K v:=id rfl
section
variable{R:Rt}{K:KV}{ps:List Ha}{H:Hp}
def B9F{c:AV->AV->KV}(hi:i<ps.length)(hn:ps.Nodup)(hb:ps.length<100):∀(f j:Nat),j<=i->i-j<f->
 Mg (L+20) R K c f (Ls ps) (I i) (I j) H=c (Ls ps) (I i) (I i) H:=by
 intro f
 induction f with
 |zero=>intro j _ h;omega
 |succ f ih=>
  intro j k g;rw[RZ];unfold Mi Nc A2 Hv;by_cases h:j<i
  ·rw[FG (by omega),Co,Th (by omega),B6,KD,B6,Th hi,B6,KD,B6,Lb];have d:ps[j]≠ps[i]:=λe=>by
    have:=(List.getElem_inj (h₀:=by omega) (h₁:=hi) hn).1 e;omega
   rw[HN d,B6,Ba,Dd (by omega)];exact ih (j+1) (by omega) (by omega)
  ·rw[FB (by omega),Ba];have:j=i:=by omega
   rw[this]
def B9G{c:KV}(hn:ps.Nodup)(hb:ps.length<100)(g:ps.length<L+20)(e:∀s∈ps,s.length=32):∀(f i:Nat)(v:AV),i<=ps.length->ps.length-i<f->
 Mh (L+20) R K c f (Ls ps) (I i) v H=c (Ls ps) H:=by
 intro f
 induction f with
 |zero=>intro i v _ h;omega
 |succ f ih=>
  intro i v hi j;rw[Sa];unfold Mj HV A2 Hv;rw[Nb];by_cases h:i<ps.length
  ·rw[FG (by omega),Co];simp only[BH];rw[Th h,KD,Qf rfl,e _ (NT h),I6];rw[show(!decide (((32:Nat):Int)=32))=false from rfl,Ba];have d:(AV.v (.int .i64 0))=I ((0:Nat):Int):=rfl;rw[d,B9F h hn hb _ 0 (by omega) (by omega),Dd (by omega)];exact ih (i+1) _ (by omega) (by omega)
  ·rw[FB (by omega),Ba]
end
def yU{ps:List Ha}(hn:ps.Nodup)(h:1<=ps.length)(hb:ps.length<=6)(f:∀s∈ps,s.length=32):
 CS (r! L (n+1)) Iz [Ls ps] (.tup [Bo true,I ps.length]):=by
 intro K e;rw[TE];unfold MU Dm A2 Hv;simp only[BH];have d:(AV.v (.int .i64 0))=I ((0:Nat):Int):=rfl;rw[d,B9G hn (by omega) (by omega) f _ 0 _ (by omega) (by omega),Nb,KX,GI (by omega)];have g:∀(x:Bool->Af),gdV true (Bo true) x=x true:=λx=>id rfl;have c:∀{v:AV}{H:Hp}{K:KV},D6 (some (v,H)) K=K v H:=id rfl;simp only[g,c,Nb];rw[jL,GI (by omega)];exact e _ _ (λb=>⟨false,λK=>by kernel_rfl⟩)
end
section
variable{v:AV}{q0:Bool}{H H0:Hp}
variable{L n:Nat}
def AZ(l:List Ha):(A9 l).length=l.length:=by simp[A9]
def kR(a b:List Ha):A9 a++A9 b=A9 (a++b):=by simp[A9]
def A2r{l:List Ha}(b:Ha)(h:AU H Al 1 v l.length (A9 l))(w:Wf H)(hn:l.length<1000000000):
 ∃d a,(∀K:KV,(FV Al 1 Ah 1 [(0,1,S b)] H λv1 j=>Dy Al 1 Ah Ab v v1 j K)=K d a)/\AU a Al 1 d (l++[b]).length (A9 (l++[b]))/\Wf a/\Ar H<=Ar a/\(∀s x,Ai H s=some x->¬A4 v s->Ai a s=some x)/\(∀s,A4 d s->Ar H<=s):=by
 have i:AU ((Ar H,.cells false Al [S b])::H) Al 1 v l.length (A9 l):=h.lat w (Lat.cons H _ (λ_=>False)) (λ_ _ h=>h);have c:=NY (H:=H) (e:=Al) (n:=1) (cs:=[S b]) rfl;obtain⟨d,a,h1,h2,k,m⟩:=apt (ie:=Ah) (i2:=Ab) i (λK=>OT (K:=K) c) rfl rfl (by decide) rfl rfl (by show(l.length+1)*16<=_;omega) (by omega);have f:=(Lat.cons H (.cells false Al [S b]) (A4 v)).trans m (R:=A4 v) (λ_ _ h=>h) (λ_ _ h=>h);refine⟨d,a,λK=>?_,by rw[Ez,<-kR];exact h2,f.wf w,f.nx,λs x g hn=>f.keep w s x g hn,λs g=>?_⟩
 ·rw[nQ (z:=S []) (λ_=>rfl) (λ_=>rfl) rfl];exact h1 K
 ·rw[k s g];exact l1u _
def NU(c2 c6:AV)(p:Option (Option Code)):Row:=.loop 13 [(2,c2),(4,Av),(5,AV.dk),(6,c6),(7,AV.dk),(8,AV.dk),(9,AV.dk),(10,AV.dk),(11,AV.dk)] (Bt).2.1 (Bt).2.2.1 (Bt).2.2.2 p
structure Coll(H0:Hp)(r0 s:Nat)(q0:Bool)(e0:Nat)(c6:AV)(l:List Ha)(v:AV)(H:Hp):Prop where
 at_:Ai H r0=some (.cells q0 e0 [v])
 sl:AU H Al 1 v l.length (A9 l)
 lp:Ai H s=some (NU (.ptr r0 0 0) c6 (some none))
 new:∀u,A4 v u->u≠r0/\u≠s/\Ar H0<=u
 wf:Wf H
 keep:∀u y,Ai H0 u=some y->Ai H u=some y
 ne:r0≠s
 r0n:Ar H0<=r0
 sn:Ar H0<=s
 w0:Wf H0
variable{K:KV}{x:Af}
def B47{r0 s e0:Nat}{c6 v:AV}{l:List Ha}{b:Ha}(h:Coll H0 r0 s q0 e0 c6 l v H)(hn:l.length<1000000000)(Z:∀d j,Coll H0 r0 s q0 e0 c6 (l++[b]) d j->K (Bo true) j=x):Cw (E (L+20)) (r! L (n+1)) (.yl s) [S b] H K=x:=by
 show NV (r! L (n+1)) s [S b] H K=x;rw[Pq h.lp (by kernel_rfl)];have t:(r! L (n+1)).run= λR=>Pt (E (L+20)) (r! L n) R:=rfl;rw[t,HB,P0 h.lp];have O:=Bi (r:=s) (y:=NU (.ptr r0 0 0) c6 none) h.wf;have k:Ai (upd H s (NU (.ptr r0 0 0) c6 none)) r0=some (.cells q0 e0 [v]):=by rw[Ag h.ne];exact h.at_
 have J:Ai (upd H s (NU (.ptr r0 0 0) c6 none)) s=some (NU (.ptr r0 0 0) c6 none):=Fg h.lp;have N:AU (upd H s (NU (.ptr r0 0 0) c6 none)) Al 1 v l.length (A9 l):=h.sl.lat h.wf (Lat.upd H s _ (P:=λu=>u=s) rfl) (λu c=>(h.new u c).2.1);have D:∀u y,Ai H0 u=some y->Ai (upd H s (NU (.ptr r0 0 0) c6 none)) u=some y:=λu y c=>by
  have:=h.w0.lt c;rw[Ag (by have:=h.sn;omega)];exact h.keep u y c
 show AE Ab (.ptr r0 0 0) (upd H s (NU (.ptr r0 0 0) c6 none)) _=_;rw[AL (p:=0) rfl k (by simp)];show FV Al 1 Ah 1 [(0,1,S b)] (upd H s (NU (.ptr r0 0 0) c6 none)) (λQ A=>Dy Al 1 Ah Ab v Q A _)=_;obtain⟨d,j,h1,h2,B,h4,C,V⟩:=A2r b N O hn;rw[h1];have n0:¬A4 v r0:=λc=>(h.new r0 c).1 rfl;have ns:¬A4 v s:=λc=>(h.new s c).2.1 rfl;have m:=C r0 _ k n0;have M:=C s _ J ns;have f:B0 d=[d]/\AV.one d=true:=by
  rcases h2 with⟨rfl,_⟩|⟨a,b,rfl,_⟩<;>exact⟨rfl,rfl⟩
 rw[D5 (q:=q0) (e:=e0) (cs:=[v]) m (by simp) rfl f.1 f.2];have Y:Ar H0<=Ar H:=by have:=h.wf.lt h.at_;have:=h.r0n;omega
 have F:Ar (upd H s (NU (.ptr r0 0 0) c6 none))=Ar H:=B1 _ _ _;have i:∀u,A4 d u->u≠r0/\u≠s/\Ar H0<=u:=λu c=>by
  have a1:=V u c;rw[F]at a1;have a2:=h.wf.lt h.at_;have a3:=h.wf.lt h.lp;exact⟨by omega,by omega,by omega⟩
 have w:Ai (upd j r0 (.cells q0 e0 [d])) s=some (NU (.ptr r0 0 0) c6 none):=by rw[Ag h.ne.symm];exact M
 show EB (upd j r0 (.cells q0 e0 [d])) s false (some none) _=_;have g:=w;unfold NU at g;rw[Pz g];refine Z d _ ⟨?_,?_,?_,i,Bi (Bi B),λu y c=>?_,h.ne,h.r0n,h.sn,h.w0⟩
 ·rw[Ag h.ne];exact AC m
 ·have a:=h2.lat B (Lat.upd j r0 (.cells q0 e0 [d]) (P:=λu=>u=r0) rfl) (λu c=>(i u c).1);exact a.lat (Bi B) (Lat.upd _ s _ (P:=λu=>u=s) rfl) (λu c=>(i u c).2.1)
 ·exact Fg w
 ·have X:=h.w0.lt c;have b1:=h.r0n;have b2:=h.sn;rw[Ag (by omega),Ag (by omega)];refine C u y (D u y c) (λhv=>?_);have:=(h.new u hv).2.2;omega
def C1P{r0 s e0:Nat}{c6:AV}{k3:Ru}{ps:List Ha}(hn:ps.length<1000000000)(c:∀v H,Coll H0 r0 s q0 e0 c6 ps v H->k3 H=x):
 ∀(f i:Nat)(v:AV)(H:Hp),i<=ps.length->ps.length-i<f->Coll H0 r0 s q0 e0 c6 (ps.take i) v H->
  EJ (L+20) (r! L (n+1)) K k3 f (.yl s) (Ls ps) (I ps.length) (I i) H=x:=by
 intro f
 induction f with
 |zero=>intro i v H _ h;omega
 |succ f ih=>
  intro i v H hi e hc;rw[Le];unfold EK HV A2;by_cases h:i<ps.length
  ·rw[FG (by omega),Co,Th h,KD];refine B47 hc (by simp;omega) λd b a=>?_;rw[DR];show A1 (.v (.bool false)) _ _=_;rw[Ba,Dd (by omega)];rw[<-oJ h]at a;exact ih (i+1) d b (by omega) (by omega) a
  ·rw[FB (by omega),Ba];have:i=ps.length:=by omega
   rw[this,wC]at hc;exact c v H hc
structure NewSl(H0:Hp)(l:List Ha)(v:AV)(H:Hp):Prop where
 sl:AU H Al 1 v l.length (A9 l)
 new:∀u,A4 v u->Ar H0<=u
 wf:Wf H
 keep:∀u y,Ai H0 u=some y->Ai H u=some y
 nx:Ar H0<=Ar H
abbrev A9l(ps:List Ha):AV:=.fn (.func Ih) [] [.iptr [Ls ps]]
def A6S{ps:List Ha}(hn:ps.length<1000000000)(f:ps.length<L)(w:Wf H0)(e:∀v H,NewSl H0 ps v H->K v H=x):
 (r! L (n+4)).call EH [A9l ps] H0 K=x:=by
 rw[GG];unfold EG;rw[DB];unfold C6;simp only[BH];rw[nI (by rfl),A5q,L1];unfold EW A2;simp only[BH];have d:∀H K,AE Ab (.iptr [Ls ps]) H K=K (Ls ps):=λH K=>Ny rfl;rw[d,Nb];have e0:(AV.v (.int .i64 0))=I ((0:Nat):Int):=rfl;rw[e0];have w1:=AF (x:=.cells true A7 [Av]) w;have b:=Ax (H:=H0) (x:=.cells true A7 [Av]) (by simp);have c:Ar ((Ar H0,c_ A7 [Av])::H0)=Ar H0+1:=rfl;refine C1P (n:=n) (H0:=H0) (r0:=Ar H0) (s:=Ar H0+1) (q0:=true) (e0:=A7) (c6:=A9l ps) hn ?_ (L+20) 0 Av _ (by omega) (by omega) ⟨A6 (w1.lt b) b,.inl ⟨rfl,rfl,rfl⟩,Ax (H:=((Ar H0,c_ A7 [Av])::H0)) (x:=NU (.ptr (Ar H0) 0 0) (A9l ps) (some none)) (by simp[NU]),λu ⟨_,_,_,h⟩=>(by cases h),AF w1,λu y a=>?_,by omega,by omega,by omega,w⟩
 ·intro v H hc;rw[c,Bn hc.lp];show LJ H (Ar H0+1) .gone _=x;rw[Dg];have hr:Ai (upd H (Ar H0+1) .gone) (Ar H0)=some (c_ A7 [v]):=by rw[Ag (by omega)];exact hc.at_
  show AE Ab (.ptr (Ar H0) 0 0) (upd H (Ar H0+1) .gone) _=x;rw[AL (p:=0) rfl hr (by simp)];refine e _ _ ⟨?_,λu a=>(hc.new u a).2.2,Bi hc.wf,λu y a=>?_,?_⟩
  ·exact hc.sl.lat hc.wf (Lat.upd H _ _ (P:=λu=>u=Ar H0+1) rfl) (λu a=>(hc.new u a).2.1)
  ·have:=w.lt a;rw[Ag (by omega)];exact hc.keep u y a
  ·rw[B1];have:=hc.wf.lt hc.at_;omega
 ·have a1:=A6 (x:=.cells true A7 [Av]) (w.lt a) a;exact A6 (w1.lt a1) a1
def A8Q{ps:List Ha}(A:0<ps.length)(hn:ps.length<1000000000)(s:ps.length<L)(w:Wf H0)(t:∀v H,NewSl H0 (Et ps) v H->K v H=x):
 (r! L (n+5)).call En [A9l ps] H0 K=x:=by
 rw[Hn];unfold EX;refine A6S hn s w λv H b=>?_;have i:=(Bl ps).length_eq;rcases b.sl with⟨_,h,_⟩|⟨r,q,rfl,f,hc⟩
 ·omega
 ·have m:∀K,(r! L (n+4)).call AJ [.sl 1 r 0 ps.length] H K=TB [.sl 1 r 0 ps.length] H K (Zg (E (L+20)) (nT (L+20)) (r! L (n+3)) AJ [.sl 1 r 0 ps.length] H K):=λK=>rfl;rw[m];have e:∀(l:List Ha),Vf (A9 l)=some l:=λl=>by
   induction l with
   |nil=>rfl
   |cons a l ih=>show(Vf (A9 l)).map _=_;rw[ih];rfl
  have p:∀alt K,TB [.sl 1 r 0 ps.length] H K alt=Ey 0 (A9 (Et ps)) (A9 ps) λc=>LJ H r (.cells q Al c) λk=>K (.tup []) k:=λalt K=>by
   unfold TB;simp only[f,rC];rw[l25 (by rw[AZ];omega),e];have g:(Nat.beq ps.length ps.length&&(Nat.blt ps.length 4611686018427387904&&Nat.blt 0 ps.length))=true:=by simp;omega
   simp only[g];rfl
  rw[p,Ix _ _ _ _ (by rw[AZ,AZ];omega),VY _ _ (by rw[AZ,AZ];exact i),Dg];refine t _ _ ⟨.inr ⟨r,q,by rw[i],AC f,by rw[AZ];omega⟩,λu ⟨_,_,_,d⟩=>?_,Bi b.wf,λu y j=>?_,by rw[B1];exact b.nx⟩
  ·injection d with _ d
   subst d;exact b.new r ⟨1,0,ps.length,rfl⟩
  ·have a1:=w.lt j;have a2:=b.new r ⟨1,0,ps.length,rfl⟩;rw[Ag (by omega)];exact b.keep u y j
end
section
variable{a:AV}{H:Hp}{es:IH}{m s:Nat}
variable{L n:Nat}
def Wa{R:Rt}{m g:Nat}{cap:Is}{t:Tm}{ps:Array Tmp}{f d:Code}{K:Option (Option Code)->Ru}:
 oY R m (.fn (.func g) [] cap) t ps f d H K=R.call g (.yl (Ar H)::cap) ((Ar H,.loop m t ps f d (some none))::H) λ_ c=>IQ c (Ar H) λx=>dI x λ_ _ _ _ _ b=>LJ c (Ar H) .gone λh=>K b h:=by
 have e:oY R m (.fn (.func g) [] cap) t ps f d H K=It H λs=>YX [] (.yl s::cap) λall=>R.call g all ((s,.loop m t ps f d (some none))::H) λ_ c=>IQ c s λx=>dI x λ_ _ _ _ _ b=>LJ c s .gone λh=>K b h:=rfl;rw[e,Ca,MZ];rfl
def Xr{K:KV}:Xs (.imap es) H K=K (.it (Ar H)) ((Ar H,.iter es none)::H):=by
 have e:Xs (.imap es) H K=It H λs=>K (.it s) ((s,.iter es none)::H):=rfl;rw[e,Ca]
def A7N{e:Value×AV}{o:Option (Value×AV)}{K:KV}(h:Ai H s=some (.iter (e::es) o)):
 Za (.it s) H K=Um (λe rest=>LJ H s (.iter rest (some e)) λb=>K (.tup [.v (.bool true),tQ e.1,e.2]) b) (e::es) []:=by
 have c:Za (.it s) H K=IQ H s λx=>A5R x λl=>@List.rec (Value×AV) (λ_=>Af) (K (.tup [.v (.bool false)]) H)
  (λ_ _ _=>Um (λe rest=>LJ H s (.iter rest (some e)) λb=>K (.tup [.v (.bool true),tQ e.1,e.2]) b) l []) l:=rfl
 rw[c,Bn h];rfl
def B1A{o:Option (Value×AV)}{K:KV}(h:Ai H s=some (.iter [] o)):Za (.it s) H K=K (.tup [.v (.bool false)]) H:=by
 have c:Za (.it s) H K=IQ H s λx=>A5R x λl=>@List.rec (Value×AV) (λ_=>Af) (K (.tup [.v (.bool false)]) H)
  (λ_ _ _=>Um (λe rest=>LJ H s (.iter rest (some e)) λb=>K (.tup [.v (.bool true),tQ e.1,e.2]) b) l []) l:=rfl
 rw[c,Bn h];rfl
def NK{p:Value×AV}{K:K2}(h:Ai H s=some (.iter es (some p))):dB (.it s) H K=K (.tup [tQ p.1,p.2]):=by
 have b:dB (.it s) H K=IQ H s λx=>B0Q x λp=>K (.tup [tQ p.1,p.2]):=rfl;rw[b,Bn h];rfl
def Gz{l:Is}{K:K2}:CV (.tup (a::l)) 0 K=K a:=id rfl
def UJ{a b:AV}{l:Is}{K:K2}:CV (.tup (a::b::l)) 1 K=K b:=id rfl
def A66{c:Option (Hb×Nat)}{K:KV}(d:Ai H m=some (.map false es c))(hc:es.all (λp=>eW 3 p.2)=true):Xs (.mp m) H K=K (.it (Ar H)) ((Ar H,.iter es none)::upd H m .gone):=by
 have e:Xs (.mp m) H K=IQ H m λx=>mH x λes _=>ck (es.all λp=>eW 3 p.2) (LJ H m .gone λb=>It b λt=>K (.it t) ((t,.iter es none)::b)):=rfl;rw[e,Bn d];show ck (es.all λp=>eW 3 p.2) _=_;rw[hc];show LJ H m .gone _=_;rw[Dg,Ca,B1]
def A7c{F:Value×AV->IH->Af}{v:AV}(hv:VQ 6 v v=true):∀(l pre:IH),l≠[]->(∀l1 e l2,l=l1++e::l2->F e (pre++(l1++l2))=some (v,[]))->Um F l pre=some (v,[]):=by
 intro l
 induction l with
 |nil=>intro _ h;exact absurd rfl h
 |cons e l ih=>
  intro pre _ h;have b:=h [] e l rfl;rw[l3b]at b;cases l with
  |nil=>rw[tN];rw[US]at b;exact b
  |cons f l=>
   rw[oD,b,ih (pre++[e]) (by simp) λl1 c l2 d=>?_]
   ·show(match VQ 6 v v with|true=>some (v,[])|false=>none)=_;rw[hv]
   ·have:=h (e::l1) c l2 (by rw[d];rfl);rw[eK];exact this
def Y0{α:Type}{f:α->AV}{es:List (Ha×α)}{it:Nat}{o:Option (Value×AV)}{w:AV}{K:KV}(u:VQ 6 w w=true)(d:Ai H it=some (.iter (es.map λe=>(.string ⟨⟨e.1⟩⟩,f e.2)) o))(i:es=[]->K (.tup [.v (.bool false)]) H=some (w,[]))(h1:∀a e b,es=a++e::b->K (.tup [.v (.bool true),S e.1,f e.2]) (upd H it (.iter ((a++b).map λe=>(.string ⟨⟨e.1⟩⟩,f e.2)) (some (.string ⟨⟨e.1⟩⟩,f e.2))))=some (w,[])):Za (.it it) H K=some (w,[]):=by
 cases es with
 |nil=>rw[B1A d];exact i rfl
 |cons e es=>
  rw[XC]at d;rw[A7N d];refine A7c u _ [] (by simp) λx p y h=>?_;rw[<-XC (f:=λe:Ha×α=>((Value.string ⟨⟨e.1⟩⟩:Value),f e.2))]at h;obtain⟨a,c,h2,j,k⟩:=List.map_eq_append_iff.1 h;obtain⟨g,b,q,r,t⟩:=List.map_eq_cons_iff.1 k;subst q j r t;rw[Dg,l3b,<-XS];exact h1 a g b h2
end
section
variable{α:Type}
structure Ce(κ:Type) where
 real:Bool
 ps:List κ
section
variable{κ:Type}[DecidableEq κ]{g:List (κ×Ce κ)}
def MG:List (κ×α)->κ->Option α
 |[],_=>none
 |e::g,x=>if e.1=x then some e.2 else MG g x
def A7H{p q:α->Bool}{l:List α}(h:∀a∈l,p a=true->q a=true){a:α}(d:a∈l)(h1:q a=true)(h2:p a=false):(l.filter p).length<(l.filter q).length:=by
 induction l with
 |nil=>cases d
 |cons b l ih=>
  have mono:∀l:List α,(∀a∈l,p a=true->q a=true)->(l.filter p).length<=(l.filter q).length:=by
   intro l
   induction l with
   |nil=>intro _;simp
   |cons c l ih=>
    intro h;have:=ih λa d=>h a (by simp[d]);rw[l2m,l2m];have e:=h c (by simp);cases f:p c<;>cases hq:q c<;>simp_all<;>omega
  have i:=mono l λa d=>h a (by simp[d]);rw[l2m,l2m];rcases Xd.1 d with rfl|d
  ·rw[h1,h2];simp;omega
  ·have:=ih (λa d=>h a (by simp[d])) d;have e:=h b (by simp);cases f:p b<;>cases hq:q b<;>simp_all<;>omega
def Ml(b:List (κ×α))(x:κ)(v:α):List (κ×α):=match b with
 |[]=>[(x,v)]
 |e::b=>if e.1=x then(e.1,v)::b else e::Ml b x v
def iY{b:List (κ×α)}{x y:κ}{v:α}:MG (Ml b x v) y=if x=y then some v else MG b y:=by
 induction b with
 |nil=>rfl
 |cons e b ih=>
  unfold Ml;by_cases h:e.1=x
  ·rw[Dr h];simp only[MG];subst h;by_cases h1:e.1=y<;>simp[h1]
  ·rw[CD h];simp only[MG,ih];by_cases h1:x=y
   ·subst h1;simp[h]
   ·simp[h1]
end
end
section
variable{m:AV}{r:Nat}{ie:TI}
abbrev SV(s:Ha):Value:=.string ⟨⟨s⟩⟩
section
variable{α:Type}{f:α->AV}{b:List (Ha×α)}{x:Ha}{H:Hp}
abbrev Df(f:α->AV)(b:List (Ha×α)):IH:=b.map λe=>(SV e.1,f e.2)
def YW(x:Ha):List (Ha×α)->Nat->Option (Nat×α)
 |[],_=>none
 |e::b,i=>if e.1=x then some (i,e.2) else YW x b (i+1)
def Z6{e:Ha×α}{i:Nat}:YW x (e::b) i=if e.1=x then some (i,e.2) else YW x b (i+1):=rfl
def C3b{s u:Ha}:keq (SV s) (SV u)=some (decide (u=s)):=by
 show some (eqB s u)=_;rw[QZ];by_cases h:s=u
 ·subst h;simp
 ·simp[h,Ne.symm h]
def B0U:∀(b:List (Ha×α))(i:Nat),iK (SV x) (Df f b) i=some ((YW x b i).map λp=>(p.1,f p.2)):=by
 intro b
 induction b with
 |nil=>intro i;rfl
 |cons e b ih=>
  intro i;show iK (SV x) ((SV e.1,f e.2)::Df f b) i=_;rw[eM,C3b,ih,Z6];by_cases h:e.1=x
  ·simp[h]
  ·simp[h]
def A1M:∀(b:List (Ha×α))(i:Nat),(YW x b i).map (·.2)=MG b x:=by
 intro b
 induction b with
 |nil=>intro i;rfl
 |cons e b ih=>
  intro i;rw[Z6];unfold MG;by_cases h:e.1=x
  ·simp[h]
  ·simp[h,ih]
def A1L(v:α):∀(b:List (Ha×α))(i:Nat),(match YW x b i with|none=>b++[(x,v)]|some (j,_)=>b.set (j-i) (x,v))=Ml b x v/\(∀j w,YW x b i=some (j,w)->i<=j):=by
 intro b
 induction b with
 |nil=>intro i;exact⟨rfl,λj w h=>by cases h⟩
 |cons e b ih=>
  intro i;rw[Z6];unfold Ml;by_cases h:e.1=x
  ·refine⟨?_,λj w a=>?_⟩
   ·simp[h]
   ·simp[h]at a;omega
  ·obtain⟨h1,h2⟩:=ih (i+1);refine⟨?_,λj w a=>?_⟩
   ·rw[CD h,CD h,<-h1];cases d:YW x b (i+1) with
    |none=>rfl
    |some p=>
     obtain⟨j,w⟩:=p;have:=h2 j w d;have c:j-i=(j-(i+1))+1:=by omega
     simp only[c,List.set_cons_succ]
   ·rw[CD h]at a;have:=h2 j w a;omega
def Z8{es:IH}{a:Option (Hb×Nat)}{K:IH->Af}(h:Ai H r=some (.map false es a)):xY (.mp r) H K=K es:=by
 show IQ H r _=_;rw[Bn h];rfl
def kfK{K:Option (Nat×AV)->Af}:IC (SV x) (Df f b) K=K ((YW x b 0).map λp=>(p.1,f p.2)):=by
 unfold IC;rw[B0U]
theorem A4p{K:K2}(h:∀K,xY m H K=K (Df f b)):ZB ie true m (SV x) H K=match MG b x with
 |some v=>K (.tup [f v,Bo true])
 |none=>K (.tup [ie.zero,Bo false]):=by
 unfold ZB;rw[h,kfK,<-A1M b 0];cases YW x b 0<;>rfl
theorem rJ{K:K2}(h:∀K,xY m H K=K (Df f b)):ZB ie false m (SV x) H K=match MG b x with
 |some v=>K (f v)
 |none=>K ie.zero:=by
 unfold ZB;rw[h,kfK,<-A1M b 0];cases YW x b 0<;>rfl
def jE{v:α}{K:Ru}(h:Ai H r=some (.map false (Df f b) none)):MC (.mp r) (SV x) (f v) H K=K (upd H r (.map false (Df f (Ml b x v)) none)):=by
 have e:MC (.mp r) (SV x) (f v) H K=IQ H r λy=>mH y λa c=>IC (SV x) a λq=>match q with
  |none=>LJ H r (.map false (a++[(SV x,f v)]) (vR c)) K
  |some (i,_)=>LJ H r (.map false (a.set i (SV x,f v)) c) K:=rfl
 rw[e,Bn h];show IC (SV x) (Df f b) _=_;rw[kfK];obtain⟨h1,h2⟩:=A1L (x:=x) v b 0;cases d:YW x b 0 with
 |none=>
  rw[d]at h1;show LJ H r (.map false (Df f b++[(SV x,f v)]) none) K=_;rw[Dg,<-h1,Df,Df,XS];rfl
 |some p=>
  obtain⟨j,w⟩:=p;rw[d]at h1;show LJ H r (.map false ((Df f b).set j (SV x,f v)) none) K=_;rw[Dg,<-h1,Df,Df,List.map_set,Nat.sub_zero]
end
end
section
variable{v:AV}{q0:Bool}{H:Hp}{ks:List Ha}
variable{L n:Nat}
abbrev uS:Unit->AV:=λ_=>.agg []
section
variable{K:KV}{x:Af}
def L'{H0 H:Hp}{r0 s e0:Nat}{c6 v:AV}{l:List Ha}{b:Ha}(h:Coll H0 r0 s q0 e0 c6 l v H)(hn:l.length<1000000000)(hx:∀d f,Coll H0 r0 s q0 e0 c6 (l++[b]) d f->(∀u y,u≠r0->u≠s->¬A4 v u->Ai H u=some y->Ai f u=some y)->(∀u,A4 d u->Ar H<=u)->K (Bo true) f=x):Cw (E (L+20)) (r! L (n+1)) (.yl s) [S b] H K=x:=by
 show NV (r! L (n+1)) s [S b] H K=x;rw[Pq h.lp (by kernel_rfl)];have C:(r! L (n+1)).run= λV=>Pt (E (L+20)) (r! L n) V:=rfl;rw[C,HB,P0 h.lp];have Q:=Bi (r:=s) (y:=NU (.ptr r0 0 0) c6 none) h.wf;have A:Ai (upd H s (NU (.ptr r0 0 0) c6 none)) r0=some (.cells q0 e0 [v]):=by rw[Ag h.ne];exact h.at_
 have M:Ai (upd H s (NU (.ptr r0 0 0) c6 none)) s=some (NU (.ptr r0 0 0) c6 none):=Fg h.lp;have O:AU (upd H s (NU (.ptr r0 0 0) c6 none)) Al 1 v l.length (A9 l):=h.sl.lat h.wf (Lat.upd H s _ (P:=λu=>u=s) rfl) (λu c=>(h.new u c).2.1);show AE Ab (.ptr r0 0 0) (upd H s (NU (.ptr r0 0 0) c6 none)) _=_;rw[AL (p:=0) rfl A (by simp)];show FV Al 1 Ah 1 [(0,1,S b)] (upd H s (NU (.ptr r0 0 0) c6 none)) (λR F=>Dy Al 1 Ah Ab v R F _)=_;obtain⟨d,f,h1,h2,t,h4,J,X⟩:=A2r b O Q hn;rw[h1];have n0:¬A4 v r0:=λc=>(h.new r0 c).1 rfl;have ns:¬A4 v s:=λc=>(h.new s c).2.1 rfl;have B:=J r0 _ A n0;have N:=J s _ M ns;have i:B0 d=[d]/\AV.one d=true:=by
  rcases h2 with⟨rfl,_⟩|⟨a,b,rfl,_⟩<;>exact⟨rfl,rfl⟩
 rw[D5 (q:=q0) (e:=e0) (cs:=[v]) B (by simp) rfl i.1 i.2];have aa:Ar H0<=Ar H:=by have:=h.wf.lt h.at_;have:=h.r0n;omega
 have Z:Ar (upd H s (NU (.ptr r0 0 0) c6 none))=Ar H:=B1 _ _ _;have g:∀u,A4 d u->Ar H<=u:=λu c=>by have:=X u c;omega
 have k:∀u,A4 d u->u≠r0/\u≠s/\Ar H0<=u:=λu c=>by
  have a1:=g u c;have a2:=h.wf.lt h.at_;have a3:=h.wf.lt h.lp;exact⟨by omega,by omega,by omega⟩
 have D:Ai (upd f r0 (.cells q0 e0 [d])) s=some (NU (.ptr r0 0 0) c6 none):=by rw[Ag h.ne.symm];exact N
 show EB (upd f r0 (.cells q0 e0 [d])) s false (some none) _=_;have j:=D;unfold NU at j;rw[Pz j];have kp:∀u y,u≠r0->u≠s->¬A4 v u->Ai H u=some y->Ai (upd (upd f r0 (.cells q0 e0 [d])) s (NU (.ptr r0 0 0) c6 (some none))) u=some y:=λu y h1 h2 t c=>by
  rw[Ag h2,Ag h1];exact J u y (by rw[Ag h2];exact c) t
 refine hx d _ ⟨?_,?_,?_,k,Bi (Bi t),λu y c=>?_,h.ne,h.r0n,h.sn,h.w0⟩ kp g
 ·rw[Ag h.ne];exact AC B
 ·have a:=h2.lat t (Lat.upd f r0 (.cells q0 e0 [d]) (P:=λu=>u=r0) rfl) (λu c=>(k u c).1);exact a.lat (Bi t) (Lat.upd _ s _ (P:=λu=>u=s) rfl) (λu c=>(k u c).2.1)
 ·exact Fg D
 ·have Y:=h.w0.lt c;have b1:=h.r0n;have b2:=h.sn;exact kp u y (by omega) (by omega) (λhv=>by have:=(h.new u hv).2.2;omega) (h.keep u y c)
theorem Coll.it{H0 H:Hp}{r0 s e0 it:Nat}{q0:Bool}{c6 v:AV}{l:List Ha}(h:Coll H0 r0 s q0 e0 c6 l v H)(y:Row)(h1:it≠r0/\it≠s/\Ar H0<=it)(h2:¬A4 v it):Coll H0 r0 s q0 e0 c6 l v (upd H it y):=
 ⟨by rw[Ag h1.1.symm];exact h.at_,h.sl.lat h.wf (Lat.upd H it y (P:=λu=>u=it) rfl) (λu a e=>h2 (e▸a)),by rw[Ag h1.2.1.symm];exact h.lp,h.new,Bi h.wf,λu z a=>by rw[Ag (by have:=h.w0.lt a;omega)];exact h.keep u z a,h.ne,h.r0n,h.sn,h.w0⟩
def LG{r:Nat}{x:Row}{es:IH}{o:Option (Value×AV)}(h:Ai H r=some x):Ai (upd H r (.iter es o)) r=some (.iter es o):=(BF h).trans rfl
def B4Z{H0:Hp}{r0 s e0 it:Nat}{c6 w:AV}{t:Ru}(M:VQ 6 w w=true)(r:ks.length<1000000)(i:∀l v H,l.Perm ks->(l=[]->v=Av)->Coll H0 r0 s q0 e0 c6 l v H->t H=some (w,[]))(c:it≠r0/\it≠s/\Ar H0<=it):
 ∀(f:Nat)(es:List (Ha×Unit))(l:List Ha)(v:AV)(H:Hp)(o:Option (Value×AV)),es.length<f->(l++es.map Prod.fst).Perm ks->(l=[]->v=Av)->Coll H0 r0 s q0 e0 c6 l v H->¬A4 v it->Ai H it=some (.iter (Df uS es) o)->
 D7 (L+20) (r! L (n+1)) K t f (.yl s) (.it it) H=some (w,[]):=by
 intro f
 induction f with
 |zero=>intro es l v H o h;omega
 |succ f ih=>
  intro es l v H o D p C hc hv q;rw[Jl];unfold D8;refine Y0 (f:=uS) M q (λe=>?_) (λa e b he=>?_)
  ·subst e;rw[Gz,Ba];exact i l v H (by simpa using p) C hc
  ·subst he;have g:=hc.it (.iter (Df uS (a++b)) (some (.string ⟨⟨e.1⟩⟩,uS e.2))) c hv;have d:=LG (es:=Df uS (a++b)) (o:=some (.string ⟨⟨e.1⟩⟩,uS e.2)) q;have k:(l++(a++e::b).map Prod.fst).length=ks.length:=p.length_eq;simp at k;have y:tQ (.string ⟨⟨e.1⟩⟩)=S e.1:=rfl;rw[Gz,Co,NK d,Gz,y];refine L' g (by omega) λN u j F hr=>?_;rw[DR];show A1 (.v (.bool false)) _ _=_;rw[Ba];refine ih (a++b) (l++[e.1]) N u _ (by simp at D⊢;omega) ?_ (by simp) j (λJ=>?_) (F it _ c.1 c.2.1 hv d)
   ·refine List.Perm.trans ?_ p;simp only[XS,XC,eK];refine List.Perm.append_left l ?_;show(e.1::(a.map Prod.fst++b.map Prod.fst)).Perm _;exact List.perm_middle.symm
   ·have A:=hr it J;have B:=g.wf.lt d;rw[B1]at A B;omega
end
abbrev mK(c:AV):AV:=.fn (.func FD) [] [c]
section
variable{K:KV}{w:AV}{H0:Hp}{m rb:Nat}{es:List (Ha×Unit)}
def C1W(es:List (Ha×Unit)):(Df uS es).all (λp=>eW 3 p.2)=true:=by
 rw[G9];intro p a;obtain⟨e,_,rfl⟩:=PW.1 a;rfl
def A3a(N:VQ 6 w w=true)(hn:es.length<1000000)(R:es.length<L)(wf:Wf H0)(hb:Ai H0 rb=some (c_ CP [.mp m]))(hm:Ai H0 m=some (.map false (Df uS es) none))(O:∀l v H,l.Perm (es.map Prod.fst)->(l=[]->v=Av)->NewSl (upd H0 m .gone) l v H->K v H=some (w,[])):
 (r! L (n+4)).call EH [mK (.ptr rb 0 0)] H0 K=some (w,[]):=by
 rw[GG];unfold EG;rw[DB];unfold C6;simp only[BH];rw[nI (by rfl),Wa,Jv];unfold DH;simp only[BH];have w1:=AF (x:=.cells true A7 [Av]) wf;have g:=Ax (H:=H0) (x:=.cells true A7 [Av]) (by simp);have J:Ar ((Ar H0,c_ A7 [Av])::H0)=Ar H0+1:=rfl;have A:Wf ((Ar H0+1,NU (.ptr (Ar H0) 0 0) (mK (.ptr rb 0 0)) (some none))::(Ar H0,c_ A7 [Av])::H0):=AF (x:=NU (.ptr (Ar H0) 0 0) (mK (.ptr rb 0 0)) (some none)) w1;have k:Ai ((Ar H0+1,NU (.ptr (Ar H0) 0 0) (mK (.ptr rb 0 0)) (some none))::(Ar H0,c_ A7 [Av])::H0) (Ar H0+1)=some (NU (.ptr (Ar H0) 0 0) (mK (.ptr rb 0 0)) (some none)):=Ax (H:=((Ar H0,c_ A7 [Av])::H0)) (x:=NU (.ptr (Ar H0) 0 0) (mK (.ptr rb 0 0)) (some none)) (by simp[NU]);have ol:∀u y,Ai H0 u=some y->Ai ((Ar H0+1,NU (.ptr (Ar H0) 0 0) (mK (.ptr rb 0 0)) (some none))::(Ar H0,c_ A7 [Av])::H0) u=some y:=λu y c=>by
  have a1:=A6 (x:=.cells true A7 [Av]) (wf.lt c) c;exact A6 (w1.lt a1) a1
 show AE CI (.ptr rb 0 0) ((Ar H0+1,NU (.ptr (Ar H0) 0 0) (mK (.ptr rb 0 0)) (some none))::(Ar H0,c_ A7 [Av])::H0) _=_;rw[AL (p:=0) rfl (ol _ _ hb) (by simp)];show Xs (.mp m) ((Ar H0+1,NU (.ptr (Ar H0) 0 0) (mK (.ptr rb 0 0)) (some none))::(Ar H0,c_ A7 [Av])::H0) _=_;rw[A66 (ol _ _ hm) (C1W es)];have mlt:=wf.lt hm;have D:Wf (upd H0 m .gone):=Bi wf;have j:Ai ((Ar H0+1,NU (.ptr (Ar H0) 0 0) (mK (.ptr rb 0 0)) (some none))::(Ar H0,c_ A7 [Av])::H0) (Ar H0)=some (c_ A7 [Av]):=A6 (w1.lt g) g;generalize q:((Ar H0+1,NU (.ptr (Ar H0) 0 0) (mK (.ptr rb 0 0)) (some none))::(Ar H0,c_ A7 [Av])::H0:Hp)=d at A k ol j;have i:Ar d=Ar H0+2:=by rw[<-q];rfl
 have B:Wf (upd d m .gone):=Bi A;have r:Ar (upd d m .gone)=Ar H0+2:=by rw[B1,i]
 have C:=AF (x:=.iter (Df uS es) none) B;have up:∀u y,u≠m->Ai d u=some y->Ai ((Ar d,Row.iter (Df uS es) none)::upd d m .gone) u=some y:=λu y c Q=>by
  have a:Ai (upd d m .gone) u=some y:=by rw[Ag c];exact Q
  have b:=A6 (x:=.iter (Df uS es) none) (B.lt a) a;rw[r,<-i]at b;exact b
 have t:Ai ((Ar d,Row.iter (Df uS es) none)::upd d m .gone) (Ar d)=some (.iter (Df uS es) none):=by
  have:=Ax (H:=upd d m .gone) (x:=.iter (Df uS es) none) (by simp);rw[B1]at this;exact this
 rw[B1]at C;refine B4Z (n:=n) (H0:=upd H0 m .gone) (r0:=Ar H0) (s:=Ar H0+1) (it:=Ar d) (q0:=true) (e0:=A7) (c6:=mK (.ptr rb 0 0)) (ks:=es.map Prod.fst) N (by simpa using hn) ?_ (by rw[B1];omega) (L+20) es [] Av _ none (by omega) (by simp) (λ_=>rfl)
  ⟨up _ _ (by omega) j,.inl ⟨rfl,rfl,rfl⟩,up _ _ (by omega) k,λu ⟨_,_,_,h⟩=>(by cases h),C,λu y c=>?_,by omega,by rw[B1];omega,by rw[B1];omega,D⟩ (λ⟨_,_,_,h⟩=>(by cases h)) t
 ·intro l v H M F hc;show IQ H (Ar H0+1) _=_;rw[Bn hc.lp];show LJ H (Ar H0+1) .gone _=_;rw[Dg];have hr:Ai (upd H (Ar H0+1) .gone) (Ar H0)=some (c_ A7 [v]):=by rw[Ag (by omega)];exact hc.at_
  show AE Ab (.ptr (Ar H0) 0 0) (upd H (Ar H0+1) .gone) _=_;rw[AL (p:=0) rfl hr (by simp)];refine O _ _ _ M F ⟨?_,λu c=>(hc.new u c).2.2,Bi hc.wf,λu y c=>?_,?_⟩
  ·exact hc.sl.lat hc.wf (Lat.upd H _ _ (P:=λu=>u=Ar H0+1) rfl) (λu c=>(hc.new u c).2.1)
  ·have:=D.lt c;rw[B1]at this;rw[Ag (by omega)];exact hc.keep u y c
  ·rw[B1,B1];have:=hc.wf.lt hc.at_;omega
 ·have f:u≠m:=λe=>by
   subst e;rw[BF hm]at c;cases c
  rw[Ag f]at c;exact up u y f (ol u y c)
def A30{x:Af}{ps:List Ha}(wf:Wf H0)(hn:ps.length<1000000000)(C:ps=[]->v=Av)(c:NewSl H0 ps v H)(t:∀d,NewSl H0 (Et ps) v d->K (.tup []) d=x):
 (r! L (n+4)).call AJ [v] H K=x:=by
 by_cases b:ps=[]
 ·subst b;obtain rfl:=C rfl;have e:(r! L (n+4)).call AJ [Av] H K=K (.tup []) H:=by kernel_rfl
  rw[e];exact t H c
 have p:=(Bl ps).length_eq;rcases c.sl with⟨_,h,_⟩|⟨r,q,rfl,k,hc⟩
 ·exact absurd (kC h) b
 ·have A:∀K,(r! L (n+4)).call AJ [.sl 1 r 0 ps.length] H K=TB [.sl 1 r 0 ps.length] H K (Zg (E (L+20)) (nT (L+20)) (r! L (n+3)) AJ [.sl 1 r 0 ps.length] H K):=λK=>rfl;rw[A];have j:∀(l:List Ha),Vf (A9 l)=some l:=λl=>by
   induction l with
   |nil=>rfl
   |cons a l ih=>show(Vf (A9 l)).map _=_;rw[ih];rfl
  have s:0<ps.length:=List.length_pos_iff.2 b;have B:∀alt K,TB [.sl 1 r 0 ps.length] H K alt=Ey 0 (A9 (Et ps)) (A9 ps) λi=>LJ H r (.cells q Al i) λd=>K (.tup []) d:=λalt K=>by
   unfold TB;simp only[k,rC];rw[l25 (by rw[AZ];omega),j];have g:(Nat.beq ps.length ps.length&&(Nat.blt ps.length 4611686018427387904&&Nat.blt 0 ps.length))=true:=by simp;omega
   simp only[g];rfl
  rw[B,Ix _ _ _ _ (by rw[AZ,AZ];omega),VY _ _ (by rw[AZ,AZ];exact p),Dg];refine t _ ⟨.inr ⟨r,q,by rw[p],AC k,by rw[AZ];omega⟩,λu f=>c.new u f,Bi c.wf,λu y f=>?_,by rw[B1];exact c.nx⟩;have a1:=wf.lt f;have a2:=c.new r ⟨1,0,ps.length,rfl⟩;rw[Ag (by omega)];exact c.keep u y f
def B1T{ty m:Nat}:GZ ty (.mp m) H K=K (.ptr (Ar H) 0 0) ((Ar H,c_ ty [.mp m])::H):=by
 unfold GZ;rw[CM,FN,Ca];rfl
def oA(q:VQ 6 w w=true)(hn:es.length<1000000)(j:es.length<L)(wf:Wf H0)(hm:Ai H0 m=some (.map false (Df uS es) none))(f:(es.map Prod.fst).Perm ks)(p:ks.Pairwise (· <= ·))(r:∀v H,AU H Al 1 v ks.length (A9 ks)->(ks=[]->v=Av)->K v H=some (w,[])):(r! L (n+6)).call KA [.mp m] H0 K=some (w,[]):=by
 rw[YL];unfold Nu;rw[K5];unfold E9 HX;have i:∀{K:KV},GZ CP (.mp m) H0 K=K (.ptr (Ar H0) 0 0) ((Ar H0,c_ CP [.mp m])::H0):=λ{K}=>B1T;rw[i];show(r! L (n+5)).call En [mK (.ptr (Ar H0) 0 0)] ((Ar H0,c_ CP [.mp m])::H0) _=_;rw[Hn];unfold EX;have w1:=AF (x:=.cells true CP [.mp m]) wf;have hb:=Ax (H:=H0) (x:=.cells true CP [.mp m]) (by simp);have b:=A6 (x:=.cells true CP [.mp m]) (wf.lt hm) hm;refine A3a (n:=n) q hn j w1 hb b λl v H c d hc=>?_;have e:Et l=ks:=II ((Bl l).trans (c.trans f)) (DM l) p;have k:l.length=es.length:=by rw[c.length_eq,Po]
 refine A30 (n:=n) (Bi w1) (by omega) d hc λg a=>?_;rw[e]at a;refine r v g a.sl λh=>d ?_;have:=(c.trans f).length_eq;rw[h]at this;exact kC this
end
end
section
variable{q:Bool}{H:Hp}{e i r:Nat}{R:Rt}
variable{L n:Nat}{K:KV}{x:Af}
def gF{ty:TI}{K:K2}(a:0<i)(h:i<1000000000):As ty .sub (I i) (.v (.int .i64 1)) K=K (I ((i-1:Nat):Int)):=by
 rw[J6,CX (by omega) (by omega)];have:(i:Int)-1=((i-1:Nat):Int):=by omega
 rw[this]
def V_{l:List Ha}{K:K2}(a:Ai H r=some (.cells q e (A9 l)))(h:i<l.length):AE Ah (.ptr r i 0) H K=K (S l[i]):=by
 rw[AL (p:=i) rfl a (by rw[AZ];exact h),Px h]
def RA{r i m:Nat}{K:K2}(h:i<m):D1 Ab (.sl 1 r 0 m) (I i) K=K (.ptr r i 0):=by
 rw[W! rfl (by omega) (by omega),mI]
def C0Q{c:KV}{l:List Ha}(b:Ai H r=some (.cells q e (A9 l)))(hn:l.Nodup)(hb:l.length<1000000000):∀(f i:Nat)(v w:AV),1<=i->i<=l.length->l.length-i<f->
 Ei (L+20) R K c f (.sl 1 r 0 l.length) (I i) v w H=c (.sl 1 r 0 l.length) H:=by
 intro f
 induction f with
 |zero=>intro i v w _ _ h;omega
 |succ f ih=>
  intro i v w h1 hi d;rw[I2];unfold Ej Nc A2;have el:∀K,Bp Ab (.sl 1 r 0 l.length) K=K (I l.length):=λK=>id rfl;rw[el];by_cases h:i<l.length
  ·rw[FG (by omega),Co,RA h,B6,V_ b h,B6,gF (by omega) (by omega),B6,RA (by omega),B6,V_ b (by omega),B6,Lb];have a:l[i]≠l[i-1]:=λe=>by
    have:=(List.getElem_inj (h₀:=h) (h₁:=by omega) hn).1 e;omega
   rw[HN a,B6,Ba,Dd (by omega)];exact ih (i+1) _ _ (by omega) (by omega) (by omega)
  ·rw[FB (by omega),Ba]
def A6R{l:List Ha}(b:Ai H r=some (.cells q e (A9 l)))(hn:l.Nodup)(hb:l.length<1000000000)(c:l.length<L):
 (r! L (n+1)).call Cr [.sl 1 r 0 l.length] H K=K (.sl 1 r 0 l.length) H:=by
 rw[IJ];unfold Ew A2;simp only[BH];have el:∀K,Bp Ab (.sl 1 r 0 l.length) K=K (I l.length):=λK=>id rfl;rw[el];by_cases h:l.length<2
 ·rw[FG (by omega),Co]
 ·rw[FB (by omega),Ba];have a:(AV.v (.int .i64 1))=I ((1:Nat):Int):=rfl;rw[a,C0Q b hn hb _ 1 _ _ (by omega) (by omega) (by omega)]
def C1N{s:Ha}(h:s.length=32):PS (r! L (n+1)) Ev [S s] (Bo false):=by
 refine CS.ps (λK a=>?_) (λH=>λK=>by kernel_rfl);rw[PM];unfold Iv HX;rw[Qf rfl,h,I6];exact a _ _ (λb=>⟨false,λK=>by kernel_rfl⟩)
abbrev B2h:AV:=.fn (.func Ev) [] []
def C03{a:Ru}{ps:List Ha}(hb:ps.length<1000000000)(c:∀s∈ps,s.length=32):∀(f i:Nat),i<=ps.length->ps.length-i<f->
 DK (L+20) (r! L (n+1)) K a f (Ls ps) B2h (I ps.length) (I i) H=a H:=by
 intro f
 induction f with
 |zero=>intro i _ h;omega
 |succ f ih=>
  intro i hi d;rw[Hz];unfold DL HV A2;by_cases h:i<ps.length
  ·rw[FG (by omega),Co,Th h,KD];have b:∀K,Cw (E (L+20)) (r! L (n+1)) B2h [S ps[i]] H K=Aq (r! L (n+1)) Ev [S ps[i]] H λv=>K v H:=λK=>by kernel_rfl
   rw[b,C1N (c _ (NT h)),Ba,Dd (by omega)];exact ih (i+1) (by omega) (by omega)
  ·rw[FB (by omega),Ba]
def A9f{ps:List Ha}(hb:ps.length<1000000000)(f:ps.length<L)(d:∀s∈ps,s.length=32):CS (r! L (n+3)) B5 [Ls ps,B2h] (Bo false):=by
 intro K a;rw[GM];unfold D2 L8;have hi:CS (r! L (n+2)) DY [Ls ps,B2h] (I (-1)):=by
  intro K a;rw[Ig];unfold DX A2;simp only[BH];have c:(AV.v (.int .i64 0))=I ((0:Nat):Int):=rfl;rw[Nb,c,C03 hb d _ 0 (by omega) (by omega)];exact a _ _ (λb=>⟨false,λK=>by kernel_rfl⟩)
 rw[AQ (q:=false) hi (λK=>by kernel_rfl),KX];exact a _ _ (λb=>⟨false,λK=>by kernel_rfl⟩)
def JT{f:Nat}{args args':Is}{v:AV}{K:K2}(hc:∀K:KV,(∀a b,(∃q,Fx true depth a v b q)->K a b=some (v,[]))->R.call f args' [] K=some (v,[]))(g:Rm true depth args args' H false):Aq R f args H K=K v:=by
 unfold Aq;rw[g];have:=hc (λa c=>Ia (!false) c depth a λ_ j=>some (j,[])) (λa b h=>by
  obtain⟨k,d⟩:=h;exact d _)
 rw[this];rfl
def yH{ps:List Ha}(hn:ps.Nodup)(w:1<=ps.length)(hb:ps.length<=6)(y:10<L)(p:∀s∈ps,s.length=32):
 CS (r! L (n+6)) JL [Ls ps] (Bo true):=by
 intro K d;rw[SO];unfold JG Dm A2 Hv;have hv:∀K,Aq (r! L (n+5)) Gr [Ls ps] [] K=K (A9l ps):=λK=>by
  refine JT (args':=[Ls ps]) (λK d=>?_) (λK=>by kernel_rfl);rw[Np];unfold Gc HX;rw[C0E];exact d _ _ ⟨true,λK=>by kernel_rfl⟩
 rw[hv];refine A8Q (n:=n) (by omega) (by omega) (by omega) Fq λv H t=>?_;have k:=(Bl ps).length_eq;rcases t.sl with⟨_,h,_⟩|⟨r,q,rfl,hr,hc⟩
 ·omega
 rw[Nb,fX (n:=n+4) (by omega) (by omega)];have g:∀(x:Bool->Af),gdV true (Bo true) x=x true:=λx=>id rfl;have c:∀{v:AV}{H:Hp}{K:KV},D6 (some (v,H)) K=K v H:=id rfl;have pk:∀{a b:AV}{K:K2},Cn (Bo true) a b K=K a:=id rfl;have u:∀{K:K2},MB .not (Bo false) K=K (Bo true):=id rfl;simp only[g,c];have f:∀K,Aq (r! L (n+5)) B5 [Ls ps,B2h] H K=K (Bo false):=λK=>AQ (q:=false) (A9f (n:=n+2) (by omega) (by omega) p) (λK=>by kernel_rfl);have el:∀m K,Bp Ab (.sl 1 r 0 m) K=K (I m):=λm K=>id rfl;have j:∀K,(r! L (n+5)).call Cr [.sl 1 r 0 ps.length] H K=K (.sl 1 r 0 ps.length) H:=λK=>by
  have:=A6R (K:=K) (L:=L) (n:=n+4) hr ((Bl ps).nodup_iff.2 hn) (by omega) (by omega);rw[k]at this;exact this
 simp only[f,u,c,pk,g,j,el,Nb,Cv,k,decide_true];exact d _ _ (λb=>⟨false,λK=>by cases b<;>kernel_rfl⟩)
end
section
variable{a b:Int}
def dig(k:Nat):Ha:=if k<10 then[UInt8.ofNat (48+k)] else[UInt8.ofNat (48+k/10),UInt8.ofNat (48+k%10)]
def dec(z:Int):Ha:=if z<0 then 45::dig z.natAbs else dig z.natAbs
def qn(z:Int):Ha:=dec (if z%4=0 then z/4 else if z%2=0 then z/2 else z)
def qd(z:Int):Ha:=if z%4=0 then[49] else if z%2=0 then[50] else[52]
abbrev qa(z:Int):Is:=[S (qn z),S (qd z)]
def B1f{p:Int->Bool}(h:((List.range (b-a).toNat).all λk=>p ((k:Int)+a))=true){z:Int}(h1:a<=z)(h2:z<b):p z=true:=by
 have:=G9.1 h (z-a).toNat (KT.2 (by omega));have e:(((z-a).toNat:Nat):Int)+a=z:=by omega
 simp only[e]at this;exact this
def A79{L m f:Nat}{args:Int->Is}{val:Int->AV}(c:∀z H,Rm true depth (args z) (args z) H false)(h:((List.range (b-a).toNat).all λk=>JQ (Bc (Du (rt L m) f (args ((k:Int)+a))) (val ((k:Int)+a))))=true){z:Int}(h1:a<=z)(h2:z<b):PS (rt L m) f (args z) (val z):=
 BM (c z) (B1f (p:=λz=>JQ (Bc (Du (rt L m) f (args z)) (val z))) h h1 h2)
def Yq{z:Int}(h1: -80<=z)(h2:z<81):(qn z).length<4:=by
 have:=B1f (p:=λz=>decide ((qn z).length<4)) (a:= -80) (b:=81) (by kernel_rfl) h1 h2;simpa using this
def Yr(z:Int):(qd z).length=1:=by unfold qd;split<;>(try split)<;>rfl
def C2x{z:Int}(h1: -80<=z)(h2:z<81)(h:z≠0):qn z≠[48]:=by
 have:=B1f (p:=λz=>decide (z=0\/qn z≠[48])) (a:= -80) (b:=81) (by kernel_rfl) h1 h2;simpa [h] using this
end
section
variable{L n:Nat}
def B05{z:Int}(h1: -80<=z)(h2:z<81):PS (r! L (n+40)) Gv [I z,I 4] (.tup [.agg (qa z),I 0]):=
 A79 (args:=λz=>[I z,I 4]) (val:=λz=>.tup [.agg (qa z),I 0]) (a:= -80) (b:=81) (λz H K=>by kernel_rfl) (by kernel_rfl) h1 h2
def tG{z:Int}(h1: -80<=z)(h2:z<81):PS (r! L (n+40)) F4 [.agg (qa z)] (Bo true):=
 A79 (args:=λz=>[.agg (qa z)]) (val:=λz=>Bo true) (a:= -80) (b:=81) (λz H K=>by kernel_rfl) (by kernel_rfl) h1 h2
def B9h{z:Int}(h1:0<=z)(h2:z<9):PS (r! L (n+40)) QY [.agg (qa z),.agg [S [48],S [49]]] (I (if z=0 then 0 else 1)):=
 A79 (args:=λz=>[.agg (qa z),.agg [S [48],S [49]]]) (val:=λz=>I (if z=0 then 0 else 1)) (a:=0) (b:=9) (λz H K=>by kernel_rfl) (by kernel_rfl) h1 h2
def A10{z:Int}(h1:0<=z)(h2:z<1):PS (r! L (n+40)) MR [I z] (.agg [S [48],S [49]]):=
 A79 (args:=λz=>[I z]) (val:=λz=>.agg [S [48],S [49]]) (a:=0) (b:=1) (λz H K=>by kernel_rfl) (by kernel_rfl) h1 h2
end
section
variable{q:Bool}{y:Bool->Af}{H:Hp}{i:Nat}{t:TI}{α:Type}
variable{L n:Nat}
def iZ(f:α->Is)(w:Nat)(b:∀x,(f x).length=w):∀l:List α,(l.flatMap f).length=l.length*w:=by
 intro l
 induction l with
 |nil=>simp
 |cons a l ih=>simp[ih,b,l1e,Nat.add_comm]
def uY(f:α->Is)(w:Nat)(b:∀x,(f x).length=w):∀(l:List α)(i:Nat)(h:i<l.length),((l.flatMap f).drop (i*w)).take w=f l[i]:=by
 intro l
 induction l with
 |nil=>intro i h;simp at h
 |cons a l ih=>
  intro i h;cases i with
  |zero=>
   simp only[oK,Nat.zero_mul,rC,List.getElem_cons_zero];rw[l32 (by rw[b];omega),l25 (by rw[b];omega)]
  |succ i=>
   simp only[oK,List.getElem_cons_succ];have:(i+1)*w=(f a).length+i*w:=by rw[b,l1e];omega
   rw[this,List.drop_append,List.drop_of_length_le (by omega),l3b,Nat.add_sub_cancel_left];exact ih i (by simpa using h)
def Xu{e w:Nat}{f:α->Is}{l:List α}{K:K2}(g:t.d=.slice e w)(p:∀x,(f x).length=w)(h:i<l.length):D1 t (.list l.length (l.flatMap f)) (I i) K=K (.iptr (f l[i])):=by
 have j:D1 t (.list l.length (l.flatMap f)) (I (i:Int)) K=iN (i:Int) λm=>ck (Nat.blt m l.length) (SY w (Do (Nat.mul m w) (l.flatMap f)) λc=>K (.iptr c)):=by
  obtain⟨a,b,d,z⟩:=t;simp only at g;subst g;rfl
 rw[j,Kr,C9,OE];have k:Nat.blt i l.length=true:=by rw[Xe];exact h
 rw[k];show K (.iptr (((l.flatMap f).drop (i*w)).take w))=_;rw[uY f w p l i h]
def GE{r p e:Nat}{cs:Is}{K:K2}(h:t.d.isAgg=true)(a:Ai H r=some (.cells q e cs))(b:p+t.size<=cs.length):AE t (.ptr r p 0) H K=K (.agg ((cs.drop p).take t.size)):=by
 have:AE t (.ptr r p 0) H K=IQ H r λx=>Kq x λ_ cs=>@Bool.rec (λ_=>Af) (hdK (Do (Nat.add p 0) cs) K) (EL t.size (Do (Nat.add p 0) cs) λc=>K (.agg c)) t.d.isAgg:=rfl;rw[this,h,Bn a];show EL t.size (Do p cs) _=_;rw[C9,KZ _ _ _ (by simp;omega)]
abbrev kG:=List (Int×Int)
def OZ(t:Int×Int):Is:=[I t.1,S (qn t.2),S (qd t.2)]
def FI(ts:kG):AV:=match ts with
 |[]=>Av
 |t::ts=>.list (t::ts).length ((t::ts).flatMap OZ)
structure TmsOk(ts:kG):Prop where
 len:ts.length<=6
 rng:∀t∈ts,1<=t.1/\t.1<=100/\ -8<=t.2/\t.2<=8/\t.2≠0
 asc:ts.Pairwise λa b=>a.1<b.1
def Hw(ts:kG):Sl (FI ts):=by
 cases ts with
 |nil=>exact .inl rfl
 |cons t ts=>exact .inr ⟨_,_,rfl⟩
def Q7{ts:kG}{K:K2}:Bp AD (FI ts) K=K (I ts.length):=by cases ts<;>exact id rfl
def B3B{ts:kG}(h:i<ts.length):FI ts=.list ts.length (ts.flatMap OZ):=by
 cases ts with
 |nil=>simp at h
 |cons t ts=>rfl
def Xt{ts:kG}{K:K2}(h:i<ts.length):D1 AD (FI ts) (I i) K=K (.iptr (OZ ts[i])):=by
 rw[B3B h];exact Xu (f:=OZ) rfl (λ_=>rfl) h
def C5q{a b c d:Ha}{K:K2}:XU R8 .eql (.agg [S a,S b]) (.agg [S c,S d]) K=K (Bo (decide (a=c)&&decide (b=d))):=by
 have e:XU R8 .eql (.agg [S a,S b]) (.agg [S c,S d]) K=(match(generalizing:=false) (some (eqB a c&&(eqB b d&&true)):Option Bool),BinOp.eql with
  |some q,.eql=>bB q K
  |some q,.neq=>bB (!q) K
  |_,_=>none):=rfl
 rw[e];show bB _ K=_;rw[OX,QZ,QZ,l1g];have h1:∀(x y:Ha),(x==y)=decide (x=y):=λx y=>by by_cases h:x=y<;>simp[h]
 rw[h1,h1]
section
variable{K:KV}{x:Af}{ca cb ra rb:Ha}{ts:kG}
def gT:gdV q (.v (.bool q)) y=y true:=by cases q<;>exact id rfl
def eP:gdV true (.v (.bool false)) y=y false:=id rfl
def zK:gdV false (.v (.bool true)) y=y false:=id rfl
def BW{v:AV}:D6 (some (v,H)) K=K v H:=id rfl
def Ul{a b:AV}{K:K2}:Cn (.v (.bool true)) a b K=K a:=id rfl
def RF{a b:AV}{K:K2}:Cn (.v (.bool false)) a b K=K b:=id rfl
def ntT{K:K2}:MB .not (.v (.bool true)) K=K (Bo false):=id rfl
def ntF{K:K2}:MB .not (.v (.bool false)) K=K (Bo true):=id rfl
abbrev A1J(ca cb ra rb:Ha)(ts:kG):Row:=.cells true EI [S ca,S cb,FI ts,S ra,S rb]
def C2n{j:Ru}{r0:Nat}(u:TmsOk ts)(M:∀H,j H=x):∀(f i:Nat)(H:Hp),i<=ts.length->ts.length-i<f->Ai H r0=some (A1J ca cb ra rb ts)->Wf H->
 Sh (L+20) (r! L (n+41)) K j f (.ptr r0 0 0) (I i) H=x:=by
 intro f
 induction f with
 |zero=>intro i H _ h;omega
 |succ f ih=>
  intro i H hi R m w;have hb:=u.len;rw[lC];unfold Si DI HV Dm G8 A2 MF Hv;have f2:∀K:K2,CL 2 (.ptr r0 0 0) K=K (.ptr r0 2 0):=λK=>id rfl;have F:∀K,AE AD (.ptr r0 2 0) H K=K (FI ts):=λK=>AL (p:=2) rfl m (by simp);rw[f2,F,Q7];by_cases h:i<ts.length
  ·rw[FG (by omega),Co,f2,F,Xt h];have hr:=u.rng _ (NT h);have lt:∀H K,AE BY (.iptr (OZ ts[i])) H K=K (.agg (OZ ts[i])):=λH K=>id rfl;rw[lt,Bv (cs:=[zI,zS,zS]) rfl];have g:=Ax (H:=H) (x:=.cells true Bf [zI,zS,zS]) (by simp);rw[BQ (vs:=OZ ts[i]) g rfl rfl rfl];have b:=AC (q:=true) (e:=Bf) (cs:=OZ ts[i]) g;have s:=w.lt m;have a:Ai (upd ((Ar H,c_ Bf [zI,zS,zS])::H) (Ar H) (c_ Bf (OZ ts[i]))) r0=some (A1J ca cb ra rb ts):=by
    rw[Ag (by omega)];exact A6 s m
   have w1:=Bi (r:=Ar H) (y:=.cells true Bf (OZ ts[i])) (AF (x:=.cells true Bf [zI,zS,zS]) w);generalize upd ((Ar H,c_ Bf [zI,zS,zS])::H) (Ar H) (c_ Bf (OZ ts[i]))=c at b a w1;generalize Ar H=r at b;have C:∀K:K2,CL 1 (.ptr r 0 0) K=K (.ptr r 1 0):=λK=>id rfl;have B:∀K:K2,CL 0 (.ptr r 0 0) K=K (.ptr r 0 0):=λK=>id rfl;have m1:∀K,AE A8 (.ptr r 1 0) c K=K (.agg (qa ts[i].2)):=λK=>GE (p:=1) rfl b (show 3<=3 from LH _);have m0:∀K,AE Ac (.ptr r 0 0) c K=K (I ts[i].1):=λK=>AL (p:=0) rfl b (show 0<3 by decide);have Q:∀K,AE AD (.ptr r0 2 0) c K=K (FI ts):=λK=>AL (p:=2) rfl a (by simp);rw[C,m1,tG (n:=n+1) (by omega) (by omega)];have hq:=C2x (by omega) (by omega) hr.2.2.2.2;have J:∀H K,Aq (r! L (n+41)) MR [.v (.int .i64 0)] H K=K (.agg [S [48],S [49]]):=λH K=>A10 (z:=0) (n:=n+1) (by decide) (by decide) H K;have i1:∀K,As Ac .lss (I ts[i].1) (.v (.int .i64 1)) K=K (Bo false):=λK=>FB (by omega);have i2:∀K,As Ac .gtr (I ts[i].1) (.v (.int .i64 1000000)) K=K (Bo false):=λK=>by rw[DT,HN (by omega)]
   simp only[ntT,B6,gT,C,m1,BW,J,C5q,hq,decide_false,Bool.false_and,RF,B,m0,i1,i2];by_cases k:0<i
   ·have A:∀K,As Ac .gtr (I (i:Int)) (.v (.int .i64 0)) K=K (Bo true):=λK=>by rw[DT,GI (by omega)]
    have d:i-1<ts.length:=by omega
    have N:∀K:K2,CL 0 (.iptr (OZ ts[i-1])) K=K (.iptr (OZ ts[i-1])):=λK=>id rfl;have O:∀K,AE Ac (.iptr (OZ ts[i-1])) c K=K (I ts[i-1].1):=λK=>id rfl;have D:ts[i-1].1<ts[i].1:=(l26.1 u.asc) (i-1) i d h (by omega);have P:∀K,As Ac .geq (I ts[i-1].1) (I ts[i].1) K=K (Bo false):=λK=>by rw[KX,HN (by omega)]
    simp only[A,B6,BW,gT,f2,Q,gF k (by omega:i<1000000000),Xt d,N,O,B,m0,P,Ul,RF];rw[Ba,Dd (by omega)];exact ih (i+1) c (by omega) (by omega) a w1
   ·have A:∀K,As Ac .gtr (I (i:Int)) (.v (.int .i64 0)) K=K (Bo false):=λK=>by rw[DT,HN (by omega)]
    simp only[A,B6,BW,gT,eP,Ul,RF];rw[Ba,Dd (by omega)];exact ih (i+1) c (by omega) (by omega) a w1
  ·rw[FB (by omega),Ba];exact M H
def tJ{c r:Int}(j: -80<=c)(k:c<=80)(m:0<=r)(s:r<=8)(A:10<L)(d:TmsOk ts):CS (r! L (n+42)) JJ [.agg (dJ (qn c) (qd c) (FI ts) (qn r) (qd r))] (Bo true):=by
 intro K h;have hb:=d.len;rw[pU];unfold Ur DI G8 A2 MF Hv;rw[Es (by cases ts<;>rfl)];have a:=Ax (H:=[]) (x:=A1J (qn c) (qd c) (qn r) (qd r) ts) (by simp);have w0:Wf [(Ar [],A1J (qn c) (qd c) (qn r) (qd r) ts)]:=AF Fq;generalize [(Ar [],A1J (qn c) (qd c) (qn r) (qd r) ts)]=H at a w0;generalize Ar []=r0 at a;have f:∀K:K2,CL 0 (.ptr r0 0 0) K=K (.ptr r0 0 0):=λK=>id rfl;have f2:∀K:K2,CL 2 (.ptr r0 0 0) K=K (.ptr r0 2 0):=λK=>id rfl;have f3:∀K:K2,CL 3 (.ptr r0 0 0) K=K (.ptr r0 3 0):=λK=>id rfl;have m0:∀K,AE A8 (.ptr r0 0 0) H K=K (.agg (qa c)):=λK=>GE (p:=0) rfl a (show 2<=5 by decide);have m3:∀K,AE A8 (.ptr r0 3 0) H K=K (.agg (qa r)):=λK=>GE (p:=3) rfl a (show 5<=5 by decide);have w:∀K,AE AD (.ptr r0 2 0) H K=K (FI ts):=λK=>AL (p:=2) rfl a (show 2<5 by decide);have u:∀H K,Aq (r! L (n+41)) MR [.v (.int .i64 0)] H K=K (.agg [S [48],S [49]]):=λH K=>A10 (z:=0) (n:=n+1) (by decide) (by decide) H K;rw[f,m0,tG (n:=n+1) (by omega) (by omega),f3,m3,tG (n:=n+1) (by omega) (by omega)];have h1:∀K,Aq (r! L (n+41)) QY [.agg (qa r),.agg [S [48],S [49]]] H K=K (I (if r=0 then 0 else 1)):=λK=>B9h (n:=n+1) (by omega) (by omega) H K;have h2:∀K,As Ac .lss (I (if r=0 then 0 else 1)) (.v (.int .i64 0)) K=K (Bo false):=λK=>FB (by split<;>omega);have g:∀K,As Ac .gtr (I (ts.length:Int)) (.v (.int .i64 64)) K=K (Bo false):=λK=>by rw[DT,HN (by omega)]
 simp only[ntT,B6,BW,gT,RF,f3,m3,u,h1,h2,f2,w,Q7,g,BH];rw[Ba];have e:(AV.v (.int .i64 0))=I ((0:Nat):Int):=rfl;rw[e];exact C2n (n:=n) d (λH=>h _ _ (λb=>⟨false,λK=>by kernel_rfl⟩)) (L+20) 0 H (by omega) (by omega) a w0
end
end
section
variable{L n:Nat}
def B3g{z:Int}(h1:0<=z)(h2:z<9):PS (r! L (n+40)) Qz [.agg (qa z)] (I (if z=0 then 0 else 1)):=
 A79 (args:=λz=>[.agg (qa z)]) (val:=λz=>I (if z=0 then 0 else 1)) (a:=0) (b:=9) (λz H K=>by kernel_rfl) (by kernel_rfl) h1 h2
def B3f{z:Int}(h1: -8<=z)(h2:z<9):PS (r! L (n+40)) OR [.agg (qa z)] (Bo (decide (z=0))):=
 A79 (args:=λz=>[.agg (qa z)]) (val:=λz=>Bo (decide (z=0))) (a:= -8) (b:=9) (λz H K=>by kernel_rfl) (by kernel_rfl) h1 h2
end
end Go.Abs
end
