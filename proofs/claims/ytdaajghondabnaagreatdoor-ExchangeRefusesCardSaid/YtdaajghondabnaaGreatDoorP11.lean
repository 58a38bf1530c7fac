import Derived.Test.YtdaajghondabnaaGreatDoorP10
set_option linter.all false
set_option maxHeartbeats 100000000
noncomputable section
namespace Go.Abs
open Go.RowKit Go.Proofs
set_option maxRecDepth 100000
section
variable{K:K2}{s:Ha}
def FB{a b:AV}:CM (.tup [a,b]) 0 K=K a:=id rfl
def FA{a b:AV}:CM (.tup [a,b]) 1 K=K b:=id rfl
def B9{i:TI}{a b:Ha}(d:a.length+b.length<9223372036854775808):Ar i .add (S a) (S b) K=K (S (a++b)):=by
 have e:Ar i .add (S a) (S b) K=Za a b λl=>ck (Nat.blt l.length 9223372036854775808) (K (.v (.string ⟨⟨l⟩⟩))):=rfl;have c:Nat.blt (a++b).length 9223372036854775808=true:=by rw[Xi,EK];exact d
 rw[e,MX,c];rfl
def B1q(f:Nat):∀z,(B1r f z).length<=f:=by
 induction f with
 |zero=>intro z;exact Mh _
 |succ f ih=>
  intro z;unfold B1r;split
  ·simp
  ·have:=ih (z/128);simp;omega
def TL(z:Int):(enc z).length<=9:=B1q 9 _
def X?(s:Ha):Ha:=enc s.length++s
def A1g(L n:Nat)(h:s.length<390):PS (r! L (n+5)) OQ [S s] (.tup [S (X? s),I 0]):=by
 refine CS.ps (λK a=>?_) (λH=>fx1);rw[ZR];unfold Ov Ih;rw[Qf rfl,Ef,Ff,CF (by simp;omega),Qf rfl,A1h L n (by omega) (by omega),FB,FA,B9 (by have:=TL (s.length:Int);omega)];exact a _ _ (λb=>⟨false,eV (Ao (q:=false) (q':=false) CC (Ao (q:=false) (q':=false) CC AH))⟩)
def A0I(L n:Nat)(h:s.length<390):PS (r! L (n+9)) Qb [S s] (.tup [S (X? s),I 0]):=by
 refine CS.ps (λK a=>?_) (λH=>fx1);rw[eG];unfold PE Ih;rw[Qf rfl,Ef,Ff,CF (by simp;omega),Qf rfl,A0J L n (by omega) (by omega),FB,FA,B9 (by have:=TL (s.length:Int);omega)];exact a _ _ (λb=>⟨false,eV (Ao (q:=false) (q':=false) CC (Ao (q:=false) (q':=false) CC AH))⟩)
end
section
variable{k:KV}{H:Hp}{i:Nat}
def Fl(l:List Int):Is:=l.map λz=>.v (.int .i64 z)
def AE(l:List Ha):Is:=l.map λs=>S s
def Jp(l:List Int):Ha:=(l.map enc).flatten
def I2(l:List Ha):Ha:=(l.map X?).flatten
def Xk{l:List Int}{k:Nat}(h:k<l.length):(Fl l).getD k .dk=I l[k]:=by
 simp[Fl,UW,h]
def Px{l:List Ha}{k:Nat}(h:k<l.length):(AE l).getD k .dk=S l[k]:=by
 simp[AE,UW,h]
def F9(l:List Int):(Jp l).length<=9*l.length:=by
 induction l with
 |nil=>simp[Jp]
 |cons z l ih=>
  have:=TL z;simp[Jp]at ih⊢;omega
def F8(l:List Ha)(h:∀s∈l,s.length<390):(I2 l).length<=400*l.length:=by
 induction l with
 |nil=>simp[I2]
 |cons s l ih=>
  have h1:=TL (s.length:Int);have h2:=h s (by simp);have a:=ih (λs b=>h s (by simp[b]));simp only[I2,XI,l1d,EK,Mi,X?]at a⊢;omega
def C?(l:List Int)(h:i<l.length):Jp (l.take (i+1))=Jp (l.take i)++enc l[i]:=by
 unfold Jp;rw[oH h,Z6,List.flatten_append];simp only[XI,List.map_nil,l1d,List.flatten_nil,V0]
def C!(l:List Ha)(h:i<l.length):I2 (l.take (i+1))=I2 (l.take i)++X? l[i]:=by
 unfold I2;rw[oH h,Z6,List.flatten_append];simp only[XI,List.map_nil,l1d,List.flatten_nil,V0]
variable{L n:Nat}{K:KV}{x:Af}
def B9J{l:List Int}(j:l.length<100)(hz:∀z∈l, -10<=z/\z<1090)(c:k (S (Jp l)) H=x):
 ∀(f i:Nat),i<=l.length->l.length-i<f->LZ (L+20) (r! L (n+4)) K k f (.list l.length (Fl l)) (S (Jp (l.take i))) (I i) H=x:=by
 intro f
 induction f with
 |zero=>intro i _ h;omega
 |succ f ih=>
  intro i g e;rw[Ni];unfold JT IA A3;have el:∀K,Bh Bs (.list l.length (Fl l)) K=K (I l.length):=λK=>id rfl;rw[el,D8,Ff];by_cases h:i<l.length
  ·rw[Dq (by simp;omega)];have a:=hz l[i] (Qk h);have b:(Jp (l.take i)).length<=9*l.length:=by
    have:=F9 (l.take i);have d:(l.take i).length<=l.length:=by simp;omega
    omega
   rw[eZ rfl (by simp[Fl]) (by omega) (by omega),mG,Ny rfl,Xk h,A1h L n a.1 a.2,FB,FA,B9 (by have:=TL l[i];omega),<-C? l h,CY,CQ (by omega) (by omega),RR];exact ih (i+1) (by omega) (by omega)
  ·rw[CF (by simp;omega)];have:i=l.length:=by omega
   subst this;rw[wQ];exact c
def zE{l:List Int}(c:l.length<100)(d:l.length<L)(hz:∀z∈l, -10<=z/\z<1090):CS (r! L (n+5)) Eu [.list l.length (Fl l)] (S (Jp l)):=by
 intro K a;rw[TA];unfold MT A3;simp only[BE];refine B9J c hz ?_ (L+20) 0 (by omega) (by omega);exact a _ _ (λb=>⟨false,CC⟩)
def B7q{l:List Ha}(p:l.length<100)(hz:∀s∈l,s.length<390)(e:k (S (I2 l)) H=x):
 ∀(f i:Nat),i<=l.length->l.length-i<f->RU (L+20) (r! L (n+5)) K k f (.list l.length (AE l)) (S (I2 (l.take i))) (I i) H=x:=by
 intro f
 induction f with
 |zero=>intro i _ h;omega
 |succ f ih=>
  intro i m j;rw[Vm];unfold Od IA A3;have el:∀K,Bh Ac (.list l.length (AE l)) K=K (I l.length):=λK=>id rfl;rw[el,D8,Ff];by_cases h:i<l.length
  ·rw[Dq (by simp;omega)];have b:=hz l[i] (Qk h);have c:(I2 (l.take i)).length<=400*l.length:=by
    have:=F8 (l.take i) (λs d=>hz s (l29 d));have g:(l.take i).length<=l.length:=by simp;omega
    omega
   have a:(X? l[i]).length<=400:=by unfold X?;rw[EK];have:=TL (l[i].length:Int);omega
   rw[eZ rfl (by simp[AE]) (by omega) (by omega),mG,Ny rfl,Px h,A1g L n b,FB,FA,B9 (by omega),<-C! l h,CY,CQ (by omega) (by omega),RR];exact ih (i+1) (by omega) (by omega)
  ·rw[CF (by simp;omega)];have:i=l.length:=by omega
   subst this;rw[wQ];exact e
def A5s{l:List Ha}(c:l.length<100)(d:l.length<L)(hz:∀s∈l,s.length<390):CS (r! L (n+6)) Hl [.list l.length (AE l)] (S (I2 l)):=by
 intro K a;rw[XH];unfold Qj A3;simp only[BE];refine B7q c hz ?_ (L+20) 0 (by omega) (by omega);exact a _ _ (λb=>⟨false,CC⟩)
end
section
variable{m:Nat}{p:Nat->Bool}
structure UD where
 (p0 q0 p1 q1 p2 q2 p3 q3 p4 q4 p5 q5 p6 q6:Int)
 (fn fd on od:Ha)
 (kd sc:Int)
abbrev UD.cs(u:UD):Is:=[I u.p0,I u.q0,I u.p1,I u.q1,I u.p2,I u.q2,I u.p3,I u.q3,I u.p4,I u.q4,I u.p5,I u.q5,I u.p6,I u.q6,S u.fn,S u.fd,S u.on,S u.od,I u.kd,I u.sc]
def u0:UD:=⟨0,0,0,0,0,0,0,0,0,0,0,0,0,0,[],[],[],[],0,0⟩
def nA:Ha:=[49]
def nB:Ha:=[49,48,48,48]
def nC:Ha:=[49,48,48,48,48,48,48]
def nD:Ha:=[49,48,48,48,48,48,48,48,48,48]
def uD(a b c:Int)(f d:Ha)(s:Int):UD:=⟨a,1,0,1,b,1,0,1,c,1,0,1,0,1,f,d,[48],[49],0,s⟩
def C1V:List UD:=[
 uD 1 0 0 nA nA 1,
 uD 0 1 0 nA nA 1,
 uD 1 0 0 nA nB 1,
 uD 0 0 0 nA nA 2,
 ⟨0,1,0,1,0,1,0,1,1,1,0,1,0,1,[49],[49],[53,52,54,51],[50,48],0,0⟩,
 uD 0 0 1 nA nA 1,
 uD 2 0 0 nA nA 1,
 uD 1 1 0 nA nA 1,
 uD 1 (-1) 0 nA nA 1,
 uD 2 0 0 nA nB 1,
 uD 0 0 0 nB nA 2,
 uD 1 0 1 nA nA 1,
 uD 1 0 (-1) nA nA 1,
 uD 3 0 0 nA nA 1,
 uD (-1) 0 0 nA nA 1,
 uD (-2) 0 0 nA nA 1,
 uD (-1) 1 0 nA nA 1,
 uD 0 2 0 nA nA 1,
 uD 1 1 0 nA nB 1,
 uD (-1) 1 0 nB nA 1,
 uD 0 1 1 nA nA 1,
 uD 0 1 (-1) nA nA 1,
 uD 2 1 0 nA nA 1,
 uD (-2) 1 0 nA nA 1,
 uD 0 (-1) 0 nA nA 1,
 uD 0 3 0 nA nA 1,
 uD 0 (-2) 0 nA nA 1,
 uD 0 0 0 nA nB 2,
 uD 1 (-1) 0 nA nB 1,
 uD 2 0 0 nA nC 1,
 uD 1 0 1 nA nB 1,
 uD 1 0 (-1) nA nB 1,
 uD 3 0 0 nA nB 1,
 uD (-1) 0 0 nA nB 1,
 uD (-1) 0 0 nB nA 1,
 uD 3 0 0 nA nD 1,
 uD (-2) 0 0 nC nA 1,
 uD 0 0 (-1) nA nA 1,
 uD (-1) 0 1 nA nA 1,
 uD 0 (-1) 1 nA nA 1,
 uD (-1) 0 1 nB nA 1,
 uD 0 0 2 nA nA 1,
 uD 2 0 1 nA nA 1,
 uD (-2) 0 1 nA nA 1,
 uD 0 0 3 nA nA 1,
 uD 0 0 (-2) nA nA 1,
 uD 2 (-1) 0 nA nA 1,
 uD 1 0 0 nB nA 1,
 uD 2 0 (-1) nA nA 1,
 uD 4 0 0 nA nA 1,
 uD 6 0 0 nA nA 1,
 uD (-4) 0 0 nA nA 1]
def uu(k:Nat):UD:=C1V.getD k u0
def nE:Ha:=[49,47,49,48,48,48]
def nF:Ha:=[49,47,49,48,48,48,48,48,48]
def nG:Ha:=[49,47,49,48,48,48,48,48,48,48,48,48]
def nK:Ha:=[32,107,105,110,100,32,48,32,102,97,99,116,111,114,32]
def nO:Ha:=[32,111,102,102,115,101,116,32,48]
def nR:Ha:=[114,97,116,105,111]
def nU(f t:Ha):Ha:=[100,105,102,102,101,114,101,110,99,101]++(nK++(f++(nO++(32::t))))
def B7p:List Ha:=[
 nU nA [109,94,49],
 nU nA [115,94,49],
 nU nE [109,94,49],
 nR++(nK++(nA++nO)),
 [97,98,115,111,108,117,116,101,32,107,105,110,100,32,48,32,102,97,99,116,111,114,32,49,32,111,102,102,115,101,116,32,53,52,54,51,47,50,48,32,75,94,49],
 nU nA [75,94,49],
 nU nA [109,94,50],
 nU nA [109,94,49,32,115,94,49],
 nU nA [109,94,49,32,115,94,45,49],
 nU nE [109,94,50],
 nR++(nK++(nB++nO)),
 nU nA [109,94,49,32,75,94,49],
 nU nA [109,94,49,32,75,94,45,49],
 nU nA [109,94,51],
 nU nA [109,94,45,49],
 nU nA [109,94,45,50],
 nU nA [109,94,45,49,32,115,94,49],
 nU nA [115,94,50],
 nU nE [109,94,49,32,115,94,49],
 nU nB [109,94,45,49,32,115,94,49],
 nU nA [115,94,49,32,75,94,49],
 nU nA [115,94,49,32,75,94,45,49],
 nU nA [109,94,50,32,115,94,49],
 nU nA [109,94,45,50,32,115,94,49],
 nU nA [115,94,45,49],
 nU nA [115,94,51],
 nU nA [115,94,45,50],
 nR++(nK++(nE++nO)),
 nU nE [109,94,49,32,115,94,45,49],
 nU nF [109,94,50],
 nU nE [109,94,49,32,75,94,49],
 nU nE [109,94,49,32,75,94,45,49],
 nU nE [109,94,51],
 nU nE [109,94,45,49],
 nU nB [109,94,45,49],
 nU nG [109,94,51],
 nU nC [109,94,45,50],
 nU nA [75,94,45,49],
 nU nA [109,94,45,49,32,75,94,49],
 nU nA [115,94,45,49,32,75,94,49],
 nU nB [109,94,45,49,32,75,94,49],
 nU nA [75,94,50],
 nU nA [109,94,50,32,75,94,49],
 nU nA [109,94,45,50,32,75,94,49],
 nU nA [75,94,51],
 nU nA [75,94,45,50],
 nU nA [109,94,50,32,115,94,45,49],
 nU nB [109,94,49],
 nU nA [109,94,50,32,75,94,45,49],
 nU nA [109,94,52],
 nU nA [109,94,54],
 nU nA [109,94,45,52]]
def Ly(k:Nat):Ha:=B7p.getD k []
def C51:List (List (List (Option Nat))):=[
 [[some 0,none,none,none,none,none,none],
  [none,some 1,none,none,none,none,none],
  [none,none,some 2,none,none,none,none],
  [none,none,none,some 3,none,none,none],
  [none,none,none,none,none,some 4,none],
  [none,none,none,none,some 4,some 5,none],
  [none,none,none,none,none,none,some 6]],
 [[some 0,none,none,none,none,none,none],
  [none,some 1,none,none,none,none,none],
  [none,none,some 2,none,none,none,none],
  [none,none,none,some 3,none,none,none],
  [none,none,none,none,some 5,some 4,none],
  [none,none,none,none,none,some 5,none],
  [none,none,none,none,none,none,some 6]],
 [[some 6,some 7,some 9,some 0,none,some 11,some 13],
  [some 7,some 17,some 18,some 1,none,some 20,some 22],
  [some 9,some 18,some 29,some 2,none,some 30,some 32],
  [some 0,some 1,some 2,some 3,none,some 5,some 6],
  [none,none,none,none,none,none,none],
  [some 11,some 20,some 30,some 5,none,some 41,some 42],
  [some 13,some 22,some 32,some 6,none,some 42,some 49]],
 [[some 3,some 8,some 10,some 0,none,some 12,some 14],
  [some 16,some 3,some 19,some 1,none,some 21,some 23],
  [some 27,some 28,some 3,some 2,none,some 31,some 33],
  [some 14,some 24,some 34,some 3,none,some 37,some 15],
  [none,none,none,none,none,none,none],
  [some 38,some 39,some 40,some 5,none,some 3,some 43],
  [some 0,some 46,some 47,some 6,none,some 48,some 3]]]
def VO(o i j:Nat):Option Nat:=((C51.getD o []).getD i []).getD j none
def mV(k:Nat):Int:=([2, -1,3, -2,1]:List Int).getD k 0
def C1U:List (List (Option Nat)):=[[some 6,some 14,some 13,some 15,some 0],
 [some 17,some 24,some 25,some 26,some 1],
 [some 29,some 34,some 35,some 36,some 2],
 [some 3,some 3,some 3,some 3,some 3],
 [none,none,none,none,none],
 [some 41,some 37,some 44,some 45,some 5],
 [some 49,some 15,some 50,some 51,some 6]]
def Yk(i k:Nat):Option Nat:=(C1U.getD i []).getD k none
def Kh:Option Nat->AV
 |some k=>.tup [.agg (uu k).cs,I 0]
 |none=>.tup [.agg u0.cs,I 70]
def isU:Option Nat->Bool
 |some _=>true
 |none=>false
def B2r(p:Nat->Bool)(m:Nat):Nat->Prop
 |0=>True
 |c+1=>((List.range m).all λk=>p (c*m+k))=true/\B2r p m c
def eE:B2r p m 0:=trivial
def eC{m c:Nat}(h:((List.range m).all λk=>p (c*m+k))=true)(h2:B2r p m c):B2r p m (c+1):=⟨h,h2⟩
def dZ:∀{c:Nat},B2r p m c->∀{i:Nat},i<c*m->p i=true:=by
 intro c
 induction c with
 |zero=>intro _ i a;omega
 |succ c ih=>
  intro h i a;by_cases hc:i<c*m
  ·exact ih h.2 hc
  ·have h1:=GG.1 h.1 (i-c*m) (KR.2 (by rw[l1e]at a;omega));have e:c*m+(i-c*m)=i:=by omega
   rw[e]at h1;exact h1
end
section
variable{v:AV}{x y:Af}{f:Nat}{R:Rt}
def oP:Rt->Nat->Is->Hp->K2->Af:=Classical.choose (⟨Ap,rfl⟩:∃z:Rt->Nat->Is->Hp->K2->Af,Ap=z)
def zO:Ap=oP:=Classical.choose_spec (⟨Ap,rfl⟩:∃z:Rt->Nat->Is->Hp->K2->Af,Ap=z)
def eBi:TI->BinOp->AV->AV->K2->Af:=Classical.choose (⟨Ar,rfl⟩:∃z:TI->BinOp->AV->AV->K2->Af,Ar=z)
def bO:Ar=eBi:=Classical.choose_spec (⟨Ar,rfl⟩:∃z:TI->BinOp->AV->AV->K2->Af,Ar=z)
def eEq:List LK->BinOp->AV->AV->K2->Af:=Classical.choose (⟨R7,rfl⟩:∃z:List LK->BinOp->AV->AV->K2->Af,R7=z)
def qO:R7=eEq:=Classical.choose_spec (⟨R7,rfl⟩:∃z:List LK->BinOp->AV->AV->K2->Af,R7=z)
def cnd:AV->Af->Af->Af:=Classical.choose (⟨A1,rfl⟩:∃z:AV->Af->Af->Af,A1=z)
def cO:A1=cnd:=Classical.choose_spec (⟨A1,rfl⟩:∃z:AV->Af->Af->Af,A1=z)
def Qn:cnd (.v (.bool true)) x y=x:=by rw[<-cO];rfl
def GH:cnd (.v (.bool false)) x y=y:=by rw[<-cO];rfl
section
variable{K:K2}{i:TI}{k:IntKind}{a b:Int}{s u:Ha}
def Q7(h:a=b):eBi i .eql (.v (.int k a)) (.v (.int k b)) K=K (Bo true):=by rw[<-bO,Cl,HR h]
def XL(h:a≠b):eBi i .eql (.v (.int k a)) (.v (.int k b)) K=K (Bo false):=by rw[<-bO,Cl,HW h]
def B0A(h:a=b):eBi i .neq (.v (.int k a)) (.v (.int k b)) K=K (Bo false):=by rw[<-bO,I3,HR h];rfl
def A5O(h:a<=b):eBi i .leq (.v (.int k a)) (.v (.int k b)) K=K (Bo true):=by rw[<-bO,jO,HR h]
def A5Y(h:b<=a):eBi i .geq (.v (.int k a)) (.v (.int k b)) K=K (Bo true):=by rw[<-bO,KO,HR h]
end
def G':∀{ks:List LK}{xs:Hx},fits ks xs=true->Yb xs xs=some true:=by
 intro ks
 induction ks with
 |nil=>intro xs h;cases xs with|nil=>rfl|cons a l=>simp[fits]at h
 |cons k ks ih=>
  intro xs h;cases xs with
  |nil=>rfl
  |cons a l=>
   simp only[fits,KF]at h;have h2:=ih h.2;have e:Yb (a::l) (a::l)=(match iR a a with|some b=>(match Yb l l with|some c=>some (b&&c)|none=>none)|none=>none):=rfl;rw[e,h2];have h1:iR a a=some true:=by
    have h1:=h.1;cases k<;>cases a<;>simp[LK.fit]at h1<;>simp[iR,QS,QU]
   rw[h1];rfl
def rH(xs:Hx):∀K:Hx->Af,dM (xs.map AV.v) K=K xs:=by
 induction xs with
 |nil=>intro K;rfl
 |cons a l ih=>intro K;exact ih _
def A2k{ks:List LK}(xs:Hx)(h:fits ks xs=true)(K:K2):eEq ks .eql (.agg (xs.map AV.v)) (.agg (xs.map AV.v)) K=K (Bo true):=by
 rw[<-qO];have e:R7 ks .eql (.agg (xs.map AV.v)) (.agg (xs.map AV.v)) K=dM (xs.map AV.v) λc=>dM (xs.map AV.v) λd=>ck (fits ks c) (match Yb c d,BinOp.eql with
  |some q,.eql=>bB q K
  |some q,.neq=>bB (!q) K
  |_,_=>none):=rfl
 rw[e,rH,rH,G' h,h];show bB true K=_;rw[NO]
def jM(u:UD)(K:K2):eEq HN .eql (.agg u.cs) (.agg u.cs) K=K (Bo true):=
 A2k (ks:=HN) [.int .i64 u.p0,.int .i64 u.q0,.int .i64 u.p1,.int .i64 u.q1,.int .i64 u.p2,.int .i64 u.q2,.int .i64 u.p3,.int .i64 u.q3,.int .i64 u.p4,.int .i64 u.q4,.int .i64 u.p5,.int .i64 u.q5,.int .i64 u.p6,.int .i64 u.q6,.string ⟨⟨u.fn⟩⟩,.string ⟨⟨u.fd⟩⟩,.string ⟨⟨u.on⟩⟩,.string ⟨⟨u.od⟩⟩,.int .i64 u.kd,.int .i64 u.sc] rfl K
def LS(R:Rt)(f:Nat)(args':Is)(v:AV):Prop:=∀(q:Bool)(args:Is)(H:Hp),R9 true depth args args' H q->∀K,oP R f args H K=K v
def CS.ls{args':Is}(h:CS R f args' v):LS R f args' v:=λ_ _ _ c _=>by rw[<-zO];exact AP h c
def PO(R:Rt)(f:Nat)(args:Is)(v:AV):Prop:=∀H K,oP R f args H K=K v
def PS.o{args:Is}(h:PS R f args v):PO R f args v:=λH K=>by rw[<-zO];exact h H K
end
section
variable{L n:Nat}
attribute [local irreducible] Ap rt oP eBi eEq cnd Ar R7 A1
def gC{z c a:Int}(h1:c<=z)(h2:z<=a):PS (rt (L+20) (n+1)) FM [I z,I c,I a] (Bo true):=by
 refine CS.ps (λK d=>?_) (λH=>λK=>by kernel_rfl);rewrite[WZ];unfold LB q3N
 try rewrite[zO]
 try rewrite[bO]
 try rewrite[qO]
 try rewrite[cO]
 conv=>lhs;whnf
 rewrite[A5Y h1]
 conv=>lhs;whnf
 rewrite[A5O h2]
 conv=>lhs;whnf
 exact d _ _ (λb=>⟨false,λK=>by kernel_rfl⟩)
def Ys{z c a:Int}(h1:c<=z)(h2:z<=a):PS (rt (L+20) (n+1)) IY [I z,I c,I a] (Bo true):=by
 refine CS.ps (λK d=>?_) (λH=>λK=>by kernel_rfl);rewrite[lQ];unfold Sw q3N
 try rewrite[zO]
 try rewrite[bO]
 try rewrite[qO]
 try rewrite[cO]
 conv=>lhs;whnf
 rewrite[A5Y h1]
 conv=>lhs;whnf
 rewrite[A5O h2]
 conv=>lhs;whnf
 exact d _ _ (λb=>⟨false,λK=>by kernel_rfl⟩)
def Sl(T:AV):Prop:=T=.v (.slice none 0 0)\/∃n cs,T=.list n cs
abbrev Av:AV:=.v (.slice none 0 0)
abbrev Cx(u:UD):Is:=[I u.p0,I u.q0,I u.p1,I u.q1,I u.p2,I u.q2,I u.p3,I u.q3,I u.p4,I u.q4,I u.p5,I u.q5,I u.p6,I u.q6,S u.fn,S u.fd,S u.on,S u.od,I u.kd,I u.sc]
abbrev NJ(ca cb:Ha)(T:AV)(ra rb:Ha):Is:=[S ca,S cb,T,S ra,S rb]
abbrev B0(id:Int)(ins nds:AV)(u:UD):Is:=[I id,ins,nds,
 I u.p0,I u.q0,I u.p1,I u.q1,I u.p2,I u.q2,I u.p3,I u.q3,I u.p4,I u.q4,I u.p5,I u.q5,I u.p6,I u.q6,S u.fn,S u.fd,S u.on,S u.od,I u.kd,I u.sc]
structure RD where
 k:Int
 (a1 a2 b1 b2 c1 c2 d1 d2:Ha)
abbrev RD.cs(r:RD):Is:=[I r.k,S r.a1,S r.a2,S r.b1,S r.b2,S r.c1,S r.c2,S r.d1,S r.d2]
def r0:RD:=⟨0,[],[],[],[],[],[],[],[]⟩
structure ND where
 (lab num itm tim day:Int)
def rr(k:Nat):RD:=⟨k,[45,53],[49],[50,53],[50],if k=2 then[49] else[48],if k=2 then[50] else[49],[49],[50,48]⟩
abbrev DW(kd:Int)(m:ND)(u:UD)(ca cb:Ha)(T:AV)(ra rb:Ha)(P:AV)(id:Int)(ins nds:AV)(o:UD)(r:RD)(vd:Int):Is:=[I kd,I m.lab,I m.num,I m.itm,I m.tim,I m.day,
 I u.p0,I u.q0,I u.p1,I u.q1,I u.p2,I u.q2,I u.p3,I u.q3,I u.p4,I u.q4,I u.p5,I u.q5,I u.p6,I u.q6,S u.fn,S u.fd,S u.on,S u.od,I u.kd,I u.sc,
 S ca,S cb,T,S ra,S rb,P,I id,ins,nds,
 I o.p0,I o.q0,I o.p1,I o.q1,I o.p2,I o.q2,I o.p3,I o.q3,I o.p4,I o.q4,I o.p5,I o.q5,I o.p6,I o.q6,S o.fn,S o.fd,S o.on,S o.od,I o.kd,I o.sc,
 I r.k,S r.a1,S r.a2,S r.b1,S r.b2,S r.c1,S r.c2,S r.d1,S r.d2,I vd,I 0,Av,Av]
def ND.ok(m:ND):Prop:=1<=m.lab/\m.lab<=9/\1<=m.num/\m.num<=9/\1<=m.itm/\m.itm<=9/\0<=m.tim/\m.tim<=100/\0<=m.day/\m.day<=100
abbrev A59:Is:=[zI,zL,zL,zI,zI,zI,zI,zI,zI,zI,zI,zI,zI,zI,zI,zI,zI,zS,zS,zS,zS,zI,zI]
def A8R:PS (rt (L+20) (n+40)) Qe [.agg (B0 0 Av Av u0),.agg A59] (Bo true):=BJ (λH K=>by kernel_rfl) (by kernel_rfl)
def A1f:PS (rt (L+20) (n+40)) Hn [.agg (B0 0 Av Av u0),.agg A59] (Bo true):=BJ (λH K=>by kernel_rfl) (by kernel_rfl)
section
variable{m:ND}{u o:UD}{ca cb ra rb:Ha}{T P ins nds:AV}{id vd:Int}{r:RD}
def A6I(hm:m.ok)(t:Sl T)(s:∃n cs,P=.list n cs)(j:∃n cs,ins=.list n cs)(q:∃n cs,nds=.list n cs)(hc:LS (rt (L+20) (n+60)) Hq [.agg (DW 2 m u ca cb T ra rb P id ins nds o r0 0)] (Bo true))(w:PO (rt (L+20) (n+60)) Mk [.agg (Cx u)] (Bo true))(v:LS (rt (L+20) (n+60)) LM [.agg (NJ ca cb T ra rb)] (Bo true)):
 CS (rt (L+20) (n+61)) Er [.agg (DW 2 m u ca cb T ra rb P id ins nds o r0 0)] (Bo true):=by
 intro K p;obtain⟨h1,h2,f,x,g,y,h,A,i,e⟩:=hm;obtain⟨n1,c1,rfl⟩:=s;obtain⟨n2,c2,rfl⟩:=j;obtain⟨B,c3,rfl⟩:=q;have hb:∀{z d c:Int},d<=z->z<=c->PO (rt (L+20) (n+60)) FM [I z,I d,I c] (Bo true):=λa b=>(gC a b).o;rcases t with rfl|⟨C,c4,rfl⟩
 all_goals
  rewrite[JD];unfold Gq Ih
  try rewrite[zO]
  try rewrite[bO]
  try rewrite[qO]
  try rewrite[cO]
  generalize rt (L+20) (n+60)=R at*
  conv=>lhs;whnf
  rewrite[hb h1 (by omega)]
  conv=>lhs;whnf
  rewrite[hb f (by omega)]
  conv=>lhs;whnf
  rewrite[hb g (by omega)]
  conv=>lhs;whnf
  rewrite[hb h (by omega)]
  conv=>lhs;whnf
  rewrite[hb i (by omega)]
  conv=>lhs;whnf
  rewrite[w]
  conv=>lhs;whnf
  rewrite[(v) false _ _ ?hq]
  case hq=>exact λK=>by kernel_rfl
  conv=>lhs;whnf
  rewrite[GH]
  conv=>lhs;whnf
  rewrite[show∀K,eEq HO BinOp.eql (AV.agg [I r0.k,S r0.a1,S r0.a2,S r0.b1,S r0.b2,S r0.c1,S r0.c2,S r0.d1,S r0.d2]) (AV.agg [zI,zS,zS,zS,zS,zS,zS,zS,zS]) K=K (Bo true) from λK=>by rw[<-qO];kernel_rfl]
  conv=>lhs;whnf
  rewrite[Q7 ?hc]
  case hc=>decide
  conv=>lhs;whnf
  rewrite[XL ?hc]
  case hc=>decide
  conv=>lhs;whnf
  rewrite[GH]
  conv=>lhs;whnf
  rewrite[Q7 ?hc]
  case hc=>decide
  conv=>lhs;whnf
  rewrite[Qn]
  conv=>lhs;whnf
  rewrite[(hc) false _ _ ?hq]
  case hq=>exact λK=>by kernel_rfl
  conv=>lhs;whnf
  exact p _ _ (λb=>⟨false,λK=>by kernel_rfl⟩)
def A6J(hm:m.ok)(p:Sl T)(s:PO (rt (L+20) (n+60)) Qe [.agg (B0 0 Av Av o),.agg A59] (Bo true))(t:PO (rt (L+20) (n+60)) Mk [.agg (Cx u)] (Bo true))(q:LS (rt (L+20) (n+60)) LM [.agg (NJ ca cb T ra rb)] (Bo true)):
 CS (rt (L+20) (n+61)) Er [.agg (DW 1 m u ca cb T ra rb Av 0 Av Av o r0 0)] (Bo true):=by
 intro K j;obtain⟨h1,h2,f,v,g,w,h,x,i,e⟩:=hm;have hb:∀{z d c:Int},d<=z->z<=c->PO (rt (L+20) (n+60)) FM [I z,I d,I c] (Bo true):=λa b=>(gC a b).o;rcases p with rfl|⟨y,c4,rfl⟩
 all_goals
  rewrite[JD];unfold Gq Ih
  try rewrite[zO]
  try rewrite[bO]
  try rewrite[qO]
  try rewrite[cO]
  generalize rt (L+20) (n+60)=R at*
  conv=>lhs;whnf
  rewrite[hb h1 (by omega)]
  conv=>lhs;whnf
  rewrite[hb f (by omega)]
  conv=>lhs;whnf
  rewrite[hb g (by omega)]
  conv=>lhs;whnf
  rewrite[hb h (by omega)]
  conv=>lhs;whnf
  rewrite[hb i (by omega)]
  conv=>lhs;whnf
  rewrite[t]
  conv=>lhs;whnf
  rewrite[(q) false _ _ ?hq]
  case hq=>exact λK=>by kernel_rfl
  conv=>lhs;whnf
  rewrite[GH]
  conv=>lhs;whnf
  rewrite[show∀K,eEq HO BinOp.eql (AV.agg [I r0.k,S r0.a1,S r0.a2,S r0.b1,S r0.b2,S r0.c1,S r0.c2,S r0.d1,S r0.d2]) (AV.agg [zI,zS,zS,zS,zS,zS,zS,zS,zS]) K=K (Bo true) from λK=>by rw[<-qO];kernel_rfl]
  conv=>lhs;whnf
  rewrite[Q7 ?hc]
  case hc=>decide
  conv=>lhs;whnf
  rewrite[Q7 ?hc]
  case hc=>decide
  conv=>lhs;whnf
  rewrite[Qn]
  conv=>lhs;whnf
  rewrite[Q7 ?hc]
  case hc=>decide
  conv=>lhs;whnf
  rewrite[s]
  conv=>lhs;whnf
  exact j _ _ (λb=>⟨false,λK=>by kernel_rfl⟩)
def A6H(hm:m.ok)(w:Sl T)(v:∃n cs,P=.list n cs)(q:∃n cs,ins=.list n cs)(t:∃n cs,nds=.list n cs)(c:∀K,eEq HO BinOp.eql (AV.agg r.cs) (AV.agg [zI,zS,zS,zS,zS,zS,zS,zS,zS]) K=K (Bo false))(hr:PO (rt (L+20) (n+60)) Zc [.agg r.cs] (Bo true))(d:1<=vd)(e:vd<=3)(y:PO (rt (L+20) (n+60)) Mk [.agg (Cx u)] (Bo true))(x:LS (rt (L+20) (n+60)) LM [.agg (NJ ca cb T ra rb)] (Bo true))(hc:LS (rt (L+20) (n+60)) Hq [.agg (DW 3 m u ca cb T ra rb P id ins nds o r vd)] (Bo true)):
 CS (rt (L+20) (n+61)) Er [.agg (DW 3 m u ca cb T ra rb P id ins nds o r vd)] (Bo true):=by
 intro K s;obtain⟨h1,h2,i,A,j,B,k,C,p,h⟩:=hm;obtain⟨n1,c1,rfl⟩:=v;obtain⟨n2,c2,rfl⟩:=q;obtain⟨D,c3,rfl⟩:=t;have hb:∀{z g f:Int},g<=z->z<=f->PO (rt (L+20) (n+60)) FM [I z,I g,I f] (Bo true):=λa b=>(gC a b).o;rcases w with rfl|⟨F,c4,rfl⟩
 all_goals
  rewrite[JD];unfold Gq Ih
  try rewrite[zO]
  try rewrite[bO]
  try rewrite[qO]
  try rewrite[cO]
  generalize rt (L+20) (n+60)=R at*
  conv=>lhs;whnf
  rewrite[hb h1 (by omega)]
  conv=>lhs;whnf
  rewrite[hb i (by omega)]
  conv=>lhs;whnf
  rewrite[hb j (by omega)]
  conv=>lhs;whnf
  rewrite[hb k (by omega)]
  conv=>lhs;whnf
  rewrite[hb p (by omega)]
  conv=>lhs;whnf
  rewrite[y]
  conv=>lhs;whnf
  rewrite[(x) false _ _ ?hq]
  case hq=>exact λK=>by kernel_rfl
  conv=>lhs;whnf
  rewrite[GH]
  conv=>lhs;whnf
  rewrite[c]
  conv=>lhs;whnf
  rewrite[XL ?hc]
  case hc=>decide
  conv=>lhs;whnf
  rewrite[GH]
  conv=>lhs;whnf
  rewrite[XL ?hc]
  case hc=>decide
  conv=>lhs;whnf
  rewrite[GH]
  conv=>lhs;whnf
  rewrite[Q7 ?hc]
  case hc=>decide
  conv=>lhs;whnf
  rewrite[Qn]
  conv=>lhs;whnf
  rewrite[(hc) false _ _ ?hq]
  case hq=>exact λK=>by kernel_rfl
  conv=>lhs;whnf
  rewrite[hr]
  conv=>lhs;whnf
  rewrite[hb d e]
  conv=>lhs;whnf
  exact s _ _ (λb=>⟨false,λK=>by kernel_rfl⟩)
end
end
section
variable{c2:Is}{n2:Nat}
variable{L n:Nat}
attribute [local irreducible] Ap rt oP eBi eEq cnd Ar R7 A1
section
variable{m:ND}{u o:UD}{ca cb ra rb:Ha}{T P ins nds:AV}{id vd:Int}{r:RD}
def A77(hm:m.ok)(p:Sl T)(hr:PO (rt (L+20) (n+60)) JG [.agg r0.cs] (Bo false))(s:PO (rt (L+20) (n+60)) Hn [.agg (B0 0 Av Av o),.agg A59] (Bo true))(t:PO (rt (L+20) (n+60)) F5 [.agg (Cx u)] (Bo true))(q:LS (rt (L+20) (n+60)) JI [.agg (NJ ca cb T ra rb)] (Bo true)):
 CS (rt (L+20) (n+61)) F1 [.agg (DW 1 m u ca cb T ra rb Av 0 Av Av o r0 0)] (.tup [Bo true,Bo false]):=by
 intro K j;obtain⟨h1,h2,f,v,g,w,h,x,i,e⟩:=hm;have hb:∀{z d c:Int},d<=z->z<=c->PO (rt (L+20) (n+60)) IY [I z,I d,I c] (Bo true):=λa b=>(Ys a b).o;rcases p with rfl|⟨y,c4,rfl⟩
 all_goals
  rewrite[JX];unfold IU Ih
  try rewrite[zO]
  try rewrite[bO]
  try rewrite[qO]
  try rewrite[cO]
  generalize rt (L+20) (n+60)=R at*
  conv=>lhs;whnf
  rewrite[XL ?hc]
  case hc=>decide
  conv=>lhs;whnf
  rewrite[t]
  conv=>lhs;whnf
  rewrite[(q) false _ _ ?hq]
  case hq=>exact λK=>by kernel_rfl
  conv=>lhs;whnf
  rewrite[hb h1 (by omega)]
  conv=>lhs;whnf
  rewrite[hb f (by omega)]
  conv=>lhs;whnf
  rewrite[hb g (by omega)]
  conv=>lhs;whnf
  rewrite[hb h (by omega)]
  conv=>lhs;whnf
  rewrite[hb i (by omega)]
  conv=>lhs;whnf
  rewrite[GH]
  conv=>lhs;whnf
  rewrite[hr]
  conv=>lhs;whnf
  rewrite[show∀K,eEq HO BinOp.neq (AV.agg [I r0.k,S r0.a1,S r0.a2,S r0.b1,S r0.b2,S r0.c1,S r0.c2,S r0.d1,S r0.d2]) (AV.agg [zI,zS,zS,zS,zS,zS,zS,zS,zS]) K=K (Bo false) from λK=>by rw[<-qO];kernel_rfl]
  conv=>lhs;whnf
  rewrite[B0A ?hc]
  case hc=>decide
  conv=>lhs;whnf
  rewrite[GH]
  conv=>lhs;whnf
  rewrite[Q7 ?hc]
  case hc=>decide
  conv=>lhs;whnf
  rewrite[Qn]
  conv=>lhs;whnf
  rewrite[s]
  conv=>lhs;whnf
  rewrite[Q7 ?hc]
  case hc=>decide
  conv=>lhs;whnf
  exact j _ _ (λb=>⟨false,λK=>by kernel_rfl⟩)
def A76(hm:m.ok)(s:Sl T)(hr:PO (rt (L+20) (n+60)) JG [.agg r0.cs] (Bo false))(q:∃n cs,P=.list n cs)(p:∃n cs,nds=.list n cs)(v:LS (rt (L+20) (n+60)) Iw [P] (.tup [Bo true,I n2]))(hv:LS (rt (L+20) (n+60)) Ge [.agg (B0 id (.list n2 c2) nds u)] (Bo true))(w:PO (rt (L+20) (n+60)) F5 [.agg (Cx u)] (Bo true))(t:LS (rt (L+20) (n+60)) JI [.agg (NJ ca cb T ra rb)] (Bo true)):
 CS (rt (L+20) (n+61)) F1 [.agg (DW 2 m u ca cb T ra rb P id (.list n2 c2) nds u r0 0)] (.tup [Bo true,Bo false]):=by
 intro K j;obtain⟨h1,h2,f,x,g,y,h,A,i,e⟩:=hm;obtain⟨n1,c1,rfl⟩:=q;obtain⟨B,c3,rfl⟩:=p;have hb:∀{z d c:Int},d<=z->z<=c->PO (rt (L+20) (n+60)) IY [I z,I d,I c] (Bo true):=λa b=>(Ys a b).o;rcases s with rfl|⟨C,c4,rfl⟩
 all_goals
  rewrite[JX];unfold IU Ih
  try rewrite[zO]
  try rewrite[bO]
  try rewrite[qO]
  try rewrite[cO]
  generalize rt (L+20) (n+60)=R at*
  conv=>lhs;whnf
  rewrite[XL ?hc]
  case hc=>decide
  conv=>lhs;whnf
  rewrite[w]
  conv=>lhs;whnf
  rewrite[(t) false _ _ ?hq]
  case hq=>exact λK=>by kernel_rfl
  conv=>lhs;whnf
  rewrite[hb h1 (by omega)]
  conv=>lhs;whnf
  rewrite[hb f (by omega)]
  conv=>lhs;whnf
  rewrite[hb g (by omega)]
  conv=>lhs;whnf
  rewrite[hb h (by omega)]
  conv=>lhs;whnf
  rewrite[hb i (by omega)]
  conv=>lhs;whnf
  rewrite[GH]
  conv=>lhs;whnf
  rewrite[hr]
  conv=>lhs;whnf
  rewrite[show∀K,eEq HO BinOp.neq (AV.agg [I r0.k,S r0.a1,S r0.a2,S r0.b1,S r0.b2,S r0.c1,S r0.c2,S r0.d1,S r0.d2]) (AV.agg [zI,zS,zS,zS,zS,zS,zS,zS,zS]) K=K (Bo false) from λK=>by rw[<-qO];kernel_rfl]
  conv=>lhs;whnf
  rewrite[B0A ?hc]
  case hc=>decide
  conv=>lhs;whnf
  rewrite[GH]
  conv=>lhs;whnf
  rewrite[XL ?hc]
  case hc=>decide
  conv=>lhs;whnf
  rewrite[GH]
  conv=>lhs;whnf
  rewrite[Q7 ?hc]
  case hc=>decide
  conv=>lhs;whnf
  rewrite[Qn]
  conv=>lhs;whnf
  rewrite[Qn]
  conv=>lhs;whnf
  rewrite[(v) false _ _ ?hq]
  case hq=>exact λK=>by kernel_rfl
  conv=>lhs;whnf
  rewrite[(hv) false _ _ ?hq]
  case hq=>exact λK=>by kernel_rfl
  conv=>lhs;whnf
  rewrite[Q7 ?hc]
  case hc=>rfl
  conv=>lhs;whnf
  rewrite[jM u]
  conv=>lhs;whnf
  exact j _ _ (λb=>⟨false,λK=>by kernel_rfl⟩)
def A75(hm:m.ok)(t:Sl T)(hr:PO (rt (L+20) (n+60)) JG [.agg r.cs] (Bo true))(c:1<=vd)(d:vd<=3)(s:∃n cs,P=.list n cs)(q:∃n cs,nds=.list n cs)(w:LS (rt (L+20) (n+60)) Iw [P] (.tup [Bo true,I n2]))(hv:LS (rt (L+20) (n+60)) Ge [.agg (B0 id (.list n2 c2) nds u)] (Bo true))(x:PO (rt (L+20) (n+60)) F5 [.agg (Cx u)] (Bo true))(v:LS (rt (L+20) (n+60)) JI [.agg (NJ ca cb T ra rb)] (Bo true)):
 CS (rt (L+20) (n+61)) F1 [.agg (DW 3 m u ca cb T ra rb P id (.list n2 c2) nds u r vd)] (.tup [Bo true,Bo true]):=by
 intro K p;obtain⟨h1,h2,h,y,i,A,j,B,k,g⟩:=hm;obtain⟨n1,c1,rfl⟩:=s;obtain⟨C,c3,rfl⟩:=q;have hb:∀{z f e:Int},f<=z->z<=e->PO (rt (L+20) (n+60)) IY [I z,I f,I e] (Bo true):=λa b=>(Ys a b).o;rcases t with rfl|⟨D,c4,rfl⟩
 all_goals
  rewrite[JX];unfold IU Ih
  try rewrite[zO]
  try rewrite[bO]
  try rewrite[qO]
  try rewrite[cO]
  generalize rt (L+20) (n+60)=R at*
  conv=>lhs;whnf
  rewrite[Q7 ?hc]
  case hc=>decide
  conv=>lhs;whnf
  rewrite[x]
  conv=>lhs;whnf
  rewrite[(v) false _ _ ?hq]
  case hq=>exact λK=>by kernel_rfl
  conv=>lhs;whnf
  rewrite[hb h1 (by omega)]
  conv=>lhs;whnf
  rewrite[hb h (by omega)]
  conv=>lhs;whnf
  rewrite[hb i (by omega)]
  conv=>lhs;whnf
  rewrite[hb j (by omega)]
  conv=>lhs;whnf
  rewrite[hb k (by omega)]
  conv=>lhs;whnf
  rewrite[GH]
  conv=>lhs;whnf
  rewrite[hr]
  conv=>lhs;whnf
  rewrite[hb c d]
  conv=>lhs;whnf
  rewrite[GH]
  conv=>lhs;whnf
  rewrite[XL ?hc]
  case hc=>decide
  conv=>lhs;whnf
  rewrite[GH]
  conv=>lhs;whnf
  rewrite[XL ?hc]
  case hc=>decide
  conv=>lhs;whnf
  rewrite[GH]
  conv=>lhs;whnf
  rewrite[Q7 ?hc]
  case hc=>decide
  conv=>lhs;whnf
  rewrite[Qn]
  conv=>lhs;whnf
  rewrite[(w) false _ _ ?hq]
  case hq=>exact λK=>by kernel_rfl
  conv=>lhs;whnf
  rewrite[(hv) false _ _ ?hq]
  case hq=>exact λK=>by kernel_rfl
  conv=>lhs;whnf
  rewrite[Q7 ?hc]
  case hc=>rfl
  conv=>lhs;whnf
  rewrite[jM u]
  conv=>lhs;whnf
  exact p _ _ (λb=>⟨false,λK=>by kernel_rfl⟩)
end
end
section
variable{L n:Nat}
attribute [local irreducible] Ap rt oP eBi eEq cnd Ar R7 A1
section
variable{m:ND}{u:UD}{ca cb ra rb:Ha}{T nds:AV}{kd id vd:Int}{r:RD}
def sL{n2:Nat}{c1 c2:Is}(d:Sl T)(c:∃n cs,nds=.list n cs)(e:LS (rt (L+20) (n+59)) JK [.list n2 c1] (Bo true))(hv:LS (rt (L+20) (n+59)) Gz [.agg (B0 id (.list n2 c2) nds u)] (Bo true)):
 CS (rt (L+20) (n+60)) Hq [.agg (DW kd m u ca cb T ra rb (.list n2 c1) id (.list n2 c2) nds u r vd)] (Bo true):=by
 intro K a;obtain⟨f,c3,rfl⟩:=c;rcases d with rfl|⟨g,c4,rfl⟩
 all_goals
  rewrite[SK];unfold JE Ih
  try rewrite[zO]
  try rewrite[bO]
  try rewrite[qO]
  try rewrite[cO]
  generalize rt (L+20) (n+59)=R at*
  conv=>lhs;whnf
  rewrite[(e) false _ _ ?hq]
  case hq=>exact λK=>by kernel_rfl
  conv=>lhs;whnf
  rewrite[(hv) false _ _ ?hq]
  case hq=>exact λK=>by kernel_rfl
  conv=>lhs;whnf
  rewrite[Q7 ?hc]
  case hc=>rfl
  conv=>lhs;whnf
  rewrite[jM u]
  conv=>lhs;whnf
  exact a _ _ (λb=>⟨false,λK=>by kernel_rfl⟩)
end
end
section
variable{x y:Af}{a b:Int}{i:Nat}
variable{L n:Nat}
abbrev Ls(l:List Ha):AV:=.list l.length (AE l)
def Na{l:List Ha}{K:K2}:Bh Ac (Ls l) K=K (I l.length):=id rfl
def Td{l:List Ha}{K:K2}(h:i<l.length):DC Ac (Ls l) (I i) K=K (.iptr [S l[i]]):=by
 rw[eZ rfl (by simp[AE]) (by omega) (by omega),mG,Px h]
def Ke{s:Ha}{H:Hp}{K:K2}:AD Ah (.iptr [S s]) H K=K (S s):=Ny rfl
def Db{ty:TI}{K:K2}(h:i<1000000000):Ar ty .add (I i) (.v (.int .i64 1)) K=K (I ((i+1:Nat):Int)):=by
 rw[CY,CQ (by omega) (by omega),RR]
def Fz{ty:TI}{K:K2}(h:a<b):Ar ty .lss (I a) (I b) K=K (Bo true):=by rw[D8,HR h]
def Fp{ty:TI}{K:K2}(h:¬a<b):Ar ty .lss (I a) (I b) K=K (Bo false):=by rw[D8,HW h]
def Cu:A1 (.v (.bool true)) x y=x:=id rfl
def AZ:A1 (.v (.bool false)) x y=y:=id rfl
def Bw{v:AV}{H:Hp}{K:K2}:Au (some (v,H)) K=K v:=id rfl
section
variable{R:Rt}{K:KV}{ps:List Ha}{H:Hp}
def B9E{c:AV->AV->KV}(g:i<ps.length)(hn:ps.Nodup)(hb:ps.length<100):∀(f j:Nat),j<=i->i-j<f->
 LV (L+20) R K c f (Ls ps) (I i) (I j) H=c (Ls ps) (I i) (I i) H:=by
 intro f
 induction f with
 |zero=>intro j _ h;omega
 |succ f ih=>
  intro j m k;rw[RW];unfold LX Km A3 Ga;by_cases h:j<i
  ·rw[Fz (by omega),Cu,Td (by omega),Bw,Ke,Bw,Td g,Bw,Ke,Bw,Mn];have d:ps[j]≠ps[i]:=λe=>by
    have:=(List.getElem_inj (h₀:=by omega) (h₁:=g) hn).1 e;omega
   rw[HW d,Bw,AZ,Db (by omega)];exact ih (j+1) (by omega) (by omega)
  ·rw[Fp (by omega),AZ];have:j=i:=by omega
   rw[this]
def B9F{c:KV}(hn:ps.Nodup)(hb:ps.length<100)(g:ps.length<L+20)(e:∀s∈ps,s.length=32):∀(f i:Nat)(v:AV),i<=ps.length->ps.length-i<f->
 LW (L+20) R K c f (Ls ps) (I i) v H=c (Ls ps) H:=by
 intro f
 induction f with
 |zero=>intro i v _ h;omega
 |succ f ih=>
  intro i v k j;rw[RX];unfold LY IA A3 Ga;rw[Na];by_cases h:i<ps.length
  ·rw[Fz (by omega),Cu];simp only[BE];rw[Td h,Ke,Qf rfl,e _ (Qk h),I3];rw[show(!decide (((32:Nat):Int)=32))=false from rfl,AZ];have d:(AV.v (.int .i64 0))=I ((0:Nat):Int):=rfl;rw[d,B9E h hn hb _ 0 (by omega) (by omega),Db (by omega)];exact ih (i+1) _ (by omega) (by omega)
  ·rw[Fp (by omega),AZ]
end
def zG{ps:List Ha}(hn:ps.Nodup)(h:1<=ps.length)(hb:ps.length<=6)(f:∀s∈ps,s.length=32):
 CS (r! L (n+1)) Iw [Ls ps] (.tup [Bo true,I ps.length]):=by
 intro K e;rw[T9];unfold MS Dk A3 Ga;simp only[BE];have d:(AV.v (.int .i64 0))=I ((0:Nat):Int):=rfl;rw[d,B9F hn (by omega) (by omega) f _ 0 _ (by omega) (by omega),Na,KO,HR (by omega)];have g:∀(x:Bool->Af),gdV true (Bo true) x=x true:=λx=>id rfl;have c:∀{v:AV}{H:Hp}{K:KV},Dy (some (v,H)) K=K v H:=id rfl;simp only[g,c,Na];rw[jO,HR (by omega)];exact e _ _ (λb=>⟨false,λK=>by kernel_rfl⟩)
end
section
variable{v:AV}{q0:Bool}{H H0:Hp}
variable{L n:Nat}
def Bc(l:List Ha):(AE l).length=l.length:=by simp[AE]
def kP(a b:List Ha):AE a++AE b=AE (a++b):=by simp[AE]
def A6m{l:List Ha}(b:Ha)(h:Bk H Aq 1 v l.length (AE l))(w:Wf H)(hn:l.length<1000000000):
 ∃d a,(∀K:KV,(FU Aq 1 Ah 1 [(0,1,S b)] H λv1 j=>DK Aq 1 Ah Ac v v1 j K)=K d a)/\Bk a Aq 1 d (l++[b]).length (AE (l++[b]))/\Wf a/\As H<=As a/\(∀s x,Ai H s=some x->¬A9 v s->Ai a s=some x)/\(∀s,A9 d s->As H<=s):=by
 have i:Bk ((As H,.cells false Aq [S b])::H) Aq 1 v l.length (AE l):=h.lat w (Lat.cons H _ (λ_=>False)) (λ_ _ h=>h);have c:=Ob (H:=H) (e:=Aq) (n:=1) (cs:=[S b]) rfl;obtain⟨d,a,h1,h2,k,m⟩:=apt (ie:=Ah) (i2:=Ac) i (λK=>R4 (K:=K) c) rfl rfl (by decide) rfl rfl (by show(l.length+1)*16<=_;omega) (by omega);have f:=(Lat.cons H (.cells false Aq [S b]) (A9 v)).trans m (R:=A9 v) (λ_ _ h=>h) (λ_ _ h=>h);refine⟨d,a,λK=>?_,by rw[EK,<-kP];exact h2,f.wf w,f.nx,λs x g hn=>f.keep w s x g hn,λs g=>?_⟩
 ·rw[nP (z:=S []) (λ_=>rfl) (λ_=>rfl) rfl];exact h1 K
 ·rw[k s g];exact l1u _
def NW(c2 c6:AV)(p:Option (Option Code)):Row:=.loop 13 [(2,c2),(4,Av),(5,AV.dk),(6,c6),(7,AV.dk),(8,AV.dk),(9,AV.dk),(10,AV.dk),(11,AV.dk)] (Bt).2.1 (Bt).2.2.1 (Bt).2.2.2 p
structure Coll(H0:Hp)(r0 s:Nat)(q0:Bool)(e0:Nat)(c6:AV)(l:List Ha)(v:AV)(H:Hp):Prop where
 at_:Ai H r0=some (.cells q0 e0 [v])
 sl:Bk H Aq 1 v l.length (AE l)
 lp:Ai H s=some (NW (.ptr r0 0 0) c6 (some none))
 new:∀u,A9 v u->u≠r0/\u≠s/\As H0<=u
 wf:Wf H
 keep:∀u y,Ai H0 u=some y->Ai H u=some y
 ne:r0≠s
 r0n:As H0<=r0
 sn:As H0<=s
 w0:Wf H0
variable{K:KV}{x:Af}
def B40{r0 s e0:Nat}{c6 v:AV}{l:List Ha}{b:Ha}(h:Coll H0 r0 s q0 e0 c6 l v H)(hn:l.length<1000000000)(Z:∀d j,Coll H0 r0 s q0 e0 c6 (l++[b]) d j->K (Bo true) j=x):C4 (E (L+20)) (r! L (n+1)) (.yl s) [S b] H K=x:=by
 show NY (r! L (n+1)) s [S b] H K=x;rw[Pt h.lp (by kernel_rfl)];have t:(r! L (n+1)).run= λR=>Mq (E (L+20)) (r! L n) R:=rfl;rw[t,Hv,P0 h.lp];have O:=Bj (r:=s) (y:=NW (.ptr r0 0 0) c6 none) h.wf;have k:Ai (upd H s (NW (.ptr r0 0 0) c6 none)) r0=some (.cells q0 e0 [v]):=by rw[Ag h.ne];exact h.at_
 have J:Ai (upd H s (NW (.ptr r0 0 0) c6 none)) s=some (NW (.ptr r0 0 0) c6 none):=Fk h.lp;have N:Bk (upd H s (NW (.ptr r0 0 0) c6 none)) Aq 1 v l.length (AE l):=h.sl.lat h.wf (Lat.upd H s _ (P:=λu=>u=s) rfl) (λu c=>(h.new u c).2.1);have D:∀u y,Ai H0 u=some y->Ai (upd H s (NW (.ptr r0 0 0) c6 none)) u=some y:=λu y c=>by
  have:=h.w0.lt c;rw[Ag (by have:=h.sn;omega)];exact h.keep u y c
 show AD Ac (.ptr r0 0 0) (upd H s (NW (.ptr r0 0 0) c6 none)) _=_;rw[AF (p:=0) rfl k (by simp)];show FU Aq 1 Ah 1 [(0,1,S b)] (upd H s (NW (.ptr r0 0 0) c6 none)) (λQ A=>DK Aq 1 Ah Ac v Q A _)=_;obtain⟨d,j,h1,h2,B,h4,C,V⟩:=A6m b N O hn;rw[h1];have n0:¬A9 v r0:=λc=>(h.new r0 c).1 rfl;have ns:¬A9 v s:=λc=>(h.new s c).2.1 rfl;have m:=C r0 _ k n0;have M:=C s _ J ns;have f:B3 d=[d]/\AV.one d=true:=by
  rcases h2 with⟨rfl,_⟩|⟨a,b,rfl,_⟩<;>exact⟨rfl,rfl⟩
 rw[D6 (q:=q0) (e:=e0) (cs:=[v]) m (by simp) rfl f.1 f.2];have Y:As H0<=As H:=by have:=h.wf.lt h.at_;have:=h.r0n;omega
 have F:As (upd H s (NW (.ptr r0 0 0) c6 none))=As H:=B4 _ _ _;have i:∀u,A9 d u->u≠r0/\u≠s/\As H0<=u:=λu c=>by
  have a1:=V u c;rw[F]at a1;have a2:=h.wf.lt h.at_;have a3:=h.wf.lt h.lp;exact⟨by omega,by omega,by omega⟩
 have w:Ai (upd j r0 (.cells q0 e0 [d])) s=some (NW (.ptr r0 0 0) c6 none):=by rw[Ag h.ne.symm];exact M
 show EB (upd j r0 (.cells q0 e0 [d])) s false (some none) _=_;have g:=w;unfold NW at g;rw[Pz g];refine Z d _ ⟨?_,?_,?_,i,Bj (Bj B),λu y c=>?_,h.ne,h.r0n,h.sn,h.w0⟩
 ·rw[Ag h.ne];exact AC m
 ·have a:=h2.lat B (Lat.upd j r0 (.cells q0 e0 [d]) (P:=λu=>u=r0) rfl) (λu c=>(i u c).1);exact a.lat (Bj B) (Lat.upd _ s _ (P:=λu=>u=s) rfl) (λu c=>(i u c).2.1)
 ·exact Fk w
 ·have X:=h.w0.lt c;have b1:=h.r0n;have b2:=h.sn;rw[Ag (by omega),Ag (by omega)];refine C u y (D u y c) (λhv=>?_);have:=(h.new u hv).2.2;omega
def C1T{r0 s e0:Nat}{c6:AV}{k3:Ru}{ps:List Ha}(hn:ps.length<1000000000)(c:∀v H,Coll H0 r0 s q0 e0 c6 ps v H->k3 H=x):
 ∀(f i:Nat)(v:AV)(H:Hp),i<=ps.length->ps.length-i<f->Coll H0 r0 s q0 e0 c6 (ps.take i) v H->
  EL (L+20) (r! L (n+1)) K k3 f (.yl s) (Ls ps) (I ps.length) (I i) H=x:=by
 intro f
 induction f with
 |zero=>intro i v H _ h;omega
 |succ f ih=>
  intro i v H g e hc;rw[KX];unfold EM IA A3;by_cases h:i<ps.length
  ·rw[Fz (by omega),Cu,Td h,Ke];refine B40 hc (by simp;omega) λd b a=>?_;rw[Eh];show A1 (.v (.bool false)) _ _=_;rw[AZ,Db (by omega)];rw[<-oH h]at a;exact ih (i+1) d b (by omega) (by omega) a
  ·rw[Fp (by omega),AZ];have:i=ps.length:=by omega
   rw[this,wQ]at hc;exact c v H hc
structure NewSl(H0:Hp)(l:List Ha)(v:AV)(H:Hp):Prop where
 sl:Bk H Aq 1 v l.length (AE l)
 new:∀u,A9 v u->As H0<=u
 wf:Wf H
 keep:∀u y,Ai H0 u=some y->Ai H u=some y
 nx:As H0<=As H
abbrev A9g(ps:List Ha):AV:=.fn (.func Ib) [] [.iptr [Ls ps]]
def A6W{ps:List Ha}(hn:ps.length<1000000000)(f:ps.length<L)(w:Wf H0)(e:∀v H,NewSl H0 ps v H->K v H=x):
 (r! L (n+4)).call EJ [A9g ps] H0 K=x:=by
 rw[GE];unfold EI;rw[DE];unfold C8;simp only[BE];rw[nI (by rfl),A5u,Lv];unfold EZ A3;simp only[BE];have d:∀H K,AD Ac (.iptr [Ls ps]) H K=K (Ls ps):=λH K=>Ny rfl;rw[d,Na];have e0:(AV.v (.int .i64 0))=I ((0:Nat):Int):=rfl;rw[e0];have w1:=AG (x:=.cells true A8 [Av]) w;have b:=Ax (H:=H0) (x:=.cells true A8 [Av]) (by simp);have c:As ((As H0,c_ A8 [Av])::H0)=As H0+1:=rfl;refine C1T (n:=n) (H0:=H0) (r0:=As H0) (s:=As H0+1) (q0:=true) (e0:=A8) (c6:=A9g ps) hn ?_ (L+20) 0 Av _ (by omega) (by omega) ⟨A7 (w1.lt b) b,.inl ⟨rfl,rfl,rfl⟩,Ax (H:=((As H0,c_ A8 [Av])::H0)) (x:=NW (.ptr (As H0) 0 0) (A9g ps) (some none)) (by simp[NW]),λu ⟨_,_,_,h⟩=>(by cases h),AG w1,λu y a=>?_,by omega,by omega,by omega,w⟩
 ·intro v H hc;rw[c,Bp hc.lp];show XA4 H (As H0+1) .gone _=x;rw[Dg];have hr:Ai (upd H (As H0+1) .gone) (As H0)=some (c_ A8 [v]):=by rw[Ag (by omega)];exact hc.at_
  show AD Ac (.ptr (As H0) 0 0) (upd H (As H0+1) .gone) _=x;rw[AF (p:=0) rfl hr (by simp)];refine e _ _ ⟨?_,λu a=>(hc.new u a).2.2,Bj hc.wf,λu y a=>?_,?_⟩
  ·exact hc.sl.lat hc.wf (Lat.upd H _ _ (P:=λu=>u=As H0+1) rfl) (λu a=>(hc.new u a).2.1)
  ·have:=w.lt a;rw[Ag (by omega)];exact hc.keep u y a
  ·rw[B4];have:=hc.wf.lt hc.at_;omega
 ·have a1:=A7 (x:=.cells true A8 [Av]) (w.lt a) a;exact A7 (w1.lt a1) a1
def A8Q{ps:List Ha}(A:0<ps.length)(hn:ps.length<1000000000)(s:ps.length<L)(w:Wf H0)(t:∀v H,NewSl H0 (Et ps) v H->K v H=x):
 (r! L (n+5)).call Eo [A9g ps] H0 K=x:=by
 rw[Hi];unfold Fa;refine A6W hn s w λv H b=>?_;have i:=(Bq ps).length_eq;rcases b.sl with⟨_,h,_⟩|⟨r,q,rfl,f,hc⟩
 ·omega
 ·have m:∀K,(r! L (n+4)).call AL [.sl 1 r 0 ps.length] H K=T7 [.sl 1 r 0 ps.length] H K (Zl (E (L+20)) (nT (L+20)) (r! L (n+3)) AL [.sl 1 r 0 ps.length] H K):=λK=>rfl;rw[m];have e:∀(l:List Ha),Vi (AE l)=some l:=λl=>by
   induction l with
   |nil=>rfl
   |cons a l ih=>show(Vi (AE l)).map _=_;rw[ih];rfl
  have p:∀alt K,T7 [.sl 1 r 0 ps.length] H K alt=Ey 0 (AE (Et ps)) (AE ps) λc=>XA4 H r (.cells q Aq c) λk=>K (.tup []) k:=λalt K=>by
   unfold T7;simp only[f,rB];rw[l25 (by rw[Bc];omega),e];have g:(Nat.beq ps.length ps.length&&(Nat.blt ps.length 4611686018427387904&&Nat.blt 0 ps.length))=true:=by simp;omega
   simp only[g];rfl
  rw[p,Iu _ _ _ _ (by rw[Bc,Bc];omega),VZ _ _ (by rw[Bc,Bc];exact i),Dg];refine t _ _ ⟨.inr ⟨r,q,by rw[i],AC f,by rw[Bc];omega⟩,λu ⟨_,_,_,d⟩=>?_,Bj b.wf,λu y j=>?_,by rw[B4];exact b.nx⟩
  ·injection d with _ d
   subst d;exact b.new r ⟨1,0,ps.length,rfl⟩
  ·have a1:=w.lt j;have a2:=b.new r ⟨1,0,ps.length,rfl⟩;rw[Ag (by omega)];exact b.keep u y j
end
section
variable{a:AV}{H:Hp}{es:IH}{m s:Nat}
variable{L n:Nat}
def Wb{R:Rt}{m g:Nat}{cap:Is}{t:Tm}{ps:Array Tmp}{f d:Code}{K:Option (Option Code)->Ru}:
 oS R m (.fn (.func g) [] cap) t ps f d H K=R.call g (.yl (As H)::cap) ((As H,.loop m t ps f d (some none))::H) λ_ c=>IR c (As H) λx=>dL x λ_ _ _ _ _ b=>XA4 c (As H) .gone λh=>K b h:=by
 have e:oS R m (.fn (.func g) [] cap) t ps f d H K=Io H λs=>Za [] (.yl s::cap) λall=>R.call g all ((s,.loop m t ps f d (some none))::H) λ_ c=>IR c s λx=>dL x λ_ _ _ _ _ b=>XA4 c s .gone λh=>K b h:=rfl;rw[e,Ca,MX];rfl
def Xv{K:KV}:Xw (.imap es) H K=K (.it (As H)) ((As H,.iter es none)::H):=by
 have e:Xw (.imap es) H K=Io H λs=>K (.it s) ((s,.iter es none)::H):=rfl;rw[e,Ca]
def A7P{e:Value×AV}{o:Option (Value×AV)}{K:KV}(h:Ai H s=some (.iter (e::es) o)):
 Zd (.it s) H K=Ur (λe rest=>XA4 H s (.iter rest (some e)) λb=>K (.tup [.v (.bool true),tS e.1,e.2]) b) (e::es) []:=by
 have c:Zd (.it s) H K=IR H s λx=>A5V x λl=>@List.rec (Value×AV) (λ_=>Af) (K (.tup [.v (.bool false)]) H)
  (λ_ _ _=>Ur (λe rest=>XA4 H s (.iter rest (some e)) λb=>K (.tup [.v (.bool true),tS e.1,e.2]) b) l []) l:=rfl
 rw[c,Bp h];rfl
def B1y{o:Option (Value×AV)}{K:KV}(h:Ai H s=some (.iter [] o)):Zd (.it s) H K=K (.tup [.v (.bool false)]) H:=by
 have c:Zd (.it s) H K=IR H s λx=>A5V x λl=>@List.rec (Value×AV) (λ_=>Af) (K (.tup [.v (.bool false)]) H)
  (λ_ _ _=>Ur (λe rest=>XA4 H s (.iter rest (some e)) λb=>K (.tup [.v (.bool true),tS e.1,e.2]) b) l []) l:=rfl
 rw[c,Bp h];rfl
def NM{p:Value×AV}{K:K2}(h:Ai H s=some (.iter es (some p))):dE (.it s) H K=K (.tup [tS p.1,p.2]):=by
 have b:dE (.it s) H K=IR H s λx=>B0M x λp=>K (.tup [tS p.1,p.2]):=rfl;rw[b,Bp h];rfl
def GX{l:Is}{K:K2}:CM (.tup (a::l)) 0 K=K a:=id rfl
def Zg{a b:AV}{l:Is}{K:K2}:CM (.tup (a::b::l)) 1 K=K b:=id rfl
def A69{c:Option (Hb×Nat)}{K:KV}(d:Ai H m=some (.map false es c))(hc:es.all (λp=>fB 3 p.2)=true):Xw (.mp m) H K=K (.it (As H)) ((As H,.iter es none)::upd H m .gone):=by
 have e:Xw (.mp m) H K=IR H m λx=>mF x λes _=>ck (es.all λp=>fB 3 p.2) (XA4 H m .gone λb=>Io b λt=>K (.it t) ((t,.iter es none)::b)):=rfl;rw[e,Bp d];show ck (es.all λp=>fB 3 p.2) _=_;rw[hc];show XA4 H m .gone _=_;rw[Dg,Ca,B4]
def A7f{F:Value×AV->IH->Af}{v:AV}(hv:VS 6 v v=true):∀(l pre:IH),l≠[]->(∀l1 e l2,l=l1++e::l2->F e (pre++(l1++l2))=some (v,[]))->Ur F l pre=some (v,[]):=by
 intro l
 induction l with
 |nil=>intro _ h;exact absurd rfl h
 |cons e l ih=>
  intro pre _ h;have b:=h [] e l rfl;rw[l3b]at b;cases l with
  |nil=>rw[tO];rw[V0]at b;exact b
  |cons f l=>
   rw[oC,b,ih (pre++[e]) (by simp) λl1 c l2 d=>?_]
   ·show(match VS 6 v v with|true=>some (v,[])|false=>none)=_;rw[hv]
   ·have:=h (e::l1) c l2 (by rw[d];rfl);rw[fQ];exact this
def YD{α:Type}{f:α->AV}{es:List (Ha×α)}{it:Nat}{o:Option (Value×AV)}{w:AV}{K:KV}(u:VS 6 w w=true)(d:Ai H it=some (.iter (es.map λe=>(.string ⟨⟨e.1⟩⟩,f e.2)) o))(i:es=[]->K (.tup [.v (.bool false)]) H=some (w,[]))(h1:∀a e b,es=a++e::b->K (.tup [.v (.bool true),S e.1,f e.2]) (upd H it (.iter ((a++b).map λe=>(.string ⟨⟨e.1⟩⟩,f e.2)) (some (.string ⟨⟨e.1⟩⟩,f e.2))))=some (w,[])):Zd (.it it) H K=some (w,[]):=by
 cases es with
 |nil=>rw[B1y d];exact i rfl
 |cons e es=>
  rw[XI]at d;rw[A7P d];refine A7f u _ [] (by simp) λx p y h=>?_;rw[<-XI (f:=λe:Ha×α=>((Value.string ⟨⟨e.1⟩⟩:Value),f e.2))]at h;obtain⟨a,c,h2,j,k⟩:=List.map_eq_append_iff.1 h;obtain⟨g,b,q,r,t⟩:=List.map_eq_cons_iff.1 k;subst q j r t;rw[Dg,l3b,<-Z6];exact h1 a g b h2
end
section
variable{α:Type}
structure Ce(κ:Type) where
 real:Bool
 ps:List κ
section
variable{κ:Type}[DecidableEq κ]{g:List (κ×Ce κ)}
def MB:List (κ×α)->κ->Option α
 |[],_=>none
 |e::g,x=>if e.1=x then some e.2 else MB g x
def A7J{p q:α->Bool}{l:List α}(h:∀a∈l,p a=true->q a=true){a:α}(d:a∈l)(h1:q a=true)(h2:p a=false):(l.filter p).length<(l.filter q).length:=by
 induction l with
 |nil=>cases d
 |cons b l ih=>
  have mono:∀l:List α,(∀a∈l,p a=true->q a=true)->(l.filter p).length<=(l.filter q).length:=by
   intro l
   induction l with
   |nil=>intro _;simp
   |cons c l ih=>
    intro h;have:=ih λa d=>h a (by simp[d]);rw[l2m,l2m];have e:=h c (by simp);cases f:p c<;>cases hq:q c<;>simp_all<;>omega
  have i:=mono l λa d=>h a (by simp[d]);rw[l2m,l2m];rcases Xh.1 d with rfl|d
  ·rw[h1,h2];simp;omega
  ·have:=ih (λa d=>h a (by simp[d])) d;have e:=h b (by simp);cases f:p b<;>cases hq:q b<;>simp_all<;>omega
def Ma(b:List (κ×α))(x:κ)(v:α):List (κ×α):=match b with
 |[]=>[(x,v)]
 |e::b=>if e.1=x then(e.1,v)::b else e::Ma b x v
def jA{b:List (κ×α)}{x y:κ}{v:α}:MB (Ma b x v) y=if x=y then some v else MB b y:=by
 induction b with
 |nil=>rfl
 |cons e b ih=>
  unfold Ma;by_cases h:e.1=x
  ·rw[Dq h];simp only[MB];subst h;by_cases h1:e.1=y<;>simp[h1]
  ·rw[CF h];simp only[MB,ih];by_cases h1:x=y
   ·subst h1;simp[h]
   ·simp[h1]
end
end
section
variable{m:AV}{r:Nat}{ie:TI}
abbrev SV(s:Ha):Value:=.string ⟨⟨s⟩⟩
section
variable{α:Type}{f:α->AV}{b:List (Ha×α)}{x:Ha}{H:Hp}
abbrev Di(f:α->AV)(b:List (Ha×α)):IH:=b.map λe=>(SV e.1,f e.2)
def YZ(x:Ha):List (Ha×α)->Nat->Option (Nat×α)
 |[],_=>none
 |e::b,i=>if e.1=x then some (i,e.2) else YZ x b (i+1)
def Z8{e:Ha×α}{i:Nat}:YZ x (e::b) i=if e.1=x then some (i,e.2) else YZ x b (i+1):=rfl
def C3h{s u:Ha}:keq (SV s) (SV u)=some (decide (u=s)):=by
 show some (eqB s u)=_;rw[QU];by_cases h:s=u
 ·subst h;simp
 ·simp[h,Ne.symm h]
def B0R:∀(b:List (Ha×α))(i:Nat),iO (SV x) (Di f b) i=some ((YZ x b i).map λp=>(p.1,f p.2)):=by
 intro b
 induction b with
 |nil=>intro i;rfl
 |cons e b ih=>
  intro i;show iO (SV x) ((SV e.1,f e.2)::Di f b) i=_;rw[eT,C3h,ih,Z8];by_cases h:e.1=x
  ·simp[h]
  ·simp[h]
def A1Z:∀(b:List (Ha×α))(i:Nat),(YZ x b i).map (·.2)=MB b x:=by
 intro b
 induction b with
 |nil=>intro i;rfl
 |cons e b ih=>
  intro i;rw[Z8];unfold MB;by_cases h:e.1=x
  ·simp[h]
  ·simp[h,ih]
def A1Y(v:α):∀(b:List (Ha×α))(i:Nat),(match YZ x b i with|none=>b++[(x,v)]|some (j,_)=>b.set (j-i) (x,v))=Ma b x v/\(∀j w,YZ x b i=some (j,w)->i<=j):=by
 intro b
 induction b with
 |nil=>intro i;exact⟨rfl,λj w h=>by cases h⟩
 |cons e b ih=>
  intro i;rw[Z8];unfold Ma;by_cases h:e.1=x
  ·refine⟨?_,λj w a=>?_⟩
   ·simp[h]
   ·simp[h]at a;omega
  ·obtain⟨h1,h2⟩:=ih (i+1);refine⟨?_,λj w a=>?_⟩
   ·rw[CF h,CF h,<-h1];cases d:YZ x b (i+1) with
    |none=>rfl
    |some p=>
     obtain⟨j,w⟩:=p;have:=h2 j w d;have c:j-i=(j-(i+1))+1:=by omega
     simp only[c,List.set_cons_succ]
   ·rw[CF h]at a;have:=h2 j w a;omega
def ZA{es:IH}{a:Option (Hb×Nat)}{K:IH->Af}(h:Ai H r=some (.map false es a)):yM (.mp r) H K=K es:=by
 show IR H r _=_;rw[Bp h];rfl
def kfK{K:Option (Nat×AV)->Af}:I9 (SV x) (Di f b) K=K ((YZ x b 0).map λp=>(p.1,f p.2)):=by
 unfold I9;rw[B0R]
theorem A4x{K:K2}(h:∀K,yM m H K=K (Di f b)):ZE ie true m (SV x) H K=match MB b x with
 |some v=>K (.tup [f v,Bo true])
 |none=>K (.tup [ie.zero,Bo false]):=by
 unfold ZE;rw[h,kfK,<-A1Z b 0];cases YZ x b 0<;>rfl
theorem rK{K:K2}(h:∀K,yM m H K=K (Di f b)):ZE ie false m (SV x) H K=match MB b x with
 |some v=>K (f v)
 |none=>K ie.zero:=by
 unfold ZE;rw[h,kfK,<-A1Z b 0];cases YZ x b 0<;>rfl
def jG{v:α}{K:Ru}(h:Ai H r=some (.map false (Di f b) none)):My (.mp r) (SV x) (f v) H K=K (upd H r (.map false (Di f (Ma b x v)) none)):=by
 have e:My (.mp r) (SV x) (f v) H K=IR H r λy=>mF y λa c=>I9 (SV x) a λq=>match q with
  |none=>XA4 H r (.map false (a++[(SV x,f v)]) (wB c)) K
  |some (i,_)=>XA4 H r (.map false (a.set i (SV x,f v)) c) K:=rfl
 rw[e,Bp h];show I9 (SV x) (Di f b) _=_;rw[kfK];obtain⟨h1,h2⟩:=A1Y (x:=x) v b 0;cases d:YZ x b 0 with
 |none=>
  rw[d]at h1;show XA4 H r (.map false (Di f b++[(SV x,f v)]) none) K=_;rw[Dg,<-h1,Di,Di,Z6];rfl
 |some p=>
  obtain⟨j,w⟩:=p;rw[d]at h1;show XA4 H r (.map false ((Di f b).set j (SV x,f v)) none) K=_;rw[Dg,<-h1,Di,Di,List.map_set,Nat.sub_zero]
end
end
section
variable{v:AV}{q0:Bool}{H:Hp}{ks:List Ha}
variable{L n:Nat}
abbrev uS:Unit->AV:=λ_=>.agg []
section
variable{K:KV}{x:Af}
def N!{H0 H:Hp}{r0 s e0:Nat}{c6 v:AV}{l:List Ha}{b:Ha}(h:Coll H0 r0 s q0 e0 c6 l v H)(hn:l.length<1000000000)(hx:∀d f,Coll H0 r0 s q0 e0 c6 (l++[b]) d f->(∀u y,u≠r0->u≠s->¬A9 v u->Ai H u=some y->Ai f u=some y)->(∀u,A9 d u->As H<=u)->K (Bo true) f=x):C4 (E (L+20)) (r! L (n+1)) (.yl s) [S b] H K=x:=by
 show NY (r! L (n+1)) s [S b] H K=x;rw[Pt h.lp (by kernel_rfl)];have C:(r! L (n+1)).run= λV=>Mq (E (L+20)) (r! L n) V:=rfl;rw[C,Hv,P0 h.lp];have Q:=Bj (r:=s) (y:=NW (.ptr r0 0 0) c6 none) h.wf;have A:Ai (upd H s (NW (.ptr r0 0 0) c6 none)) r0=some (.cells q0 e0 [v]):=by rw[Ag h.ne];exact h.at_
 have M:Ai (upd H s (NW (.ptr r0 0 0) c6 none)) s=some (NW (.ptr r0 0 0) c6 none):=Fk h.lp;have O:Bk (upd H s (NW (.ptr r0 0 0) c6 none)) Aq 1 v l.length (AE l):=h.sl.lat h.wf (Lat.upd H s _ (P:=λu=>u=s) rfl) (λu c=>(h.new u c).2.1);show AD Ac (.ptr r0 0 0) (upd H s (NW (.ptr r0 0 0) c6 none)) _=_;rw[AF (p:=0) rfl A (by simp)];show FU Aq 1 Ah 1 [(0,1,S b)] (upd H s (NW (.ptr r0 0 0) c6 none)) (λR F=>DK Aq 1 Ah Ac v R F _)=_;obtain⟨d,f,h1,h2,t,h4,J,X⟩:=A6m b O Q hn;rw[h1];have n0:¬A9 v r0:=λc=>(h.new r0 c).1 rfl;have ns:¬A9 v s:=λc=>(h.new s c).2.1 rfl;have B:=J r0 _ A n0;have N:=J s _ M ns;have i:B3 d=[d]/\AV.one d=true:=by
  rcases h2 with⟨rfl,_⟩|⟨a,b,rfl,_⟩<;>exact⟨rfl,rfl⟩
 rw[D6 (q:=q0) (e:=e0) (cs:=[v]) B (by simp) rfl i.1 i.2];have aa:As H0<=As H:=by have:=h.wf.lt h.at_;have:=h.r0n;omega
 have Z:As (upd H s (NW (.ptr r0 0 0) c6 none))=As H:=B4 _ _ _;have g:∀u,A9 d u->As H<=u:=λu c=>by have:=X u c;omega
 have k:∀u,A9 d u->u≠r0/\u≠s/\As H0<=u:=λu c=>by
  have a1:=g u c;have a2:=h.wf.lt h.at_;have a3:=h.wf.lt h.lp;exact⟨by omega,by omega,by omega⟩
 have D:Ai (upd f r0 (.cells q0 e0 [d])) s=some (NW (.ptr r0 0 0) c6 none):=by rw[Ag h.ne.symm];exact N
 show EB (upd f r0 (.cells q0 e0 [d])) s false (some none) _=_;have j:=D;unfold NW at j;rw[Pz j];have kp:∀u y,u≠r0->u≠s->¬A9 v u->Ai H u=some y->Ai (upd (upd f r0 (.cells q0 e0 [d])) s (NW (.ptr r0 0 0) c6 (some none))) u=some y:=λu y h1 h2 t c=>by
  rw[Ag h2,Ag h1];exact J u y (by rw[Ag h2];exact c) t
 refine hx d _ ⟨?_,?_,?_,k,Bj (Bj t),λu y c=>?_,h.ne,h.r0n,h.sn,h.w0⟩ kp g
 ·rw[Ag h.ne];exact AC B
 ·have a:=h2.lat t (Lat.upd f r0 (.cells q0 e0 [d]) (P:=λu=>u=r0) rfl) (λu c=>(k u c).1);exact a.lat (Bj t) (Lat.upd _ s _ (P:=λu=>u=s) rfl) (λu c=>(k u c).2.1)
 ·exact Fk D
 ·have Y:=h.w0.lt c;have b1:=h.r0n;have b2:=h.sn;exact kp u y (by omega) (by omega) (λhv=>by have:=(h.new u hv).2.2;omega) (h.keep u y c)
theorem Coll.it{H0 H:Hp}{r0 s e0 it:Nat}{q0:Bool}{c6 v:AV}{l:List Ha}(h:Coll H0 r0 s q0 e0 c6 l v H)(y:Row)(h1:it≠r0/\it≠s/\As H0<=it)(h2:¬A9 v it):Coll H0 r0 s q0 e0 c6 l v (upd H it y):=
 ⟨by rw[Ag h1.1.symm];exact h.at_,h.sl.lat h.wf (Lat.upd H it y (P:=λu=>u=it) rfl) (λu a e=>h2 (e▸a)),by rw[Ag h1.2.1.symm];exact h.lp,h.new,Bj h.wf,λu z a=>by rw[Ag (by have:=h.w0.lt a;omega)];exact h.keep u z a,h.ne,h.r0n,h.sn,h.w0⟩
def LC{r:Nat}{x:Row}{es:IH}{o:Option (Value×AV)}(h:Ai H r=some x):Ai (upd H r (.iter es o)) r=some (.iter es o):=(BH h).trans rfl
def B4Y{H0:Hp}{r0 s e0 it:Nat}{c6 w:AV}{t:Ru}(M:VS 6 w w=true)(r:ks.length<1000000)(i:∀l v H,l.Perm ks->(l=[]->v=Av)->Coll H0 r0 s q0 e0 c6 l v H->t H=some (w,[]))(c:it≠r0/\it≠s/\As H0<=it):
 ∀(f:Nat)(es:List (Ha×Unit))(l:List Ha)(v:AV)(H:Hp)(o:Option (Value×AV)),es.length<f->(l++es.map Prod.fst).Perm ks->(l=[]->v=Av)->Coll H0 r0 s q0 e0 c6 l v H->¬A9 v it->Ai H it=some (.iter (Di uS es) o)->
 D9 (L+20) (r! L (n+1)) K t f (.yl s) (.it it) H=some (w,[]):=by
 intro f
 induction f with
 |zero=>intro es l v H o h;omega
 |succ f ih=>
  intro es l v H o D p C hc hv q;rw[Jn];unfold DA;refine YD (f:=uS) M q (λe=>?_) (λa e b he=>?_)
  ·subst e;rw[GX,AZ];exact i l v H (by simpa using p) C hc
  ·subst he;have g:=hc.it (.iter (Di uS (a++b)) (some (.string ⟨⟨e.1⟩⟩,uS e.2))) c hv;have d:=LC (es:=Di uS (a++b)) (o:=some (.string ⟨⟨e.1⟩⟩,uS e.2)) q;have k:(l++(a++e::b).map Prod.fst).length=ks.length:=p.length_eq;simp at k;have y:tS (.string ⟨⟨e.1⟩⟩)=S e.1:=rfl;rw[GX,Cu,NM d,GX,y];refine N! g (by omega) λN u j F hr=>?_;rw[Eh];show A1 (.v (.bool false)) _ _=_;rw[AZ];refine ih (a++b) (l++[e.1]) N u _ (by simp at D⊢;omega) ?_ (by simp) j (λJ=>?_) (F it _ c.1 c.2.1 hv d)
   ·refine List.Perm.trans ?_ p;simp only[Z6,XI,fQ];refine List.Perm.append_left l ?_;show(e.1::(a.map Prod.fst++b.map Prod.fst)).Perm _;exact List.perm_middle.symm
   ·have A:=hr it J;have B:=g.wf.lt d;rw[B4]at A B;omega
end
abbrev mJ(c:AV):AV:=.fn (.func FG) [] [c]
section
variable{K:KV}{w:AV}{H0:Hp}{m rb:Nat}{es:List (Ha×Unit)}
def C20(es:List (Ha×Unit)):(Di uS es).all (λp=>fB 3 p.2)=true:=by
 rw[GG];intro p a;obtain⟨e,_,rfl⟩:=Rc.1 a;rfl
def A3i(N:VS 6 w w=true)(hn:es.length<1000000)(R:es.length<L)(wf:Wf H0)(hb:Ai H0 rb=some (c_ CV [.mp m]))(hm:Ai H0 m=some (.map false (Di uS es) none))(O:∀l v H,l.Perm (es.map Prod.fst)->(l=[]->v=Av)->NewSl (upd H0 m .gone) l v H->K v H=some (w,[])):
 (r! L (n+4)).call EJ [mJ (.ptr rb 0 0)] H0 K=some (w,[]):=by
 rw[GE];unfold EI;rw[DE];unfold C8;simp only[BE];rw[nI (by rfl),Wb,Jv];unfold DM;simp only[BE];have w1:=AG (x:=.cells true A8 [Av]) wf;have g:=Ax (H:=H0) (x:=.cells true A8 [Av]) (by simp);have J:As ((As H0,c_ A8 [Av])::H0)=As H0+1:=rfl;have A:Wf ((As H0+1,NW (.ptr (As H0) 0 0) (mJ (.ptr rb 0 0)) (some none))::(As H0,c_ A8 [Av])::H0):=AG (x:=NW (.ptr (As H0) 0 0) (mJ (.ptr rb 0 0)) (some none)) w1;have k:Ai ((As H0+1,NW (.ptr (As H0) 0 0) (mJ (.ptr rb 0 0)) (some none))::(As H0,c_ A8 [Av])::H0) (As H0+1)=some (NW (.ptr (As H0) 0 0) (mJ (.ptr rb 0 0)) (some none)):=Ax (H:=((As H0,c_ A8 [Av])::H0)) (x:=NW (.ptr (As H0) 0 0) (mJ (.ptr rb 0 0)) (some none)) (by simp[NW]);have ol:∀u y,Ai H0 u=some y->Ai ((As H0+1,NW (.ptr (As H0) 0 0) (mJ (.ptr rb 0 0)) (some none))::(As H0,c_ A8 [Av])::H0) u=some y:=λu y c=>by
  have a1:=A7 (x:=.cells true A8 [Av]) (wf.lt c) c;exact A7 (w1.lt a1) a1
 show AD CJ (.ptr rb 0 0) ((As H0+1,NW (.ptr (As H0) 0 0) (mJ (.ptr rb 0 0)) (some none))::(As H0,c_ A8 [Av])::H0) _=_;rw[AF (p:=0) rfl (ol _ _ hb) (by simp)];show Xw (.mp m) ((As H0+1,NW (.ptr (As H0) 0 0) (mJ (.ptr rb 0 0)) (some none))::(As H0,c_ A8 [Av])::H0) _=_;rw[A69 (ol _ _ hm) (C20 es)];have mlt:=wf.lt hm;have D:Wf (upd H0 m .gone):=Bj wf;have j:Ai ((As H0+1,NW (.ptr (As H0) 0 0) (mJ (.ptr rb 0 0)) (some none))::(As H0,c_ A8 [Av])::H0) (As H0)=some (c_ A8 [Av]):=A7 (w1.lt g) g;generalize q:((As H0+1,NW (.ptr (As H0) 0 0) (mJ (.ptr rb 0 0)) (some none))::(As H0,c_ A8 [Av])::H0:Hp)=d at A k ol j;have i:As d=As H0+2:=by rw[<-q];rfl
 have B:Wf (upd d m .gone):=Bj A;have r:As (upd d m .gone)=As H0+2:=by rw[B4,i]
 have C:=AG (x:=.iter (Di uS es) none) B;have up:∀u y,u≠m->Ai d u=some y->Ai ((As d,Row.iter (Di uS es) none)::upd d m .gone) u=some y:=λu y c Q=>by
  have a:Ai (upd d m .gone) u=some y:=by rw[Ag c];exact Q
  have b:=A7 (x:=.iter (Di uS es) none) (B.lt a) a;rw[r,<-i]at b;exact b
 have t:Ai ((As d,Row.iter (Di uS es) none)::upd d m .gone) (As d)=some (.iter (Di uS es) none):=by
  have:=Ax (H:=upd d m .gone) (x:=.iter (Di uS es) none) (by simp);rw[B4]at this;exact this
 rw[B4]at C;refine B4Y (n:=n) (H0:=upd H0 m .gone) (r0:=As H0) (s:=As H0+1) (it:=As d) (q0:=true) (e0:=A8) (c6:=mJ (.ptr rb 0 0)) (ks:=es.map Prod.fst) N (by simpa using hn) ?_ (by rw[B4];omega) (L+20) es [] Av _ none (by omega) (by simp) (λ_=>rfl)
  ⟨up _ _ (by omega) j,.inl ⟨rfl,rfl,rfl⟩,up _ _ (by omega) k,λu ⟨_,_,_,h⟩=>(by cases h),C,λu y c=>?_,by omega,by rw[B4];omega,by rw[B4];omega,D⟩ (λ⟨_,_,_,h⟩=>(by cases h)) t
 ·intro l v H M F hc;show IR H (As H0+1) _=_;rw[Bp hc.lp];show XA4 H (As H0+1) .gone _=_;rw[Dg];have hr:Ai (upd H (As H0+1) .gone) (As H0)=some (c_ A8 [v]):=by rw[Ag (by omega)];exact hc.at_
  show AD Ac (.ptr (As H0) 0 0) (upd H (As H0+1) .gone) _=_;rw[AF (p:=0) rfl hr (by simp)];refine O _ _ _ M F ⟨?_,λu c=>(hc.new u c).2.2,Bj hc.wf,λu y c=>?_,?_⟩
  ·exact hc.sl.lat hc.wf (Lat.upd H _ _ (P:=λu=>u=As H0+1) rfl) (λu c=>(hc.new u c).2.1)
  ·have:=D.lt c;rw[B4]at this;rw[Ag (by omega)];exact hc.keep u y c
  ·rw[B4,B4];have:=hc.wf.lt hc.at_;omega
 ·have f:u≠m:=λe=>by
   subst e;rw[BH hm]at c;cases c
  rw[Ag f]at c;exact up u y f (ol u y c)
def A39{x:Af}{ps:List Ha}(wf:Wf H0)(hn:ps.length<1000000000)(C:ps=[]->v=Av)(c:NewSl H0 ps v H)(t:∀d,NewSl H0 (Et ps) v d->K (.tup []) d=x):
 (r! L (n+4)).call AL [v] H K=x:=by
 by_cases b:ps=[]
 ·subst b;obtain rfl:=C rfl;have e:(r! L (n+4)).call AL [Av] H K=K (.tup []) H:=by kernel_rfl
  rw[e];exact t H c
 have p:=(Bq ps).length_eq;rcases c.sl with⟨_,h,_⟩|⟨r,q,rfl,k,hc⟩
 ·exact absurd (mH h) b
 ·have A:∀K,(r! L (n+4)).call AL [.sl 1 r 0 ps.length] H K=T7 [.sl 1 r 0 ps.length] H K (Zl (E (L+20)) (nT (L+20)) (r! L (n+3)) AL [.sl 1 r 0 ps.length] H K):=λK=>rfl;rw[A];have j:∀(l:List Ha),Vi (AE l)=some l:=λl=>by
   induction l with
   |nil=>rfl
   |cons a l ih=>show(Vi (AE l)).map _=_;rw[ih];rfl
  have s:0<ps.length:=List.length_pos_iff.2 b;have B:∀alt K,T7 [.sl 1 r 0 ps.length] H K alt=Ey 0 (AE (Et ps)) (AE ps) λi=>XA4 H r (.cells q Aq i) λd=>K (.tup []) d:=λalt K=>by
   unfold T7;simp only[k,rB];rw[l25 (by rw[Bc];omega),j];have g:(Nat.beq ps.length ps.length&&(Nat.blt ps.length 4611686018427387904&&Nat.blt 0 ps.length))=true:=by simp;omega
   simp only[g];rfl
  rw[B,Iu _ _ _ _ (by rw[Bc,Bc];omega),VZ _ _ (by rw[Bc,Bc];exact p),Dg];refine t _ ⟨.inr ⟨r,q,by rw[p],AC k,by rw[Bc];omega⟩,λu f=>c.new u f,Bj c.wf,λu y f=>?_,by rw[B4];exact c.nx⟩;have a1:=wf.lt f;have a2:=c.new r ⟨1,0,ps.length,rfl⟩;rw[Ag (by omega)];exact c.keep u y f
def B1R{ty m:Nat}:FN ty (.mp m) H K=K (.ptr (As H) 0 0) ((As H,c_ ty [.mp m])::H):=by
 unfold FN;rw[CP,FP,Ca];rfl
def nZ(q:VS 6 w w=true)(hn:es.length<1000000)(j:es.length<L)(wf:Wf H0)(hm:Ai H0 m=some (.map false (Di uS es) none))(f:(es.map Prod.fst).Perm ks)(p:ks.Pairwise (· <= ·))(r:∀v H,Bk H Aq 1 v ks.length (AE ks)->(ks=[]->v=Av)->K v H=some (w,[])):(r! L (n+6)).call K7 [.mp m] H0 K=some (w,[]):=by
 rw[YN];unfold Nu;rw[K0];unfold E9 Ih;have i:∀{K:KV},FN CV (.mp m) H0 K=K (.ptr (As H0) 0 0) ((As H0,c_ CV [.mp m])::H0):=λ{K}=>B1R;rw[i];show(r! L (n+5)).call Eo [mJ (.ptr (As H0) 0 0)] ((As H0,c_ CV [.mp m])::H0) _=_;rw[Hi];unfold Fa;have w1:=AG (x:=.cells true CV [.mp m]) wf;have hb:=Ax (H:=H0) (x:=.cells true CV [.mp m]) (by simp);have b:=A7 (x:=.cells true CV [.mp m]) (wf.lt hm) hm;refine A3i (n:=n) q hn j w1 hb b λl v H c d hc=>?_;have e:Et l=ks:=IF ((Bq l).trans (c.trans f)) (DR l) p;have k:l.length=es.length:=by rw[c.length_eq,UH]
 refine A39 (n:=n) (Bj w1) (by omega) d hc λg a=>?_;rw[e]at a;refine r v g a.sl λh=>d ?_;have:=(c.trans f).length_eq;rw[h]at this;exact mH this
end
end
section
variable{q:Bool}{H:Hp}{e i r:Nat}{R:Rt}
variable{L n:Nat}{K:KV}{x:Af}
def gK{ty:TI}{K:K2}(a:0<i)(h:i<1000000000):Ar ty .sub (I i) (.v (.int .i64 1)) K=K (I ((i-1:Nat):Int)):=by
 rw[J6,CQ (by omega) (by omega)];have:(i:Int)-1=((i-1:Nat):Int):=by omega
 rw[this]
def Y?{l:List Ha}{K:K2}(a:Ai H r=some (.cells q e (AE l)))(h:i<l.length):AD Ah (.ptr r i 0) H K=K (S l[i]):=by
 rw[AF (p:=i) rfl a (by rw[Bc];exact h),Px h]
def R5{r i m:Nat}{K:K2}(h:i<m):DC Ac (.sl 1 r 0 m) (I i) K=K (.ptr r i 0):=by
 rw[Y_ rfl (by omega) (by omega),mG]
def C0Q{c:KV}{l:List Ha}(b:Ai H r=some (.cells q e (AE l)))(hn:l.Nodup)(hb:l.length<1000000000):∀(f i:Nat)(v w:AV),1<=i->i<=l.length->l.length-i<f->
 Ej (L+20) R K c f (.sl 1 r 0 l.length) (I i) v w H=c (.sl 1 r 0 l.length) H:=by
 intro f
 induction f with
 |zero=>intro i v w _ _ h;omega
 |succ f ih=>
  intro i v w h1 g d;rw[Iy];unfold Ek Km A3;have el:∀K,Bh Ac (.sl 1 r 0 l.length) K=K (I l.length):=λK=>id rfl;rw[el];by_cases h:i<l.length
  ·rw[Fz (by omega),Cu,R5 h,Bw,Y? b h,Bw,gK (by omega) (by omega),Bw,R5 (by omega),Bw,Y? b (by omega),Bw,Mn];have a:l[i]≠l[i-1]:=λe=>by
    have:=(List.getElem_inj (h₀:=h) (h₁:=by omega) hn).1 e;omega
   rw[HW a,Bw,AZ,Db (by omega)];exact ih (i+1) _ _ (by omega) (by omega) (by omega)
  ·rw[Fp (by omega),AZ]
def A6V{l:List Ha}(b:Ai H r=some (.cells q e (AE l)))(hn:l.Nodup)(hb:l.length<1000000000)(c:l.length<L):
 (r! L (n+1)).call Cw [.sl 1 r 0 l.length] H K=K (.sl 1 r 0 l.length) H:=by
 rw[IG];unfold Ew A3;simp only[BE];have el:∀K,Bh Ac (.sl 1 r 0 l.length) K=K (I l.length):=λK=>id rfl;rw[el];by_cases h:l.length<2
 ·rw[Fz (by omega),Cu]
 ·rw[Fp (by omega),AZ];have a:(AV.v (.int .i64 1))=I ((1:Nat):Int):=rfl;rw[a,C0Q b hn hb _ 1 _ _ (by omega) (by omega) (by omega)]
def C1Q{s:Ha}(h:s.length=32):PS (r! L (n+1)) Ev [S s] (Bo false):=by
 refine CS.ps (λK a=>?_) (λH=>λK=>by kernel_rfl);rw[PM];unfold Ir Ih;rw[Qf rfl,h,I3];exact a _ _ (λb=>⟨false,λK=>by kernel_rfl⟩)
abbrev B2c:AV:=.fn (.func Ev) [] []
def C03{a:Ru}{ps:List Ha}(hb:ps.length<1000000000)(c:∀s∈ps,s.length=32):∀(f i:Nat),i<=ps.length->ps.length-i<f->
 DP (L+20) (r! L (n+1)) K a f (Ls ps) B2c (I ps.length) (I i) H=a H:=by
 intro f
 induction f with
 |zero=>intro i _ h;omega
 |succ f ih=>
  intro i g d;rw[Hu];unfold DQ IA A3;by_cases h:i<ps.length
  ·rw[Fz (by omega),Cu,Td h,Ke];have b:∀K,C4 (E (L+20)) (r! L (n+1)) B2c [S ps[i]] H K=Ap (r! L (n+1)) Ev [S ps[i]] H λv=>K v H:=λK=>by kernel_rfl
   rw[b,C1Q (c _ (Qk h)),AZ,Db (by omega)];exact ih (i+1) (by omega) (by omega)
  ·rw[Fp (by omega),AZ]
def A9b{ps:List Ha}(hb:ps.length<1000000000)(g:ps.length<L)(f:∀s∈ps,s.length=32):CS (r! L (n+3)) B8 [Ls ps,B2c] (Bo false):=by
 intro K a;rw[GK];unfold D3 LR;have d:CS (r! L (n+2)) Ea [Ls ps,B2c] (I (-1)):=by
  intro K a;rw[Ia];unfold DZ A3;simp only[BE];have c:(AV.v (.int .i64 0))=I ((0:Nat):Int):=rfl;rw[Na,c,C03 hb f _ 0 (by omega) (by omega)];exact a _ _ (λb=>⟨false,λK=>by kernel_rfl⟩)
 rw[AP (q:=false) d (λK=>by kernel_rfl),KO];exact a _ _ (λb=>⟨false,λK=>by kernel_rfl⟩)
def KG{f:Nat}{args args':Is}{v:AV}{K:K2}(hc:∀K:KV,(∀a b,(∃q,Fx true depth a v b q)->K a b=some (v,[]))->R.call f args' [] K=some (v,[]))(g:R9 true depth args args' H false):Ap R f args H K=K v:=by
 unfold Ap;rw[g];have:=hc (λa c=>HV (!false) c depth a λ_ j=>some (j,[])) (λa b h=>by
  obtain⟨k,d⟩:=h;exact d _)
 rw[this];rfl
def yU{ps:List Ha}(hn:ps.Nodup)(w:1<=ps.length)(hb:ps.length<=6)(y:10<L)(p:∀s∈ps,s.length=32):
 CS (r! L (n+6)) JK [Ls ps] (Bo true):=by
 intro K d;rw[SL];unfold JF Dk A3 Ga;have hv:∀K,Ap (r! L (n+5)) Gv [Ls ps] [] K=K (A9g ps):=λK=>by
  refine KG (args':=[Ls ps]) (λK d=>?_) (λK=>by kernel_rfl);rw[Np];unfold Gh Ih;rw[C0F];exact d _ _ ⟨true,λK=>by kernel_rfl⟩
 rw[hv];refine A8Q (n:=n) (by omega) (by omega) (by omega) FH λv H t=>?_;have k:=(Bq ps).length_eq;rcases t.sl with⟨_,h,_⟩|⟨r,q,rfl,hr,hc⟩
 ·omega
 rw[Na,gC (n:=n+4) (by omega) (by omega)];have g:∀(x:Bool->Af),gdV true (Bo true) x=x true:=λx=>id rfl;have c:∀{v:AV}{H:Hp}{K:KV},Dy (some (v,H)) K=K v H:=id rfl;have pk:∀{a b:AV}{K:K2},Ch (Bo true) a b K=K a:=id rfl;have u:∀{K:K2},MC .not (Bo false) K=K (Bo true):=id rfl;simp only[g,c];have f:∀K,Ap (r! L (n+5)) B8 [Ls ps,B2c] H K=K (Bo false):=λK=>AP (q:=false) (A9b (n:=n+2) (by omega) (by omega) p) (λK=>by kernel_rfl);have el:∀m K,Bh Ac (.sl 1 r 0 m) K=K (I m):=λm K=>id rfl;have j:∀K,(r! L (n+5)).call Cw [.sl 1 r 0 ps.length] H K=K (.sl 1 r 0 ps.length) H:=λK=>by
  have:=A6V (K:=K) (L:=L) (n:=n+4) hr ((Bq ps).nodup_iff.2 hn) (by omega) (by omega);rw[k]at this;exact this
 simp only[f,u,c,pk,g,j,el,Na,Cl,k,decide_true];exact d _ _ (λb=>⟨false,λK=>by cases b<;>kernel_rfl⟩)
end
section
variable{a b:Int}
def dig(k:Nat):Ha:=if k<10 then[UInt8.ofNat (48+k)] else[UInt8.ofNat (48+k/10),UInt8.ofNat (48+k%10)]
def dec(z:Int):Ha:=if z<0 then 45::dig z.natAbs else dig z.natAbs
def qn(z:Int):Ha:=dec (if z%4=0 then z/4 else if z%2=0 then z/2 else z)
def qd(z:Int):Ha:=if z%4=0 then[49] else if z%2=0 then[50] else[52]
abbrev qa(z:Int):Is:=[S (qn z),S (qd z)]
def B1d{p:Int->Bool}(h:((List.range (b-a).toNat).all λk=>p ((k:Int)+a))=true){z:Int}(h1:a<=z)(h2:z<b):p z=true:=by
 have:=GG.1 h (z-a).toNat (KR.2 (by omega));have e:(((z-a).toNat:Nat):Int)+a=z:=by omega
 simp only[e]at this;exact this
def A7c{L m f:Nat}{args:Int->Is}{val:Int->AV}(c:∀z H,R9 true depth (args z) (args z) H false)(h:((List.range (b-a).toNat).all λk=>JQ (Ba (Du (rt L m) f (args ((k:Int)+a))) (val ((k:Int)+a))))=true){z:Int}(h1:a<=z)(h2:z<b):PS (rt L m) f (args z) (val z):=
 BJ (c z) (B1d (p:=λz=>JQ (Ba (Du (rt L m) f (args z)) (val z))) h h1 h2)
def Yt{z:Int}(h1: -80<=z)(h2:z<81):(qn z).length<4:=by
 have:=B1d (p:=λz=>decide ((qn z).length<4)) (a:= -80) (b:=81) (by kernel_rfl) h1 h2;simpa using this
def Yu(z:Int):(qd z).length=1:=by unfold qd;split<;>(try split)<;>rfl
def C2C{z:Int}(h1: -80<=z)(h2:z<81)(h:z≠0):qn z≠[48]:=by
 have:=B1d (p:=λz=>decide (z=0\/qn z≠[48])) (a:= -80) (b:=81) (by kernel_rfl) h1 h2;simpa [h] using this
end
section
variable{L n:Nat}
def A9Z{z:Int}(h1: -80<=z)(h2:z<81):PS (r! L (n+40)) Gy [I z,I 4] (.tup [.agg (qa z),I 0]):=
 A7c (args:=λz=>[I z,I 4]) (val:=λz=>.tup [.agg (qa z),I 0]) (a:= -80) (b:=81) (λz H K=>by kernel_rfl) (by kernel_rfl) h1 h2
def tH{z:Int}(h1: -80<=z)(h2:z<81):PS (r! L (n+40)) F6 [.agg (qa z)] (Bo true):=
 A7c (args:=λz=>[.agg (qa z)]) (val:=λz=>Bo true) (a:= -80) (b:=81) (λz H K=>by kernel_rfl) (by kernel_rfl) h1 h2
def B9g{z:Int}(h1:0<=z)(h2:z<9):PS (r! L (n+40)) QT [.agg (qa z),.agg [S [48],S [49]]] (I (if z=0 then 0 else 1)):=
 A7c (args:=λz=>[.agg (qa z),.agg [S [48],S [49]]]) (val:=λz=>I (if z=0 then 0 else 1)) (a:=0) (b:=9) (λz H K=>by kernel_rfl) (by kernel_rfl) h1 h2
def A1c{z:Int}(h1:0<=z)(h2:z<1):PS (r! L (n+40)) MN [I z] (.agg [S [48],S [49]]):=
 A7c (args:=λz=>[I z]) (val:=λz=>.agg [S [48],S [49]]) (a:=0) (b:=1) (λz H K=>by kernel_rfl) (by kernel_rfl) h1 h2
end
section
variable{q:Bool}{y:Bool->Af}{H:Hp}{i:Nat}{t:TI}{α:Type}
variable{L n:Nat}
def jB(f:α->Is)(w:Nat)(b:∀x,(f x).length=w):∀l:List α,(l.flatMap f).length=l.length*w:=by
 intro l
 induction l with
 |nil=>simp
 |cons a l ih=>simp[ih,b,l1e,Nat.add_comm]
def vI(f:α->Is)(w:Nat)(b:∀x,(f x).length=w):∀(l:List α)(i:Nat)(h:i<l.length),((l.flatMap f).drop (i*w)).take w=f l[i]:=by
 intro l
 induction l with
 |nil=>intro i h;simp at h
 |cons a l ih=>
  intro i h;cases i with
  |zero=>
   simp only[rE,Nat.zero_mul,rB,List.getElem_cons_zero];rw[l32 (by rw[b];omega),l25 (by rw[b];omega)]
  |succ i=>
   simp only[rE,List.getElem_cons_succ];have:(i+1)*w=(f a).length+i*w:=by rw[b,l1e];omega
   rw[this,List.drop_append,List.drop_of_length_le (by omega),l3b,Nat.add_sub_cancel_left];exact ih i (by simpa using h)
def Zf{e w:Nat}{f:α->Is}{l:List α}{K:K2}(g:t.d=.slice e w)(p:∀x,(f x).length=w)(h:i<l.length):DC t (.list l.length (l.flatMap f)) (I i) K=K (.iptr (f l[i])):=by
 have j:DC t (.list l.length (l.flatMap f)) (I (i:Int)) K=iN (i:Int) λm=>ck (Nat.blt m l.length) (SU w (Dn (Nat.mul m w) (l.flatMap f)) λc=>K (.iptr c)):=by
  obtain⟨a,b,d,z⟩:=t;simp only at g;subst g;rfl
 rw[j,Kk,CA,OJ];have k:Nat.blt i l.length=true:=by rw[Xi];exact h
 rw[k];show K (.iptr (((l.flatMap f).drop (i*w)).take w))=_;rw[vI f w p l i h]
def D7{r p e:Nat}{cs:Is}{K:K2}(h:t.d.isAgg=true)(a:Ai H r=some (.cells q e cs))(b:p+t.size<=cs.length):AD t (.ptr r p 0) H K=K (.agg ((cs.drop p).take t.size)):=by
 have:AD t (.ptr r p 0) H K=IR H r λx=>Ki x λ_ cs=>@Bool.rec (λ_=>Af) (hdK (Dn (Nat.add p 0) cs) K) (EO t.size (Dn (Nat.add p 0) cs) λc=>K (.agg c)) t.d.isAgg:=rfl;rw[this,h,Bp a];show EO t.size (Dn p cs) _=_;rw[CA,KS _ _ _ (by simp;omega)]
abbrev dQ:=List (Int×Int)
def NC(t:Int×Int):Is:=[I t.1,S (qn t.2),S (qd t.2)]
def E4(ts:dQ):AV:=match ts with
 |[]=>Av
 |t::ts=>.list (t::ts).length ((t::ts).flatMap NC)
structure TmsOk(ts:dQ):Prop where
 len:ts.length<=6
 rng:∀t∈ts,1<=t.1/\t.1<=100/\ -8<=t.2/\t.2<=8/\t.2≠0
 asc:ts.Pairwise λa b=>a.1<b.1
def Hr(ts:dQ):Sl (E4 ts):=by
 cases ts with
 |nil=>exact .inl rfl
 |cons t ts=>exact .inr ⟨_,_,rfl⟩
def MP{ts:dQ}{K:K2}:Bh A2 (E4 ts) K=K (I ts.length):=by cases ts<;>exact id rfl
def B3u{ts:dQ}(h:i<ts.length):E4 ts=.list ts.length (ts.flatMap NC):=by
 cases ts with
 |nil=>simp at h
 |cons t ts=>rfl
def TM{ts:dQ}{K:K2}(h:i<ts.length):DC A2 (E4 ts) (I i) K=K (.iptr (NC ts[i])):=by
 rw[B3u h];exact Zf (f:=NC) rfl (λ_=>rfl) h
def C5B{a b c d:Ha}{K:K2}:R7 J4 .eql (.agg [S a,S b]) (.agg [S c,S d]) K=K (Bo (decide (a=c)&&decide (b=d))):=by
 have e:R7 J4 .eql (.agg [S a,S b]) (.agg [S c,S d]) K=(match(generalizing:=false) (some (eqB a c&&(eqB b d&&true)):Option Bool),BinOp.eql with
  |some q,.eql=>bB q K
  |some q,.neq=>bB (!q) K
  |_,_=>none):=rfl
 rw[e];show bB _ K=_;rw[NO,QU,QU,l1g];have h1:∀(x y:Ha),(x==y)=decide (x=y):=λx y=>by by_cases h:x=y<;>simp[h]
 rw[h1,h1]
section
variable{K:KV}{x:Af}{ca cb ra rb:Ha}{ts:dQ}
def gT:gdV q (.v (.bool q)) y=y true:=by cases q<;>exact id rfl
def iW:gdV true (.v (.bool false)) y=y false:=id rfl
def zX:gdV false (.v (.bool true)) y=y false:=id rfl
def Cb{v:AV}:Dy (some (v,H)) K=K v H:=id rfl
def UV{a b:AV}{K:K2}:Ch (.v (.bool true)) a b K=K a:=id rfl
def RC{a b:AV}{K:K2}:Ch (.v (.bool false)) a b K=K b:=id rfl
def ntT{K:K2}:MC .not (.v (.bool true)) K=K (Bo false):=id rfl
def ntF{K:K2}:MC .not (.v (.bool false)) K=K (Bo true):=id rfl
abbrev A1X(ca cb ra rb:Ha)(ts:dQ):Row:=.cells true Ei [S ca,S cb,E4 ts,S ra,S rb]
def C2r{j:Ru}{r0:Nat}(u:TmsOk ts)(M:∀H,j H=x):∀(f i:Nat)(H:Hp),i<=ts.length->ts.length-i<f->Ai H r0=some (A1X ca cb ra rb ts)->Wf H->
 Se (L+20) (r! L (n+41)) K j f (.ptr r0 0 0) (I i) H=x:=by
 intro f
 induction f with
 |zero=>intro i H _ h;omega
 |succ f ih=>
  intro i H V R m w;have hb:=u.len;rw[lB];unfold Sf Dz IA Dk FQ A3 Kn Ga;have f2:∀K:K2,CD 2 (.ptr r0 0 0) K=K (.ptr r0 2 0):=λK=>id rfl;have F:∀K,AD A2 (.ptr r0 2 0) H K=K (E4 ts):=λK=>AF (p:=2) rfl m (by simp);rw[f2,F,MP];by_cases h:i<ts.length
  ·rw[Fz (by omega),Cu,f2,F,TM h];have hr:=u.rng _ (Qk h);have lt:∀H K,AD BG (.iptr (NC ts[i])) H K=K (.agg (NC ts[i])):=λH K=>id rfl;rw[lt,B1 (cs:=[zI,zS,zS]) rfl];have g:=Ax (H:=H) (x:=.cells true Be [zI,zS,zS]) (by simp);rw[BX (vs:=NC ts[i]) g rfl rfl rfl];have b:=AC (q:=true) (e:=Be) (cs:=NC ts[i]) g;have s:=w.lt m;have a:Ai (upd ((As H,c_ Be [zI,zS,zS])::H) (As H) (c_ Be (NC ts[i]))) r0=some (A1X ca cb ra rb ts):=by
    rw[Ag (by omega)];exact A7 s m
   have w1:=Bj (r:=As H) (y:=.cells true Be (NC ts[i])) (AG (x:=.cells true Be [zI,zS,zS]) w);generalize upd ((As H,c_ Be [zI,zS,zS])::H) (As H) (c_ Be (NC ts[i]))=c at b a w1;generalize As H=r at b;have C:∀K:K2,CD 1 (.ptr r 0 0) K=K (.ptr r 1 0):=λK=>id rfl;have B:∀K:K2,CD 0 (.ptr r 0 0) K=K (.ptr r 0 0):=λK=>id rfl;have m1:∀K,AD A4 (.ptr r 1 0) c K=K (.agg (qa ts[i].2)):=λK=>D7 (p:=1) rfl b (show 3<=3 from Mh _);have m0:∀K,AD Ab (.ptr r 0 0) c K=K (I ts[i].1):=λK=>AF (p:=0) rfl b (show 0<3 by decide);have Q:∀K,AD A2 (.ptr r0 2 0) c K=K (E4 ts):=λK=>AF (p:=2) rfl a (by simp);rw[C,m1,tH (n:=n+1) (by omega) (by omega)];have hq:=C2C (by omega) (by omega) hr.2.2.2.2;have J:∀H K,Ap (r! L (n+41)) MN [.v (.int .i64 0)] H K=K (.agg [S [48],S [49]]):=λH K=>A1c (z:=0) (n:=n+1) (by decide) (by decide) H K;have i1:∀K,Ar Ab .lss (I ts[i].1) (.v (.int .i64 1)) K=K (Bo false):=λK=>Fp (by omega);have i2:∀K,Ar Ab .gtr (I ts[i].1) (.v (.int .i64 1000000)) K=K (Bo false):=λK=>by rw[Ef,HW (by omega)]
   simp only[ntT,Bw,gT,C,m1,Cb,J,C5B,hq,decide_false,Bool.false_and,RC,B,m0,i1,i2];by_cases k:0<i
   ·have A:∀K,Ar Ab .gtr (I (i:Int)) (.v (.int .i64 0)) K=K (Bo true):=λK=>by rw[Ef,HR (by omega)]
    have d:i-1<ts.length:=by omega
    have N:∀K:K2,CD 0 (.iptr (NC ts[i-1])) K=K (.iptr (NC ts[i-1])):=λK=>id rfl;have O:∀K,AD Ab (.iptr (NC ts[i-1])) c K=K (I ts[i-1].1):=λK=>id rfl;have D:ts[i-1].1<ts[i].1:=(l26.1 u.asc) (i-1) i d h (by omega);have P:∀K,Ar Ab .geq (I ts[i-1].1) (I ts[i].1) K=K (Bo false):=λK=>by rw[KO,HW (by omega)]
    simp only[A,Bw,Cb,gT,f2,Q,gK k (by omega:i<1000000000),TM d,N,O,B,m0,P,UV,RC];rw[AZ,Db (by omega)];exact ih (i+1) c (by omega) (by omega) a w1
   ·have A:∀K,Ar Ab .gtr (I (i:Int)) (.v (.int .i64 0)) K=K (Bo false):=λK=>by rw[Ef,HW (by omega)]
    simp only[A,Bw,Cb,gT,iW,UV,RC];rw[AZ,Db (by omega)];exact ih (i+1) c (by omega) (by omega) a w1
  ·rw[Fp (by omega),AZ];exact M H
def tK{c r:Int}(j: -80<=c)(k:c<=80)(m:0<=r)(s:r<=8)(A:10<L)(d:TmsOk ts):CS (r! L (n+42)) JI [.agg (NJ (qn c) (qd c) (E4 ts) (qn r) (qd r))] (Bo true):=by
 intro K h;have hb:=d.len;rw[pS];unfold Ux Dz FQ A3 Kn Ga;rw[DN (by cases ts<;>rfl)];have a:=Ax (H:=[]) (x:=A1X (qn c) (qd c) (qn r) (qd r) ts) (by simp);have w0:Wf [(As [],A1X (qn c) (qd c) (qn r) (qd r) ts)]:=AG FH;generalize [(As [],A1X (qn c) (qd c) (qn r) (qd r) ts)]=H at a w0;generalize As []=r0 at a;have f:∀K:K2,CD 0 (.ptr r0 0 0) K=K (.ptr r0 0 0):=λK=>id rfl;have f2:∀K:K2,CD 2 (.ptr r0 0 0) K=K (.ptr r0 2 0):=λK=>id rfl;have f3:∀K:K2,CD 3 (.ptr r0 0 0) K=K (.ptr r0 3 0):=λK=>id rfl;have m0:∀K,AD A4 (.ptr r0 0 0) H K=K (.agg (qa c)):=λK=>D7 (p:=0) rfl a (show 2<=5 by decide);have m3:∀K,AD A4 (.ptr r0 3 0) H K=K (.agg (qa r)):=λK=>D7 (p:=3) rfl a (show 5<=5 by decide);have w:∀K,AD A2 (.ptr r0 2 0) H K=K (E4 ts):=λK=>AF (p:=2) rfl a (show 2<5 by decide);have u:∀H K,Ap (r! L (n+41)) MN [.v (.int .i64 0)] H K=K (.agg [S [48],S [49]]):=λH K=>A1c (z:=0) (n:=n+1) (by decide) (by decide) H K;rw[f,m0,tH (n:=n+1) (by omega) (by omega),f3,m3,tH (n:=n+1) (by omega) (by omega)];have h1:∀K,Ap (r! L (n+41)) QT [.agg (qa r),.agg [S [48],S [49]]] H K=K (I (if r=0 then 0 else 1)):=λK=>B9g (n:=n+1) (by omega) (by omega) H K;have h2:∀K,Ar Ab .lss (I (if r=0 then 0 else 1)) (.v (.int .i64 0)) K=K (Bo false):=λK=>Fp (by split<;>omega);have g:∀K,Ar Ab .gtr (I (ts.length:Int)) (.v (.int .i64 64)) K=K (Bo false):=λK=>by rw[Ef,HW (by omega)]
 simp only[ntT,Bw,Cb,gT,RC,f3,m3,u,h1,h2,f2,w,MP,g,BE];rw[AZ];have e:(AV.v (.int .i64 0))=I ((0:Nat):Int):=rfl;rw[e];exact C2r (n:=n) d (λH=>h _ _ (λb=>⟨false,λK=>by kernel_rfl⟩)) (L+20) 0 H (by omega) (by omega) a w0
end
end
section
variable{L n:Nat}
def B39{z:Int}(h1:0<=z)(h2:z<9):PS (r! L (n+40)) Q6 [.agg (qa z)] (I (if z=0 then 0 else 1)):=
 A7c (args:=λz=>[.agg (qa z)]) (val:=λz=>I (if z=0 then 0 else 1)) (a:=0) (b:=9) (λz H K=>by kernel_rfl) (by kernel_rfl) h1 h2
def B38{z:Int}(h1: -8<=z)(h2:z<9):PS (r! L (n+40)) OX [.agg (qa z)] (Bo (decide (z=0))):=
 A7c (args:=λz=>[.agg (qa z)]) (val:=λz=>Bo (decide (z=0))) (a:= -8) (b:=9) (λz H K=>by kernel_rfl) (by kernel_rfl) h1 h2
end
end Go.Abs
end
