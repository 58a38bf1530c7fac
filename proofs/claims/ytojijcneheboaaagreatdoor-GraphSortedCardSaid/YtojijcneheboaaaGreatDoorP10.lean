import Derived.Test.YtojijcneheboaaaGreatDoorP09
set_option linter.all false
set_option maxHeartbeats 0
noncomputable section
namespace Go.Abs
open Go.RowKit Go.Proofs
set_option maxRecDepth 100000
section
variable{K:K2}{s:Ha}
def CI{a b:AV}:Ci (.tup [a,b]) 0 K=K a:=id rfl
def CH{a b:AV}:Ci (.tup [a,b]) 1 K=K b:=id rfl
def Bw{i:TI}{a b:Ha}(d:a.length+b.length<9223372036854775808):Ap i .add (S a) (S b) K=K (S (a++b)):=by
 have e:Ap i .add (S a) (S b) K=WX a b λl=>ck (Nat.blt l.length 9223372036854775808) (K (.v (.string ⟨⟨l⟩⟩))):=rfl;have c:Nat.blt (a++b).length 9223372036854775808=true:=by rw[VD,EJ];exact d
 rw[e,LR,c];rfl
def A96(f:Nat):∀z,(A97 f z).length<=f:=by
 induction f with
 |zero=>intro z;exact Oj _
 |succ f ih=>
  intro z;unfold A97;split
  ·simp
  ·have:=ih (z/128);simp;omega
def SE(z:Int):(enc z).length<=9:=A96 9 _
def yZ(s:Ha):Ha:=enc s.length++s
def Q!(L n:Nat)(h:s.length<390):PS (r! L (n+5)) NJ [S s] (.tup [S (yZ s),I 0]):=by
 refine CS.ps (λK a=>?_) (λH=>fx1);rw[XW];unfold No XA3;rw[OP rfl,DB,Fi,Cr (by simp;omega),OP rfl,Q? L n (by omega) (by omega),CI,CH,Bw (by have:=SE (s.length:Int);omega)];exact a _ _ (λb=>⟨false,Vq (Aq (q:=false) (q':=false) CG (Aq (q:=false) (q':=false) CG AG))⟩)
def J'(L n:Nat)(h:s.length<390):PS (r! L (n+9)) OM [S s] (.tup [S (yZ s),I 0]):=by
 refine CS.ps (λK a=>?_) (λH=>fx1);rw[YI];unfold Oy XA3;rw[OP rfl,DB,Fi,Cr (by simp;omega),OP rfl,J! L n (by omega) (by omega),CI,CH,Bw (by have:=SE (s.length:Int);omega)];exact a _ _ (λb=>⟨false,Vq (Aq (q:=false) (q':=false) CG (Aq (q:=false) (q':=false) CG AG))⟩)
end
section
variable{k:KV}{H:Hp}{i:Nat}
def EB(l:List Int):Is:=l.map λz=>.v (.int .i64 z)
def AJ(l:List Ha):Is:=l.map λs=>S s
def Iv(l:List Int):Ha:=(l.map enc).flatten
def HE(l:List Ha):Ha:=(l.map yZ).flatten
def R9{l:List Int}{k:Nat}(h:k<l.length):(EB l).getD k .dk=I l[k]:=by
 simp[EB,T9,h]
def Ot{l:List Ha}{k:Nat}(h:k<l.length):(AJ l).getD k .dk=S l[k]:=by
 simp[AJ,T9,h]
def Fa(l:List Int):(Iv l).length<=9*l.length:=by
 induction l with
 |nil=>simp[Iv]
 |cons z l ih=>
  have:=SE z;simp[Iv]at ih⊢;omega
def EZ(l:List Ha)(h:∀s∈l,s.length<390):(HE l).length<=400*l.length:=by
 induction l with
 |nil=>simp[HE]
 |cons s l ih=>
  have h1:=SE (s.length:Int);have h2:=h s (by simp);have a:=ih (λs c=>h s (by simp[c]));simp only[HE,VC,l18,EJ,Kj,yZ]at a⊢;omega
def vO(l:List Int)(h:i<l.length):Iv (l.take (i+1))=Iv (l.take i)++enc l[i]:=by
 unfold Iv;rw[tO h,Yr,List.flatten_append];simp only[VC,List.map_nil,l18,List.flatten_nil,YV]
def vN(l:List Ha)(h:i<l.length):HE (l.take (i+1))=HE (l.take i)++yZ l[i]:=by
 unfold HE;rw[tO h,Yr,List.flatten_append];simp only[VC,List.map_nil,l18,List.flatten_nil,YV]
variable{L n:Nat}{K:KV}{x:Af}
def B7n{l:List Int}(p:l.length<100)(hz:∀z∈l, -10<=z/\z<1090)(e:k (S (Iv l)) H=x):
 ∀(f i:Nat),i<=l.length->l.length-i<f->Ov (L+20) (r! L (n+4)) K k f (.list l.length (EB l)) (S (Iv (l.take i))) (I i) H=x:=by
 intro f
 induction f with
 |zero=>intro i _ h;omega
 |succ f ih=>
  intro i m j;rw[YF];unfold Ow HN Az;have d:∀K,Bh AO (.list l.length (EB l)) K=K (I l.length):=λK=>id rfl;rw[d,Eh,Fi];by_cases h:i<l.length
  ·rw[CZ (by simp;omega)];have a:=hz l[i] (Of h);have c:(Iv (l.take i)).length<=9*l.length:=by
    have:=Fa (l.take i);have g:(l.take i).length<=l.length:=by simp;omega
    omega
   rw[Xa rfl (by simp[EB]) (by omega) (by omega),eS,OQ rfl,R9 h,Q? L n a.1 a.2,CI,CH,Bw (by have:=SE l[i];omega),<-vO l h,CO,Cz (by omega) (by omega),QI];exact ih (i+1) (by omega) (by omega)
  ·rw[Cr (by simp;omega)];have:i=l.length:=by omega
   subst this;rw[tN];exact e
def uN{l:List Int}(c:l.length<100)(d:l.length<L)(hz:∀z∈l, -10<=z/\z<1090):CS (r! L (n+5)) Ez [.list l.length (EB l)] (S (Iv l)):=by
 intro K a;rw[ZL];unfold PJ Az;simp only[BJ];refine B7n c hz ?_ (L+20) 0 (by omega) (by omega);exact a _ _ (λb=>⟨false,CG⟩)
def B4Z{l:List Ha}(r:l.length<100)(hz:∀s∈l,s.length<390)(j:k (S (HE l)) H=x):
 ∀(f i:Nat),i<=l.length->l.length-i<f->QL (L+20) (r! L (n+5)) K k f (.list l.length (AJ l)) (S (HE (l.take i))) (I i) H=x:=by
 intro f
 induction f with
 |zero=>intro i _ h;omega
 |succ f ih=>
  intro i q p;rw[TP];unfold MX HN Az;have e:∀K,Bh Ab (.list l.length (AJ l)) K=K (I l.length):=λK=>id rfl;rw[e,Eh,Fi];by_cases h:i<l.length
  ·rw[CZ (by simp;omega)];have c:=hz l[i] (Of h);have d:(HE (l.take i)).length<=400*l.length:=by
    have:=EZ (l.take i) (λs g=>hz s (l24 g));have m:(l.take i).length<=l.length:=by simp;omega
    omega
   have a:(yZ l[i]).length<=400:=by unfold yZ;rw[EJ];have:=SE (l[i].length:Int);omega
   rw[Xa rfl (by simp[AJ]) (by omega) (by omega),eS,OQ rfl,Ot h,Q! L n c,CI,CH,Bw (by omega),<-vN l h,CO,Cz (by omega) (by omega),QI];exact ih (i+1) (by omega) (by omega)
  ·rw[Cr (by simp;omega)];have:i=l.length:=by omega
   subst this;rw[tN];exact j
def A3p{l:List Ha}(c:l.length<100)(d:l.length<L)(hz:∀s∈l,s.length<390):CS (r! L (n+6)) Gw [.list l.length (AJ l)] (S (HE l)):=by
 intro K a;rw[V6];unfold OW Az;simp only[BJ];refine B4Z c hz ?_ (L+20) 0 (by omega) (by omega);exact a _ _ (λb=>⟨false,CG⟩)
end
section
variable{m:Nat}{p:Nat->Bool}
structure UD where
 (p0 q0 p1 q1 p2 q2 p3 q3 p4 q4 p5 q5 p6 q6:Int)
 (fn fd on od:Ha)
 (kd sc:Int)
abbrev UD.cs(u:UD):Is:=[I u.p0,I u.q0,I u.p1,I u.q1,I u.p2,I u.q2,I u.p3,I u.q3,I u.p4,I u.q4,I u.p5,I u.q5,I u.p6,I u.q6,S u.fn,S u.fd,S u.on,S u.od,I u.kd,I u.sc]
def u0:UD:=⟨0,0,0,0,0,0,0,0,0,0,0,0,0,0,[],[],[],[],0,0⟩
def nA:Ha:=[49]
def nB:Ha:=[49,48,48,48]
def nC:Ha:=[49,48,48,48,48,48,48]
def nD:Ha:=[49,48,48,48,48,48,48,48,48,48]
def uD(a b c:Int)(f d:Ha)(s:Int):UD:=⟨a,1,0,1,b,1,0,1,c,1,0,1,0,1,f,d,[48],[49],0,s⟩
def B9q:List UD:=[
 uD 1 0 0 nA nA 1,
 uD 0 1 0 nA nA 1,
 uD 1 0 0 nA nB 1,
 uD 0 0 0 nA nA 2,
 ⟨0,1,0,1,0,1,0,1,1,1,0,1,0,1,[49],[49],[53,52,54,51],[50,48],0,0⟩,
 uD 0 0 1 nA nA 1,
 uD 2 0 0 nA nA 1,
 uD 1 1 0 nA nA 1,
 uD 1 (-1) 0 nA nA 1,
 uD 2 0 0 nA nB 1,
 uD 0 0 0 nB nA 2,
 uD 1 0 1 nA nA 1,
 uD 1 0 (-1) nA nA 1,
 uD 3 0 0 nA nA 1,
 uD (-1) 0 0 nA nA 1,
 uD (-2) 0 0 nA nA 1,
 uD (-1) 1 0 nA nA 1,
 uD 0 2 0 nA nA 1,
 uD 1 1 0 nA nB 1,
 uD (-1) 1 0 nB nA 1,
 uD 0 1 1 nA nA 1,
 uD 0 1 (-1) nA nA 1,
 uD 2 1 0 nA nA 1,
 uD (-2) 1 0 nA nA 1,
 uD 0 (-1) 0 nA nA 1,
 uD 0 3 0 nA nA 1,
 uD 0 (-2) 0 nA nA 1,
 uD 0 0 0 nA nB 2,
 uD 1 (-1) 0 nA nB 1,
 uD 2 0 0 nA nC 1,
 uD 1 0 1 nA nB 1,
 uD 1 0 (-1) nA nB 1,
 uD 3 0 0 nA nB 1,
 uD (-1) 0 0 nA nB 1,
 uD (-1) 0 0 nB nA 1,
 uD 3 0 0 nA nD 1,
 uD (-2) 0 0 nC nA 1,
 uD 0 0 (-1) nA nA 1,
 uD (-1) 0 1 nA nA 1,
 uD 0 (-1) 1 nA nA 1,
 uD (-1) 0 1 nB nA 1,
 uD 0 0 2 nA nA 1,
 uD 2 0 1 nA nA 1,
 uD (-2) 0 1 nA nA 1,
 uD 0 0 3 nA nA 1,
 uD 0 0 (-2) nA nA 1,
 uD 2 (-1) 0 nA nA 1,
 uD 1 0 0 nB nA 1,
 uD 2 0 (-1) nA nA 1,
 uD 4 0 0 nA nA 1,
 uD 6 0 0 nA nA 1,
 uD (-4) 0 0 nA nA 1]
def uu(k:Nat):UD:=B9q.getD k u0
def nE:Ha:=[49,47,49,48,48,48]
def nF:Ha:=[49,47,49,48,48,48,48,48,48]
def nG:Ha:=[49,47,49,48,48,48,48,48,48,48,48,48]
def nK:Ha:=[32,107,105,110,100,32,48,32,102,97,99,116,111,114,32]
def nO:Ha:=[32,111,102,102,115,101,116,32,48]
def nR:Ha:=[114,97,116,105,111]
def nU(f t:Ha):Ha:=[100,105,102,102,101,114,101,110,99,101]++(nK++(f++(nO++(32::t))))
def B4Y:List Ha:=[
 nU nA [109,94,49],
 nU nA [115,94,49],
 nU nE [109,94,49],
 nR++(nK++(nA++nO)),
 [97,98,115,111,108,117,116,101,32,107,105,110,100,32,48,32,102,97,99,116,111,114,32,49,32,111,102,102,115,101,116,32,53,52,54,51,47,50,48,32,75,94,49],
 nU nA [75,94,49],
 nU nA [109,94,50],
 nU nA [109,94,49,32,115,94,49],
 nU nA [109,94,49,32,115,94,45,49],
 nU nE [109,94,50],
 nR++(nK++(nB++nO)),
 nU nA [109,94,49,32,75,94,49],
 nU nA [109,94,49,32,75,94,45,49],
 nU nA [109,94,51],
 nU nA [109,94,45,49],
 nU nA [109,94,45,50],
 nU nA [109,94,45,49,32,115,94,49],
 nU nA [115,94,50],
 nU nE [109,94,49,32,115,94,49],
 nU nB [109,94,45,49,32,115,94,49],
 nU nA [115,94,49,32,75,94,49],
 nU nA [115,94,49,32,75,94,45,49],
 nU nA [109,94,50,32,115,94,49],
 nU nA [109,94,45,50,32,115,94,49],
 nU nA [115,94,45,49],
 nU nA [115,94,51],
 nU nA [115,94,45,50],
 nR++(nK++(nE++nO)),
 nU nE [109,94,49,32,115,94,45,49],
 nU nF [109,94,50],
 nU nE [109,94,49,32,75,94,49],
 nU nE [109,94,49,32,75,94,45,49],
 nU nE [109,94,51],
 nU nE [109,94,45,49],
 nU nB [109,94,45,49],
 nU nG [109,94,51],
 nU nC [109,94,45,50],
 nU nA [75,94,45,49],
 nU nA [109,94,45,49,32,75,94,49],
 nU nA [115,94,45,49,32,75,94,49],
 nU nB [109,94,45,49,32,75,94,49],
 nU nA [75,94,50],
 nU nA [109,94,50,32,75,94,49],
 nU nA [109,94,45,50,32,75,94,49],
 nU nA [75,94,51],
 nU nA [75,94,45,50],
 nU nA [109,94,50,32,115,94,45,49],
 nU nB [109,94,49],
 nU nA [109,94,50,32,75,94,45,49],
 nU nA [109,94,52],
 nU nA [109,94,54],
 nU nA [109,94,45,52]]
def Kx(k:Nat):Ha:=B4Y.getD k []
def C2t:List (List (List (Option Nat))):=[
 [[some 0,none,none,none,none,none,none],
  [none,some 1,none,none,none,none,none],
  [none,none,some 2,none,none,none,none],
  [none,none,none,some 3,none,none,none],
  [none,none,none,none,none,some 4,none],
  [none,none,none,none,some 4,some 5,none],
  [none,none,none,none,none,none,some 6]],
 [[some 0,none,none,none,none,none,none],
  [none,some 1,none,none,none,none,none],
  [none,none,some 2,none,none,none,none],
  [none,none,none,some 3,none,none,none],
  [none,none,none,none,some 5,some 4,none],
  [none,none,none,none,none,some 5,none],
  [none,none,none,none,none,none,some 6]],
 [[some 6,some 7,some 9,some 0,none,some 11,some 13],
  [some 7,some 17,some 18,some 1,none,some 20,some 22],
  [some 9,some 18,some 29,some 2,none,some 30,some 32],
  [some 0,some 1,some 2,some 3,none,some 5,some 6],
  [none,none,none,none,none,none,none],
  [some 11,some 20,some 30,some 5,none,some 41,some 42],
  [some 13,some 22,some 32,some 6,none,some 42,some 49]],
 [[some 3,some 8,some 10,some 0,none,some 12,some 14],
  [some 16,some 3,some 19,some 1,none,some 21,some 23],
  [some 27,some 28,some 3,some 2,none,some 31,some 33],
  [some 14,some 24,some 34,some 3,none,some 37,some 15],
  [none,none,none,none,none,none,none],
  [some 38,some 39,some 40,some 5,none,some 3,some 43],
  [some 0,some 46,some 47,some 6,none,some 48,some 3]]]
def Ur(o i j:Nat):Option Nat:=((C2t.getD o []).getD i []).getD j none
def iI(k:Nat):Int:=([2, -1,3, -2,1]:List Int).getD k 0
def B9p:List (List (Option Nat)):=[[some 6,some 14,some 13,some 15,some 0],
 [some 17,some 24,some 25,some 26,some 1],
 [some 29,some 34,some 35,some 36,some 2],
 [some 3,some 3,some 3,some 3,some 3],
 [none,none,none,none,none],
 [some 41,some 37,some 44,some 45,some 5],
 [some 49,some 15,some 50,some 51,some 6]]
def Wi(i k:Nat):Option Nat:=(B9p.getD i []).getD k none
def Jp:Option Nat->AV
 |some k=>.tup [.agg (uu k).cs,I 0]
 |none=>.tup [.agg u0.cs,I 70]
def isU:Option Nat->Bool
 |some _=>true
 |none=>false
def B02(p:Nat->Bool)(m:Nat):Nat->Prop
 |0=>True
 |c+1=>((List.range m).all λk=>p (c*m+k))=true/\B02 p m c
def YE:B02 p m 0:=trivial
def YD{m c:Nat}(h:((List.range m).all λk=>p (c*m+k))=true)(h2:B02 p m c):B02 p m (c+1):=⟨h,h2⟩
def YC:∀{c:Nat},B02 p m c->∀{i:Nat},i<c*m->p i=true:=by
 intro c
 induction c with
 |zero=>intro _ i a;omega
 |succ c ih=>
  intro h i a;by_cases hc:i<c*m
  ·exact ih h.2 hc
  ·have h1:=G8.1 h.1 (i-c*m) (JM.2 (by rw[uY]at a;omega));have e:c*m+(i-c*m)=i:=by omega
   rw[e]at h1;exact h1
end
section
variable{v:AV}{x y:Af}{f:Nat}{R:Rt}
def jQ:Rt->Nat->Is->Hp->K2->Af:=Classical.choose (⟨Aj,rfl⟩:∃z:Rt->Nat->Is->Hp->K2->Af,Aj=z)
def zO:Aj=jQ:=Classical.choose_spec (⟨Aj,rfl⟩:∃z:Rt->Nat->Is->Hp->K2->Af,Aj=z)
def eBi:TI->BinOp->AV->AV->K2->Af:=Classical.choose (⟨Ap,rfl⟩:∃z:TI->BinOp->AV->AV->K2->Af,Ap=z)
def bO:Ap=eBi:=Classical.choose_spec (⟨Ap,rfl⟩:∃z:TI->BinOp->AV->AV->K2->Af,Ap=z)
def eEq:List LK->BinOp->AV->AV->K2->Af:=Classical.choose (⟨PW,rfl⟩:∃z:List LK->BinOp->AV->AV->K2->Af,PW=z)
def qO:PW=eEq:=Classical.choose_spec (⟨PW,rfl⟩:∃z:List LK->BinOp->AV->AV->K2->Af,PW=z)
def cnd:AV->Af->Af->Af:=Classical.choose (⟨A2,rfl⟩:∃z:AV->Af->Af->Af,A2=z)
def cO:A2=cnd:=Classical.choose_spec (⟨A2,rfl⟩:∃z:AV->Af->Af->Af,A2=z)
def Pg:cnd (.v (.bool true)) x y=x:=by rw[<-cO];rfl
def FY:cnd (.v (.bool false)) x y=y:=by rw[<-cO];rfl
section
variable{K:K2}{i:TI}{k:IntKind}{a b:Int}{s u:Ha}
def Pw(h:a=b):eBi i .eql (.v (.int k a)) (.v (.int k b)) K=K (Bo true):=by rw[<-bO,Dn,Ki h]
def VF(h:a≠b):eBi i .eql (.v (.int k a)) (.v (.int k b)) K=K (Bo false):=by rw[<-bO,Dn,KD h]
def A8f(h:a=b):eBi i .neq (.v (.int k a)) (.v (.int k b)) K=K (Bo false):=by rw[<-bO,HF,Ki h];rfl
def A3M(h:a<=b):eBi i .leq (.v (.int k a)) (.v (.int k b)) K=K (Bo true):=by rw[<-bO,eA,Ki h]
def A3T(h:b<=a):eBi i .geq (.v (.int k a)) (.v (.int k b)) K=K (Bo true):=by rw[<-bO,NT,Ki h]
end
def wF:∀{ks:List LK}{xs:Hx},fits ks xs=true->VW xs xs=some true:=by
 intro ks
 induction ks with
 |nil=>intro xs h;cases xs with|nil=>rfl|cons a l=>simp[fits]at h
 |cons k ks ih=>
  intro xs h;cases xs with
  |nil=>rfl
  |cons a l=>
   simp only[fits,J2]at h;have h2:=ih h.2;have e:VW (a::l) (a::l)=(match ZZ a a with|some b=>(match VW l l with|some c=>some (b&&c)|none=>none)|none=>none):=rfl;rw[e,h2];have h1:ZZ a a=some true:=by
    have h1:=h.1;cases k<;>cases a<;>simp[LK.fit]at h1<;>simp[ZZ,L0,PU]
   rw[h1];rfl
def mD(xs:Hx):∀K:Hx->Af,Yt (xs.map AV.v) K=K xs:=by
 induction xs with
 |nil=>intro K;rfl
 |cons a l ih=>intro K;exact ih _
def A0v{ks:List LK}(xs:Hx)(h:fits ks xs=true)(K:K2):eEq ks .eql (.agg (xs.map AV.v)) (.agg (xs.map AV.v)) K=K (Bo true):=by
 rw[<-qO];have e:PW ks .eql (.agg (xs.map AV.v)) (.agg (xs.map AV.v)) K=Yt (xs.map AV.v) λc=>Yt (xs.map AV.v) λd=>ck (fits ks c) (match VW c d,BinOp.eql with
  |some q,.eql=>bB q K
  |some q,.neq=>bB (!q) K
  |_,_=>none):=rfl
 rw[e,mD,mD,wF h,h];show bB true K=_;rw[MM]
def dX(u:UD)(K:K2):eEq GT .eql (.agg u.cs) (.agg u.cs) K=K (Bo true):=
 A0v (ks:=GT) [.int .i64 u.p0,.int .i64 u.q0,.int .i64 u.p1,.int .i64 u.q1,.int .i64 u.p2,.int .i64 u.q2,.int .i64 u.p3,.int .i64 u.q3,.int .i64 u.p4,.int .i64 u.q4,.int .i64 u.p5,.int .i64 u.q5,.int .i64 u.p6,.int .i64 u.q6,.string ⟨⟨u.fn⟩⟩,.string ⟨⟨u.fd⟩⟩,.string ⟨⟨u.on⟩⟩,.string ⟨⟨u.od⟩⟩,.int .i64 u.kd,.int .i64 u.sc] rfl K
def LS(R:Rt)(f:Nat)(args':Is)(v:AV):Prop:=∀(q:Bool)(args:Is)(H:Hp),Py true depth args args' H q->∀K,jQ R f args H K=K v
def CS.ls{args':Is}(h:CS R f args' v):LS R f args' v:=λ_ _ _ c _=>by rw[<-zO];exact AE h c
def PO(R:Rt)(f:Nat)(args:Is)(v:AV):Prop:=∀H K,jQ R f args H K=K v
def PS.o{args:Is}(h:PS R f args v):PO R f args v:=λH K=>by rw[<-zO];exact h H K
end
section
variable{L n:Nat}
attribute [local irreducible] Aj rt jQ eBi eEq cnd Ap PW A2
def Zt{z c a:Int}(h1:c<=z)(h2:z<=a):PS (rt (L+20) (n+1)) Fu [I z,I c,I a] (Bo true):=by
 refine CS.ps (λK d=>?_) (λH=>λK=>by kernel_rfl);rewrite[Vh];unfold KA q3N
 try rewrite[zO]
 try rewrite[bO]
 try rewrite[qO]
 try rewrite[cO]
 conv=>lhs;whnf
 rewrite[A3T h1]
 conv=>lhs;whnf
 rewrite[A3M h2]
 conv=>lhs;whnf
 exact d _ _ (λb=>⟨false,λK=>by kernel_rfl⟩)
def Ws{z c a:Int}(h1:c<=z)(h2:z<=a):PS (rt (L+20) (n+1)) Ia [I z,I c,I a] (Bo true):=by
 refine CS.ps (λK d=>?_) (λH=>λK=>by kernel_rfl);rewrite[gD];unfold Rm q3N
 try rewrite[zO]
 try rewrite[bO]
 try rewrite[qO]
 try rewrite[cO]
 conv=>lhs;whnf
 rewrite[A3T h1]
 conv=>lhs;whnf
 rewrite[A3M h2]
 conv=>lhs;whnf
 exact d _ _ (λb=>⟨false,λK=>by kernel_rfl⟩)
def Sl(T:AV):Prop:=T=.v (.slice none 0 0)\/∃n cs,T=.list n cs
abbrev A1:AV:=.v (.slice none 0 0)
abbrev BX(u:UD):Is:=[I u.p0,I u.q0,I u.p1,I u.q1,I u.p2,I u.q2,I u.p3,I u.q3,I u.p4,I u.q4,I u.p5,I u.q5,I u.p6,I u.q6,S u.fn,S u.fd,S u.on,S u.od,I u.kd,I u.sc]
abbrev Lp(ca cb:Ha)(T:AV)(ra rb:Ha):Is:=[S ca,S cb,T,S ra,S rb]
abbrev Bp(id:Int)(ins nds:AV)(u:UD):Is:=[I id,ins,nds,
 I u.p0,I u.q0,I u.p1,I u.q1,I u.p2,I u.q2,I u.p3,I u.q3,I u.p4,I u.q4,I u.p5,I u.q5,I u.p6,I u.q6,S u.fn,S u.fd,S u.on,S u.od,I u.kd,I u.sc]
structure RD where
 k:Int
 (a1 a2 b1 b2 c1 c2 d1 d2:Ha)
abbrev RD.cs(r:RD):Is:=[I r.k,S r.a1,S r.a2,S r.b1,S r.b2,S r.c1,S r.c2,S r.d1,S r.d2]
def r0:RD:=⟨0,[],[],[],[],[],[],[],[]⟩
structure ND where
 (lab num itm tim day:Int)
def rr(k:Nat):RD:=⟨k,[45,53],[49],[50,53],[50],if k=2 then[49] else[48],if k=2 then[50] else[49],[49],[50,48]⟩
abbrev C6(kd:Int)(m:ND)(u:UD)(ca cb:Ha)(T:AV)(ra rb:Ha)(P:AV)(id:Int)(ins nds:AV)(o:UD)(r:RD)(vd:Int):Is:=[I kd,I m.lab,I m.num,I m.itm,I m.tim,I m.day,
 I u.p0,I u.q0,I u.p1,I u.q1,I u.p2,I u.q2,I u.p3,I u.q3,I u.p4,I u.q4,I u.p5,I u.q5,I u.p6,I u.q6,S u.fn,S u.fd,S u.on,S u.od,I u.kd,I u.sc,
 S ca,S cb,T,S ra,S rb,P,I id,ins,nds,
 I o.p0,I o.q0,I o.p1,I o.q1,I o.p2,I o.q2,I o.p3,I o.q3,I o.p4,I o.q4,I o.p5,I o.q5,I o.p6,I o.q6,S o.fn,S o.fd,S o.on,S o.od,I o.kd,I o.sc,
 I r.k,S r.a1,S r.a2,S r.b1,S r.b2,S r.c1,S r.c2,S r.d1,S r.d2,I vd,I 0,A1,A1]
def ND.ok(m:ND):Prop:=1<=m.lab/\m.lab<=9/\1<=m.num/\m.num<=9/\1<=m.itm/\m.itm<=9/\0<=m.tim/\m.tim<=100/\0<=m.day/\m.day<=100
abbrev A39:Is:=[zI,zL,zL,zI,zI,zI,zI,zI,zI,zI,zI,zI,zI,zI,zI,zI,zI,zS,zS,zS,zS,zI,zI]
def A6D:PS (rt (L+20) (n+40)) D1 [.agg (Bp 0 A1 A1 u0),.agg A39] (Bo true):=B3 (λH K=>by kernel_rfl) (by kernel_rfl)
def A7u:PS (rt (L+20) (n+40)) dL [.agg (Bp 0 A1 A1 u0),.agg A39] (Bo true):=B3 (λH K=>by kernel_rfl) (by kernel_rfl)
section
variable{m:ND}{u o:UD}{ca cb ra rb:Ha}{T P ins nds:AV}{id vd:Int}{r:RD}
def A4y(hm:m.ok)(t:Sl T)(s:∃n cs,P=.list n cs)(j:∃n cs,ins=.list n cs)(q:∃n cs,nds=.list n cs)(hc:LS (rt (L+20) (n+60)) G7 [.agg (C6 2 m u ca cb T ra rb P id ins nds o r0 0)] (Bo true))(w:PO (rt (L+20) (n+60)) Li [.agg (BX u)] (Bo true))(v:LS (rt (L+20) (n+60)) KJ [.agg (Lp ca cb T ra rb)] (Bo true)):
 CS (rt (L+20) (n+61)) DL [.agg (C6 2 m u ca cb T ra rb P id ins nds o r0 0)] (Bo true):=by
 intro K p;obtain⟨h1,h2,f,x,g,y,h,A,i,e⟩:=hm;obtain⟨n1,c1,rfl⟩:=s;obtain⟨n2,c2,rfl⟩:=j;obtain⟨B,c3,rfl⟩:=q;have hb:∀{z d c:Int},d<=z->z<=c->PO (rt (L+20) (n+60)) Fu [I z,I d,I c] (Bo true):=λa b=>(Zt a b).o;rcases t with rfl|⟨C,c4,rfl⟩
 all_goals
  rewrite[IJ];unfold FD XA3
  try rewrite[zO]
  try rewrite[bO]
  try rewrite[qO]
  try rewrite[cO]
  generalize rt (L+20) (n+60)=R at*
  conv=>lhs;whnf
  rewrite[hb h1 (by omega)]
  conv=>lhs;whnf
  rewrite[hb f (by omega)]
  conv=>lhs;whnf
  rewrite[hb g (by omega)]
  conv=>lhs;whnf
  rewrite[hb h (by omega)]
  conv=>lhs;whnf
  rewrite[hb i (by omega)]
  conv=>lhs;whnf
  rewrite[w]
  conv=>lhs;whnf
  rewrite[(v) false _ _ ?hq]
  case hq=>exact λK=>by kernel_rfl
  conv=>lhs;whnf
  rewrite[FY]
  conv=>lhs;whnf
  rewrite[show∀K,eEq GU BinOp.eql (AV.agg [I r0.k,S r0.a1,S r0.a2,S r0.b1,S r0.b2,S r0.c1,S r0.c2,S r0.d1,S r0.d2]) (AV.agg [zI,zS,zS,zS,zS,zS,zS,zS,zS]) K=K (Bo true) from λK=>by rw[<-qO];kernel_rfl]
  conv=>lhs;whnf
  rewrite[Pw ?hc]
  case hc=>decide
  conv=>lhs;whnf
  rewrite[VF ?hc]
  case hc=>decide
  conv=>lhs;whnf
  rewrite[FY]
  conv=>lhs;whnf
  rewrite[Pw ?hc]
  case hc=>decide
  conv=>lhs;whnf
  rewrite[Pg]
  conv=>lhs;whnf
  rewrite[(hc) false _ _ ?hq]
  case hq=>exact λK=>by kernel_rfl
  conv=>lhs;whnf
  exact p _ _ (λb=>⟨false,λK=>by kernel_rfl⟩)
def A4z(hm:m.ok)(p:Sl T)(s:PO (rt (L+20) (n+60)) D1 [.agg (Bp 0 A1 A1 o),.agg A39] (Bo true))(t:PO (rt (L+20) (n+60)) Li [.agg (BX u)] (Bo true))(q:LS (rt (L+20) (n+60)) KJ [.agg (Lp ca cb T ra rb)] (Bo true)):
 CS (rt (L+20) (n+61)) DL [.agg (C6 1 m u ca cb T ra rb A1 0 A1 A1 o r0 0)] (Bo true):=by
 intro K j;obtain⟨h1,h2,f,v,g,w,h,x,i,e⟩:=hm;have hb:∀{z d c:Int},d<=z->z<=c->PO (rt (L+20) (n+60)) Fu [I z,I d,I c] (Bo true):=λa b=>(Zt a b).o;rcases p with rfl|⟨y,c4,rfl⟩
 all_goals
  rewrite[IJ];unfold FD XA3
  try rewrite[zO]
  try rewrite[bO]
  try rewrite[qO]
  try rewrite[cO]
  generalize rt (L+20) (n+60)=R at*
  conv=>lhs;whnf
  rewrite[hb h1 (by omega)]
  conv=>lhs;whnf
  rewrite[hb f (by omega)]
  conv=>lhs;whnf
  rewrite[hb g (by omega)]
  conv=>lhs;whnf
  rewrite[hb h (by omega)]
  conv=>lhs;whnf
  rewrite[hb i (by omega)]
  conv=>lhs;whnf
  rewrite[t]
  conv=>lhs;whnf
  rewrite[(q) false _ _ ?hq]
  case hq=>exact λK=>by kernel_rfl
  conv=>lhs;whnf
  rewrite[FY]
  conv=>lhs;whnf
  rewrite[show∀K,eEq GU BinOp.eql (AV.agg [I r0.k,S r0.a1,S r0.a2,S r0.b1,S r0.b2,S r0.c1,S r0.c2,S r0.d1,S r0.d2]) (AV.agg [zI,zS,zS,zS,zS,zS,zS,zS,zS]) K=K (Bo true) from λK=>by rw[<-qO];kernel_rfl]
  conv=>lhs;whnf
  rewrite[Pw ?hc]
  case hc=>decide
  conv=>lhs;whnf
  rewrite[Pw ?hc]
  case hc=>decide
  conv=>lhs;whnf
  rewrite[Pg]
  conv=>lhs;whnf
  rewrite[Pw ?hc]
  case hc=>decide
  conv=>lhs;whnf
  rewrite[s]
  conv=>lhs;whnf
  exact j _ _ (λb=>⟨false,λK=>by kernel_rfl⟩)
def A4x(hm:m.ok)(w:Sl T)(v:∃n cs,P=.list n cs)(q:∃n cs,ins=.list n cs)(t:∃n cs,nds=.list n cs)(c:∀K,eEq GU BinOp.eql (AV.agg r.cs) (AV.agg [zI,zS,zS,zS,zS,zS,zS,zS,zS]) K=K (Bo false))(hr:PO (rt (L+20) (n+60)) WZ [.agg r.cs] (Bo true))(d:1<=vd)(e:vd<=3)(y:PO (rt (L+20) (n+60)) Li [.agg (BX u)] (Bo true))(x:LS (rt (L+20) (n+60)) KJ [.agg (Lp ca cb T ra rb)] (Bo true))(hc:LS (rt (L+20) (n+60)) G7 [.agg (C6 3 m u ca cb T ra rb P id ins nds o r vd)] (Bo true)):
 CS (rt (L+20) (n+61)) DL [.agg (C6 3 m u ca cb T ra rb P id ins nds o r vd)] (Bo true):=by
 intro K s;obtain⟨h1,h2,i,A,j,B,k,C,p,h⟩:=hm;obtain⟨n1,c1,rfl⟩:=v;obtain⟨n2,c2,rfl⟩:=q;obtain⟨D,c3,rfl⟩:=t;have hb:∀{z g f:Int},g<=z->z<=f->PO (rt (L+20) (n+60)) Fu [I z,I g,I f] (Bo true):=λa b=>(Zt a b).o;rcases w with rfl|⟨F,c4,rfl⟩
 all_goals
  rewrite[IJ];unfold FD XA3
  try rewrite[zO]
  try rewrite[bO]
  try rewrite[qO]
  try rewrite[cO]
  generalize rt (L+20) (n+60)=R at*
  conv=>lhs;whnf
  rewrite[hb h1 (by omega)]
  conv=>lhs;whnf
  rewrite[hb i (by omega)]
  conv=>lhs;whnf
  rewrite[hb j (by omega)]
  conv=>lhs;whnf
  rewrite[hb k (by omega)]
  conv=>lhs;whnf
  rewrite[hb p (by omega)]
  conv=>lhs;whnf
  rewrite[y]
  conv=>lhs;whnf
  rewrite[(x) false _ _ ?hq]
  case hq=>exact λK=>by kernel_rfl
  conv=>lhs;whnf
  rewrite[FY]
  conv=>lhs;whnf
  rewrite[c]
  conv=>lhs;whnf
  rewrite[VF ?hc]
  case hc=>decide
  conv=>lhs;whnf
  rewrite[FY]
  conv=>lhs;whnf
  rewrite[VF ?hc]
  case hc=>decide
  conv=>lhs;whnf
  rewrite[FY]
  conv=>lhs;whnf
  rewrite[Pw ?hc]
  case hc=>decide
  conv=>lhs;whnf
  rewrite[Pg]
  conv=>lhs;whnf
  rewrite[(hc) false _ _ ?hq]
  case hq=>exact λK=>by kernel_rfl
  conv=>lhs;whnf
  rewrite[hr]
  conv=>lhs;whnf
  rewrite[hb d e]
  conv=>lhs;whnf
  exact s _ _ (λb=>⟨false,λK=>by kernel_rfl⟩)
end
end
section
variable{c2:Is}{n2:Nat}
variable{L n:Nat}
attribute [local irreducible] Aj rt jQ eBi eEq cnd Ap PW A2
section
variable{m:ND}{u o:UD}{ca cb ra rb:Ha}{T P ins nds:AV}{id vd:Int}{r:RD}
def A50(hm:m.ok)(p:Sl T)(hr:PO (rt (L+20) (n+60)) IR [.agg r0.cs] (Bo false))(s:PO (rt (L+20) (n+60)) dL [.agg (Bp 0 A1 A1 o),.agg A39] (Bo true))(t:PO (rt (L+20) (n+60)) EX [.agg (BX u)] (Bo true))(q:LS (rt (L+20) (n+60)) IU [.agg (Lp ca cb T ra rb)] (Bo true)):
 CS (rt (L+20) (n+61)) EU [.agg (C6 1 m u ca cb T ra rb A1 0 A1 A1 o r0 0)] (.tup [Bo true,Bo false]):=by
 intro K j;obtain⟨h1,h2,f,v,g,w,h,x,i,e⟩:=hm;have hb:∀{z d c:Int},d<=z->z<=c->PO (rt (L+20) (n+60)) Ia [I z,I d,I c] (Bo true):=λa b=>(Ws a b).o;rcases p with rfl|⟨y,c4,rfl⟩
 all_goals
  rewrite[Jk];unfold HW XA3
  try rewrite[zO]
  try rewrite[bO]
  try rewrite[qO]
  try rewrite[cO]
  generalize rt (L+20) (n+60)=R at*
  conv=>lhs;whnf
  rewrite[VF ?hc]
  case hc=>decide
  conv=>lhs;whnf
  rewrite[t]
  conv=>lhs;whnf
  rewrite[(q) false _ _ ?hq]
  case hq=>exact λK=>by kernel_rfl
  conv=>lhs;whnf
  rewrite[hb h1 (by omega)]
  conv=>lhs;whnf
  rewrite[hb f (by omega)]
  conv=>lhs;whnf
  rewrite[hb g (by omega)]
  conv=>lhs;whnf
  rewrite[hb h (by omega)]
  conv=>lhs;whnf
  rewrite[hb i (by omega)]
  conv=>lhs;whnf
  rewrite[FY]
  conv=>lhs;whnf
  rewrite[hr]
  conv=>lhs;whnf
  rewrite[show∀K,eEq GU BinOp.neq (AV.agg [I r0.k,S r0.a1,S r0.a2,S r0.b1,S r0.b2,S r0.c1,S r0.c2,S r0.d1,S r0.d2]) (AV.agg [zI,zS,zS,zS,zS,zS,zS,zS,zS]) K=K (Bo false) from λK=>by rw[<-qO];kernel_rfl]
  conv=>lhs;whnf
  rewrite[A8f ?hc]
  case hc=>decide
  conv=>lhs;whnf
  rewrite[FY]
  conv=>lhs;whnf
  rewrite[Pw ?hc]
  case hc=>decide
  conv=>lhs;whnf
  rewrite[Pg]
  conv=>lhs;whnf
  rewrite[s]
  conv=>lhs;whnf
  rewrite[Pw ?hc]
  case hc=>decide
  conv=>lhs;whnf
  exact j _ _ (λb=>⟨false,λK=>by kernel_rfl⟩)
def A4Z(hm:m.ok)(s:Sl T)(hr:PO (rt (L+20) (n+60)) IR [.agg r0.cs] (Bo false))(q:∃n cs,P=.list n cs)(p:∃n cs,nds=.list n cs)(v:LS (rt (L+20) (n+60)) Hu [P] (.tup [Bo true,I n2]))(hv:LS (rt (L+20) (n+60)) F4 [.agg (Bp id (.list n2 c2) nds u)] (Bo true))(w:PO (rt (L+20) (n+60)) EX [.agg (BX u)] (Bo true))(t:LS (rt (L+20) (n+60)) IU [.agg (Lp ca cb T ra rb)] (Bo true)):
 CS (rt (L+20) (n+61)) EU [.agg (C6 2 m u ca cb T ra rb P id (.list n2 c2) nds u r0 0)] (.tup [Bo true,Bo false]):=by
 intro K j;obtain⟨h1,h2,f,x,g,y,h,A,i,e⟩:=hm;obtain⟨n1,c1,rfl⟩:=q;obtain⟨B,c3,rfl⟩:=p;have hb:∀{z d c:Int},d<=z->z<=c->PO (rt (L+20) (n+60)) Ia [I z,I d,I c] (Bo true):=λa b=>(Ws a b).o;rcases s with rfl|⟨C,c4,rfl⟩
 all_goals
  rewrite[Jk];unfold HW XA3
  try rewrite[zO]
  try rewrite[bO]
  try rewrite[qO]
  try rewrite[cO]
  generalize rt (L+20) (n+60)=R at*
  conv=>lhs;whnf
  rewrite[VF ?hc]
  case hc=>decide
  conv=>lhs;whnf
  rewrite[w]
  conv=>lhs;whnf
  rewrite[(t) false _ _ ?hq]
  case hq=>exact λK=>by kernel_rfl
  conv=>lhs;whnf
  rewrite[hb h1 (by omega)]
  conv=>lhs;whnf
  rewrite[hb f (by omega)]
  conv=>lhs;whnf
  rewrite[hb g (by omega)]
  conv=>lhs;whnf
  rewrite[hb h (by omega)]
  conv=>lhs;whnf
  rewrite[hb i (by omega)]
  conv=>lhs;whnf
  rewrite[FY]
  conv=>lhs;whnf
  rewrite[hr]
  conv=>lhs;whnf
  rewrite[show∀K,eEq GU BinOp.neq (AV.agg [I r0.k,S r0.a1,S r0.a2,S r0.b1,S r0.b2,S r0.c1,S r0.c2,S r0.d1,S r0.d2]) (AV.agg [zI,zS,zS,zS,zS,zS,zS,zS,zS]) K=K (Bo false) from λK=>by rw[<-qO];kernel_rfl]
  conv=>lhs;whnf
  rewrite[A8f ?hc]
  case hc=>decide
  conv=>lhs;whnf
  rewrite[FY]
  conv=>lhs;whnf
  rewrite[VF ?hc]
  case hc=>decide
  conv=>lhs;whnf
  rewrite[FY]
  conv=>lhs;whnf
  rewrite[Pw ?hc]
  case hc=>decide
  conv=>lhs;whnf
  rewrite[Pg]
  conv=>lhs;whnf
  rewrite[Pg]
  conv=>lhs;whnf
  rewrite[(v) false _ _ ?hq]
  case hq=>exact λK=>by kernel_rfl
  conv=>lhs;whnf
  rewrite[(hv) false _ _ ?hq]
  case hq=>exact λK=>by kernel_rfl
  conv=>lhs;whnf
  rewrite[Pw ?hc]
  case hc=>rfl
  conv=>lhs;whnf
  rewrite[dX u]
  conv=>lhs;whnf
  exact j _ _ (λb=>⟨false,λK=>by kernel_rfl⟩)
def A4Y(hm:m.ok)(t:Sl T)(hr:PO (rt (L+20) (n+60)) IR [.agg r.cs] (Bo true))(c:1<=vd)(d:vd<=3)(s:∃n cs,P=.list n cs)(q:∃n cs,nds=.list n cs)(w:LS (rt (L+20) (n+60)) Hu [P] (.tup [Bo true,I n2]))(hv:LS (rt (L+20) (n+60)) F4 [.agg (Bp id (.list n2 c2) nds u)] (Bo true))(x:PO (rt (L+20) (n+60)) EX [.agg (BX u)] (Bo true))(v:LS (rt (L+20) (n+60)) IU [.agg (Lp ca cb T ra rb)] (Bo true)):
 CS (rt (L+20) (n+61)) EU [.agg (C6 3 m u ca cb T ra rb P id (.list n2 c2) nds u r vd)] (.tup [Bo true,Bo true]):=by
 intro K p;obtain⟨h1,h2,h,y,i,A,j,B,k,g⟩:=hm;obtain⟨n1,c1,rfl⟩:=s;obtain⟨C,c3,rfl⟩:=q;have hb:∀{z f e:Int},f<=z->z<=e->PO (rt (L+20) (n+60)) Ia [I z,I f,I e] (Bo true):=λa b=>(Ws a b).o;rcases t with rfl|⟨D,c4,rfl⟩
 all_goals
  rewrite[Jk];unfold HW XA3
  try rewrite[zO]
  try rewrite[bO]
  try rewrite[qO]
  try rewrite[cO]
  generalize rt (L+20) (n+60)=R at*
  conv=>lhs;whnf
  rewrite[Pw ?hc]
  case hc=>decide
  conv=>lhs;whnf
  rewrite[x]
  conv=>lhs;whnf
  rewrite[(v) false _ _ ?hq]
  case hq=>exact λK=>by kernel_rfl
  conv=>lhs;whnf
  rewrite[hb h1 (by omega)]
  conv=>lhs;whnf
  rewrite[hb h (by omega)]
  conv=>lhs;whnf
  rewrite[hb i (by omega)]
  conv=>lhs;whnf
  rewrite[hb j (by omega)]
  conv=>lhs;whnf
  rewrite[hb k (by omega)]
  conv=>lhs;whnf
  rewrite[FY]
  conv=>lhs;whnf
  rewrite[hr]
  conv=>lhs;whnf
  rewrite[hb c d]
  conv=>lhs;whnf
  rewrite[FY]
  conv=>lhs;whnf
  rewrite[VF ?hc]
  case hc=>decide
  conv=>lhs;whnf
  rewrite[FY]
  conv=>lhs;whnf
  rewrite[VF ?hc]
  case hc=>decide
  conv=>lhs;whnf
  rewrite[FY]
  conv=>lhs;whnf
  rewrite[Pw ?hc]
  case hc=>decide
  conv=>lhs;whnf
  rewrite[Pg]
  conv=>lhs;whnf
  rewrite[(w) false _ _ ?hq]
  case hq=>exact λK=>by kernel_rfl
  conv=>lhs;whnf
  rewrite[(hv) false _ _ ?hq]
  case hq=>exact λK=>by kernel_rfl
  conv=>lhs;whnf
  rewrite[Pw ?hc]
  case hc=>rfl
  conv=>lhs;whnf
  rewrite[dX u]
  conv=>lhs;whnf
  exact p _ _ (λb=>⟨false,λK=>by kernel_rfl⟩)
end
end
section
variable{L n:Nat}
attribute [local irreducible] Aj rt jQ eBi eEq cnd Ap PW A2
section
variable{m:ND}{u:UD}{ca cb ra rb:Ha}{T nds:AV}{kd id vd:Int}{r:RD}
def nL{n2:Nat}{c1 c2:Is}(d:Sl T)(c:∃n cs,nds=.list n cs)(e:LS (rt (L+20) (n+59)) IX [.list n2 c1] (Bo true))(hv:LS (rt (L+20) (n+59)) FM [.agg (Bp id (.list n2 c2) nds u)] (Bo true)):
 CS (rt (L+20) (n+60)) G7 [.agg (C6 kd m u ca cb T ra rb (.list n2 c1) id (.list n2 c2) nds u r vd)] (Bo true):=by
 intro K a;obtain⟨f,c3,rfl⟩:=c;rcases d with rfl|⟨g,c4,rfl⟩
 all_goals
  rewrite[Ry];unfold IK XA3
  try rewrite[zO]
  try rewrite[bO]
  try rewrite[qO]
  try rewrite[cO]
  generalize rt (L+20) (n+59)=R at*
  conv=>lhs;whnf
  rewrite[(e) false _ _ ?hq]
  case hq=>exact λK=>by kernel_rfl
  conv=>lhs;whnf
  rewrite[(hv) false _ _ ?hq]
  case hq=>exact λK=>by kernel_rfl
  conv=>lhs;whnf
  rewrite[Pw ?hc]
  case hc=>rfl
  conv=>lhs;whnf
  rewrite[dX u]
  conv=>lhs;whnf
  exact a _ _ (λb=>⟨false,λK=>by kernel_rfl⟩)
end
end
section
variable{x y:Af}{i:Nat}
variable{L n:Nat}
abbrev Ls(l:List Ha):AV:=.list l.length (AJ l)
def LU{l:List Ha}{K:K2}:Bh Ab (Ls l) K=K (I l.length):=id rfl
def OS{l:List Ha}{K:K2}(h:i<l.length):Dh Ab (Ls l) (I i) K=K (.iptr [S l[i]]):=by
 rw[Xa rfl (by simp[AJ]) (by omega) (by omega),eS,Ot h]
def Hy{s:Ha}{H:Hp}{K:K2}:A7 Ag (.iptr [S s]) H K=K (S s):=OQ rfl
def Dg{ty:TI}{K:K2}(h:i<1000000000):Ap ty .add (I i) (.v (.int .i64 1)) K=K (I ((i+1:Nat):Int)):=by
 rw[CO,Cz (by omega) (by omega),QI]
def Fo{ty:TI}{a b:Int}{K:K2}(h:a<b):Ap ty .lss (I a) (I b) K=K (Bo true):=by rw[Eh,Ki h]
def XA2{ty:TI}{a b:Int}{K:K2}(h:¬a<b):Ap ty .lss (I a) (I b) K=K (Bo false):=by rw[Eh,KD h]
def CA:A2 (.v (.bool true)) x y=x:=id rfl
def Bm:A2 (.v (.bool false)) x y=y:=id rfl
def BN{v:AV}{H:Hp}{K:K2}:Am (some (v,H)) K=K v:=id rfl
section
variable{R:Rt}{K:KV}{ps:List Ha}{H:Hp}
def B7d{a:AV->AV->KV}(d:i<ps.length)(hn:ps.Nodup)(hb:ps.length<100):∀(f j:Nat),j<=i->i-j<f->
 KS (L+20) R K a f (Ls ps) (I i) (I j) H=a (Ls ps) (I i) (I i) H:=by
 intro f
 induction f with
 |zero=>intro j _ h;omega
 |succ f ih=>
  intro j k g;rw[QM];unfold KU Lo Az Fk;by_cases h:j<i
  ·rw[Fo (by omega),CA,OS (by omega),BN,Hy,BN,OS d,BN,Hy,BN,MK];have c:ps[j]≠ps[i]:=λe=>by
    have:=(List.getElem_inj (h₀:=by omega) (h₁:=d) hn).1 e;omega
   rw[KD c,BN,Bm,Dg (by omega)];exact ih (j+1) (by omega) (by omega)
  ·rw[XA2 (by omega),Bm];have:j=i:=by omega
   rw[this]
def B7e{a:KV}(hn:ps.Nodup)(hb:ps.length<100)(e:ps.length<L+20)(d:∀s∈ps,s.length=32):∀(f i:Nat)(v:AV),i<=ps.length->ps.length-i<f->
 KT (L+20) R K a f (Ls ps) (I i) v H=a (Ls ps) H:=by
 intro f
 induction f with
 |zero=>intro i v _ h;omega
 |succ f ih=>
  intro i v j g;rw[QN];unfold KW HN Az Fk;rw[LU];by_cases h:i<ps.length
  ·rw[Fo (by omega),CA];simp only[BJ];rw[OS h,Hy,OP rfl,d _ (Of h),HF];rw[show(!decide (((32:Nat):Int)=32))=false from rfl,Bm];have c:(AV.v (.int .i64 0))=I ((0:Nat):Int):=rfl;rw[c,B7d h hn hb _ 0 (by omega) (by omega),Dg (by omega)];exact ih (i+1) _ (by omega) (by omega)
  ·rw[XA2 (by omega),Bm]
end
def uP{ps:List Ha}(hn:ps.Nodup)(f:1<=ps.length)(hb:ps.length<=6)(e:∀s∈ps,s.length=32):
 CS (r! L (n+1)) Hu [Ls ps] (.tup [Bo true,I ps.length]):=by
 intro K d;rw[Ss];unfold LN BK Az Fk;simp only[BJ];have a:(AV.v (.int .i64 0))=I ((0:Nat):Int):=rfl;rw[a,B7e hn (by omega) (by omega) e _ 0 _ (by omega) (by omega),LU,NT,Ki (by omega)];have g:∀(x:Bool->Af),VS true (Bo true) x=x true:=λx=>id rfl;have c:∀{v:AV}{H:Hp}{K:KV},CP (some (v,H)) K=K v H:=id rfl;simp only[g,c,LU];rw[eA,Ki (by omega)];exact d _ _ (λb=>⟨false,λK=>by kernel_rfl⟩)
end
section
variable{v:AV}{q0:Bool}{H H0:Hp}
variable{L n:Nat}
def Cb(l:List Ha):(AJ l).length=l.length:=by simp[AJ]
def Xl(a b:List Ha):AJ a++AJ b=AJ (a++b):=by simp[AJ]
def A4g{l:List Ha}(b:Ha)(h:AZ H Ao 1 v l.length (AJ l))(w:Wf H)(hn:l.length<1000000000):
 ∃d a,(∀K:KV,(Gt Ao 1 Ag 1 [(0,1,S b)] H λv1 j=>Ed Ao 1 Ag Ab v v1 j K)=K d a)/\AZ a Ao 1 d (l++[b]).length (AJ (l++[b]))/\Wf a/\Ax H<=Ax a/\(∀s x,Al H s=some x->¬A6 v s->Al a s=some x)/\(∀s,A6 d s->Ax H<=s):=by
 have i:AZ ((Ax H,.cells false Ao [S b])::H) Ao 1 v l.length (AJ l):=h.lat w (Lat.cons H _ (λ_=>False)) (λ_ _ h=>h);have c:=LC (H:=H) (e:=Ao) (n:=1) (cs:=[S b]) rfl;obtain⟨d,a,h1,h2,k,m⟩:=apt (ie:=Ag) (i2:=Ab) i (λK=>NQ (K:=K) c) rfl rfl (by decide) rfl rfl (by show(l.length+1)*16<=_;omega) (by omega);have f:=(Lat.cons H (.cells false Ao [S b]) (A6 v)).trans m (R:=A6 v) (λ_ _ h=>h) (λ_ _ h=>h);refine⟨d,a,λK=>?_,by rw[EJ,<-Xl];exact h2,f.wf w,f.nx,λs x g hn=>f.keep w s x g hn,λs g=>?_⟩
 ·rw[YZ (z:=S []) (λ_=>rfl) (λ_=>rfl) rfl];exact h1 K
 ·rw[k s g];exact l1p _
def Q7(c2 c6:AV)(p:Option (Option Code)):Row:=.loop 13 [(2,c2),(4,A1),(5,AV.dk),(6,c6),(7,AV.dk),(8,AV.dk),(9,AV.dk),(10,AV.dk),(11,AV.dk)] (Be).2.1 (Be).2.2.1 (Be).2.2.2 p
structure Coll(H0:Hp)(r0 s:Nat)(q0:Bool)(e0:Nat)(c6:AV)(l:List Ha)(v:AV)(H:Hp):Prop where
 at_:Al H r0=some (.cells q0 e0 [v])
 sl:AZ H Ao 1 v l.length (AJ l)
 lp:Al H s=some (Q7 (.ptr r0 0 0) c6 (some none))
 new:∀u,A6 v u->u≠r0/\u≠s/\Ax H0<=u
 wf:Wf H
 keep:∀u y,Al H0 u=some y->Al H u=some y
 ne:r0≠s
 r0n:Ax H0<=r0
 sn:Ax H0<=s
 w0:Wf H0
variable{K:KV}{x:Af}
def B1H{r0 s e0:Nat}{c6 v:AV}{l:List Ha}{b:Ha}(h:Coll H0 r0 s q0 e0 c6 l v H)(hn:l.length<1000000000)(Z:∀d j,Coll H0 r0 s q0 e0 c6 (l++[b]) d j->K (Bo true) j=x):C7 (E (L+20)) (r! L (n+1)) (.yl s) [S b] H K=x:=by
 show Ol (r! L (n+1)) s [S b] H K=x;rw[Qw h.lp (by kernel_rfl)];have t:(r! L (n+1)).run= λR=>Jr (E (L+20)) (r! L n) R:=rfl;rw[t,GC,Qz h.lp];have O:=Bs (r:=s) (y:=Q7 (.ptr r0 0 0) c6 none) h.wf;have k:Al (upd H s (Q7 (.ptr r0 0 0) c6 none)) r0=some (.cells q0 e0 [v]):=by rw[Ah h.ne];exact h.at_
 have J:Al (upd H s (Q7 (.ptr r0 0 0) c6 none)) s=some (Q7 (.ptr r0 0 0) c6 none):=FE h.lp;have N:AZ (upd H s (Q7 (.ptr r0 0 0) c6 none)) Ao 1 v l.length (AJ l):=h.sl.lat h.wf (Lat.upd H s _ (P:=λu=>u=s) rfl) (λu c=>(h.new u c).2.1);have D:∀u y,Al H0 u=some y->Al (upd H s (Q7 (.ptr r0 0 0) c6 none)) u=some y:=λu y c=>by
  have:=h.w0.lt c;rw[Ah (by have:=h.sn;omega)];exact h.keep u y c
 show A7 Ab (.ptr r0 0 0) (upd H s (Q7 (.ptr r0 0 0) c6 none)) _=_;rw[AH (p:=0) rfl k (by simp)];show Gt Ao 1 Ag 1 [(0,1,S b)] (upd H s (Q7 (.ptr r0 0 0) c6 none)) (λQ A=>Ed Ao 1 Ag Ab v Q A _)=_;obtain⟨d,j,h1,h2,B,h4,C,V⟩:=A4g b N O hn;rw[h1];have n0:¬A6 v r0:=λc=>(h.new r0 c).1 rfl;have ns:¬A6 v s:=λc=>(h.new s c).2.1 rfl;have m:=C r0 _ k n0;have M:=C s _ J ns;have f:B2 d=[d]/\AV.one d=true:=by
  rcases h2 with⟨rfl,_⟩|⟨a,b,rfl,_⟩<;>exact⟨rfl,rfl⟩
 rw[Em (q:=q0) (e:=e0) (cs:=[v]) m (by simp) rfl f.1 f.2];have Y:Ax H0<=Ax H:=by have:=h.wf.lt h.at_;have:=h.r0n;omega
 have F:Ax (upd H s (Q7 (.ptr r0 0 0) c6 none))=Ax H:=BV _ _ _;have i:∀u,A6 d u->u≠r0/\u≠s/\Ax H0<=u:=λu c=>by
  have a1:=V u c;rw[F]at a1;have a2:=h.wf.lt h.at_;have a3:=h.wf.lt h.lp;exact⟨by omega,by omega,by omega⟩
 have w:Al (upd j r0 (.cells q0 e0 [d])) s=some (Q7 (.ptr r0 0 0) c6 none):=by rw[Ah h.ne.symm];exact M
 show Ek (upd j r0 (.cells q0 e0 [d])) s false (some none) _=_;have g:=w;unfold Q7 at g;rw[Qy g];refine Z d _ ⟨?_,?_,?_,i,Bs (Bs B),λu y c=>?_,h.ne,h.r0n,h.sn,h.w0⟩
 ·rw[Ah h.ne];exact A5 m
 ·have a:=h2.lat B (Lat.upd j r0 (.cells q0 e0 [d]) (P:=λu=>u=r0) rfl) (λu c=>(i u c).1);exact a.lat (Bs B) (Lat.upd _ s _ (P:=λu=>u=s) rfl) (λu c=>(i u c).2.1)
 ·exact FE w
 ·have X:=h.w0.lt c;have b1:=h.r0n;have b2:=h.sn;rw[Ah (by omega),Ah (by omega)];refine C u y (D u y c) (λhv=>?_);have:=(h.new u hv).2.2;omega
def B9o{r0 s e0:Nat}{c6:AV}{k3:Ru}{ps:List Ha}(hn:ps.length<1000000000)(d:∀v H,Coll H0 r0 s q0 e0 c6 ps v H->k3 H=x):
 ∀(f i:Nat)(v:AV)(H:Hp),i<=ps.length->ps.length-i<f->Coll H0 r0 s q0 e0 c6 (ps.take i) v H->
  Eo (L+20) (r! L (n+1)) K k3 f (.yl s) (Ls ps) (I ps.length) (I i) H=x:=by
 intro f
 induction f with
 |zero=>intro i v H _ h;omega
 |succ f ih=>
  intro i v H j g hc;rw[JT];unfold Ep HN Az;by_cases h:i<ps.length
  ·rw[Fo (by omega),CA,OS h,Hy];refine B1H hc (by simp;omega) λe c a=>?_;rw[Jm];show A2 (.v (.bool false)) _ _=_;rw[Bm,Dg (by omega)];rw[<-tO h]at a;exact ih (i+1) e c (by omega) (by omega) a
  ·rw[XA2 (by omega),Bm];have:i=ps.length:=by omega
   rw[this,tN]at hc;exact d v H hc
structure NewSl(H0:Hp)(l:List Ha)(v:AV)(H:Hp):Prop where
 sl:AZ H Ao 1 v l.length (AJ l)
 new:∀u,A6 v u->Ax H0<=u
 wf:Wf H
 keep:∀u y,Al H0 u=some y->Al H u=some y
 nx:Ax H0<=Ax H
abbrev A6P(ps:List Ha):AV:=.fn (.func Hj) [] [.iptr [Ls ps]]
def A4L{ps:List Ha}(hn:ps.length<1000000000)(g:ps.length<L)(w:Wf H0)(f:∀v H,NewSl H0 ps v H->K v H=x):
 (r! L (n+4)).call Fs [A6P ps] H0 K=x:=by
 rw[Io];unfold Fq;rw[E8];unfold CF;simp only[BJ];rw[zJ (by rfl),A3u,Kv];unfold E7 Az;simp only[BJ];have e:∀H K,A7 Ab (.iptr [Ls ps]) H K=K (Ls ps):=λH K=>OQ rfl;rw[e,LU];have e0:(AV.v (.int .i64 0))=I ((0:Nat):Int):=rfl;rw[e0];have w1:=AM (x:=.cells true Bc [A1]) w;have c:=Av (H:=H0) (x:=.cells true Bc [A1]) (by simp);have d:Ax ((Ax H0,c_ Bc [A1])::H0)=Ax H0+1:=rfl;refine B9o (n:=n) (H0:=H0) (r0:=Ax H0) (s:=Ax H0+1) (q0:=true) (e0:=Bc) (c6:=A6P ps) hn ?_ (L+20) 0 A1 _ (by omega) (by omega) ⟨AK (w1.lt c) c,.inl ⟨rfl,rfl,rfl⟩,Av (H:=((Ax H0,c_ Bc [A1])::H0)) (x:=Q7 (.ptr (Ax H0) 0 0) (A6P ps) (some none)) (by simp[Q7]),λu ⟨_,_,_,h⟩=>(by cases h),AM w1,λu y a=>?_,by omega,by omega,by omega,w⟩
 ·intro v H hc;rw[d,Bq hc.lp];show JI H (Ax H0+1) .gone _=x;rw[C5];have hr:Al (upd H (Ax H0+1) .gone) (Ax H0)=some (c_ Bc [v]):=by rw[Ah (by omega)];exact hc.at_
  show A7 Ab (.ptr (Ax H0) 0 0) (upd H (Ax H0+1) .gone) _=x;rw[AH (p:=0) rfl hr (by simp)];refine f _ _ ⟨?_,λu a=>(hc.new u a).2.2,Bs hc.wf,λu y a=>?_,?_⟩
  ·exact hc.sl.lat hc.wf (Lat.upd H _ _ (P:=λu=>u=Ax H0+1) rfl) (λu a=>(hc.new u a).2.1)
  ·have:=w.lt a;rw[Ah (by omega)];exact hc.keep u y a
  ·rw[BV];have:=hc.wf.lt hc.at_;omega
 ·have a1:=AK (x:=.cells true Bc [A1]) (w.lt a) a;exact AK (w1.lt a1) a1
def A6B{ps:List Ha}(B:0<ps.length)(hn:ps.length<1000000000)(t:ps.length<L)(w:Wf H0)(A:∀v H,NewSl H0 (FF ps) v H->K v H=x):
 (r! L (n+5)).call E9 [A6P ps] H0 K=x:=by
 rw[IG];unfold FA;refine A4L hn t w λv H c=>?_;have j:=(BF ps).length_eq;rcases c.sl with⟨_,h,_⟩|⟨r,q,rfl,i,hc⟩
 ·omega
 ·have p:∀K,(r! L (n+4)).call Cm [.sl 1 r 0 ps.length] H K=Z7 [.sl 1 r 0 ps.length] H K (jO (E (L+20)) (nT (L+20)) (r! L (n+3)) Cm [.sl 1 r 0 ps.length] H K):=λK=>rfl;rw[p];have f:∀(l:List Ha),Wm (AJ l)=some l:=λl=>by
   induction l with
   |nil=>rfl
   |cons a l ih=>show(Wm (AJ l)).map _=_;rw[ih];rfl
  have s:∀alt K,Z7 [.sl 1 r 0 ps.length] H K alt=DN 0 (AJ (FF ps)) (AJ ps) λd=>JI H r (.cells q Ao d) λm=>K (.tup []) m:=λalt K=>by
   unfold Z7;simp only[i,tJ];rw[l1z (by rw[Cb];omega),f];have g:(Nat.beq ps.length ps.length&&(Nat.blt ps.length 4611686018427387904&&Nat.blt 0 ps.length))=true:=by simp;omega
   simp only[g];rfl
  rw[s,IP _ _ _ _ (by rw[Cb,Cb];omega),QJ _ _ (by rw[Cb,Cb];exact j),C5];refine A _ _ ⟨.inr ⟨r,q,by rw[j],A5 i,by rw[Cb];omega⟩,λu ⟨_,_,_,e⟩=>?_,Bs c.wf,λu y k=>?_,by rw[BV];exact c.nx⟩
  ·injection e with _ e
   subst e;exact c.new r ⟨1,0,ps.length,rfl⟩
  ·have a1:=w.lt k;have a2:=c.new r ⟨1,0,ps.length,rfl⟩;rw[Ah (by omega)];exact c.keep u y k
end
section
variable{a:AV}{H:Hp}{es:IH}{m s:Nat}
variable{L n:Nat}
def Xp{R:Rt}{m g:Nat}{cap:Is}{t:Tm}{ps:Array Tmp}{h f:Code}{K:Option (Option Code)->Ru}:
 oH R m (.fn (.func g) [] cap) t ps h f H K=R.call g (.yl (Ax H)::cap) ((Ax H,.loop m t ps h f (some none))::H) λ_ d=>IN d (Ax H) λx=>Yo x λ_ _ _ _ _ c=>JI d (Ax H) .gone λi=>K c i:=by
 have e:oH R m (.fn (.func g) [] cap) t ps h f H K=HV H λs=>WX [] (.yl s::cap) λall=>R.call g all ((s,.loop m t ps h f (some none))::H) λ_ d=>IN d s λx=>Yo x λ_ _ _ _ _ c=>JI d s .gone λi=>K c i:=rfl;rw[e,BW,LR];rfl
def dO{K:KV}:dP (.imap es) H K=K (.it (Ax H)) ((Ax H,.iter es none)::H):=by
 have e:dP (.imap es) H K=HV H λs=>K (.it s) ((s,.iter es none)::H):=rfl;rw[e,BW]
def vQ{e:Value×AV}{o:Option (Value×AV)}{K:KV}(h:Al H s=some (.iter (e::es) o)):
 dQ (.it s) H K=PH (λe rest=>JI H s (.iter rest (some e)) λc=>K (.tup [.v (.bool true),rR e.1,e.2]) c) (e::es) []:=by
 have d:dQ (.it s) H K=IN H s λx=>A3S x λl=>@List.rec (Value×AV) (λ_=>Af) (K (.tup [.v (.bool false)]) H)
  (λ_ _ _=>PH (λe rest=>JI H s (.iter rest (some e)) λc=>K (.tup [.v (.bool true),rR e.1,e.2]) c) l []) l:=rfl
 rw[d,Bq h];rfl
def A9f{o:Option (Value×AV)}{K:KV}(h:Al H s=some (.iter [] o)):dQ (.it s) H K=K (.tup [.v (.bool false)]) H:=by
 have d:dQ (.it s) H K=IN H s λx=>A3S x λl=>@List.rec (Value×AV) (λ_=>Af) (K (.tup [.v (.bool false)]) H)
  (λ_ _ _=>PH (λe rest=>JI H s (.iter rest (some e)) λc=>K (.tup [.v (.bool true),rR e.1,e.2]) c) l []) l:=rfl
 rw[d,Bq h];rfl
def Uj{p:Value×AV}{K:K2}(h:Al H s=some (.iter es (some p))):iP (.it s) H K=K (.tup [rR p.1,p.2]):=by
 have c:iP (.it s) H K=IN H s λx=>A8r x λp=>K (.tup [rR p.1,p.2]):=rfl;rw[c,Bq h];rfl
def My{l:Is}{K:K2}:Ci (.tup (a::l)) 0 K=K a:=id rfl
def A9s{a b:AV}{l:Is}{K:K2}:Ci (.tup (a::b::l)) 1 K=K b:=id rfl
def B3i{d:Option (Hb×Nat)}{K:KV}(f:Al H m=some (.map false es d))(hc:es.all (λp=>mI 3 p.2)=true):dP (.mp m) H K=K (.it (Ax H)) ((Ax H,.iter es none)::upd H m .gone):=by
 have e:dP (.mp m) H K=IN H m λx=>WN x λes _=>ck (es.all λp=>mI 3 p.2) (JI H m .gone λc=>HV c λt=>K (.it t) ((t,.iter es none)::c)):=rfl;rw[e,Bq f];show ck (es.all λp=>mI 3 p.2) _=_;rw[hc];show JI H m .gone _=_;rw[C5,BW,BV]
def A56{F:Value×AV->IH->Af}{v:AV}(hv:Ze 6 v v=true):∀(l pre:IH),l≠[]->(∀l1 e l2,l=l1++e::l2->F e (pre++(l1++l2))=some (v,[]))->PH F l pre=some (v,[]):=by
 intro l
 induction l with
 |nil=>intro _ h;exact absurd rfl h
 |cons e l ih=>
  intro pre _ h;have c:=h [] e l rfl;rw[l35]at c;cases l with
  |nil=>rw[oY];rw[YV]at c;exact c
  |cons g l=>
   rw[jF,c,ih (pre++[e]) (by simp) λl1 d l2 f=>?_]
   ·show(match Ze 6 v v with|true=>some (v,[])|false=>none)=_;rw[hv]
   ·have:=h (e::l1) d l2 (by rw[f];rfl);rw[eU];exact this
def pE{α:Type}{f:α->AV}{es:List (Ha×α)}{it:Nat}{o:Option (Value×AV)}{w:AV}{K:KV}(u:Ze 6 w w=true)(d:Al H it=some (.iter (es.map λe=>(.string ⟨⟨e.1⟩⟩,f e.2)) o))(i:es=[]->K (.tup [.v (.bool false)]) H=some (w,[]))(h1:∀a e b,es=a++e::b->K (.tup [.v (.bool true),S e.1,f e.2]) (upd H it (.iter ((a++b).map λe=>(.string ⟨⟨e.1⟩⟩,f e.2)) (some (.string ⟨⟨e.1⟩⟩,f e.2))))=some (w,[])):dQ (.it it) H K=some (w,[]):=by
 cases es with
 |nil=>rw[A9f d];exact i rfl
 |cons e es=>
  rw[VC]at d;rw[vQ d];refine A56 u _ [] (by simp) λx p y h=>?_;rw[<-VC (f:=λe:Ha×α=>((Value.string ⟨⟨e.1⟩⟩:Value),f e.2))]at h;obtain⟨a,c,h2,j,k⟩:=List.map_eq_append_iff.1 h;obtain⟨g,b,q,r,t⟩:=List.map_eq_cons_iff.1 k;subst q j r t;rw[C5,l35,<-Yr];exact h1 a g b h2
end
section
variable{n:Nat}{α:Type}
structure Ce(κ:Type) where
 real:Bool
 ps:List κ
section
variable{κ:Type}[DecidableEq κ]{g:List (κ×Ce κ)}
def Jo:List (κ×α)->κ->Option α
 |[],_=>none
 |e::g,x=>if e.1=x then some e.2 else Jo g x
def rz(g:List (κ×Ce κ)):Nat->κ->Bool
 |0,_=>false
 |n+1,x=>match Jo g x with
  |none=>false
  |some c=>(c.real|| !c.ps.isEmpty)&&c.ps.all (rz g n)
def Rz(g:List (κ×Ce κ))(x:κ):Prop:=∃n,rz g n x=true
def UC{x:κ}:rz g (n+1) x=true↔∃c,Jo g x=some c/\(c.real=true\/c.ps≠[])/\∀p∈c.ps,rz g n p=true:=by
 rw[show rz g (n+1) x=(match Jo g x with
  |none=>false
  |some c=>(c.real|| !c.ps.isEmpty)&&c.ps.all (rz g n)) from rfl]
 cases Jo g x with
 |none=>simp
 |some c=>simp[G8]
def Z9:∀(n:Nat)(x:κ),rz g n x=true->rz g (n+1) x=true:=by
 intro n
 induction n with
 |zero=>intro x h;cases h
 |succ n ih=>
  intro x h;obtain⟨c,h1,h2,a⟩:=UC.1 h;exact UC.2 ⟨c,h1,h2,λp d=>ih p (a p d)⟩
def A3s{n m:Nat}{x:κ}(h:n<=m)(h1:rz g n x=true):rz g m x=true:=by
 induction h with
 |refl=>exact h1
 |step _ ih=>exact Z9 _ _ ih
def B8I{l:List κ}(h:∀p∈l,Rz g p):∃n,∀p∈l,rz g n p=true:=by
 induction l with
 |nil=>exact⟨0,by simp⟩
 |cons a l ih=>
  obtain⟨n,hn⟩:=ih λp c=>h p (by simp[c]);obtain⟨m,hm⟩:=h a (by simp);refine⟨max n m,λp c=>?_⟩;rcases Qd.1 c with rfl|c
  ·exact A3s (by omega) hm
  ·exact A3s (by omega) (hn p c)
def B01{x:κ}:Rz g x↔∃c,Jo g x=some c/\(c.real=true\/c.ps≠[])/\∀p∈c.ps,Rz g p:=by
 constructor
 ·rintro⟨n,h⟩;cases n with
  |zero=>cases h
  |succ n=>
   obtain⟨c,h1,h2,a⟩:=UC.1 h;exact⟨c,h1,h2,λp d=>⟨n,a p d⟩⟩
 ·rintro⟨c,h1,h2,a⟩;obtain⟨n,hn⟩:=B8I a;exact⟨n+1,UC.2 ⟨c,h1,h2,hn⟩⟩
def dH{x:κ}{c:α}:∀{g:List (κ×α)},Jo g x=some c->(x,c)∈g:=by
 intro g
 induction g with
 |nil=>intro h;cases h
 |cons e g ih=>
  intro h;unfold Jo at h;split at h
  ·rename_i a;cases h;subst a;simp
  ·simp[ih h]
def rzN(g:List (κ×Ce κ))(n:Nat):Nat:=(g.filter λe=>rz g n e.1).length
def iF{p q:α->Bool}{l:List α}(h:∀a∈l,p a=true->q a=true){a:α}(d:a∈l)(h1:q a=true)(h2:p a=false):(l.filter p).length<(l.filter q).length:=by
 induction l with
 |nil=>cases d
 |cons b l ih=>
  have mono:∀l:List α,(∀a∈l,p a=true->q a=true)->(l.filter p).length<=(l.filter q).length:=by
   intro l
   induction l with
   |nil=>intro _;simp
   |cons c l ih=>
    intro h;have:=ih λa d=>h a (by simp[d]);rw[l2h,l2h];have e:=h c (by simp);cases f:p c<;>cases hq:q c<;>simp_all<;>omega
  have i:=mono l λa d=>h a (by simp[d]);rw[l2h,l2h];rcases Qd.1 d with rfl|d
  ·rw[h1,h2];simp;omega
  ·have:=ih (λa d=>h a (by simp[d])) d;have e:=h b (by simp);cases f:p b<;>cases hq:q b<;>simp_all<;>omega
def B1z(n:Nat):(∀m x,rz g m x=true->rz g n x=true)\/n<=rzN g n:=by
 induction n with
 |zero=>exact .inr (D! _)
 |succ n ih=>
  rcases ih with ih|ih
  ·exact .inl λm x h=>Z9 _ _ (ih m x h)
  ·by_cases i:∀x,rz g (n+1) x=true->rz g n x=true
   ·left;have:∀m x,rz g m x=true->rz g n x=true:=by
     intro m
     induction m with
     |zero=>intro x h;cases h
     |succ m f=>
      intro x h;obtain⟨c,h1,h2,j⟩:=UC.1 h;exact i x (UC.2 ⟨c,h1,h2,λp k=>f p (j p k)⟩)
    exact λm x h=>Z9 _ _ (this m x h)
   ·right;have⟨x,d⟩:∃x,rz g (n+1) x=true/\¬rz g n x=true:=l2z λhc=>i λx d=>l2z λhn=>hc ⟨x,d,hn⟩;obtain⟨c,h1,_,_⟩:=UC.1 d.1;have:=iF (p:=λe=>rz g n e.1) (q:=λe=>rz g (n+1) e.1) (l:=g) (λa _ h=>Z9 _ _ h) (dH h1) d.1 (by simpa using d.2);show n+1<=(g.filter λe=>rz g (n+1) e.1).length;have:n<=(g.filter λe=>rz g n e.1).length:=ih;omega
def B8N{x:κ}:Rz g x↔rz g g.length x=true:=by
 constructor
 ·rintro⟨m,h⟩;rcases B1z (g:=g) g.length with a|a
  ·exact a m x h
  ·have:∀e∈g,rz g g.length e.1=true:=by
    have h1:(g.filter λe=>rz g g.length e.1).length=g.length:=Nat.le_antisymm (l2v _ _) a;exact List.length_filter_eq_length_iff.1 h1
   cases m with
   |zero=>cases h
   |succ m=>
    obtain⟨c,h1,_,_⟩:=UC.1 h;exact this _ (dH h1)
 ·exact λh=>⟨_,h⟩
inductive Rc(g:List (κ×Ce κ)):κ->κ->Prop
 |one {x y:κ} {c:Ce κ}:Jo g x=some c->y∈c.ps->Rc g x y
 |more {x y z:κ}:Rc g x y->Rc g y z->Rc g x z
theorem Rc.rz{x y:κ}(h:Rc g x y):∀n,rz g n x=true->∃m,m<n/\rz g m y=true:=by
 induction h with
 |one h1 h2=>
  intro n h;cases n with
  |zero=>cases h
  |succ n=>
   obtain⟨c,e,_,a⟩:=UC.1 h;rw[h1]at e;cases e;exact⟨n,Nat.lt_succ_self n,a _ h2⟩
 |more _ _ i1 i2=>
  intro n h;obtain⟨m,h1,h2⟩:=i1 n h;obtain⟨k,a,d⟩:=i2 m h2;exact⟨k,by omega,d⟩
def Rc.no{x:κ}(h:Rc g x x):¬Rz g x:=by
 rintro⟨n,hn⟩
 induction n using Nat.strongRecOn with
 |_ n ih=>
  obtain⟨m,h1,h2⟩:=h.rz n hn;exact ih m h1 h2
def F1(b:List (κ×α))(x:κ)(v:α):List (κ×α):=match b with
 |[]=>[(x,v)]
 |e::b=>if e.1=x then(e.1,v)::b else e::F1 b x v
def GQ{b:List (κ×α)}{x y:κ}{v:α}:Jo (F1 b x v) y=if x=y then some v else Jo b y:=by
 induction b with
 |nil=>rfl
 |cons e b ih=>
  unfold F1;by_cases h:e.1=x
  ·rw[CZ h];simp only[Jo];subst h;by_cases h1:e.1=y<;>simp[h1]
  ·rw[Cr h];simp only[Jo,ih];by_cases h1:x=y
   ·subst h1;simp[h]
   ·simp[h1]
def A0B(f:κ->List (κ×Bool)->Option (Bool×List (κ×Bool))):List κ->Bool->List (κ×Bool)->Option (Bool×List (κ×Bool))
 |[],a,b=>some (a,b)
 |p::ps,a,b=>if a then(match f p b with|none=>none|some (v,c)=>A0B f ps v c) else A0B f ps a b
def dfs(g:List (κ×Ce κ)):Nat->κ->List (κ×Bool)->Option (Bool×List (κ×Bool))
 |0,_,_=>none
 |n+1,x,b=>match Jo b x with
  |some v=>some (v,b)
  |none=>match Jo g x with
   |none=>some (false,F1 (F1 b x false) x false)
   |some c=>match A0B (dfs g n) c.ps (c.real|| !c.ps.isEmpty) (F1 b x false) with
    |none=>none
    |some (v,a)=>some (v,F1 a x v)
def ZV(g:List (κ×Ce κ))(b:List (κ×Bool)):Nat:=(g.filter λe=>(Jo b e.1).isNone).length
structure InvD(g:List (κ×Ce κ))(st:List κ)(b:List (κ×Bool)):Prop where
 t:∀y,Jo b y=some true->Rz g y
 f:∀y,Jo b y=some false->y∈st\/¬Rz g y
def A65(b a:List (κ×Bool)):Prop:=∀y,Jo b y≠none->Jo a y≠none
def A27{b a:List (κ×Bool)}(h:A65 b a):ZV g a<=ZV g b:=by
 unfold ZV
 induction g with
 |nil=>simp
 |cons e g ih=>
  rw[l2h,l2h];have:=h e.1;cases h1:Jo b e.1<;>cases h2:Jo a e.1<;>simp_all<;>omega
def B3n{f:κ->List (κ×Bool)->Option (Bool×List (κ×Bool))}{st:List κ}{k:Nat}(A:∀p b,InvD g st b->(∀s∈st,Rc g s p)->ZV g b<k->∃v c,f p b=some (v,c)/\(v=true↔Rz g p)/\InvD g st c/\A65 b c):
 ∀(ps:List κ)(a:Bool)(b:List (κ×Bool)),InvD g st b->(∀p∈ps,∀s∈st,Rc g s p)->ZV g b<k->
  ∃v c,A0B f ps a b=some (v,c)/\(v=true↔a=true/\∀p∈ps,Rz g p)/\InvD g st c/\A65 b c:=by
 intro ps
 induction ps with
 |nil=>intro a b e _ _;exact⟨a,b,rfl,by simp,e,λ_ h=>h⟩
 |cons p ps ih=>
  intro a b e m hk;unfold A0B;cases a with
  |false=>
   obtain⟨v,c,h1,h2,j,d⟩:=ih false b e (λq hq=>m q (by simp[hq])) hk;exact⟨v,c,h1,by rw[h2];simp,j,d⟩
  |true=>
   obtain⟨v,c,h1,h2,j,d⟩:=A p b e (m p (by simp)) hk;obtain⟨w,i,r,t,u,x⟩:=ih v c j (λq hq=>m q (by simp[hq])) (Nat.lt_of_le_of_lt (A27 d) hk);refine⟨w,i,?_,?_,u,λy B=>x y (d y B)⟩
   ·simp only[h1,if_true];exact r
   ·rw[t,h2];simp
def B8s:∀(n:Nat)(st:List κ)(x:κ)(b:List (κ×Bool)),InvD g st b->(∀s∈st,Rc g s x)->ZV g b<n->
 ∃v i,dfs g (n+1) x b=some (v,i)/\(v=true↔Rz g x)/\InvD g st i/\A65 b i:=by
 intro n
 induction n with
 |zero=>intro st x b _ _ h;omega
 |succ n ih=>
  intro st x b m H hk;unfold dfs;cases C:Jo b x with
  |some v=>
   refine⟨v,b,rfl,?_,m,λ_ h=>h⟩;cases v with
   |true=>simp[m.t x C]
   |false=>
    simp only[tL,false_iff];rcases m.f x C with h|h
    ·exact(H x h).no
    ·exact h
  |none=>
   have j:∀{i:List (κ×Bool)}{v:Bool},A65 (F1 b x false) i->A65 b (F1 i x v):=by
    intro i v h y L;rw[GQ];split
    ·simp
    ·have:=h y;rw[GQ]at this;split at this
     ·exact this (by simp)
     ·exact this L
   cases r:Jo g x with
   |none=>
    have hn:¬Rz g x:=λh=>by obtain⟨c,h1,_⟩:=B01.1 h;rw[r]at h1;cases h1
    refine⟨false,_,rfl,by simp[hn],⟨λy h=>?_,λy h=>?_⟩,j λ_ h=>h⟩
    ·rw[GQ]at h;split at h
     ·cases h
     ·rw[GQ]at h;split at h
      ·cases h
      ·exact m.t y h
    ·rw[GQ]at h;split at h
     ·rename_i e;subst e;exact .inr hn
     ·rw[GQ]at h;split at h
      ·rename_i e;subst e;exact .inr hn
      ·exact m.f y h
   |some c=>
    have w:(x,c)∈g:=dH r;have D:ZV g (F1 b x false)<n:=by
     have:ZV g (F1 b x false)<ZV g b:=by
      refine iF (a:=(x,c)) ?_ w ?_ ?_
      ·intro a _ h;rw[GQ]at h;split at h
       ·cases h
       ·exact h
      ·simp[C]
      ·simp[GQ]
     omega
    have u:InvD g (x::st) (F1 b x false):=by
     refine⟨λy h=>?_,λy h=>?_⟩
     ·rw[GQ]at h;split at h
      ·cases h
      ·exact m.t y h
     ·rw[GQ]at h;split at h
      ·rename_i e;subst e;exact .inl (by simp)
      ·rcases m.f y h with h|h
       ·exact .inl (by simp[h])
       ·exact .inr h
    obtain⟨v,i,h1,h2,F,J⟩:=B3n (f:=dfs g (n+1)) (k:=n) (st:=x::st) (λp b hb A hk=>ih (x::st) p b hb A hk) c.ps (c.real|| !c.ps.isEmpty) (F1 b x false) u (λp A s q=>by
     rcases Qd.1 q with rfl|q
     ·exact .one r A
     ·exact .more (H s q) (.one r A)) D
    have hv:v=true↔Rz g x:=by
     rw[h2,B01];constructor
     ·rintro⟨d,B⟩;exact⟨c,r,by simpa using d,B⟩
     ·rintro⟨M,d,B,K⟩;rw[r]at d;cases d;exact⟨by simpa using B,K⟩
    refine⟨v,F1 i x v,?_,hv,⟨λy h=>?_,λy h=>?_⟩,j J⟩
    ·simp only[h1]
    ·rw[GQ]at h;split at h
     ·rename_i e;subst e;exact hv.1 (by cases h;rfl)
     ·exact F.t y h
    ·rw[GQ]at h;split at h
     ·rename_i e;subst e;exact .inr λhr=>by have:=hv.2 hr;rw[this]at h;cases h
     ·rcases F.f y h with d|d
      ·rcases Qd.1 d with rfl|d
       ·contradiction
       ·exact .inl d
      ·exact .inr d
def B3m(x:κ):∃a,dfs g (g.length+2) x []=some (rz g g.length x,a):=by
 obtain⟨v,a,h1,h2,_,_⟩:=B8s (g:=g) (g.length+1) [] x [] ⟨λy h=>(by cases h),λy h=>(by cases h)⟩ (by simp) (Nat.lt_succ_of_le (l2v _ _));refine⟨a,?_⟩;rw[h1];have:v=rz g g.length x:=by rw[kZ,h2,B8N]
 rw[this]
end
end
section
variable{m:AV}{r:Nat}{ie:TI}
abbrev SV(s:Ha):Value:=.string ⟨⟨s⟩⟩
section
variable{α:Type}{f:α->AV}{b:List (Ha×α)}{x:Ha}{H:Hp}
abbrev Fc(f:α->AV)(b:List (Ha×α)):IH:=b.map λe=>(SV e.1,f e.2)
def WW(x:Ha):List (Ha×α)->Nat->Option (Nat×α)
 |[],_=>none
 |e::b,i=>if e.1=x then some (i,e.2) else WW x b (i+1)
def XB{e:Ha×α}{i:Nat}:WW x (e::b) i=if e.1=x then some (i,e.2) else WW x b (i+1):=rfl
def C0E{s u:Ha}:keq (SV s) (SV u)=some (decide (u=s)):=by
 show some (F' s u)=_;rw[PU];by_cases h:s=u
 ·subst h;simp
 ·simp[h,Ne.symm h]
def A8w:∀(b:List (Ha×α))(i:Nat),XB0 (SV x) (Fc f b) i=some ((WW x b i).map λp=>(p.1,f p.2)):=by
 intro b
 induction b with
 |nil=>intro i;rfl
 |cons e b ih=>
  intro i;show XB0 (SV x) ((SV e.1,f e.2)::Fc f b) i=_;rw[Vm,C0E,ih,XB];by_cases h:e.1=x
  ·simp[h]
  ·simp[h]
def A0a:∀(b:List (Ha×α))(i:Nat),(WW x b i).map (·.2)=Jo b x:=by
 intro b
 induction b with
 |nil=>intro i;rfl
 |cons e b ih=>
  intro i;rw[XB];unfold Jo;by_cases h:e.1=x
  ·simp[h]
  ·simp[h,ih]
def A09(v:α):∀(b:List (Ha×α))(i:Nat),(match WW x b i with|none=>b++[(x,v)]|some (j,_)=>b.set (j-i) (x,v))=F1 b x v/\(∀j w,WW x b i=some (j,w)->i<=j):=by
 intro b
 induction b with
 |nil=>intro i;exact⟨rfl,λj w h=>by cases h⟩
 |cons e b ih=>
  intro i;rw[XB];unfold F1;by_cases h:e.1=x
  ·refine⟨?_,λj w a=>?_⟩
   ·simp[h]
   ·simp[h]at a;omega
  ·obtain⟨h1,h2⟩:=ih (i+1);refine⟨?_,λj w a=>?_⟩
   ·rw[Cr h,Cr h,<-h1];cases d:WW x b (i+1) with
    |none=>rfl
    |some p=>
     obtain⟨j,w⟩:=p;have:=h2 j w d;have c:j-i=(j-(i+1))+1:=by omega
     simp only[c,List.set_cons_succ]
   ·rw[Cr h]at a;have:=h2 j w a;omega
def Qt{es:IH}{a:Option (Hb×Nat)}{K:IH->Af}(h:Al H r=some (.map false es a)):A2n (.mp r) H K=K es:=by
 show IN H r _=_;rw[Bq h];rfl
def kfK{K:Option (Nat×AV)->Af}:GO (SV x) (Fc f b) K=K ((WW x b 0).map λp=>(p.1,f p.2)):=by
 unfold GO;rw[A8w]
theorem RS{K:K2}(h:∀K,A2n m H K=K (Fc f b)):Tt ie true m (SV x) H K=match Jo b x with
 |some v=>K (.tup [f v,Bo true])
 |none=>K (.tup [ie.zero,Bo false]):=by
 unfold Tt;rw[h,kfK,<-A0a b 0];cases WW x b 0<;>rfl
theorem dT{K:K2}(h:∀K,A2n m H K=K (Fc f b)):Tt ie false m (SV x) H K=match Jo b x with
 |some v=>K (f v)
 |none=>K ie.zero:=by
 unfold Tt;rw[h,kfK,<-A0a b 0];cases WW x b 0<;>rfl
def SF{v:α}{K:Ru}(h:Al H r=some (.map false (Fc f b) none)):Oh (.mp r) (SV x) (f v) H K=K (upd H r (.map false (Fc f (F1 b x v)) none)):=by
 have e:Oh (.mp r) (SV x) (f v) H K=IN H r λy=>WN y λa c=>GO (SV x) a λq=>match q with
  |none=>JI H r (.map false (a++[(SV x,f v)]) (wC c)) K
  |some (i,_)=>JI H r (.map false (a.set i (SV x,f v)) c) K:=rfl
 rw[e,Bq h];show GO (SV x) (Fc f b) _=_;rw[kfK];obtain⟨h1,h2⟩:=A09 (x:=x) v b 0;cases d:WW x b 0 with
 |none=>
  rw[d]at h1;show JI H r (.map false (Fc f b++[(SV x,f v)]) none) K=_;rw[C5,<-h1,Fc,Fc,Yr];rfl
 |some p=>
  obtain⟨j,w⟩:=p;rw[d]at h1;show JI H r (.map false ((Fc f b).set j (SV x,f v)) none) K=_;rw[C5,<-h1,Fc,Fc,List.map_set,Nat.sub_zero]
end
end
section
variable{v:AV}{q0:Bool}{H:Hp}{ks:List Ha}
variable{L n:Nat}
abbrev uS:Unit->AV:=λ_=>.agg []
section
variable{K:KV}{x:Af}
def A3t{H0 H:Hp}{r0 s e0:Nat}{c6 v:AV}{l:List Ha}{b:Ha}(h:Coll H0 r0 s q0 e0 c6 l v H)(hn:l.length<1000000000)(hx:∀d f,Coll H0 r0 s q0 e0 c6 (l++[b]) d f->(∀u y,u≠r0->u≠s->¬A6 v u->Al H u=some y->Al f u=some y)->(∀u,A6 d u->Ax H<=u)->K (Bo true) f=x):C7 (E (L+20)) (r! L (n+1)) (.yl s) [S b] H K=x:=by
 show Ol (r! L (n+1)) s [S b] H K=x;rw[Qw h.lp (by kernel_rfl)];have C:(r! L (n+1)).run= λV=>Jr (E (L+20)) (r! L n) V:=rfl;rw[C,GC,Qz h.lp];have Q:=Bs (r:=s) (y:=Q7 (.ptr r0 0 0) c6 none) h.wf;have A:Al (upd H s (Q7 (.ptr r0 0 0) c6 none)) r0=some (.cells q0 e0 [v]):=by rw[Ah h.ne];exact h.at_
 have M:Al (upd H s (Q7 (.ptr r0 0 0) c6 none)) s=some (Q7 (.ptr r0 0 0) c6 none):=FE h.lp;have O:AZ (upd H s (Q7 (.ptr r0 0 0) c6 none)) Ao 1 v l.length (AJ l):=h.sl.lat h.wf (Lat.upd H s _ (P:=λu=>u=s) rfl) (λu c=>(h.new u c).2.1);show A7 Ab (.ptr r0 0 0) (upd H s (Q7 (.ptr r0 0 0) c6 none)) _=_;rw[AH (p:=0) rfl A (by simp)];show Gt Ao 1 Ag 1 [(0,1,S b)] (upd H s (Q7 (.ptr r0 0 0) c6 none)) (λR F=>Ed Ao 1 Ag Ab v R F _)=_;obtain⟨d,f,h1,h2,t,h4,J,X⟩:=A4g b O Q hn;rw[h1];have n0:¬A6 v r0:=λc=>(h.new r0 c).1 rfl;have ns:¬A6 v s:=λc=>(h.new s c).2.1 rfl;have B:=J r0 _ A n0;have N:=J s _ M ns;have i:B2 d=[d]/\AV.one d=true:=by
  rcases h2 with⟨rfl,_⟩|⟨a,b,rfl,_⟩<;>exact⟨rfl,rfl⟩
 rw[Em (q:=q0) (e:=e0) (cs:=[v]) B (by simp) rfl i.1 i.2];have aa:Ax H0<=Ax H:=by have:=h.wf.lt h.at_;have:=h.r0n;omega
 have Z:Ax (upd H s (Q7 (.ptr r0 0 0) c6 none))=Ax H:=BV _ _ _;have g:∀u,A6 d u->Ax H<=u:=λu c=>by have:=X u c;omega
 have k:∀u,A6 d u->u≠r0/\u≠s/\Ax H0<=u:=λu c=>by
  have a1:=g u c;have a2:=h.wf.lt h.at_;have a3:=h.wf.lt h.lp;exact⟨by omega,by omega,by omega⟩
 have D:Al (upd f r0 (.cells q0 e0 [d])) s=some (Q7 (.ptr r0 0 0) c6 none):=by rw[Ah h.ne.symm];exact N
 show Ek (upd f r0 (.cells q0 e0 [d])) s false (some none) _=_;have j:=D;unfold Q7 at j;rw[Qy j];have kp:∀u y,u≠r0->u≠s->¬A6 v u->Al H u=some y->Al (upd (upd f r0 (.cells q0 e0 [d])) s (Q7 (.ptr r0 0 0) c6 (some none))) u=some y:=λu y h1 h2 t c=>by
  rw[Ah h2,Ah h1];exact J u y (by rw[Ah h2];exact c) t
 refine hx d _ ⟨?_,?_,?_,k,Bs (Bs t),λu y c=>?_,h.ne,h.r0n,h.sn,h.w0⟩ kp g
 ·rw[Ah h.ne];exact A5 B
 ·have a:=h2.lat t (Lat.upd f r0 (.cells q0 e0 [d]) (P:=λu=>u=r0) rfl) (λu c=>(k u c).1);exact a.lat (Bs t) (Lat.upd _ s _ (P:=λu=>u=s) rfl) (λu c=>(k u c).2.1)
 ·exact FE D
 ·have Y:=h.w0.lt c;have b1:=h.r0n;have b2:=h.sn;exact kp u y (by omega) (by omega) (λhv=>by have:=(h.new u hv).2.2;omega) (h.keep u y c)
theorem Coll.it{H0 H:Hp}{r0 s e0 it:Nat}{q0:Bool}{c6 v:AV}{l:List Ha}(h:Coll H0 r0 s q0 e0 c6 l v H)(y:Row)(h1:it≠r0/\it≠s/\Ax H0<=it)(h2:¬A6 v it):Coll H0 r0 s q0 e0 c6 l v (upd H it y):=
 ⟨by rw[Ah h1.1.symm];exact h.at_,h.sl.lat h.wf (Lat.upd H it y (P:=λu=>u=it) rfl) (λu a e=>h2 (e▸a)),by rw[Ah h1.2.1.symm];exact h.lp,h.new,Bs h.wf,λu z a=>by rw[Ah (by have:=h.w0.lt a;omega)];exact h.keep u z a,h.ne,h.r0n,h.sn,h.w0⟩
def R7{r:Nat}{x:Row}{es:IH}{o:Option (Value×AV)}(h:Al H r=some x):Al (upd H r (.iter es o)) r=some (.iter es o):=(Dk h).trans rfl
def B2y{H0:Hp}{r0 s e0 it:Nat}{c6 w:AV}{t:Ru}(J:Ze 6 w w=true)(r:ks.length<1000000)(i:∀l v H,l.Perm ks->(l=[]->v=A1)->Coll H0 r0 s q0 e0 c6 l v H->t H=some (w,[]))(c:it≠r0/\it≠s/\Ax H0<=it):
 ∀(f:Nat)(es:List (Ha×Unit))(l:List Ha)(v:AV)(H:Hp)(o:Option (Value×AV)),es.length<f->(l++es.map Prod.fst).Perm ks->(l=[]->v=A1)->Coll H0 r0 s q0 e0 c6 l v H->¬A6 v it->Al H it=some (.iter (Fc uS es) o)->
 Di (L+20) (r! L (n+1)) K t f (.yl s) (.it it) H=some (w,[]):=by
 intro f
 induction f with
 |zero=>intro es l v H o h;omega
 |succ f ih=>
  intro es l v H o D p C hc hv q;rw[Ir];unfold Dj;refine pE (f:=uS) J q (λe=>?_) (λa e b he=>?_)
  ·subst e;rw[My,Bm];exact i l v H (by simpa using p) C hc
  ·subst he;have g:=hc.it (.iter (Fc uS (a++b)) (some (.string ⟨⟨e.1⟩⟩,uS e.2))) c hv;have d:=R7 (es:=Fc uS (a++b)) (o:=some (.string ⟨⟨e.1⟩⟩,uS e.2)) q;have k:(l++(a++e::b).map Prod.fst).length=ks.length:=p.length_eq;simp at k;have y:rR (.string ⟨⟨e.1⟩⟩)=S e.1:=rfl;rw[My,CA,Uj d,My,y];refine A3t g (by omega) λM u j hk hr=>?_;rw[Jm];show A2 (.v (.bool false)) _ _=_;rw[Bm];refine ih (a++b) (l++[e.1]) M u _ (by simp at D⊢;omega) ?_ (by simp) j (λF=>?_) (hk it _ c.1 c.2.1 hv d)
   ·refine List.Perm.trans ?_ p;simp only[Yr,VC,eU];refine List.Perm.append_left l ?_;show(e.1::(a.map Prod.fst++b.map Prod.fst)).Perm _;exact List.perm_middle.symm
   ·have A:=hr it F;have B:=g.wf.lt d;rw[BV]at A B;omega
end
abbrev gR(c:AV):AV:=.fn (.func Fj) [] [c]
section
variable{K:KV}{w:AV}{H0:Hp}{m rb:Nat}{es:List (Ha×Unit)}
def B9r(es:List (Ha×Unit)):(Fc uS es).all (λp=>mI 3 p.2)=true:=by
 rw[G8];intro p a;obtain⟨e,_,rfl⟩:=Us.1 a;rfl
def A1i(N:Ze 6 w w=true)(hn:es.length<1000000)(R:es.length<L)(wf:Wf H0)(hb:Al H0 rb=some (c_ Cv [.mp m]))(hm:Al H0 m=some (.map false (Fc uS es) none))(O:∀l v H,l.Perm (es.map Prod.fst)->(l=[]->v=A1)->NewSl (upd H0 m .gone) l v H->K v H=some (w,[])):
 (r! L (n+4)).call Fs [gR (.ptr rb 0 0)] H0 K=some (w,[]):=by
 rw[Io];unfold Fq;rw[E8];unfold CF;simp only[BJ];rw[zJ (by rfl),Xp,I3];unfold Do;simp only[BJ];have w1:=AM (x:=.cells true Bc [A1]) wf;have g:=Av (H:=H0) (x:=.cells true Bc [A1]) (by simp);have J:Ax ((Ax H0,c_ Bc [A1])::H0)=Ax H0+1:=rfl;have A:Wf ((Ax H0+1,Q7 (.ptr (Ax H0) 0 0) (gR (.ptr rb 0 0)) (some none))::(Ax H0,c_ Bc [A1])::H0):=AM (x:=Q7 (.ptr (Ax H0) 0 0) (gR (.ptr rb 0 0)) (some none)) w1;have k:Al ((Ax H0+1,Q7 (.ptr (Ax H0) 0 0) (gR (.ptr rb 0 0)) (some none))::(Ax H0,c_ Bc [A1])::H0) (Ax H0+1)=some (Q7 (.ptr (Ax H0) 0 0) (gR (.ptr rb 0 0)) (some none)):=Av (H:=((Ax H0,c_ Bc [A1])::H0)) (x:=Q7 (.ptr (Ax H0) 0 0) (gR (.ptr rb 0 0)) (some none)) (by simp[Q7]);have ol:∀u y,Al H0 u=some y->Al ((Ax H0+1,Q7 (.ptr (Ax H0) 0 0) (gR (.ptr rb 0 0)) (some none))::(Ax H0,c_ Bc [A1])::H0) u=some y:=λu y c=>by
  have a1:=AK (x:=.cells true Bc [A1]) (wf.lt c) c;exact AK (w1.lt a1) a1
 show A7 Co (.ptr rb 0 0) ((Ax H0+1,Q7 (.ptr (Ax H0) 0 0) (gR (.ptr rb 0 0)) (some none))::(Ax H0,c_ Bc [A1])::H0) _=_;rw[AH (p:=0) rfl (ol _ _ hb) (by simp)];show dP (.mp m) ((Ax H0+1,Q7 (.ptr (Ax H0) 0 0) (gR (.ptr rb 0 0)) (some none))::(Ax H0,c_ Bc [A1])::H0) _=_;rw[B3i (ol _ _ hm) (B9r es)];have mlt:=wf.lt hm;have D:Wf (upd H0 m .gone):=Bs wf;have j:Al ((Ax H0+1,Q7 (.ptr (Ax H0) 0 0) (gR (.ptr rb 0 0)) (some none))::(Ax H0,c_ Bc [A1])::H0) (Ax H0)=some (c_ Bc [A1]):=AK (w1.lt g) g;generalize q:((Ax H0+1,Q7 (.ptr (Ax H0) 0 0) (gR (.ptr rb 0 0)) (some none))::(Ax H0,c_ Bc [A1])::H0:Hp)=d at A k ol j;have i:Ax d=Ax H0+2:=by rw[<-q];rfl
 have B:Wf (upd d m .gone):=Bs A;have r:Ax (upd d m .gone)=Ax H0+2:=by rw[BV,i]
 have C:=AM (x:=.iter (Fc uS es) none) B;have up:∀u y,u≠m->Al d u=some y->Al ((Ax d,Row.iter (Fc uS es) none)::upd d m .gone) u=some y:=λu y c Q=>by
  have a:Al (upd d m .gone) u=some y:=by rw[Ah c];exact Q
  have b:=AK (x:=.iter (Fc uS es) none) (B.lt a) a;rw[r,<-i]at b;exact b
 have t:Al ((Ax d,Row.iter (Fc uS es) none)::upd d m .gone) (Ax d)=some (.iter (Fc uS es) none):=by
  have:=Av (H:=upd d m .gone) (x:=.iter (Fc uS es) none) (by simp);rw[BV]at this;exact this
 rw[BV]at C;refine B2y (n:=n) (H0:=upd H0 m .gone) (r0:=Ax H0) (s:=Ax H0+1) (it:=Ax d) (q0:=true) (e0:=Bc) (c6:=gR (.ptr rb 0 0)) (ks:=es.map Prod.fst) N (by simpa using hn) ?_ (by rw[BV];omega) (L+20) es [] A1 _ none (by omega) (by simp) (λ_=>rfl)
  ⟨up _ _ (by omega) j,.inl ⟨rfl,rfl,rfl⟩,up _ _ (by omega) k,λu ⟨_,_,_,h⟩=>(by cases h),C,λu y c=>?_,by omega,by rw[BV];omega,by rw[BV];omega,D⟩ (λ⟨_,_,_,h⟩=>(by cases h)) t
 ·intro l v H M F hc;show IN H (Ax H0+1) _=_;rw[Bq hc.lp];show JI H (Ax H0+1) .gone _=_;rw[C5];have hr:Al (upd H (Ax H0+1) .gone) (Ax H0)=some (c_ Bc [v]):=by rw[Ah (by omega)];exact hc.at_
  show A7 Ab (.ptr (Ax H0) 0 0) (upd H (Ax H0+1) .gone) _=_;rw[AH (p:=0) rfl hr (by simp)];refine O _ _ _ M F ⟨?_,λu c=>(hc.new u c).2.2,Bs hc.wf,λu y c=>?_,?_⟩
  ·exact hc.sl.lat hc.wf (Lat.upd H _ _ (P:=λu=>u=Ax H0+1) rfl) (λu c=>(hc.new u c).2.1)
  ·have:=D.lt c;rw[BV]at this;rw[Ah (by omega)];exact hc.keep u y c
  ·rw[BV,BV];have:=hc.wf.lt hc.at_;omega
 ·have f:u≠m:=λe=>by
   subst e;rw[Dk hm]at c;cases c
  rw[Ah f]at c;exact up u y f (ol u y c)
def A6C{x:Af}{ps:List Ha}(wf:Wf H0)(hn:ps.length<1000000000)(D:ps=[]->v=A1)(d:NewSl H0 ps v H)(A:∀f,NewSl H0 (FF ps) v f->K (.tup []) f=x):
 (r! L (n+4)).call Cm [v] H K=x:=by
 by_cases c:ps=[]
 ·subst c;obtain rfl:=D rfl;have e:(r! L (n+4)).call Cm [A1] H K=K (.tup []) H:=by kernel_rfl
  rw[e];exact A H d
 have s:=(BF ps).length_eq;rcases d.sl with⟨_,h,_⟩|⟨r,q,rfl,p,hc⟩
 ·exact absurd (lX h) c
 ·have B:∀K,(r! L (n+4)).call Cm [.sl 1 r 0 ps.length] H K=Z7 [.sl 1 r 0 ps.length] H K (jO (E (L+20)) (nT (L+20)) (r! L (n+3)) Cm [.sl 1 r 0 ps.length] H K):=λK=>rfl;rw[B];have k:∀(l:List Ha),Wm (AJ l)=some l:=λl=>by
   induction l with
   |nil=>rfl
   |cons a l ih=>show(Wm (AJ l)).map _=_;rw[ih];rfl
  have t:0<ps.length:=List.length_pos_iff.2 c;have C:∀alt K,Z7 [.sl 1 r 0 ps.length] H K alt=DN 0 (AJ (FF ps)) (AJ ps) λj=>JI H r (.cells q Ao j) λf=>K (.tup []) f:=λalt K=>by
   unfold Z7;simp only[p,tJ];rw[l1z (by rw[Cb];omega),k];have g:(Nat.beq ps.length ps.length&&(Nat.blt ps.length 4611686018427387904&&Nat.blt 0 ps.length))=true:=by simp;omega
   simp only[g];rfl
  rw[C,IP _ _ _ _ (by rw[Cb,Cb];omega),QJ _ _ (by rw[Cb,Cb];exact s),C5];refine A _ ⟨.inr ⟨r,q,by rw[s],A5 p,by rw[Cb];omega⟩,λu i=>d.new u i,Bs d.wf,λu y i=>?_,by rw[BV];exact d.nx⟩;have a1:=wf.lt i;have a2:=d.new r ⟨1,0,ps.length,rfl⟩;rw[Ah (by omega)];exact d.keep u y i
def B8n{ty m:Nat}:Hd ty (.mp m) H K=K (.ptr (Ax H) 0 0) ((Ax H,c_ ty [.mp m])::H):=by
 unfold Hd;rw[CQ,Gu,BW];rfl
def Wh(q:Ze 6 w w=true)(hn:es.length<1000000)(j:es.length<L)(wf:Wf H0)(hm:Al H0 m=some (.map false (Fc uS es) none))(hk:(es.map Prod.fst).Perm ks)(p:ks.Pairwise (· <= ·))(r:∀v H,AZ H Ao 1 v ks.length (AJ ks)->(ks=[]->v=A1)->K v H=some (w,[])):(r! L (n+6)).call Ib [.mp m] H0 K=some (w,[]):=by
 rw[WJ];unfold Mp;rw[Jz];unfold DZ XA3;have i:∀{K:KV},Hd Cv (.mp m) H0 K=K (.ptr (Ax H0) 0 0) ((Ax H0,c_ Cv [.mp m])::H0):=λ{K}=>B8n;rw[i];show(r! L (n+5)).call E9 [gR (.ptr (Ax H0) 0 0)] ((Ax H0,c_ Cv [.mp m])::H0) _=_;rw[IG];unfold FA;have w1:=AM (x:=.cells true Cv [.mp m]) wf;have hb:=Av (H:=H0) (x:=.cells true Cv [.mp m]) (by simp);have c:=AK (x:=.cells true Cv [.mp m]) (wf.lt hm) hm;refine A1i (n:=n) q hn j w1 hb c λl v H d f hc=>?_;have e:FF l=ks:=HM ((BF l).trans (d.trans hk)) (DJ l) p;have k:l.length=es.length:=by rw[d.length_eq,Ub]
 refine A6C (n:=n) (Bs w1) (by omega) f hc λg a=>?_;rw[e]at a;refine r v g a.sl λh=>f ?_;have:=(d.trans hk).length_eq;rw[h]at this;exact lX this
end
end
section
variable{q:Bool}{H:Hp}{e i r:Nat}{R:Rt}
variable{L n:Nat}{K:KV}{x:Af}
def nY{ty:TI}{K:K2}(a:0<i)(h:i<1000000000):Ap ty .sub (I i) (.v (.int .i64 1)) K=K (I ((i-1:Nat):Int)):=by
 rw[IE,Cz (by omega) (by omega)];have:(i:Int)-1=((i-1:Nat):Int):=by omega
 rw[this]
def zG{l:List Ha}{K:K2}(a:Al H r=some (.cells q e (AJ l)))(h:i<l.length):A7 Ag (.ptr r i 0) H K=K (S l[i]):=by
 rw[AH (p:=i) rfl a (by rw[Cb];exact h),Ot h]
def XG{r i m:Nat}{K:K2}(h:i<m):Dh Ab (.sl 1 r 0 m) (I i) K=K (.ptr r i 0):=by
 rw[zH rfl (by omega) (by omega),eS]
def B8w{d:KV}{l:List Ha}(c:Al H r=some (.cells q e (AJ l)))(hn:l.Nodup)(hb:l.length<1000000000):∀(f i:Nat)(v w:AV),1<=i->i<=l.length->l.length-i<f->
 Fl (L+20) R K d f (.sl 1 r 0 l.length) (I i) v w H=d (.sl 1 r 0 l.length) H:=by
 intro f
 induction f with
 |zero=>intro i v w _ _ h;omega
 |succ f ih=>
  intro i v w h1 k j;rw[Lq];unfold Fm Lo Az;have g:∀K,Bh Ab (.sl 1 r 0 l.length) K=K (I l.length):=λK=>id rfl;rw[g];by_cases h:i<l.length
  ·rw[Fo (by omega),CA,XG h,BN,zG c h,BN,nY (by omega) (by omega),BN,XG (by omega),BN,zG c (by omega),BN,MK];have a:l[i]≠l[i-1]:=λe=>by
    have:=(List.getElem_inj (h₀:=h) (h₁:=by omega) hn).1 e;omega
   rw[KD a,BN,Bm,Dg (by omega)];exact ih (i+1) _ _ (by omega) (by omega) (by omega)
  ·rw[XA2 (by omega),Bm]
def A4K{l:List Ha}(d:Al H r=some (.cells q e (AJ l)))(hn:l.Nodup)(hb:l.length<1000000000)(f:l.length<L):
 (r! L (n+1)).call DO [.sl 1 r 0 l.length] H K=K (.sl 1 r 0 l.length) H:=by
 rw[LH];unfold F0 Az;simp only[BJ];have c:∀K,Bh Ab (.sl 1 r 0 l.length) K=K (I l.length):=λK=>id rfl;rw[c];by_cases h:l.length<2
 ·rw[Fo (by omega),CA]
 ·rw[XA2 (by omega),Bm];have a:(AV.v (.int .i64 1))=I ((1:Nat):Int):=rfl;rw[a,B8w d hn hb _ 1 _ _ (by omega) (by omega) (by omega)]
def B9m{s:Ha}(h:s.length=32):PS (r! L (n+1)) DM [S s] (Bo false):=by
 refine CS.ps (λK a=>?_) (λH=>λK=>by kernel_rfl);rw[OC];unfold Hq XA3;rw[OP rfl,h,HF];exact a _ _ (λb=>⟨false,λK=>by kernel_rfl⟩)
abbrev A9O:AV:=.fn (.func DM) [] []
def B7G{a:Ru}{ps:List Ha}(hb:ps.length<1000000000)(d:∀s∈ps,s.length=32):∀(f i:Nat),i<=ps.length->ps.length-i<f->
 Dt (L+20) (r! L (n+1)) K a f (Ls ps) A9O (I ps.length) (I i) H=a H:=by
 intro f
 induction f with
 |zero=>intro i _ h;omega
 |succ f ih=>
  intro i j g;rw[GB];unfold Du HN Az;by_cases h:i<ps.length
  ·rw[Fo (by omega),CA,OS h,Hy];have c:∀K,C7 (E (L+20)) (r! L (n+1)) A9O [S ps[i]] H K=Aj (r! L (n+1)) DM [S ps[i]] H λv=>K v H:=λK=>by kernel_rfl
   rw[c,B9m (d _ (Of h)),Bm,Dg (by omega)];exact ih (i+1) (by omega) (by omega)
  ·rw[XA2 (by omega),Bm]
def A6N{ps:List Ha}(hb:ps.length<1000000000)(g:ps.length<L)(f:∀s∈ps,s.length=32):CS (r! L (n+3)) Dc [Ls ps,A9O] (Bo false):=by
 intro K a;rw[JZ];unfold Er NW;have d:CS (r! L (n+2)) D7 [Ls ps,A9O] (I (-1)):=by
  intro K a;rw[Hh];unfold D6 Az;simp only[BJ];have c:(AV.v (.int .i64 0))=I ((0:Nat):Int):=rfl;rw[LU,c,B7G hb f _ 0 (by omega) (by omega)];exact a _ _ (λb=>⟨false,λK=>by kernel_rfl⟩)
 rw[AE (q:=false) d (λK=>by kernel_rfl),NT];exact a _ _ (λb=>⟨false,λK=>by kernel_rfl⟩)
def En{f:Nat}{args args':Is}{v:AV}{K:K2}(hc:∀K:KV,(∀a c,(∃q,Fx true depth a v c q)->K a c=some (v,[]))->R.call f args' [] K=some (v,[]))(j:Py true depth args args' H false):Aj R f args H K=K v:=by
 unfold Aj;rw[j];have:=hc (λa d=>I5 (!false) d depth a λ_ k=>some (k,[])) (λa c h=>by
  obtain⟨m,g⟩:=h;exact g _)
 rw[this];rfl
def uE{ps:List Ha}(hn:ps.Nodup)(y:1<=ps.length)(hb:ps.length<=6)(A:10<L)(t:∀s∈ps,s.length=32):
 CS (r! L (n+6)) IX [Ls ps] (Bo true):=by
 intro K d;rw[R4];unfold IL BK Az Fk;have hv:∀K,Aj (r! L (n+5)) FJ [Ls ps] [] K=K (A6P ps):=λK=>by
  refine En (args':=[Ls ps]) (λK d=>?_) (λK=>by kernel_rfl);rw[Ml];unfold F9 XA3;rw[B8o];exact d _ _ ⟨true,λK=>by kernel_rfl⟩
 rw[hv];refine A6B (n:=n) (by omega) (by omega) (by omega) E1 λv H u=>?_;have k:=(BF ps).length_eq;rcases u.sl with⟨_,h,_⟩|⟨r,q,rfl,hr,hc⟩
 ·omega
 rw[LU,Zt (n:=n+4) (by omega) (by omega)];have g:∀(x:Bool->Af),VS true (Bo true) x=x true:=λx=>id rfl;have c:∀{v:AV}{H:Hp}{K:KV},CP (some (v,H)) K=K v H:=id rfl;have pk:∀{a b:AV}{K:K2},B8 (Bo true) a b K=K a:=id rfl;have w:∀{K:K2},PA .not (Bo false) K=K (Bo true):=id rfl;simp only[g,c];have f:∀K,Aj (r! L (n+5)) Dc [Ls ps,A9O] H K=K (Bo false):=λK=>AE (q:=false) (A6N (n:=n+2) (by omega) (by omega) t) (λK=>by kernel_rfl);have p:∀m K,Bh Ab (.sl 1 r 0 m) K=K (I m):=λm K=>id rfl;have j:∀K,(r! L (n+5)).call DO [.sl 1 r 0 ps.length] H K=K (.sl 1 r 0 ps.length) H:=λK=>by
  have:=A4K (K:=K) (L:=L) (n:=n+4) hr ((BF ps).nodup_iff.2 hn) (by omega) (by omega);rw[k]at this;exact this
 simp only[f,w,c,pk,g,j,p,LU,Dn,k,decide_true];exact d _ _ (λb=>⟨false,λK=>by cases b<;>kernel_rfl⟩)
end
def dig(k:Nat):Ha:=if k<10 then[UInt8.ofNat (48+k)] else[UInt8.ofNat (48+k/10),UInt8.ofNat (48+k%10)]
def dec(z:Int):Ha:=if z<0 then 45::dig z.natAbs else dig z.natAbs
def qn(z:Int):Ha:=dec (if z%4=0 then z/4 else if z%2=0 then z/2 else z)
def qd(z:Int):Ha:=if z%4=0 then[49] else if z%2=0 then[50] else[52]
abbrev qa(z:Int):Is:=[S (qn z),S (qd z)]
def A8Q{p:Int->Bool}{a b:Int}(h:((List.range (b-a).toNat).all λk=>p ((k:Int)+a))=true){z:Int}(h1:a<=z)(h2:z<b):p z=true:=by
 have:=G8.1 h (z-a).toNat (JM.2 (by omega));have e:(((z-a).toNat:Nat):Int)+a=z:=by omega
 simp only[e]at this;exact this
def A54{L m f:Nat}{args:Int->Is}{val:Int->AV}{a b:Int}(c:∀z H,Py true depth (args z) (args z) H false)(h:((List.range (b-a).toNat).all λk=>Jc (AS (CU (rt L m) f (args ((k:Int)+a))) (val ((k:Int)+a))))=true){z:Int}(h1:a<=z)(h2:z<b):PS (rt L m) f (args z) (val z):=
 B3 (c z) (A8Q (p:=λz=>Jc (AS (CU (rt L m) f (args z)) (val z))) h h1 h2)
def Wt{z:Int}(h1: -80<=z)(h2:z<81):(qn z).length<4:=by
 have:=A8Q (p:=λz=>decide ((qn z).length<4)) (a:= -80) (b:=81) (by kernel_rfl) h1 h2;simpa using this
def Wu(z:Int):(qd z).length=1:=by unfold qd;split<;>(try split)<;>rfl
def C03{z:Int}(h1: -80<=z)(h2:z<81)(h:z≠0):qn z≠[48]:=by
 have:=A8Q (p:=λz=>decide (z=0\/qn z≠[48])) (a:= -80) (b:=81) (by kernel_rfl) h1 h2;simpa [h] using this
section
variable{L n:Nat}
def A7z{z:Int}(h1: -80<=z)(h2:z<81):PS (r! L (n+40)) FL [I z,I 4] (.tup [.agg (qa z),I 0]):=
 A54 (args:=λz=>[I z,I 4]) (val:=λz=>.tup [.agg (qa z),I 0]) (a:= -80) (b:=81) (λz H K=>by kernel_rfl) (by kernel_rfl) h1 h2
def oO{z:Int}(h1: -80<=z)(h2:z<81):PS (r! L (n+40)) EY [.agg (qa z)] (Bo true):=
 A54 (args:=λz=>[.agg (qa z)]) (val:=λz=>Bo true) (a:= -80) (b:=81) (λz H K=>by kernel_rfl) (by kernel_rfl) h1 h2
def B6S{z:Int}(h1:0<=z)(h2:z<9):PS (r! L (n+40)) PT [.agg (qa z),.agg [S [48],S [49]]] (I (if z=0 then 0 else 1)):=
 A54 (args:=λz=>[.agg (qa z),.agg [S [48],S [49]]]) (val:=λz=>I (if z=0 then 0 else 1)) (a:=0) (b:=9) (λz H K=>by kernel_rfl) (by kernel_rfl) h1 h2
def P!{z:Int}(h1:0<=z)(h2:z<1):PS (r! L (n+40)) LJ [I z] (.agg [S [48],S [49]]):=
 A54 (args:=λz=>[I z]) (val:=λz=>.agg [S [48],S [49]]) (a:=0) (b:=1) (λz H K=>by kernel_rfl) (by kernel_rfl) h1 h2
end
section
variable{q:Bool}{y:Bool->Af}{H:Hp}{i:Nat}{t:TI}{α:Type}
variable{L n:Nat}
def dI(f:α->Is)(w:Nat)(c:∀x,(f x).length=w):∀l:List α,(l.flatMap f).length=l.length*w:=by
 intro l
 induction l with
 |nil=>simp
 |cons a l ih=>simp[ih,c,uY,Nat.add_comm]
def dJ(f:α->Is)(w:Nat)(c:∀x,(f x).length=w):∀(l:List α)(i:Nat)(h:i<l.length),((l.flatMap f).drop (i*w)).take w=f l[i]:=by
 intro l
 induction l with
 |nil=>intro i h;simp at h
 |cons a l ih=>
  intro i h;cases i with
  |zero=>
   simp only[jH,Nat.zero_mul,tJ,List.getElem_cons_zero];rw[l2w (by rw[c];omega),l1z (by rw[c];omega)]
  |succ i=>
   simp only[jH,List.getElem_cons_succ];have:(i+1)*w=(f a).length+i*w:=by rw[c,uY];omega
   rw[this,List.drop_append,List.drop_of_length_le (by omega),l35,Nat.add_sub_cancel_left];exact ih i (by simpa using h)
def iM{e w:Nat}{f:α->Is}{l:List α}{K:K2}(g:t.d=.slice e w)(p:∀x,(f x).length=w)(h:i<l.length):Dh t (.list l.length (l.flatMap f)) (I i) K=K (.iptr (f l[i])):=by
 have j:Dh t (.list l.length (l.flatMap f)) (I (i:Int)) K=iN (i:Int) λm=>ck (Nat.blt m l.length) (RK w (D0 (Nat.mul m w) (l.flatMap f)) λc=>K (.iptr c)):=by
  obtain⟨a,b,d,z⟩:=t;simp only at g;subst g;rfl
 rw[j,JH,C9,NB];have k:Nat.blt i l.length=true:=by rw[VD];exact h
 rw[k];show K (.iptr (((l.flatMap f).drop (i*w)).take w))=_;rw[dJ f w p l i h]
def Dl{r p e:Nat}{cs:Is}{K:K2}(h:t.d.isAgg=true)(a:Al H r=some (.cells q e cs))(f:p+t.size<=cs.length):A7 t (.ptr r p 0) H K=K (.agg ((cs.drop p).take t.size)):=by
 have:A7 t (.ptr r p 0) H K=IN H r λx=>Ku x λ_ cs=>@Bool.rec (λ_=>Af) (hdK (D0 (Nat.add p 0) cs) K) (FI t.size (D0 (Nat.add p 0) cs) λc=>K (.agg c)) t.d.isAgg:=rfl;rw[this,h,Bq a];show FI t.size (D0 p cs) _=_;rw[C9,MH _ _ _ (by simp;omega)]
abbrev Yj:=List (Int×Int)
def MC(t:Int×Int):Is:=[I t.1,S (qn t.2),S (qd t.2)]
def DD(ts:Yj):AV:=match ts with
 |[]=>A1
 |t::ts=>.list (t::ts).length ((t::ts).flatMap MC)
structure TmsOk(ts:Yj):Prop where
 len:ts.length<=6
 rng:∀t∈ts,1<=t.1/\t.1<=100/\ -8<=t.2/\t.2<=8/\t.2≠0
 asc:ts.Pairwise λa b=>a.1<b.1
def G9(ts:Yj):Sl (DD ts):=by
 cases ts with
 |nil=>exact .inl rfl
 |cons t ts=>exact .inr ⟨_,_,rfl⟩
def NR{ts:Yj}{K:K2}:Bh Ay (DD ts) K=K (I ts.length):=by cases ts<;>exact id rfl
def B11{ts:Yj}(h:i<ts.length):DD ts=.list ts.length (ts.flatMap MC):=by
 cases ts with
 |nil=>simp at h
 |cons t ts=>rfl
def SG{ts:Yj}{K:K2}(h:i<ts.length):Dh Ay (DD ts) (I i) K=K (.iptr (MC ts[i])):=by
 rw[B11 h];exact iM (f:=MC) rfl (λ_=>rfl) h
def C37{a b c d:Ha}{K:K2}:PW IC .eql (.agg [S a,S b]) (.agg [S c,S d]) K=K (Bo (decide (a=c)&&decide (b=d))):=by
 have e:PW IC .eql (.agg [S a,S b]) (.agg [S c,S d]) K=(match(generalizing:=false) (some (F' a c&&(F' b d&&true)):Option Bool),BinOp.eql with
  |some q,.eql=>bB q K
  |some q,.neq=>bB (!q) K
  |_,_=>none):=rfl
 rw[e];show bB _ K=_;rw[MM,PU,PU,D?];have h1:∀(x y:Ha),(x==y)=decide (x=y):=λx y=>by by_cases h:x=y<;>simp[h]
 rw[h1,h1]
section
variable{K:KV}{x:Af}{ca cb ra rb:Ha}{ts:Yj}
def gT:VS q (.v (.bool q)) y=y true:=by cases q<;>exact id rfl
def Z_:VS true (.v (.bool false)) y=y false:=id rfl
def gFT:VS false (.v (.bool true)) y=y false:=id rfl
def Ck{v:AV}:CP (some (v,H)) K=K v H:=id rfl
def Xu{a b:AV}{K:K2}:B8 (.v (.bool true)) a b K=K a:=id rfl
def ZG{a b:AV}{K:K2}:B8 (.v (.bool false)) a b K=K b:=id rfl
def xR{K:K2}:PA .not (.v (.bool true)) K=K (Bo false):=id rfl
def ntF{K:K2}:PA .not (.v (.bool false)) K=K (Bo true):=id rfl
abbrev A07(ca cb ra rb:Ha)(ts:Yj):Row:=.cells true DF [S ca,S cb,DD ts,S ra,S rb]
def B9W{k:Ru}{r0:Nat}(A:TmsOk ts)(N:∀H,k H=x):∀(f i:Nat)(H:Hp),i<=ts.length->ts.length-i<f->Al H r0=some (A07 ca cb ra rb ts)->Wf H->
 QU (L+20) (r! L (n+41)) K k f (.ptr r0 0 0) (I i) H=x:=by
 intro f
 induction f with
 |zero=>intro i H _ h;omega
 |succ f ih=>
  intro i H X V s w;have hb:=A.len;rw[fO];unfold QV E0 HN BK JD Az MS Fk;have f2:∀K:K2,Cl 2 (.ptr r0 0 0) K=K (.ptr r0 2 0):=λK=>id rfl;have J:∀K,A7 Ay (.ptr r0 2 0) H K=K (DD ts):=λK=>AH (p:=2) rfl s (by simp);rw[f2,J,NR];by_cases h:i<ts.length
  ·rw[Fo (by omega),CA,f2,J,SG h];have hr:=A.rng _ (Of h);have lt:∀H K,A7 B1 (.iptr (MC ts[i])) H K=K (.agg (MC ts[i])):=λH K=>id rfl;rw[lt,AP (cs:=[zI,zS,zS]) rfl];have j:=Av (H:=H) (x:=.cells true AT [zI,zS,zS]) (by simp);rw[Bv (vs:=MC ts[i]) j rfl rfl rfl];have c:=A5 (q:=true) (e:=AT) (cs:=MC ts[i]) j;have u:=w.lt s;have a:Al (upd ((Ax H,c_ AT [zI,zS,zS])::H) (Ax H) (c_ AT (MC ts[i]))) r0=some (A07 ca cb ra rb ts):=by
    rw[Ah (by omega)];exact AK u s
   have w1:=Bs (r:=Ax H) (y:=.cells true AT (MC ts[i])) (AM (x:=.cells true AT [zI,zS,zS]) w);generalize upd ((Ax H,c_ AT [zI,zS,zS])::H) (Ax H) (c_ AT (MC ts[i]))=d at c a w1;generalize Ax H=r at c;have D:∀K:K2,Cl 1 (.ptr r 0 0) K=K (.ptr r 1 0):=λK=>id rfl;have C:∀K:K2,Cl 0 (.ptr r 0 0) K=K (.ptr r 0 0):=λK=>id rfl;have m1:∀K,A7 Aw (.ptr r 1 0) d K=K (.agg (qa ts[i].2)):=λK=>Dl (p:=1) rfl c (show 3<=3 from Oj _);have m0:∀K,A7 Ac (.ptr r 0 0) d K=K (I ts[i].1):=λK=>AH (p:=0) rfl c (show 0<3 by decide);have R:∀K,A7 Ay (.ptr r0 2 0) d K=K (DD ts):=λK=>AH (p:=2) rfl a (by simp);rw[D,m1,oO (n:=n+1) (by omega) (by omega)];have hq:=C03 (by omega) (by omega) hr.2.2.2.2;have M:∀H K,Aj (r! L (n+41)) LJ [.v (.int .i64 0)] H K=K (.agg [S [48],S [49]]):=λH K=>P! (z:=0) (n:=n+1) (by decide) (by decide) H K;have i1:∀K,Ap Ac .lss (I ts[i].1) (.v (.int .i64 1)) K=K (Bo false):=λK=>XA2 (by omega);have i2:∀K,Ap Ac .gtr (I ts[i].1) (.v (.int .i64 1000000)) K=K (Bo false):=λK=>by rw[DB,KD (by omega)]
   simp only[xR,BN,gT,D,m1,Ck,M,C37,hq,decide_false,Bool.false_and,ZG,C,m0,i1,i2];by_cases m:0<i
   ·have B:∀K,Ap Ac .gtr (I (i:Int)) (.v (.int .i64 0)) K=K (Bo true):=λK=>by rw[DB,Ki (by omega)]
    have g:i-1<ts.length:=by omega
    have O:∀K:K2,Cl 0 (.iptr (MC ts[i-1])) K=K (.iptr (MC ts[i-1])):=λK=>id rfl;have P:∀K,A7 Ac (.iptr (MC ts[i-1])) d K=K (I ts[i-1].1):=λK=>id rfl;have F:ts[i-1].1<ts[i].1:=(l20.1 A.asc) (i-1) i g h (by omega);have Q:∀K,Ap Ac .geq (I ts[i-1].1) (I ts[i].1) K=K (Bo false):=λK=>by rw[NT,KD (by omega)]
    simp only[B,BN,Ck,gT,f2,R,nY m (by omega:i<1000000000),SG g,O,P,C,m0,Q,Xu,ZG];rw[Bm,Dg (by omega)];exact ih (i+1) d (by omega) (by omega) a w1
   ·have B:∀K,Ap Ac .gtr (I (i:Int)) (.v (.int .i64 0)) K=K (Bo false):=λK=>by rw[DB,KD (by omega)]
    simp only[B,BN,Ck,gT,Z_,Xu,ZG];rw[Bm,Dg (by omega)];exact ih (i+1) d (by omega) (by omega) a w1
  ·rw[XA2 (by omega),Bm];exact N H
def oU{c r:Int}(j: -80<=c)(k:c<=80)(m:0<=r)(s:r<=8)(A:10<L)(d:TmsOk ts):CS (r! L (n+42)) IU [.agg (Lp (qn c) (qd c) (DD ts) (qn r) (qd r))] (Bo true):=by
 intro K h;have hb:=d.len;rw[kL];unfold Tg E0 JD Az MS Fk;rw[Fb (by cases ts<;>rfl)];have a:=Av (H:=[]) (x:=A07 (qn c) (qd c) (qn r) (qd r) ts) (by simp);have w0:Wf [(Ax [],A07 (qn c) (qd c) (qn r) (qd r) ts)]:=AM E1;generalize [(Ax [],A07 (qn c) (qd c) (qn r) (qd r) ts)]=H at a w0;generalize Ax []=r0 at a;have f:∀K:K2,Cl 0 (.ptr r0 0 0) K=K (.ptr r0 0 0):=λK=>id rfl;have f2:∀K:K2,Cl 2 (.ptr r0 0 0) K=K (.ptr r0 2 0):=λK=>id rfl;have f3:∀K:K2,Cl 3 (.ptr r0 0 0) K=K (.ptr r0 3 0):=λK=>id rfl;have m0:∀K,A7 Aw (.ptr r0 0 0) H K=K (.agg (qa c)):=λK=>Dl (p:=0) rfl a (show 2<=5 by decide);have m3:∀K,A7 Aw (.ptr r0 3 0) H K=K (.agg (qa r)):=λK=>Dl (p:=3) rfl a (show 5<=5 by decide);have w:∀K,A7 Ay (.ptr r0 2 0) H K=K (DD ts):=λK=>AH (p:=2) rfl a (show 2<5 by decide);have u:∀H K,Aj (r! L (n+41)) LJ [.v (.int .i64 0)] H K=K (.agg [S [48],S [49]]):=λH K=>P! (z:=0) (n:=n+1) (by decide) (by decide) H K;rw[f,m0,oO (n:=n+1) (by omega) (by omega),f3,m3,oO (n:=n+1) (by omega) (by omega)];have h1:∀K,Aj (r! L (n+41)) PT [.agg (qa r),.agg [S [48],S [49]]] H K=K (I (if r=0 then 0 else 1)):=λK=>B6S (n:=n+1) (by omega) (by omega) H K;have h2:∀K,Ap Ac .lss (I (if r=0 then 0 else 1)) (.v (.int .i64 0)) K=K (Bo false):=λK=>XA2 (by split<;>omega);have g:∀K,Ap Ac .gtr (I (ts.length:Int)) (.v (.int .i64 64)) K=K (Bo false):=λK=>by rw[DB,KD (by omega)]
 simp only[xR,BN,Ck,gT,ZG,f3,m3,u,h1,h2,f2,w,NR,g,BJ];rw[Bm];have e:(AV.v (.int .i64 0))=I ((0:Nat):Int):=rfl;rw[e];exact B9W (n:=n) d (λH=>h _ _ (λb=>⟨false,λK=>by kernel_rfl⟩)) (L+20) 0 H (by omega) (by omega) a w0
end
end
section
variable{L n:Nat}
def B0L{z:Int}(h1:0<=z)(h2:z<9):PS (r! L (n+40)) Pv [.agg (qa z)] (I (if z=0 then 0 else 1)):=
 A54 (args:=λz=>[.agg (qa z)]) (val:=λz=>I (if z=0 then 0 else 1)) (a:=0) (b:=9) (λz H K=>by kernel_rfl) (by kernel_rfl) h1 h2
def B0K{z:Int}(h1: -8<=z)(h2:z<9):PS (r! L (n+40)) NO [.agg (qa z)] (Bo (decide (z=0))):=
 A54 (args:=λz=>[.agg (qa z)]) (val:=λz=>Bo (decide (z=0))) (a:= -8) (b:=9) (λz H K=>by kernel_rfl) (by kernel_rfl) h1 h2
end
end Go.Abs
end
