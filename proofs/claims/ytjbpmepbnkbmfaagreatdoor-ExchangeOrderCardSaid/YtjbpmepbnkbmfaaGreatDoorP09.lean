import Derived.Test.YtjbpmepbnkbmfaaGreatDoorP08
set_option linter.all false
set_option maxHeartbeats 0
noncomputable section
namespace Go.Abs
open Go.RowKit Go.Proofs
set_option maxRecDepth 100000
section
variable{K:K2}{s:Ha}
def EG{a b:AV}:C9 (.tup [a,b]) 0 K=K a:=id rfl
def EF{a b:AV}:C9 (.tup [a,b]) 1 K=K b:=id rfl
def BA{i:TI}{a b:Ha}(d:a.length+b.length<9223372036854775808):Aq i .add (S a) (S b) K=K (S (a++b)):=by
 have e:Aq i .add (S a) (S b) K=Zu a b λl=>ck (Nat.blt l.length 9223372036854775808) (K (.v (.string ⟨⟨l⟩⟩))):=rfl;have c:Nat.blt (a++b).length 9223372036854775808=true:=by rw[Wg,EN];exact d
 rw[e,Ni,c];rfl
def B24(f:Nat):∀z,(B25 f z).length<=f:=by
 induction f with
 |zero=>intro z;exact MC _
 |succ f ih=>
  intro z;unfold B25;split
  ·simp
  ·have:=ih (z/128);simp;omega
def Ud(z:Int):(enc z).length<=9:=B24 9 _
def A0e(s:Ha):Ha:=enc s.length++s
def A1F(L n:Nat)(h:s.length<390):PS (r! L (n+5)) Pg [S s] (.tup [S (A0e s),I 0]):=by
 refine CS.ps (λK a=>?_) (λH=>fx1);rw[dJ];unfold OD Ih;rw[Qt rfl,Eh,FD,CL (by simp;omega),Qt rfl,A1G L n (by omega) (by omega),EG,EF,BA (by have:=Ud (s.length:Int);omega)];exact a _ _ (λb=>⟨false,Zo (Al (q:=false) (q':=false) C7 (Al (q:=false) (q':=false) C7 AD))⟩)
def A17(L n:Nat)(h:s.length<390):PS (r! L (n+9)) Qq [S s] (.tup [S (A0e s),I 0]):=by
 refine CS.ps (λK a=>?_) (λH=>fx1);rw[fE];unfold PY Ih;rw[Qt rfl,Eh,FD,CL (by simp;omega),Qt rfl,A18 L n (by omega) (by omega),EG,EF,BA (by have:=Ud (s.length:Int);omega)];exact a _ _ (λb=>⟨false,Zo (Al (q:=false) (q':=false) C7 (Al (q:=false) (q':=false) C7 AD))⟩)
end
section
variable{k:KV}{H:Hp}{i:Nat}
def Ff(l:List Int):Is:=l.map λz=>.v (.int .i64 z)
def AF(l:List Ha):Is:=l.map λs=>S s
def Js(l:List Int):Ha:=(l.map enc).flatten
def I0(l:List Ha):Ha:=(l.map A0e).flatten
def Th{l:List Int}{k:Nat}(h:k<l.length):(Ff l).getD k .dk=I l[k]:=by
 simp[Ff,TV,h]
def PK{l:List Ha}{k:Nat}(h:k<l.length):(AF l).getD k .dk=S l[k]:=by
 simp[AF,TV,h]
def F9(l:List Int):(Js l).length<=9*l.length:=by
 induction l with
 |nil=>simp[Js]
 |cons z l ih=>
  have:=Ud z;simp[Js]at ih⊢;omega
def F8(l:List Ha)(h:∀s∈l,s.length<390):(I0 l).length<=400*l.length:=by
 induction l with
 |nil=>simp[I0]
 |cons s l ih=>
  have h1:=Ud (s.length:Int);have h2:=h s (by simp);have a:=ih (λs b=>h s (by simp[b]));simp only[I0,X0,l1d,EN,LI,A0e]at a⊢;omega
def I?(l:List Int)(h:i<l.length):Js (l.take (i+1))=Js (l.take i)++enc l[i]:=by
 unfold Js;rw[nL h,dW,List.flatten_append];simp only[X0,List.map_nil,l1d,List.flatten_nil,Vq]
def I!(l:List Ha)(h:i<l.length):I0 (l.take (i+1))=I0 (l.take i)++A0e l[i]:=by
 unfold I0;rw[nL h,dW,List.flatten_append];simp only[X0,List.map_nil,l1d,List.flatten_nil,Vq]
variable{L n:Nat}{K:KV}{x:Af}
def C0t{l:List Int}(g:l.length<100)(hz:∀z∈l, -10<=z/\z<1090)(c:k (S (Js l)) H=x):
 ∀(f i:Nat),i<=l.length->l.length-i<f->PR (L+20) (r! L (n+4)) K k f (.list l.length (Ff l)) (S (Js (l.take i))) (I i) H=x:=by
 intro f
 induction f with
 |zero=>intro i _ h;omega
 |succ f ih=>
  intro i hi e;rw[fC];unfold PT Ia A4;have el:∀K,Ba Bi (.list l.length (Ff l)) K=K (I l.length):=λK=>id rfl;rw[el,DO,FD];by_cases h:i<l.length
  ·rw[Dv (by simp;omega)];have a:=hz l[i] (Ql h);have b:(Js (l.take i)).length<=9*l.length:=by
    have:=F9 (l.take i);have d:(l.take i).length<=l.length:=by simp;omega
    omega
   rw[Zz rfl (by simp[Ff]) (by omega) (by omega),kY,NI rfl,Th h,A1G L n a.1 a.2,EG,EF,BA (by have:=Ud l[i];omega),<-I? l h,Dp,CX (by omega) (by omega),Si];exact ih (i+1) (by omega) (by omega)
  ·rw[CL (by simp;omega)];have:i=l.length:=by omega
   subst this;rw[rW];exact c
def A_{l:List Int}(c:l.length<100)(d:l.length<L)(hz:∀z∈l, -10<=z/\z<1090):CS (r! L (n+5)) ES [.list l.length (Ff l)] (S (Js l)):=by
 intro K a;rw[iW];unfold Ra A4;simp only[BF];refine C0t c hz ?_ (L+20) 0 (by omega) (by omega);exact a _ _ (λb=>⟨false,C7⟩)
def B8d{l:List Ha}(m:l.length<100)(hz:∀s∈l,s.length<390)(e:k (S (I0 l)) H=x):
 ∀(f i:Nat),i<=l.length->l.length-i<f->Sm (L+20) (r! L (n+5)) K k f (.list l.length (AF l)) (S (I0 (l.take i))) (I i) H=x:=by
 intro f
 induction f with
 |zero=>intro i _ h;omega
 |succ f ih=>
  intro i hi j;rw[VC];unfold Ot Ia A4;have el:∀K,Ba Ac (.list l.length (AF l)) K=K (I l.length):=λK=>id rfl;rw[el,DO,FD];by_cases h:i<l.length
  ·rw[Dv (by simp;omega)];have b:=hz l[i] (Ql h);have c:(I0 (l.take i)).length<=400*l.length:=by
    have:=F8 (l.take i) (λs d=>hz s (l29 d));have g:(l.take i).length<=l.length:=by simp;omega
    omega
   have a:(A0e l[i]).length<=400:=by unfold A0e;rw[EN];have:=Ud (l[i].length:Int);omega
   rw[Zz rfl (by simp[AF]) (by omega) (by omega),kY,NI rfl,PK h,A1F L n b,EG,EF,BA (by omega),<-I! l h,Dp,CX (by omega) (by omega),Si];exact ih (i+1) (by omega) (by omega)
  ·rw[CL (by simp;omega)];have:i=l.length:=by omega
   subst this;rw[rW];exact e
def A5U{l:List Ha}(c:l.length<100)(d:l.length<L)(hz:∀s∈l,s.length<390):CS (r! L (n+6)) Ho [.list l.length (AF l)] (S (I0 l)):=by
 intro K a;rw[XX];unfold Qx A4;simp only[BF];refine B8d c hz ?_ (L+20) 0 (by omega) (by omega);exact a _ _ (λb=>⟨false,C7⟩)
end
section
variable{m:Nat}{p:Nat->Bool}
structure UD where
 (p0 q0 p1 q1 p2 q2 p3 q3 p4 q4 p5 q5 p6 q6:Int)
 (fn fd on od:Ha)
 (kd sc:Int)
abbrev UD.cs(u:UD):Is:=[I u.p0,I u.q0,I u.p1,I u.q1,I u.p2,I u.q2,I u.p3,I u.q3,I u.p4,I u.q4,I u.p5,I u.q5,I u.p6,I u.q6,S u.fn,S u.fd,S u.on,S u.od,I u.kd,I u.sc]
def u0:UD:=⟨0,0,0,0,0,0,0,0,0,0,0,0,0,0,[],[],[],[],0,0⟩
def nA:Ha:=[49]
def nB:Ha:=[49,48,48,48]
def nC:Ha:=[49,48,48,48,48,48,48]
def nD:Ha:=[49,48,48,48,48,48,48,48,48,48]
def uD(a b c:Int)(f d:Ha)(s:Int):UD:=⟨a,1,0,1,b,1,0,1,c,1,0,1,0,1,f,d,[48],[49],0,s⟩
def C2z:List UD:=[
 uD 1 0 0 nA nA 1,
 uD 0 1 0 nA nA 1,
 uD 1 0 0 nA nB 1,
 uD 0 0 0 nA nA 2,
 ⟨0,1,0,1,0,1,0,1,1,1,0,1,0,1,[49],[49],[53,52,54,51],[50,48],0,0⟩,
 uD 0 0 1 nA nA 1,
 uD 2 0 0 nA nA 1,
 uD 1 1 0 nA nA 1,
 uD 1 (-1) 0 nA nA 1,
 uD 2 0 0 nA nB 1,
 uD 0 0 0 nB nA 2,
 uD 1 0 1 nA nA 1,
 uD 1 0 (-1) nA nA 1,
 uD 3 0 0 nA nA 1,
 uD (-1) 0 0 nA nA 1,
 uD (-2) 0 0 nA nA 1,
 uD (-1) 1 0 nA nA 1,
 uD 0 2 0 nA nA 1,
 uD 1 1 0 nA nB 1,
 uD (-1) 1 0 nB nA 1,
 uD 0 1 1 nA nA 1,
 uD 0 1 (-1) nA nA 1,
 uD 2 1 0 nA nA 1,
 uD (-2) 1 0 nA nA 1,
 uD 0 (-1) 0 nA nA 1,
 uD 0 3 0 nA nA 1,
 uD 0 (-2) 0 nA nA 1,
 uD 0 0 0 nA nB 2,
 uD 1 (-1) 0 nA nB 1,
 uD 2 0 0 nA nC 1,
 uD 1 0 1 nA nB 1,
 uD 1 0 (-1) nA nB 1,
 uD 3 0 0 nA nB 1,
 uD (-1) 0 0 nA nB 1,
 uD (-1) 0 0 nB nA 1,
 uD 3 0 0 nA nD 1,
 uD (-2) 0 0 nC nA 1,
 uD 0 0 (-1) nA nA 1,
 uD (-1) 0 1 nA nA 1,
 uD 0 (-1) 1 nA nA 1,
 uD (-1) 0 1 nB nA 1,
 uD 0 0 2 nA nA 1,
 uD 2 0 1 nA nA 1,
 uD (-2) 0 1 nA nA 1,
 uD 0 0 3 nA nA 1,
 uD 0 0 (-2) nA nA 1,
 uD 2 (-1) 0 nA nA 1,
 uD 1 0 0 nB nA 1,
 uD 2 0 (-1) nA nA 1,
 uD 4 0 0 nA nA 1,
 uD 6 0 0 nA nA 1,
 uD (-4) 0 0 nA nA 1]
def uu(k:Nat):UD:=C2z.getD k u0
def nE:Ha:=[49,47,49,48,48,48]
def nF:Ha:=[49,47,49,48,48,48,48,48,48]
def nG:Ha:=[49,47,49,48,48,48,48,48,48,48,48,48]
def nK:Ha:=[32,107,105,110,100,32,48,32,102,97,99,116,111,114,32]
def nO:Ha:=[32,111,102,102,115,101,116,32,48]
def nR:Ha:=[114,97,116,105,111]
def nU(f t:Ha):Ha:=[100,105,102,102,101,114,101,110,99,101]++(nK++(f++(nO++(32::t))))
def B8c:List Ha:=[
 nU nA [109,94,49],
 nU nA [115,94,49],
 nU nE [109,94,49],
 nR++(nK++(nA++nO)),
 [97,98,115,111,108,117,116,101,32,107,105,110,100,32,48,32,102,97,99,116,111,114,32,49,32,111,102,102,115,101,116,32,53,52,54,51,47,50,48,32,75,94,49],
 nU nA [75,94,49],
 nU nA [109,94,50],
 nU nA [109,94,49,32,115,94,49],
 nU nA [109,94,49,32,115,94,45,49],
 nU nE [109,94,50],
 nR++(nK++(nB++nO)),
 nU nA [109,94,49,32,75,94,49],
 nU nA [109,94,49,32,75,94,45,49],
 nU nA [109,94,51],
 nU nA [109,94,45,49],
 nU nA [109,94,45,50],
 nU nA [109,94,45,49,32,115,94,49],
 nU nA [115,94,50],
 nU nE [109,94,49,32,115,94,49],
 nU nB [109,94,45,49,32,115,94,49],
 nU nA [115,94,49,32,75,94,49],
 nU nA [115,94,49,32,75,94,45,49],
 nU nA [109,94,50,32,115,94,49],
 nU nA [109,94,45,50,32,115,94,49],
 nU nA [115,94,45,49],
 nU nA [115,94,51],
 nU nA [115,94,45,50],
 nR++(nK++(nE++nO)),
 nU nE [109,94,49,32,115,94,45,49],
 nU nF [109,94,50],
 nU nE [109,94,49,32,75,94,49],
 nU nE [109,94,49,32,75,94,45,49],
 nU nE [109,94,51],
 nU nE [109,94,45,49],
 nU nB [109,94,45,49],
 nU nG [109,94,51],
 nU nC [109,94,45,50],
 nU nA [75,94,45,49],
 nU nA [109,94,45,49,32,75,94,49],
 nU nA [115,94,45,49,32,75,94,49],
 nU nB [109,94,45,49,32,75,94,49],
 nU nA [75,94,50],
 nU nA [109,94,50,32,75,94,49],
 nU nA [109,94,45,50,32,75,94,49],
 nU nA [75,94,51],
 nU nA [75,94,45,50],
 nU nA [109,94,50,32,115,94,45,49],
 nU nB [109,94,49],
 nU nA [109,94,50,32,75,94,45,49],
 nU nA [109,94,52],
 nU nA [109,94,54],
 nU nA [109,94,45,52]]
def LM(k:Nat):Ha:=B8c.getD k []
def C5A:List (List (List (Option Nat))):=[
 [[some 0,none,none,none,none,none,none],
  [none,some 1,none,none,none,none,none],
  [none,none,some 2,none,none,none,none],
  [none,none,none,some 3,none,none,none],
  [none,none,none,none,none,some 4,none],
  [none,none,none,none,some 4,some 5,none],
  [none,none,none,none,none,none,some 6]],
 [[some 0,none,none,none,none,none,none],
  [none,some 1,none,none,none,none,none],
  [none,none,some 2,none,none,none,none],
  [none,none,none,some 3,none,none,none],
  [none,none,none,none,some 5,some 4,none],
  [none,none,none,none,none,some 5,none],
  [none,none,none,none,none,none,some 6]],
 [[some 6,some 7,some 9,some 0,none,some 11,some 13],
  [some 7,some 17,some 18,some 1,none,some 20,some 22],
  [some 9,some 18,some 29,some 2,none,some 30,some 32],
  [some 0,some 1,some 2,some 3,none,some 5,some 6],
  [none,none,none,none,none,none,none],
  [some 11,some 20,some 30,some 5,none,some 41,some 42],
  [some 13,some 22,some 32,some 6,none,some 42,some 49]],
 [[some 3,some 8,some 10,some 0,none,some 12,some 14],
  [some 16,some 3,some 19,some 1,none,some 21,some 23],
  [some 27,some 28,some 3,some 2,none,some 31,some 33],
  [some 14,some 24,some 34,some 3,none,some 37,some 15],
  [none,none,none,none,none,none,none],
  [some 38,some 39,some 40,some 5,none,some 3,some 43],
  [some 0,some 46,some 47,some 6,none,some 48,some 3]]]
def We(o i j:Nat):Option Nat:=((C5A.getD o []).getD i []).getD j none
def oC(k:Nat):Int:=([2, -1,3, -2,1]:List Int).getD k 0
def C2y:List (List (Option Nat)):=[[some 6,some 14,some 13,some 15,some 0],
 [some 17,some 24,some 25,some 26,some 1],
 [some 29,some 34,some 35,some 36,some 2],
 [some 3,some 3,some 3,some 3,some 3],
 [none,none,none,none,none],
 [some 41,some 37,some 44,some 45,some 5],
 [some 49,some 15,some 50,some 51,some 6]]
def Yz(i k:Nat):Option Nat:=(C2y.getD i []).getD k none
def Kt:Option Nat->AV
 |some k=>.tup [.agg (uu k).cs,I 0]
 |none=>.tup [.agg u0.cs,I 70]
def isU:Option Nat->Bool
 |some _=>true
 |none=>false
def B34(p:Nat->Bool)(m:Nat):Nat->Prop
 |0=>True
 |c+1=>((List.range m).all λk=>p (c*m+k))=true/\B34 p m c
def fB:B34 p m 0:=trivial
def eZ{m c:Nat}(h:((List.range m).all λk=>p (c*m+k))=true)(h2:B34 p m c):B34 p m (c+1):=⟨h,h2⟩
def eY:∀{c:Nat},B34 p m c->∀{i:Nat},i<c*m->p i=true:=by
 intro c
 induction c with
 |zero=>intro _ i hi;omega
 |succ c ih=>
  intro h i hi;by_cases hc:i<c*m
  ·exact ih h.2 hc
  ·have h1:=G9.1 h.1 (i-c*m) (Lf.2 (by rw[l1e]at hi;omega));have e:c*m+(i-c*m)=i:=by omega
   rw[e]at h1;exact h1
end
section
variable{v:AV}{x y:Af}{f:Nat}{R:Rt}
def pE:Rt->Nat->Is->Hp->K2->Af:=Classical.choose (⟨Ap,rfl⟩:∃z:Rt->Nat->Is->Hp->K2->Af,Ap=z)
def zO:Ap=pE:=Classical.choose_spec (⟨Ap,rfl⟩:∃z:Rt->Nat->Is->Hp->K2->Af,Ap=z)
def eBi:TI->BinOp->AV->AV->K2->Af:=Classical.choose (⟨Aq,rfl⟩:∃z:TI->BinOp->AV->AV->K2->Af,Aq=z)
def bO:Aq=eBi:=Classical.choose_spec (⟨Aq,rfl⟩:∃z:TI->BinOp->AV->AV->K2->Af,Aq=z)
def eEq:List LK->BinOp->AV->AV->K2->Af:=Classical.choose (⟨Vg,rfl⟩:∃z:List LK->BinOp->AV->AV->K2->Af,Vg=z)
def qO:Vg=eEq:=Classical.choose_spec (⟨Vg,rfl⟩:∃z:List LK->BinOp->AV->AV->K2->Af,Vg=z)
def cnd:AV->Af->Af->Af:=Classical.choose (⟨A2,rfl⟩:∃z:AV->Af->Af->Af,A2=z)
def cO:A2=cnd:=Classical.choose_spec (⟨A2,rfl⟩:∃z:AV->Af->Af->Af,A2=z)
def Qz:cnd (.v (.bool true)) x y=x:=by rw[<-cO];rfl
def GI:cnd (.v (.bool false)) x y=y:=by rw[<-cO];rfl
section
variable{K:K2}{i:TI}{k:IntKind}{a b:Int}
def QQ(h:a=b):eBi i .eql (.v (.int k a)) (.v (.int k b)) K=K (Bo true):=by rw[<-bO,CV,Hu h]
def Yd(h:a≠b):eBi i .eql (.v (.int k a)) (.v (.int k b)) K=K (Bo false):=by rw[<-bO,CV,Ir h]
def B1d(h:a=b):eBi i .neq (.v (.int k a)) (.v (.int k b)) K=K (Bo false):=by rw[<-bO,I2,Hu h];rfl
def A6g(h:a<=b):eBi i .leq (.v (.int k a)) (.v (.int k b)) K=K (Bo true):=by rw[<-bO,kK,Hu h]
def A6q(h:b<=a):eBi i .geq (.v (.int k a)) (.v (.int k b)) K=K (Bo true):=by rw[<-bO,Mi,Hu h]
end
def M?:∀{ks:List LK}{xs:Hx},fits ks xs=true->Ys xs xs=some true:=by
 intro ks
 induction ks with
 |nil=>intro xs h;cases xs with|nil=>rfl|cons a l=>simp[fits]at h
 |cons k ks ih=>
  intro xs h;cases xs with
  |nil=>rfl
  |cons a l=>
   simp only[fits,KW]at h;have h2:=ih h.2;have e:Ys (a::l) (a::l)=(match jL a a with|some b=>(match Ys l l with|some c=>some (b&&c)|none=>none)|none=>none):=rfl;rw[e,h2];have h1:jL a a=some true:=by
    have h1:=h.1;cases k<;>cases a<;>simp[LK.fit]at h1<;>simp[jL,Rk,Rm]
   rw[h1];rfl
def sA(xs:Hx):∀K:Hx->Af,eJ (xs.map AV.v) K=K xs:=by
 induction xs with
 |nil=>intro K;rfl
 |cons a l ih=>intro K;exact ih _
def A2J{ks:List LK}(xs:Hx)(h:fits ks xs=true)(K:K2):eEq ks .eql (.agg (xs.map AV.v)) (.agg (xs.map AV.v)) K=K (Bo true):=by
 rw[<-qO];have e:Vg ks .eql (.agg (xs.map AV.v)) (.agg (xs.map AV.v)) K=eJ (xs.map AV.v) λc=>eJ (xs.map AV.v) λd=>ck (fits ks c) (match Ys c d,BinOp.eql with
  |some q,.eql=>bB q K
  |some q,.neq=>bB (!q) K
  |_,_=>none):=rfl
 rw[e,sA,sA,M? h,h];show bB true K=_;rw[NY]
def kI(u:UD)(K:K2):eEq IJ .eql (.agg u.cs) (.agg u.cs) K=K (Bo true):=
 A2J (ks:=IJ) [.int .i64 u.p0,.int .i64 u.q0,.int .i64 u.p1,.int .i64 u.q1,.int .i64 u.p2,.int .i64 u.q2,.int .i64 u.p3,.int .i64 u.q3,.int .i64 u.p4,.int .i64 u.q4,.int .i64 u.p5,.int .i64 u.q5,.int .i64 u.p6,.int .i64 u.q6,.string ⟨⟨u.fn⟩⟩,.string ⟨⟨u.fd⟩⟩,.string ⟨⟨u.on⟩⟩,.string ⟨⟨u.od⟩⟩,.int .i64 u.kd,.int .i64 u.sc] rfl K
def LS(R:Rt)(f:Nat)(args':Is)(v:AV):Prop:=∀(q:Bool)(args:Is)(H:Hp),RZ true depth args args' H q->∀K,pE R f args H K=K v
def CS.ls{args':Is}(h:CS R f args' v):LS R f args' v:=λ_ _ _ c _=>by rw[<-zO];exact AO h c
def PO(R:Rt)(f:Nat)(args:Is)(v:AV):Prop:=∀H K,pE R f args H K=K v
def PS.o{args:Is}(h:PS R f args v):PO R f args v:=λH K=>by rw[<-zO];exact h H K
end
section
variable{L n:Nat}
attribute [local irreducible] Ap rt pE eBi eEq cnd Aq Vg A2
def iA{z a hi:Int}(h1:a<=z)(h2:z<=hi):PS (rt (L+20) (n+1)) FJ [I z,I a,I hi] (Bo true):=by
 refine CS.ps (λK c=>?_) (λH=>λK=>by kernel_rfl);rewrite[Xw];unfold LX q3N
 try rewrite[zO]
 try rewrite[bO]
 try rewrite[qO]
 try rewrite[cO]
 conv=>lhs;whnf
 rewrite[A6q h1]
 conv=>lhs;whnf
 rewrite[A6g h2]
 conv=>lhs;whnf
 exact c _ _ (λb=>⟨false,λK=>by kernel_rfl⟩)
def YI{z a hi:Int}(h1:a<=z)(h2:z<=hi):PS (rt (L+20) (n+1)) IY [I z,I a,I hi] (Bo true):=by
 refine CS.ps (λK c=>?_) (λH=>λK=>by kernel_rfl);rewrite[mP];unfold SN q3N
 try rewrite[zO]
 try rewrite[bO]
 try rewrite[qO]
 try rewrite[cO]
 conv=>lhs;whnf
 rewrite[A6q h1]
 conv=>lhs;whnf
 rewrite[A6g h2]
 conv=>lhs;whnf
 exact c _ _ (λb=>⟨false,λK=>by kernel_rfl⟩)
def Sl(T:AV):Prop:=T=.v (.slice none 0 0)\/∃n cs,T=.list n cs
abbrev Aw:AV:=.v (.slice none 0 0)
abbrev Cz(u:UD):Is:=[I u.p0,I u.q0,I u.p1,I u.q1,I u.p2,I u.q2,I u.p3,I u.q3,I u.p4,I u.q4,I u.p5,I u.q5,I u.p6,I u.q6,S u.fn,S u.fd,S u.on,S u.od,I u.kd,I u.sc]
abbrev NU(ca cb:Ha)(T:AV)(ra rb:Ha):Is:=[S ca,S cb,T,S ra,S rb]
abbrev B0(id:Int)(ins nds:AV)(u:UD):Is:=[I id,ins,nds,
 I u.p0,I u.q0,I u.p1,I u.q1,I u.p2,I u.q2,I u.p3,I u.q3,I u.p4,I u.q4,I u.p5,I u.q5,I u.p6,I u.q6,S u.fn,S u.fd,S u.on,S u.od,I u.kd,I u.sc]
structure RD where
 k:Int
 (a1 a2 b1 b2 c1 c2 d1 d2:Ha)
abbrev RD.cs(r:RD):Is:=[I r.k,S r.a1,S r.a2,S r.b1,S r.b2,S r.c1,S r.c2,S r.d1,S r.d2]
def r0:RD:=⟨0,[],[],[],[],[],[],[],[]⟩
structure ND where
 (lab num itm tim day:Int)
def rr(k:Nat):RD:=⟨k,[45,53],[49],[50,53],[50],if k=2 then[49] else[48],if k=2 then[50] else[49],[49],[50,48]⟩
abbrev Ea(kd:Int)(m:ND)(u:UD)(ca cb:Ha)(T:AV)(ra rb:Ha)(P:AV)(id:Int)(ins nds:AV)(o:UD)(r:RD)(vd:Int):Is:=[I kd,I m.lab,I m.num,I m.itm,I m.tim,I m.day,
 I u.p0,I u.q0,I u.p1,I u.q1,I u.p2,I u.q2,I u.p3,I u.q3,I u.p4,I u.q4,I u.p5,I u.q5,I u.p6,I u.q6,S u.fn,S u.fd,S u.on,S u.od,I u.kd,I u.sc,
 S ca,S cb,T,S ra,S rb,P,I id,ins,nds,
 I o.p0,I o.q0,I o.p1,I o.q1,I o.p2,I o.q2,I o.p3,I o.q3,I o.p4,I o.q4,I o.p5,I o.q5,I o.p6,I o.q6,S o.fn,S o.fd,S o.on,S o.od,I o.kd,I o.sc,
 I r.k,S r.a1,S r.a2,S r.b1,S r.b2,S r.c1,S r.c2,S r.d1,S r.d2,I vd,I 0,Aw,Aw]
def ND.ok(m:ND):Prop:=1<=m.lab/\m.lab<=9/\1<=m.num/\m.num<=9/\1<=m.itm/\m.itm<=9/\0<=m.tim/\m.tim<=100/\0<=m.day/\m.day<=100
abbrev A5C:Is:=[zI,zL,zL,zI,zI,zI,zI,zI,zI,zI,zI,zI,zI,zI,zI,zI,zI,zS,zS,zS,zS,zI,zI]
def A9q:PS (rt (L+20) (n+40)) VV [.agg (B0 0 Aw Aw u0),.agg A5C] (Bo true):=BM (λH K=>by kernel_rfl) (by kernel_rfl)
def A1E:PS (rt (L+20) (n+40)) Hq [.agg (B0 0 Aw Aw u0),.agg A5C] (Bo true):=BM (λH K=>by kernel_rfl) (by kernel_rfl)
section
variable{m:ND}{u o:UD}{ca cb ra rb:Ha}{T P ins nds:AV}{id vd:Int}{r:RD}
def A7a(hm:m.ok)(s:Sl T)(q:∃n cs,P=.list n cs)(i:∃n cs,ins=.list n cs)(p:∃n cs,nds=.list n cs)(hc:LS (rt (L+20) (n+60)) Ht [.agg (Ea 2 m u ca cb T ra rb P id ins nds o r0 0)] (Bo true))(v:PO (rt (L+20) (n+60)) My [.agg (Cz u)] (Bo true))(t:LS (rt (L+20) (n+60)) Mf [.agg (NU ca cb T ra rb)] (Bo true)):
 CS (rt (L+20) (n+61)) Et [.agg (Ea 2 m u ca cb T ra rb P id ins nds o r0 0)] (Bo true):=by
 intro K j;have⟨h1,h2,e,w,f,x,g,y,h,d⟩:=hm;obtain⟨n1,c1,rfl⟩:=q;obtain⟨n2,c2,rfl⟩:=i;obtain⟨A,c3,rfl⟩:=p;have hb:∀{z c hi:Int},c<=z->z<=hi->PO (rt (L+20) (n+60)) FJ [I z,I c,I hi] (Bo true):=λa b=>(iA a b).o;rcases s with rfl|⟨B,c4,rfl⟩
 all_goals
  rewrite[JK];unfold Gp Ih
  try rewrite[zO]
  try rewrite[bO]
  try rewrite[qO]
  try rewrite[cO]
  generalize rt (L+20) (n+60)=R at*
  conv=>lhs;whnf
  rewrite[hb h1 (by omega)]
  conv=>lhs;whnf
  rewrite[hb e (by omega)]
  conv=>lhs;whnf
  rewrite[hb f (by omega)]
  conv=>lhs;whnf
  rewrite[hb g (by omega)]
  conv=>lhs;whnf
  rewrite[hb h (by omega)]
  conv=>lhs;whnf
  rewrite[v]
  conv=>lhs;whnf
  rewrite[(t) false _ _ ?hq]
  case hq=>exact λK=>by kernel_rfl
  conv=>lhs;whnf
  rewrite[GI]
  conv=>lhs;whnf
  rewrite[show∀K,eEq IK BinOp.eql (AV.agg [I r0.k,S r0.a1,S r0.a2,S r0.b1,S r0.b2,S r0.c1,S r0.c2,S r0.d1,S r0.d2]) (AV.agg [zI,zS,zS,zS,zS,zS,zS,zS,zS]) K=K (Bo true) from λK=>by rw[<-qO];kernel_rfl]
  conv=>lhs;whnf
  rewrite[QQ ?hc]
  case hc=>decide
  conv=>lhs;whnf
  rewrite[Yd ?hc]
  case hc=>decide
  conv=>lhs;whnf
  rewrite[GI]
  conv=>lhs;whnf
  rewrite[QQ ?hc]
  case hc=>decide
  conv=>lhs;whnf
  rewrite[Qz]
  conv=>lhs;whnf
  rewrite[(hc) false _ _ ?hq]
  case hq=>exact λK=>by kernel_rfl
  conv=>lhs;whnf
  exact j _ _ (λb=>⟨false,λK=>by kernel_rfl⟩)
def A7b(hm:m.ok)(j:Sl T)(q:PO (rt (L+20) (n+60)) VV [.agg (B0 0 Aw Aw o),.agg A5C] (Bo true))(s:PO (rt (L+20) (n+60)) My [.agg (Cz u)] (Bo true))(p:LS (rt (L+20) (n+60)) Mf [.agg (NU ca cb T ra rb)] (Bo true)):
 CS (rt (L+20) (n+61)) Et [.agg (Ea 1 m u ca cb T ra rb Aw 0 Aw Aw o r0 0)] (Bo true):=by
 intro K i;have⟨h1,h2,e,t,f,v,g,w,h,d⟩:=hm;have hb:∀{z c hi:Int},c<=z->z<=hi->PO (rt (L+20) (n+60)) FJ [I z,I c,I hi] (Bo true):=λa b=>(iA a b).o;rcases j with rfl|⟨x,c4,rfl⟩
 all_goals
  rewrite[JK];unfold Gp Ih
  try rewrite[zO]
  try rewrite[bO]
  try rewrite[qO]
  try rewrite[cO]
  generalize rt (L+20) (n+60)=R at*
  conv=>lhs;whnf
  rewrite[hb h1 (by omega)]
  conv=>lhs;whnf
  rewrite[hb e (by omega)]
  conv=>lhs;whnf
  rewrite[hb f (by omega)]
  conv=>lhs;whnf
  rewrite[hb g (by omega)]
  conv=>lhs;whnf
  rewrite[hb h (by omega)]
  conv=>lhs;whnf
  rewrite[s]
  conv=>lhs;whnf
  rewrite[(p) false _ _ ?hq]
  case hq=>exact λK=>by kernel_rfl
  conv=>lhs;whnf
  rewrite[GI]
  conv=>lhs;whnf
  rewrite[show∀K,eEq IK BinOp.eql (AV.agg [I r0.k,S r0.a1,S r0.a2,S r0.b1,S r0.b2,S r0.c1,S r0.c2,S r0.d1,S r0.d2]) (AV.agg [zI,zS,zS,zS,zS,zS,zS,zS,zS]) K=K (Bo true) from λK=>by rw[<-qO];kernel_rfl]
  conv=>lhs;whnf
  rewrite[QQ ?hc]
  case hc=>decide
  conv=>lhs;whnf
  rewrite[QQ ?hc]
  case hc=>decide
  conv=>lhs;whnf
  rewrite[Qz]
  conv=>lhs;whnf
  rewrite[QQ ?hc]
  case hc=>decide
  conv=>lhs;whnf
  rewrite[q]
  conv=>lhs;whnf
  exact i _ _ (λb=>⟨false,λK=>by kernel_rfl⟩)
def A79(hm:m.ok)(v:Sl T)(t:∃n cs,P=.list n cs)(p:∃n cs,ins=.list n cs)(s:∃n cs,nds=.list n cs)(c:∀K,eEq IK BinOp.eql (AV.agg r.cs) (AV.agg [zI,zS,zS,zS,zS,zS,zS,zS,zS]) K=K (Bo false))(hr:PO (rt (L+20) (n+60)) Zw [.agg r.cs] (Bo true))(d:1<=vd)(e:vd<=3)(x:PO (rt (L+20) (n+60)) My [.agg (Cz u)] (Bo true))(w:LS (rt (L+20) (n+60)) Mf [.agg (NU ca cb T ra rb)] (Bo true))(hc:LS (rt (L+20) (n+60)) Ht [.agg (Ea 3 m u ca cb T ra rb P id ins nds o r vd)] (Bo true)):
 CS (rt (L+20) (n+61)) Et [.agg (Ea 3 m u ca cb T ra rb P id ins nds o r vd)] (Bo true):=by
 intro K q;have⟨h1,h2,h,y,i,A,j,B,k,g⟩:=hm;obtain⟨n1,c1,rfl⟩:=t;obtain⟨n2,c2,rfl⟩:=p;obtain⟨C,c3,rfl⟩:=s;have hb:∀{z f hi:Int},f<=z->z<=hi->PO (rt (L+20) (n+60)) FJ [I z,I f,I hi] (Bo true):=λa b=>(iA a b).o;rcases v with rfl|⟨D,c4,rfl⟩
 all_goals
  rewrite[JK];unfold Gp Ih
  try rewrite[zO]
  try rewrite[bO]
  try rewrite[qO]
  try rewrite[cO]
  generalize rt (L+20) (n+60)=R at*
  conv=>lhs;whnf
  rewrite[hb h1 (by omega)]
  conv=>lhs;whnf
  rewrite[hb h (by omega)]
  conv=>lhs;whnf
  rewrite[hb i (by omega)]
  conv=>lhs;whnf
  rewrite[hb j (by omega)]
  conv=>lhs;whnf
  rewrite[hb k (by omega)]
  conv=>lhs;whnf
  rewrite[x]
  conv=>lhs;whnf
  rewrite[(w) false _ _ ?hq]
  case hq=>exact λK=>by kernel_rfl
  conv=>lhs;whnf
  rewrite[GI]
  conv=>lhs;whnf
  rewrite[c]
  conv=>lhs;whnf
  rewrite[Yd ?hc]
  case hc=>decide
  conv=>lhs;whnf
  rewrite[GI]
  conv=>lhs;whnf
  rewrite[Yd ?hc]
  case hc=>decide
  conv=>lhs;whnf
  rewrite[GI]
  conv=>lhs;whnf
  rewrite[QQ ?hc]
  case hc=>decide
  conv=>lhs;whnf
  rewrite[Qz]
  conv=>lhs;whnf
  rewrite[(hc) false _ _ ?hq]
  case hq=>exact λK=>by kernel_rfl
  conv=>lhs;whnf
  rewrite[hr]
  conv=>lhs;whnf
  rewrite[hb d e]
  conv=>lhs;whnf
  exact q _ _ (λb=>⟨false,λK=>by kernel_rfl⟩)
end
end
section
variable{c2:Is}{n2:Nat}
variable{L n:Nat}
attribute [local irreducible] Ap rt pE eBi eEq cnd Aq Vg A2
section
variable{m:ND}{u o:UD}{ca cb ra rb:Ha}{T P nds:AV}{id vd:Int}{r:RD}
def A7C(hm:m.ok)(j:Sl T)(hr:PO (rt (L+20) (n+60)) JN [.agg r0.cs] (Bo false))(q:PO (rt (L+20) (n+60)) Hq [.agg (B0 0 Aw Aw o),.agg A5C] (Bo true))(s:PO (rt (L+20) (n+60)) F5 [.agg (Cz u)] (Bo true))(p:LS (rt (L+20) (n+60)) JP [.agg (NU ca cb T ra rb)] (Bo true)):
 CS (rt (L+20) (n+61)) F2 [.agg (Ea 1 m u ca cb T ra rb Aw 0 Aw Aw o r0 0)] (.tup [Bo true,Bo false]):=by
 intro K i;have⟨h1,h2,e,t,f,v,g,w,h,d⟩:=hm;have hb:∀{z c hi:Int},c<=z->z<=hi->PO (rt (L+20) (n+60)) IY [I z,I c,I hi] (Bo true):=λa b=>(YI a b).o;rcases j with rfl|⟨x,c4,rfl⟩
 all_goals
  rewrite[Kg];unfold IS Ih
  try rewrite[zO]
  try rewrite[bO]
  try rewrite[qO]
  try rewrite[cO]
  generalize rt (L+20) (n+60)=R at*
  conv=>lhs;whnf
  rewrite[Yd ?hc]
  case hc=>decide
  conv=>lhs;whnf
  rewrite[s]
  conv=>lhs;whnf
  rewrite[(p) false _ _ ?hq]
  case hq=>exact λK=>by kernel_rfl
  conv=>lhs;whnf
  rewrite[hb h1 (by omega)]
  conv=>lhs;whnf
  rewrite[hb e (by omega)]
  conv=>lhs;whnf
  rewrite[hb f (by omega)]
  conv=>lhs;whnf
  rewrite[hb g (by omega)]
  conv=>lhs;whnf
  rewrite[hb h (by omega)]
  conv=>lhs;whnf
  rewrite[GI]
  conv=>lhs;whnf
  rewrite[hr]
  conv=>lhs;whnf
  rewrite[show∀K,eEq IK BinOp.neq (AV.agg [I r0.k,S r0.a1,S r0.a2,S r0.b1,S r0.b2,S r0.c1,S r0.c2,S r0.d1,S r0.d2]) (AV.agg [zI,zS,zS,zS,zS,zS,zS,zS,zS]) K=K (Bo false) from λK=>by rw[<-qO];kernel_rfl]
  conv=>lhs;whnf
  rewrite[B1d ?hc]
  case hc=>decide
  conv=>lhs;whnf
  rewrite[GI]
  conv=>lhs;whnf
  rewrite[QQ ?hc]
  case hc=>decide
  conv=>lhs;whnf
  rewrite[Qz]
  conv=>lhs;whnf
  rewrite[q]
  conv=>lhs;whnf
  rewrite[QQ ?hc]
  case hc=>decide
  conv=>lhs;whnf
  exact i _ _ (λb=>⟨false,λK=>by kernel_rfl⟩)
def A7B(hm:m.ok)(q:Sl T)(hr:PO (rt (L+20) (n+60)) JN [.agg r0.cs] (Bo false))(p:∃n cs,P=.list n cs)(j:∃n cs,nds=.list n cs)(t:LS (rt (L+20) (n+60)) Iu [P] (.tup [Bo true,I n2]))(hv:LS (rt (L+20) (n+60)) Gb [.agg (B0 id (.list n2 c2) nds u)] (Bo true))(v:PO (rt (L+20) (n+60)) F5 [.agg (Cz u)] (Bo true))(s:LS (rt (L+20) (n+60)) JP [.agg (NU ca cb T ra rb)] (Bo true)):
 CS (rt (L+20) (n+61)) F2 [.agg (Ea 2 m u ca cb T ra rb P id (.list n2 c2) nds u r0 0)] (.tup [Bo true,Bo false]):=by
 intro K i;have⟨h1,h2,e,w,f,x,g,y,h,d⟩:=hm;obtain⟨n1,c1,rfl⟩:=p;obtain⟨A,c3,rfl⟩:=j;have hb:∀{z c hi:Int},c<=z->z<=hi->PO (rt (L+20) (n+60)) IY [I z,I c,I hi] (Bo true):=λa b=>(YI a b).o;rcases q with rfl|⟨B,c4,rfl⟩
 all_goals
  rewrite[Kg];unfold IS Ih
  try rewrite[zO]
  try rewrite[bO]
  try rewrite[qO]
  try rewrite[cO]
  generalize rt (L+20) (n+60)=R at*
  conv=>lhs;whnf
  rewrite[Yd ?hc]
  case hc=>decide
  conv=>lhs;whnf
  rewrite[v]
  conv=>lhs;whnf
  rewrite[(s) false _ _ ?hq]
  case hq=>exact λK=>by kernel_rfl
  conv=>lhs;whnf
  rewrite[hb h1 (by omega)]
  conv=>lhs;whnf
  rewrite[hb e (by omega)]
  conv=>lhs;whnf
  rewrite[hb f (by omega)]
  conv=>lhs;whnf
  rewrite[hb g (by omega)]
  conv=>lhs;whnf
  rewrite[hb h (by omega)]
  conv=>lhs;whnf
  rewrite[GI]
  conv=>lhs;whnf
  rewrite[hr]
  conv=>lhs;whnf
  rewrite[show∀K,eEq IK BinOp.neq (AV.agg [I r0.k,S r0.a1,S r0.a2,S r0.b1,S r0.b2,S r0.c1,S r0.c2,S r0.d1,S r0.d2]) (AV.agg [zI,zS,zS,zS,zS,zS,zS,zS,zS]) K=K (Bo false) from λK=>by rw[<-qO];kernel_rfl]
  conv=>lhs;whnf
  rewrite[B1d ?hc]
  case hc=>decide
  conv=>lhs;whnf
  rewrite[GI]
  conv=>lhs;whnf
  rewrite[Yd ?hc]
  case hc=>decide
  conv=>lhs;whnf
  rewrite[GI]
  conv=>lhs;whnf
  rewrite[QQ ?hc]
  case hc=>decide
  conv=>lhs;whnf
  rewrite[Qz]
  conv=>lhs;whnf
  rewrite[Qz]
  conv=>lhs;whnf
  rewrite[(t) false _ _ ?hq]
  case hq=>exact λK=>by kernel_rfl
  conv=>lhs;whnf
  rewrite[(hv) false _ _ ?hq]
  case hq=>exact λK=>by kernel_rfl
  conv=>lhs;whnf
  rewrite[QQ ?hc]
  case hc=>rfl
  conv=>lhs;whnf
  rewrite[kI u]
  conv=>lhs;whnf
  exact i _ _ (λb=>⟨false,λK=>by kernel_rfl⟩)
def A7A(hm:m.ok)(s:Sl T)(hr:PO (rt (L+20) (n+60)) JN [.agg r.cs] (Bo true))(c:1<=vd)(d:vd<=3)(q:∃n cs,P=.list n cs)(p:∃n cs,nds=.list n cs)(v:LS (rt (L+20) (n+60)) Iu [P] (.tup [Bo true,I n2]))(hv:LS (rt (L+20) (n+60)) Gb [.agg (B0 id (.list n2 c2) nds u)] (Bo true))(w:PO (rt (L+20) (n+60)) F5 [.agg (Cz u)] (Bo true))(t:LS (rt (L+20) (n+60)) JP [.agg (NU ca cb T ra rb)] (Bo true)):
 CS (rt (L+20) (n+61)) F2 [.agg (Ea 3 m u ca cb T ra rb P id (.list n2 c2) nds u r vd)] (.tup [Bo true,Bo true]):=by
 intro K k;have⟨h1,h2,g,x,h,y,i,A,j,f⟩:=hm;obtain⟨n1,c1,rfl⟩:=q;obtain⟨B,c3,rfl⟩:=p;have hb:∀{z e hi:Int},e<=z->z<=hi->PO (rt (L+20) (n+60)) IY [I z,I e,I hi] (Bo true):=λa b=>(YI a b).o;rcases s with rfl|⟨C,c4,rfl⟩
 all_goals
  rewrite[Kg];unfold IS Ih
  try rewrite[zO]
  try rewrite[bO]
  try rewrite[qO]
  try rewrite[cO]
  generalize rt (L+20) (n+60)=R at*
  conv=>lhs;whnf
  rewrite[QQ ?hc]
  case hc=>decide
  conv=>lhs;whnf
  rewrite[w]
  conv=>lhs;whnf
  rewrite[(t) false _ _ ?hq]
  case hq=>exact λK=>by kernel_rfl
  conv=>lhs;whnf
  rewrite[hb h1 (by omega)]
  conv=>lhs;whnf
  rewrite[hb g (by omega)]
  conv=>lhs;whnf
  rewrite[hb h (by omega)]
  conv=>lhs;whnf
  rewrite[hb i (by omega)]
  conv=>lhs;whnf
  rewrite[hb j (by omega)]
  conv=>lhs;whnf
  rewrite[GI]
  conv=>lhs;whnf
  rewrite[hr]
  conv=>lhs;whnf
  rewrite[hb c d]
  conv=>lhs;whnf
  rewrite[GI]
  conv=>lhs;whnf
  rewrite[Yd ?hc]
  case hc=>decide
  conv=>lhs;whnf
  rewrite[GI]
  conv=>lhs;whnf
  rewrite[Yd ?hc]
  case hc=>decide
  conv=>lhs;whnf
  rewrite[GI]
  conv=>lhs;whnf
  rewrite[QQ ?hc]
  case hc=>decide
  conv=>lhs;whnf
  rewrite[Qz]
  conv=>lhs;whnf
  rewrite[(v) false _ _ ?hq]
  case hq=>exact λK=>by kernel_rfl
  conv=>lhs;whnf
  rewrite[(hv) false _ _ ?hq]
  case hq=>exact λK=>by kernel_rfl
  conv=>lhs;whnf
  rewrite[QQ ?hc]
  case hc=>rfl
  conv=>lhs;whnf
  rewrite[kI u]
  conv=>lhs;whnf
  exact k _ _ (λb=>⟨false,λK=>by kernel_rfl⟩)
end
end
section
variable{L n:Nat}
attribute [local irreducible] Ap rt pE eBi eEq cnd Aq Vg A2
section
variable{m:ND}{u:UD}{ca cb ra rb:Ha}{T nds:AV}{kd id vd:Int}{r:RD}
def tA{n2:Nat}{c1 c2:Is}(d:Sl T)(c:∃n cs,nds=.list n cs)(e:LS (rt (L+20) (n+59)) JR [.list n2 c1] (Bo true))(hv:LS (rt (L+20) (n+59)) Gy [.agg (B0 id (.list n2 c2) nds u)] (Bo true)):
 CS (rt (L+20) (n+60)) Ht [.agg (Ea kd m u ca cb T ra rb (.list n2 c1) id (.list n2 c2) nds u r vd)] (Bo true):=by
 intro K a;obtain⟨f,c3,rfl⟩:=c;rcases d with rfl|⟨g,c4,rfl⟩
 all_goals
  rewrite[Tc];unfold JL Ih
  try rewrite[zO]
  try rewrite[bO]
  try rewrite[qO]
  try rewrite[cO]
  generalize rt (L+20) (n+59)=R at*
  conv=>lhs;whnf
  rewrite[(e) false _ _ ?hq]
  case hq=>exact λK=>by kernel_rfl
  conv=>lhs;whnf
  rewrite[(hv) false _ _ ?hq]
  case hq=>exact λK=>by kernel_rfl
  conv=>lhs;whnf
  rewrite[QQ ?hc]
  case hc=>rfl
  conv=>lhs;whnf
  rewrite[kI u]
  conv=>lhs;whnf
  exact a _ _ (λb=>⟨false,λK=>by kernel_rfl⟩)
end
end
section
variable{x y:Af}{a b:Int}{i:Nat}
variable{L n:Nat}
abbrev Ls(l:List Ha):AV:=.list l.length (AF l)
def Nk{l:List Ha}{K:K2}:Ba Ac (Ls l) K=K (I l.length):=id rfl
def Tx{l:List Ha}{K:K2}(h:i<l.length):D4 Ac (Ls l) (I i) K=K (.iptr [S l[i]]):=by
 rw[Zz rfl (by simp[AF]) (by omega) (by omega),kY,PK h]
def JS{s:Ha}{H:Hp}{K:K2}:AE Ai (.iptr [S s]) H K=K (S s):=NI rfl
def CW{ty:TI}{K:K2}(h:i<1000000000):Aq ty .add (I i) (.v (.int .i64 1)) K=K (I ((i+1:Nat):Int)):=by
 rw[Dp,CX (by omega) (by omega),Si]
def XA2{ty:TI}{K:K2}(h:a<b):Aq ty .lss (I a) (I b) K=K (Bo true):=by rw[DO,Hu h]
def Fk{ty:TI}{K:K2}(h:¬a<b):Aq ty .lss (I a) (I b) K=K (Bo false):=by rw[DO,Ir h]
def Cy:A2 (.v (.bool true)) x y=x:=id rfl
def AY:A2 (.v (.bool false)) x y=y:=id rfl
def B1{v:AV}{H:Hp}{K:K2}:Ax (some (v,H)) K=K v:=id rfl
section
variable{R:Rt}{K:KV}{ps:List Ha}{H:Hp}
def C0o{c:AV->AV->KV}(hi:i<ps.length)(hn:ps.Nodup)(hb:ps.length<100):∀(f j:Nat),j<=i->i-j<f->
 Mp (L+20) R K c f (Ls ps) (I i) (I j) H=c (Ls ps) (I i) (I i) H:=by
 intro f
 induction f with
 |zero=>intro j _ h;omega
 |succ f ih=>
  intro j k g;rw[So];unfold Mr Kx A4 FW;by_cases h:j<i
  ·rw[XA2 (by omega),Cy,Tx (by omega),B1,JS,B1,Tx hi,B1,JS,B1,MA];have d:ps[j]≠ps[i]:=λe=>by
    have:=(List.getElem_inj (h₀:=by omega) (h₁:=hi) hn).1 e;omega
   rw[Ir d,B1,AY,CW (by omega)];exact ih (j+1) (by omega) (by omega)
  ·rw[Fk (by omega),AY];have:j=i:=by omega
   rw[this]
def C0p{c:KV}(hn:ps.Nodup)(hb:ps.length<100)(g:ps.length<L+20)(e:∀s∈ps,s.length=32):∀(f i:Nat)(v:AV),i<=ps.length->ps.length-i<f->
 Mq (L+20) R K c f (Ls ps) (I i) v H=c (Ls ps) H:=by
 intro f
 induction f with
 |zero=>intro i v _ h;omega
 |succ f ih=>
  intro i v hi j;rw[Sp];unfold Mt Ia A4 FW;rw[Nk];by_cases h:i<ps.length
  ·rw[XA2 (by omega),Cy];simp only[BF];rw[Tx h,JS,Qt rfl,e _ (Ql h),I2];rw[show(!decide (((32:Nat):Int)=32))=false from rfl,AY];have d:(AV.v (.int .i64 0))=I ((0:Nat):Int):=rfl;rw[d,C0o h hn hb _ 0 (by omega) (by omega),CW (by omega)];exact ih (i+1) _ (by omega) (by omega)
  ·rw[Fk (by omega),AY]
end
def B!{ps:List Ha}(hn:ps.Nodup)(h:1<=ps.length)(hb:ps.length<=6)(f:∀s∈ps,s.length=32):
 CS (r! L (n+1)) Iu [Ls ps] (.tup [Bo true,I ps.length]):=by
 intro K e;rw[TT];unfold Nf D5 A4 FW;simp only[BF];have d:(AV.v (.int .i64 0))=I ((0:Nat):Int):=rfl;rw[d,C0p hn (by omega) (by omega) f _ 0 _ (by omega) (by omega),Nk,Mi,Hu (by omega)];have g:∀(x:Bool->Af),gdV true (Bo true) x=x true:=λx=>id rfl;have c:∀{v:AV}{H:Hp}{K:KV},Ei (some (v,H)) K=K v H:=id rfl;simp only[g,c,Nk];rw[kK,Hu (by omega)];exact e _ _ (λb=>⟨false,λK=>by kernel_rfl⟩)
end
section
variable{v:AV}{q0:Bool}{H H0:Hp}
variable{L n:Nat}
def Be(l:List Ha):(AF l).length=l.length:=by simp[AF]
def lN(a b:List Ha):AF a++AF b=AF (a++b):=by simp[AF]
def A31{l:List Ha}(b:Ha)(h:Bp H Au 1 v l.length (AF l))(w:Wf H)(hn:l.length<1000000000):
 ∃d a,(∀K:KV,(GF Au 1 Ai 1 [(0,1,S b)] H λv1 j=>E0 Au 1 Ai Ac v v1 j K)=K d a)/\Bp a Au 1 d (l++[b]).length (AF (l++[b]))/\Wf a/\Ar H<=Ar a/\(∀s x,Ah H s=some x->¬A8 v s->Ah a s=some x)/\(∀s,A8 d s->Ar H<=s):=by
 have i:Bp ((Ar H,.cells false Au [S b])::H) Au 1 v l.length (AF l):=h.lat w (Lat.cons H _ (λ_=>False)) (λ_ _ h=>h);have c:=Oo (H:=H) (e:=Au) (n:=1) (cs:=[S b]) rfl;have⟨d,a,h1,h2,k,m⟩:=apt (ie:=Ai) (i2:=Ac) i (λK=>RL (K:=K) c) rfl rfl (by decide) rfl rfl (by show(l.length+1)*16<=_;omega) (by omega);have f:=(Lat.cons H (.cells false Au [S b]) (A8 v)).trans m (R:=A8 v) (λ_ _ h=>h) (λ_ _ h=>h);refine⟨d,a,λK=>?_,by rw[EN,<-lN];exact h2,f.wf w,f.nx,λs x g hn=>f.keep w s x g hn,λs g=>?_⟩
 ·rw[wU (z:=S []) (λ_=>rfl) (λ_=>rfl) rfl];exact h1 K
 ·rw[k s g];exact l1u _
def Oi(c2 c6:AV)(p:Option (Option Code)):Row:=.loop 13 [(2,c2),(4,Aw),(5,AV.dk),(6,c6),(7,AV.dk),(8,AV.dk),(9,AV.dk),(10,AV.dk),(11,AV.dk)] (Bs).2.1 (Bs).2.2.1 (Bs).2.2.2 p
structure Coll(H0:Hp)(r0 s:Nat)(q0:Bool)(e0:Nat)(c6:AV)(l:List Ha)(v:AV)(H:Hp):Prop where
 at_:Ah H r0=some (.cells q0 e0 [v])
 sl:Bp H Au 1 v l.length (AF l)
 lp:Ah H s=some (Oi (.ptr r0 0 0) c6 (some none))
 new:∀u,A8 v u->u≠r0/\u≠s/\Ar H0<=u
 wf:Wf H
 keep:∀u y,Ah H0 u=some y->Ah H u=some y
 ne:r0≠s
 r0n:Ar H0<=r0
 sn:Ar H0<=s
 w0:Wf H0
variable{K:KV}{x:Af}
def B4C{r0 s e0:Nat}{c6 v:AV}{l:List Ha}{b:Ha}(h:Coll H0 r0 s q0 e0 c6 l v H)(hn:l.length<1000000000)(Z:∀d j,Coll H0 r0 s q0 e0 c6 (l++[b]) d j->K (Bo true) j=x):CH (E (L+20)) (r! L (n+1)) (.yl s) [S b] H K=x:=by
 show Oj (r! L (n+1)) s [S b] H K=x;rw[PG h.lp (by kernel_rfl)];have t:(r! L (n+1)).run= λR=>MD (E (L+20)) (r! L n) R:=rfl;rw[t,Hz,PQ h.lp];have O:=Bm (r:=s) (y:=Oi (.ptr r0 0 0) c6 none) h.wf;have k:Ah (upd H s (Oi (.ptr r0 0 0) c6 none)) r0=some (.cells q0 e0 [v]):=by rw[Ag h.ne];exact h.at_
 have J:Ah (upd H s (Oi (.ptr r0 0 0) c6 none)) s=some (Oi (.ptr r0 0 0) c6 none):=Fl h.lp;have N:Bp (upd H s (Oi (.ptr r0 0 0) c6 none)) Au 1 v l.length (AF l):=h.sl.lat h.wf (Lat.upd H s _ (P:=λu=>u=s) rfl) (λu c=>(h.new u c).2.1);have D:∀u y,Ah H0 u=some y->Ah (upd H s (Oi (.ptr r0 0 0) c6 none)) u=some y:=λu y c=>by
  have:=h.w0.lt c;rw[Ag (by have:=h.sn;omega)];exact h.keep u y c
 show AE Ac (.ptr r0 0 0) (upd H s (Oi (.ptr r0 0 0) c6 none)) _=_;rw[AL (p:=0) rfl k (by simp)];show GF Au 1 Ai 1 [(0,1,S b)] (upd H s (Oi (.ptr r0 0 0) c6 none)) (λQ A=>E0 Au 1 Ai Ac v Q A _)=_;have⟨d,j,h1,h2,B,h4,C,V⟩:=A31 b N O hn;rw[h1];have n0:¬A8 v r0:=λc=>(h.new r0 c).1 rfl;have ns:¬A8 v s:=λc=>(h.new s c).2.1 rfl;have m:=C r0 _ k n0;have M:=C s _ J ns;have f:B4 d=[d]/\AV.one d=true:=by
  rcases h2 with⟨rfl,_⟩|⟨a,b,rfl,_⟩<;>exact⟨rfl,rfl⟩
 rw[DT (q:=q0) (e:=e0) (cs:=[v]) m (by simp) rfl f.1 f.2];have Y:Ar H0<=Ar H:=by have:=h.wf.lt h.at_;have:=h.r0n;omega
 have F:Ar (upd H s (Oi (.ptr r0 0 0) c6 none))=Ar H:=B9 _ _ _;have i:∀u,A8 d u->u≠r0/\u≠s/\Ar H0<=u:=λu c=>by
  have a1:=V u c;rw[F]at a1;have a2:=h.wf.lt h.at_;have a3:=h.wf.lt h.lp;exact⟨by omega,by omega,by omega⟩
 have w:Ah (upd j r0 (.cells q0 e0 [d])) s=some (Oi (.ptr r0 0 0) c6 none):=by rw[Ag h.ne.symm];exact M
 show EC (upd j r0 (.cells q0 e0 [d])) s false (some none) _=_;have g:=w;unfold Oi at g;rw[PN g];refine Z d _ ⟨?_,?_,?_,i,Bm (Bm B),λu y c=>?_,h.ne,h.r0n,h.sn,h.w0⟩
 ·rw[Ag h.ne];exact AC m
 ·have a:=h2.lat B (Lat.upd j r0 (.cells q0 e0 [d]) (P:=λu=>u=r0) rfl) (λu c=>(i u c).1);exact a.lat (Bm B) (Lat.upd _ s _ (P:=λu=>u=s) rfl) (λu c=>(i u c).2.1)
 ·exact Fl w
 ·have X:=h.w0.lt c;have b1:=h.r0n;have b2:=h.sn;rw[Ag (by omega),Ag (by omega)];refine C u y (D u y c) (λhv=>?_);have:=(h.new u hv).2.2;omega
def C2x{r0 s e0:Nat}{c6:AV}{k3:Ru}{ps:List Ha}(hn:ps.length<1000000000)(c:∀v H,Coll H0 r0 s q0 e0 c6 ps v H->k3 H=x):
 ∀(f i:Nat)(v:AV)(H:Hp),i<=ps.length->ps.length-i<f->Coll H0 r0 s q0 e0 c6 (ps.take i) v H->
  EL (L+20) (r! L (n+1)) K k3 f (.yl s) (Ls ps) (I ps.length) (I i) H=x:=by
 intro f
 induction f with
 |zero=>intro i v H _ h;omega
 |succ f ih=>
  intro i v H hi e hc;rw[Lm];unfold EM Ia A4;by_cases h:i<ps.length
  ·rw[XA2 (by omega),Cy,Tx h,JS];refine B4C hc (by simp;omega) λd b a=>?_;rw[DK];show A2 (.v (.bool false)) _ _=_;rw[AY,CW (by omega)];rw[<-nL h]at a;exact ih (i+1) d b (by omega) (by omega) a
  ·rw[Fk (by omega),AY];have:i=ps.length:=by omega
   rw[this,rW]at hc;exact c v H hc
structure NewSl(H0:Hp)(l:List Ha)(v:AV)(H:Hp):Prop where
 sl:Bp H Au 1 v l.length (AF l)
 new:∀u,A8 v u->Ar H0<=u
 wf:Wf H
 keep:∀u y,Ah H0 u=some y->Ah H u=some y
 nx:Ar H0<=Ar H
abbrev A9S(ps:List Ha):AV:=.fn (.func Ib) [] [.iptr [Ls ps]]
def A7o{ps:List Ha}(hn:ps.length<1000000000)(f:ps.length<L)(w:Wf H0)(e:∀v H,NewSl H0 ps v H->K v H=x):
 (r! L (n+4)).call EK [A9S ps] H0 K=x:=by
 rw[GG];unfold EJ;rw[DJ];unfold CD;simp only[BF];rw[oG (by rfl),A5X,LH];unfold EZ A4;simp only[BF];have d:∀H K,AE Ac (.iptr [Ls ps]) H K=K (Ls ps):=λH K=>NI rfl;rw[d,Nk];have e0:(AV.v (.int .i64 0))=I ((0:Nat):Int):=rfl;rw[e0];have w1:=AG (x:=.cells true A7 [Aw]) w;have b:=Ay (H:=H0) (x:=.cells true A7 [Aw]) (by simp);have c:Ar ((Ar H0,c_ A7 [Aw])::H0)=Ar H0+1:=rfl;refine C2x (n:=n) (H0:=H0) (r0:=Ar H0) (s:=Ar H0+1) (q0:=true) (e0:=A7) (c6:=A9S ps) hn ?_ (L+20) 0 Aw _ (by omega) (by omega) ⟨A6 (w1.lt b) b,.inl ⟨rfl,rfl,rfl⟩,Ay (H:=((Ar H0,c_ A7 [Aw])::H0)) (x:=Oi (.ptr (Ar H0) 0 0) (A9S ps) (some none)) (by simp[Oi]),λu ⟨_,_,_,h⟩=>(by cases h),AG w1,λu y a=>?_,by omega,by omega,by omega,w⟩
 ·intro v H hc;rw[c,Bl hc.lp];show LJ H (Ar H0+1) .gone _=x;rw[Dh];have hr:Ah (upd H (Ar H0+1) .gone) (Ar H0)=some (c_ A7 [v]):=by rw[Ag (by omega)];exact hc.at_
  show AE Ac (.ptr (Ar H0) 0 0) (upd H (Ar H0+1) .gone) _=x;rw[AL (p:=0) rfl hr (by simp)];refine e _ _ ⟨?_,λu a=>(hc.new u a).2.2,Bm hc.wf,λu y a=>?_,?_⟩
  ·exact hc.sl.lat hc.wf (Lat.upd H _ _ (P:=λu=>u=Ar H0+1) rfl) (λu a=>(hc.new u a).2.1)
  ·have:=w.lt a;rw[Ag (by omega)];exact hc.keep u y a
  ·rw[B9];have:=hc.wf.lt hc.at_;omega
 ·have a1:=A6 (x:=.cells true A7 [Aw]) (w.lt a) a;exact A6 (w1.lt a1) a1
def A9p{ps:List Ha}(A:0<ps.length)(hn:ps.length<1000000000)(s:ps.length<L)(w:Wf H0)(t:∀v H,NewSl H0 (Eu ps) v H->K v H=x):
 (r! L (n+5)).call D9 [A9S ps] H0 K=x:=by
 rw[Fw];unfold Eo;refine A7o hn s w λv H b=>?_;have i:=(Bb ps).length_eq;rcases b.sl with⟨_,h,_⟩|⟨r,q,rfl,f,hc⟩
 ·omega
 ·have m:∀K,(r! L (n+4)).call AM [.sl 1 r 0 ps.length] H K=TR [.sl 1 r 0 ps.length] H K (ZA (E (L+20)) (nT (L+20)) (r! L (n+3)) AM [.sl 1 r 0 ps.length] H K):=λK=>rfl;rw[m];have e:∀(l:List Ha),V0 (AF l)=some l:=λl=>by
   induction l with
   |nil=>rfl
   |cons a l ih=>show(V0 (AF l)).map _=_;rw[ih];rfl
  have p:∀alt K,TR [.sl 1 r 0 ps.length] H K alt=Ey 0 (AF (Eu ps)) (AF ps) λc=>LJ H r (.cells q Au c) λk=>K (.tup []) k:=λalt K=>by
   unfold TR;simp only[f,qV];rw[l25 (by rw[Be];omega),e];have g:(Nat.beq ps.length ps.length&&(Nat.blt ps.length 4611686018427387904&&Nat.blt 0 ps.length))=true:=by simp;omega
   simp only[g];rfl
  rw[p,It _ _ _ _ (by rw[Be,Be];omega),Wr _ _ (by rw[Be,Be];exact i),Dh];refine t _ _ ⟨.inr ⟨r,q,by rw[i],AC f,by rw[Be];omega⟩,λu ⟨_,_,_,d⟩=>?_,Bm b.wf,λu y j=>?_,by rw[B9];exact b.nx⟩
  ·injection d with _ d
   subst d;exact b.new r ⟨1,0,ps.length,rfl⟩
  ·have a1:=w.lt j;have a2:=b.new r ⟨1,0,ps.length,rfl⟩;rw[Ag (by omega)];exact b.keep u y j
end
section
variable{a:AV}{H:Hp}{es:IH}{m s:Nat}
def Wt{R:Rt}{m g:Nat}{cap:Is}{t:Tm}{ps:Array Tmp}{f d:Code}{K:Option (Option Code)->Ru}:
 pH R m (.fn (.func g) [] cap) t ps f d H K=R.call g (.yl (Ar H)::cap) ((Ar H,.loop m t ps f d (some none))::H) λ_ c=>IP c (Ar H) λx=>eH x λ_ _ _ _ _ b=>LJ c (Ar H) .gone λh=>K b h:=by
 have e:pH R m (.fn (.func g) [] cap) t ps f d H K=HE H λs=>Zu [] (.yl s::cap) λall=>R.call g all ((s,.loop m t ps f d (some none))::H) λ_ c=>IP c s λx=>eH x λ_ _ _ _ _ b=>LJ c s .gone λh=>K b h:=rfl;rw[e,BS,Ni];rfl
def XO{K:KV}:XP (.imap es) H K=K (.it (Ar H)) ((Ar H,.iter es none)::H):=by
 have e:XP (.imap es) H K=HE H λs=>K (.it s) ((s,.iter es none)::H):=rfl;rw[e,BS]
def A8l{e:Value×AV}{o:Option (Value×AV)}{K:KV}(h:Ah H s=some (.iter (e::es) o)):
 Zx (.it s) H K=UH (λe rest=>LJ H s (.iter rest (some e)) λb=>K (.tup [.v (.bool true),uJ e.1,e.2]) b) (e::es) []:=by
 have c:Zx (.it s) H K=IP H s λx=>A6n x λl=>@List.rec (Value×AV) (λ_=>Af) (K (.tup [.v (.bool false)]) H)
  (λ_ _ _=>UH (λe rest=>LJ H s (.iter rest (some e)) λb=>K (.tup [.v (.bool true),uJ e.1,e.2]) b) l []) l:=rfl
 rw[c,Bl h];rfl
def B2c{o:Option (Value×AV)}{K:KV}(h:Ah H s=some (.iter [] o)):Zx (.it s) H K=K (.tup [.v (.bool false)]) H:=by
 have c:Zx (.it s) H K=IP H s λx=>A6n x λl=>@List.rec (Value×AV) (λ_=>Af) (K (.tup [.v (.bool false)]) H)
  (λ_ _ _=>UH (λe rest=>LJ H s (.iter rest (some e)) λb=>K (.tup [.v (.bool true),uJ e.1,e.2]) b) l []) l:=rfl
 rw[c,Bl h];rfl
def NW{p:Value×AV}{K:K2}(h:Ah H s=some (.iter es (some p))):eA (.it s) H K=K (.tup [uJ p.1,p.2]):=by
 have b:eA (.it s) H K=IP H s λx=>B1o x λp=>K (.tup [uJ p.1,p.2]):=rfl;rw[b,Bl h];rfl
def Fm{l:Is}{K:K2}:C9 (.tup (a::l)) 0 K=K a:=id rfl
def Pq{a b:AV}{l:Is}{K:K2}:C9 (.tup (a::b::l)) 1 K=K b:=id rfl
def A6C{c:Option (Hb×Nat)}{K:KV}(d:Ah H m=some (.map false es c))(hc:es.all (λp=>dA 3 p.2)=true):XP (.mp m) H K=K (.it (Ar H)) ((Ar H,.iter es none)::upd H m .gone):=by
 have e:XP (.mp m) H K=IP H m λx=>nI x λes _=>ck (es.all λp=>dA 3 p.2) (LJ H m .gone λb=>HE b λt=>K (.it t) ((t,.iter es none)::b)):=rfl;rw[e,Bl d];show ck (es.all λp=>dA 3 p.2) _=_;rw[hc];show LJ H m .gone _=_;rw[Dh,BS,B9]
def A7J{F:Value×AV->IH->Af}{v:AV}(hv:Vo 6 v v=true):∀(l pre:IH),l≠[]->(∀l1 e l2,l=l1++e::l2->F e (pre++(l1++l2))=some (v,[]))->UH F l pre=some (v,[]):=by
 intro l
 induction l with
 |nil=>intro _ h;exact absurd rfl h
 |cons e l ih=>
  intro pre _ h;have b:=h [] e l rfl;rw[l3b]at b;cases l with
  |nil=>rw[uH];rw[Vq]at b;exact b
  |cons f l=>
   rw[oS,b,ih (pre++[e]) (by simp) λl1 c l2 d=>?_]
   ·show(match Vo 6 v v with|true=>some (v,[])|false=>none)=_;rw[hv]
   ·have:=h (e::l1) c l2 (by rw[d];rfl);rw[eI];exact this
def YU{α:Type}{f:α->AV}{es:List (Ha×α)}{it:Nat}{o:Option (Value×AV)}{w:AV}{K:KV}(u:Vo 6 w w=true)(d:Ah H it=some (.iter (es.map λe=>(.string ⟨⟨e.1⟩⟩,f e.2)) o))(i:es=[]->K (.tup [.v (.bool false)]) H=some (w,[]))(h1:∀a e b,es=a++e::b->K (.tup [.v (.bool true),S e.1,f e.2]) (upd H it (.iter ((a++b).map λe=>(.string ⟨⟨e.1⟩⟩,f e.2)) (some (.string ⟨⟨e.1⟩⟩,f e.2))))=some (w,[])):Zx (.it it) H K=some (w,[]):=by
 cases es with
 |nil=>rw[B2c d];exact i rfl
 |cons e es=>
  rw[X0]at d;rw[A8l d];refine A7J u _ [] (by simp) λx p y h=>?_;rw[<-X0 (f:=λe:Ha×α=>((Value.string ⟨⟨e.1⟩⟩:Value),f e.2))]at h;have⟨a,c,h2,j,k⟩:=List.map_eq_append_iff.1 h;have⟨g,b,q,r,t⟩:=List.map_eq_cons_iff.1 k;subst q j r t;rw[Dh,l3b,<-dW];exact h1 a g b h2
end
section
variable{α:Type}
structure Ce(κ:Type) where
 real:Bool
 ps:List κ
section
variable{κ:Type}[DecidableEq κ]{g:List (κ×Ce κ)}
def Lg:List (κ×α)->κ->Option α
 |[],_=>none
 |e::g,x=>if e.1=x then some e.2 else Lg g x
def A6r{x:κ}{c:α}:∀{g:List (κ×α)},Lg g x=some c->(x,c)∈g:=by
 intro g
 induction g with
 |nil=>intro h;cases h
 |cons e g ih=>
  intro h;unfold Lg at h;split at h
  ·rename_i a;cases h;subst a;simp
  ·simp[ih h]
def H!{p q:α->Bool}{l:List α}(h:∀a∈l,p a=true->q a=true){a:α}(d:a∈l)(h1:q a=true)(h2:p a=false):(l.filter p).length<(l.filter q).length:=by
 induction l with
 |nil=>cases d
 |cons b l ih=>
  have mono:∀l:List α,(∀a∈l,p a=true->q a=true)->(l.filter p).length<=(l.filter q).length:=by
   intro l
   induction l with
   |nil=>intro _;simp
   |cons c l ih=>
    intro h;have:=ih λa d=>h a (by simp[d]);rw[l2m,l2m];have e:=h c (by simp);cases f:p c<;>cases hq:q c<;>simp_all<;>omega
  have i:=mono l λa d=>h a (by simp[d]);rw[l2m,l2m];rcases Vp.1 d with rfl|d
  ·rw[h1,h2];simp;omega
  ·have:=ih (λa d=>h a (by simp[d])) d;have e:=h b (by simp);cases f:p b<;>cases hq:q b<;>simp_all<;>omega
def Ku(b:List (κ×α))(x:κ)(v:α):List (κ×α):=match b with
 |[]=>[(x,v)]
 |e::b=>if e.1=x then(e.1,v)::b else e::Ku b x v
def jU{b:List (κ×α)}{x y:κ}{v:α}:Lg (Ku b x v) y=if x=y then some v else Lg b y:=by
 induction b with
 |nil=>rfl
 |cons e b ih=>
  unfold Ku;by_cases h:e.1=x
  ·rw[Dv h];simp only[Lg];subst h;by_cases h1:e.1=y<;>simp[h1]
  ·rw[CL h];simp only[Lg,ih];by_cases h1:x=y
   ·subst h1;simp[h]
   ·simp[h1]
end
end
section
variable{m:AV}{r:Nat}{ie:TI}
abbrev SV(s:Ha):Value:=.string ⟨⟨s⟩⟩
section
variable{α:Type}{f:α->AV}{b:List (Ha×α)}{x:Ha}{H:Hp}
abbrev Dd(f:α->AV)(b:List (Ha×α)):IH:=b.map λe=>(SV e.1,f e.2)
def Zt(x:Ha):List (Ha×α)->Nat->Option (Nat×α)
 |[],_=>none
 |e::b,i=>if e.1=x then some (i,e.2) else Zt x b (i+1)
def ZS{e:Ha×α}{i:Nat}:Zt x (e::b) i=if e.1=x then some (i,e.2) else Zt x b (i+1):=rfl
def C3O{s u:Ha}:keq (SV s) (SV u)=some (decide (u=s)):=by
 show some (eqB s u)=_;rw[Rm];by_cases h:s=u
 ·subst h;simp
 ·simp[h,Ne.symm h]
def B1u:∀(b:List (Ha×α))(i:Nat),jH (SV x) (Dd f b) i=some ((Zt x b i).map λp=>(p.1,f p.2)):=by
 intro b
 induction b with
 |nil=>intro i;rfl
 |cons e b ih=>
  intro i;show jH (SV x) ((SV e.1,f e.2)::Dd f b) i=_;rw[fV,C3O,ih,ZS];by_cases h:e.1=x
  ·simp[h]
  ·simp[h]
def A2o:∀(b:List (Ha×α))(i:Nat),(Zt x b i).map (·.2)=Lg b x:=by
 intro b
 induction b with
 |nil=>intro i;rfl
 |cons e b ih=>
  intro i;rw[ZS];unfold Lg;by_cases h:e.1=x
  ·simp[h]
  ·simp[h,ih]
def A2n(v:α):∀(b:List (Ha×α))(i:Nat),(match Zt x b i with|none=>b++[(x,v)]|some (j,_)=>b.set (j-i) (x,v))=Ku b x v/\(∀j w,Zt x b i=some (j,w)->i<=j):=by
 intro b
 induction b with
 |nil=>intro i;exact⟨rfl,λj w h=>by cases h⟩
 |cons e b ih=>
  intro i;rw[ZS];unfold Ku;by_cases h:e.1=x
  ·refine⟨?_,λj w a=>?_⟩
   ·simp[h]
   ·simp[h]at a;omega
  ·have⟨h1,h2⟩:=ih (i+1);refine⟨?_,λj w a=>?_⟩
   ·rw[CL h,CL h,<-h1];cases d:Zt x b (i+1) with
    |none=>rfl
    |some p=>
     have⟨j,w⟩:=p;have:=h2 j w d;have c:j-i=(j-(i+1))+1:=by omega
     simp only[c,List.set_cons_succ]
   ·rw[CL h]at a;have:=h2 j w a;omega
def XM{es:IH}{a:Option (Hb×Nat)}{K:IH->Af}(h:Ah H r=some (.map false es a)):zC (.mp r) H K=K es:=by
 show IP H r _=_;rw[Bl h];rfl
def kfK{K:Option (Nat×AV)->Af}:I9 (SV x) (Dd f b) K=K ((Zt x b 0).map λp=>(p.1,f p.2)):=by
 unfold I9;rw[B1u]
def wG{K:K2}(h:∀K,zC m H K=K (Dd f b)):Ye ie true m (SV x) H K=match Lg b x with
 |some v=>K (.tup [f v,Bo true])
 |none=>K (.tup [ie.zero,Bo false]):=by
 unfold Ye;rw[h,kfK,<-A2o b 0];cases Zt x b 0<;>rfl
def kD{K:K2}(h:∀K,zC m H K=K (Dd f b)):Ye ie false m (SV x) H K=match Lg b x with
 |some v=>K (f v)
 |none=>K ie.zero:=by
 unfold Ye;rw[h,kfK,<-A2o b 0];cases Zt x b 0<;>rfl
def ZW{v:α}{K:Ru}(h:Ah H r=some (.map false (Dd f b) none)):Mg (.mp r) (SV x) (f v) H K=K (upd H r (.map false (Dd f (Ku b x v)) none)):=by
 have e:Mg (.mp r) (SV x) (f v) H K=IP H r λy=>nI y λa c=>I9 (SV x) a λq=>match q with
  |none=>LJ H r (.map false (a++[(SV x,f v)]) (wV c)) K
  |some (i,_)=>LJ H r (.map false (a.set i (SV x,f v)) c) K:=rfl
 rw[e,Bl h];show I9 (SV x) (Dd f b) _=_;rw[kfK];have⟨h1,h2⟩:=A2n (x:=x) v b 0;cases d:Zt x b 0 with
 |none=>
  rw[d]at h1;show LJ H r (.map false (Dd f b++[(SV x,f v)]) none) K=_;rw[Dh,<-h1,Dd,Dd,dW];rfl
 |some p=>
  have⟨j,w⟩:=p;rw[d]at h1;show LJ H r (.map false ((Dd f b).set j (SV x,f v)) none) K=_;rw[Dh,<-h1,Dd,Dd,List.map_set,Nat.sub_zero]
end
end
section
variable{v:AV}{q0:Bool}{H:Hp}{ks:List Ha}
variable{L n:Nat}
abbrev uS:Unit->AV:=λ_=>.agg []
section
variable{K:KV}{x:Af}
def U!{H0 H:Hp}{r0 s e0:Nat}{c6 v:AV}{l:List Ha}{b:Ha}(h:Coll H0 r0 s q0 e0 c6 l v H)(hn:l.length<1000000000)(hx:∀d f,Coll H0 r0 s q0 e0 c6 (l++[b]) d f->(∀u y,u≠r0->u≠s->¬A8 v u->Ah H u=some y->Ah f u=some y)->(∀u,A8 d u->Ar H<=u)->K (Bo true) f=x):CH (E (L+20)) (r! L (n+1)) (.yl s) [S b] H K=x:=by
 show Oj (r! L (n+1)) s [S b] H K=x;rw[PG h.lp (by kernel_rfl)];have C:(r! L (n+1)).run= λV=>MD (E (L+20)) (r! L n) V:=rfl;rw[C,Hz,PQ h.lp];have Q:=Bm (r:=s) (y:=Oi (.ptr r0 0 0) c6 none) h.wf;have A:Ah (upd H s (Oi (.ptr r0 0 0) c6 none)) r0=some (.cells q0 e0 [v]):=by rw[Ag h.ne];exact h.at_
 have M:Ah (upd H s (Oi (.ptr r0 0 0) c6 none)) s=some (Oi (.ptr r0 0 0) c6 none):=Fl h.lp;have O:Bp (upd H s (Oi (.ptr r0 0 0) c6 none)) Au 1 v l.length (AF l):=h.sl.lat h.wf (Lat.upd H s _ (P:=λu=>u=s) rfl) (λu c=>(h.new u c).2.1);show AE Ac (.ptr r0 0 0) (upd H s (Oi (.ptr r0 0 0) c6 none)) _=_;rw[AL (p:=0) rfl A (by simp)];show GF Au 1 Ai 1 [(0,1,S b)] (upd H s (Oi (.ptr r0 0 0) c6 none)) (λR F=>E0 Au 1 Ai Ac v R F _)=_;have⟨d,f,h1,h2,t,h4,J,X⟩:=A31 b O Q hn;rw[h1];have n0:¬A8 v r0:=λc=>(h.new r0 c).1 rfl;have ns:¬A8 v s:=λc=>(h.new s c).2.1 rfl;have B:=J r0 _ A n0;have N:=J s _ M ns;have i:B4 d=[d]/\AV.one d=true:=by
  rcases h2 with⟨rfl,_⟩|⟨a,b,rfl,_⟩<;>exact⟨rfl,rfl⟩
 rw[DT (q:=q0) (e:=e0) (cs:=[v]) B (by simp) rfl i.1 i.2];have aa:Ar H0<=Ar H:=by have:=h.wf.lt h.at_;have:=h.r0n;omega
 have Z:Ar (upd H s (Oi (.ptr r0 0 0) c6 none))=Ar H:=B9 _ _ _;have g:∀u,A8 d u->Ar H<=u:=λu c=>by have:=X u c;omega
 have k:∀u,A8 d u->u≠r0/\u≠s/\Ar H0<=u:=λu c=>by
  have a1:=g u c;have a2:=h.wf.lt h.at_;have a3:=h.wf.lt h.lp;exact⟨by omega,by omega,by omega⟩
 have D:Ah (upd f r0 (.cells q0 e0 [d])) s=some (Oi (.ptr r0 0 0) c6 none):=by rw[Ag h.ne.symm];exact N
 show EC (upd f r0 (.cells q0 e0 [d])) s false (some none) _=_;have j:=D;unfold Oi at j;rw[PN j];have kp:∀u y,u≠r0->u≠s->¬A8 v u->Ah H u=some y->Ah (upd (upd f r0 (.cells q0 e0 [d])) s (Oi (.ptr r0 0 0) c6 (some none))) u=some y:=λu y h1 h2 t c=>by
  rw[Ag h2,Ag h1];exact J u y (by rw[Ag h2];exact c) t
 refine hx d _ ⟨?_,?_,?_,k,Bm (Bm t),λu y c=>?_,h.ne,h.r0n,h.sn,h.w0⟩ kp g
 ·rw[Ag h.ne];exact AC B
 ·have a:=h2.lat t (Lat.upd f r0 (.cells q0 e0 [d]) (P:=λu=>u=r0) rfl) (λu c=>(k u c).1);exact a.lat (Bm t) (Lat.upd _ s _ (P:=λu=>u=s) rfl) (λu c=>(k u c).2.1)
 ·exact Fl D
 ·have Y:=h.w0.lt c;have b1:=h.r0n;have b2:=h.sn;exact kp u y (by omega) (by omega) (λhv=>by have:=(h.new u hv).2.2;omega) (h.keep u y c)
def Coll.it{H0 H:Hp}{r0 s e0 it:Nat}{q0:Bool}{c6 v:AV}{l:List Ha}(h:Coll H0 r0 s q0 e0 c6 l v H)(y:Row)(h1:it≠r0/\it≠s/\Ar H0<=it)(h2:¬A8 v it):Coll H0 r0 s q0 e0 c6 l v (upd H it y):=
 ⟨by rw[Ag h1.1.symm];exact h.at_,h.sl.lat h.wf (Lat.upd H it y (P:=λu=>u=it) rfl) (λu a e=>h2 (e▸a)),by rw[Ag h1.2.1.symm];exact h.lp,h.new,Bm h.wf,λu z a=>by rw[Ag (by have:=h.w0.lt a;omega)];exact h.keep u z a,h.ne,h.r0n,h.sn,h.w0⟩
def LY{r:Nat}{x:Row}{es:IH}{o:Option (Value×AV)}(h:Ah H r=some x):Ah (upd H r (.iter es o)) r=some (.iter es o):=(BC h).trans rfl
def B5w{H0:Hp}{r0 s e0 it:Nat}{c6 w:AV}{t:Ru}(M:Vo 6 w w=true)(r:ks.length<1000000)(i:∀l v H,l.Perm ks->(l=[]->v=Aw)->Coll H0 r0 s q0 e0 c6 l v H->t H=some (w,[]))(c:it≠r0/\it≠s/\Ar H0<=it):
 ∀(f:Nat)(es:List (Ha×Unit))(l:List Ha)(v:AV)(H:Hp)(o:Option (Value×AV)),es.length<f->(l++es.map Prod.fst).Perm ks->(l=[]->v=Aw)->Coll H0 r0 s q0 e0 c6 l v H->¬A8 v it->Ah H it=some (.iter (Dd uS es) o)->
 DG (L+20) (r! L (n+1)) K t f (.yl s) (.it it) H=some (w,[]):=by
 intro f
 induction f with
 |zero=>intro es l v H o h;omega
 |succ f ih=>
  intro es l v H o D p C hc hv q;rw[Jq];unfold DH;refine YU (f:=uS) M q (λe=>?_) (λa e b he=>?_)
  ·subst e;rw[Fm,AY];exact i l v H (by simpa using p) C hc
  ·subst he;have g:=hc.it (.iter (Dd uS (a++b)) (some (.string ⟨⟨e.1⟩⟩,uS e.2))) c hv;have d:=LY (es:=Dd uS (a++b)) (o:=some (.string ⟨⟨e.1⟩⟩,uS e.2)) q;have k:(l++(a++e::b).map Prod.fst).length=ks.length:=p.length_eq;simp at k;have y:uJ (.string ⟨⟨e.1⟩⟩)=S e.1:=rfl;rw[Fm,Cy,NW d,Fm,y];refine U! g (by omega) λN u j F hr=>?_;rw[DK];show A2 (.v (.bool false)) _ _=_;rw[AY];refine ih (a++b) (l++[e.1]) N u _ (by simp at D⊢;omega) ?_ (by simp) j (λJ=>?_) (F it _ c.1 c.2.1 hv d)
   ·refine List.Perm.trans ?_ p;simp only[dW,X0,eI];refine List.Perm.append_left l ?_;show(e.1::(a.map Prod.fst++b.map Prod.fst)).Perm _;exact List.perm_middle.symm
   ·have A:=hr it J;have B:=g.wf.lt d;rw[B9]at A B;omega
end
abbrev jK(c:AV):AV:=.fn (.func FE) [] [c]
section
variable{K:KV}{w:AV}{H0:Hp}{m rb:Nat}{es:List (Ha×Unit)}
def C2A(es:List (Ha×Unit)):(Dd uS es).all (λp=>dA 3 p.2)=true:=by
 rw[G9];intro p a;obtain⟨e,_,rfl⟩:=Pu.1 a;rfl
def tC(N:Vo 6 w w=true)(hn:es.length<1000000)(R:es.length<L)(wf:Wf H0)(hb:Ah H0 rb=some (c_ BX [.mp m]))(hm:Ah H0 m=some (.map false (Dd uS es) none))(O:∀l v H,l.Perm (es.map Prod.fst)->(l=[]->v=Aw)->NewSl (upd H0 m .gone) l v H->K v H=some (w,[])):
 (r! L (n+4)).call EK [jK (.ptr rb 0 0)] H0 K=some (w,[]):=by
 rw[GG];unfold EJ;rw[DJ];unfold CD;simp only[BF];rw[oG (by rfl),Wt,Jz];unfold DP;simp only[BF];have w1:=AG (x:=.cells true A7 [Aw]) wf;have g:=Ay (H:=H0) (x:=.cells true A7 [Aw]) (by simp);have J:Ar ((Ar H0,c_ A7 [Aw])::H0)=Ar H0+1:=rfl;have A:Wf ((Ar H0+1,Oi (.ptr (Ar H0) 0 0) (jK (.ptr rb 0 0)) (some none))::(Ar H0,c_ A7 [Aw])::H0):=AG (x:=Oi (.ptr (Ar H0) 0 0) (jK (.ptr rb 0 0)) (some none)) w1;have k:Ah ((Ar H0+1,Oi (.ptr (Ar H0) 0 0) (jK (.ptr rb 0 0)) (some none))::(Ar H0,c_ A7 [Aw])::H0) (Ar H0+1)=some (Oi (.ptr (Ar H0) 0 0) (jK (.ptr rb 0 0)) (some none)):=Ay (H:=((Ar H0,c_ A7 [Aw])::H0)) (x:=Oi (.ptr (Ar H0) 0 0) (jK (.ptr rb 0 0)) (some none)) (by simp[Oi]);have ol:∀u y,Ah H0 u=some y->Ah ((Ar H0+1,Oi (.ptr (Ar H0) 0 0) (jK (.ptr rb 0 0)) (some none))::(Ar H0,c_ A7 [Aw])::H0) u=some y:=λu y c=>by
  have a1:=A6 (x:=.cells true A7 [Aw]) (wf.lt c) c;exact A6 (w1.lt a1) a1
 show AE CM (.ptr rb 0 0) ((Ar H0+1,Oi (.ptr (Ar H0) 0 0) (jK (.ptr rb 0 0)) (some none))::(Ar H0,c_ A7 [Aw])::H0) _=_;rw[AL (p:=0) rfl (ol _ _ hb) (by simp)];show XP (.mp m) ((Ar H0+1,Oi (.ptr (Ar H0) 0 0) (jK (.ptr rb 0 0)) (some none))::(Ar H0,c_ A7 [Aw])::H0) _=_;rw[A6C (ol _ _ hm) (C2A es)];have mlt:=wf.lt hm;have D:Wf (upd H0 m .gone):=Bm wf;have j:Ah ((Ar H0+1,Oi (.ptr (Ar H0) 0 0) (jK (.ptr rb 0 0)) (some none))::(Ar H0,c_ A7 [Aw])::H0) (Ar H0)=some (c_ A7 [Aw]):=A6 (w1.lt g) g;generalize q:((Ar H0+1,Oi (.ptr (Ar H0) 0 0) (jK (.ptr rb 0 0)) (some none))::(Ar H0,c_ A7 [Aw])::H0:Hp)=d at A k ol j;have i:Ar d=Ar H0+2:=by rw[<-q];rfl
 have B:Wf (upd d m .gone):=Bm A;have r:Ar (upd d m .gone)=Ar H0+2:=by rw[B9,i]
 have C:=AG (x:=.iter (Dd uS es) none) B;have up:∀u y,u≠m->Ah d u=some y->Ah ((Ar d,Row.iter (Dd uS es) none)::upd d m .gone) u=some y:=λu y c Q=>by
  have a:Ah (upd d m .gone) u=some y:=by rw[Ag c];exact Q
  have b:=A6 (x:=.iter (Dd uS es) none) (B.lt a) a;rw[r,<-i]at b;exact b
 have t:Ah ((Ar d,Row.iter (Dd uS es) none)::upd d m .gone) (Ar d)=some (.iter (Dd uS es) none):=by
  have:=Ay (H:=upd d m .gone) (x:=.iter (Dd uS es) none) (by simp);rw[B9]at this;exact this
 rw[B9]at C;refine B5w (n:=n) (H0:=upd H0 m .gone) (r0:=Ar H0) (s:=Ar H0+1) (it:=Ar d) (q0:=true) (e0:=A7) (c6:=jK (.ptr rb 0 0)) (ks:=es.map Prod.fst) N (by simpa using hn) ?_ (by rw[B9];omega) (L+20) es [] Aw _ none (by omega) (by simp) (λ_=>rfl)
  ⟨up _ _ (by omega) j,.inl ⟨rfl,rfl,rfl⟩,up _ _ (by omega) k,λu ⟨_,_,_,h⟩=>(by cases h),C,λu y c=>?_,by omega,by rw[B9];omega,by rw[B9];omega,D⟩ (λ⟨_,_,_,h⟩=>(by cases h)) t
 ·intro l v H M F hc;show IP H (Ar H0+1) _=_;rw[Bl hc.lp];show LJ H (Ar H0+1) .gone _=_;rw[Dh];have hr:Ah (upd H (Ar H0+1) .gone) (Ar H0)=some (c_ A7 [v]):=by rw[Ag (by omega)];exact hc.at_
  show AE Ac (.ptr (Ar H0) 0 0) (upd H (Ar H0+1) .gone) _=_;rw[AL (p:=0) rfl hr (by simp)];refine O _ _ _ M F ⟨?_,λu c=>(hc.new u c).2.2,Bm hc.wf,λu y c=>?_,?_⟩
  ·exact hc.sl.lat hc.wf (Lat.upd H _ _ (P:=λu=>u=Ar H0+1) rfl) (λu c=>(hc.new u c).2.1)
  ·have:=D.lt c;rw[B9]at this;rw[Ag (by omega)];exact hc.keep u y c
  ·rw[B9,B9];have:=hc.wf.lt hc.at_;omega
 ·have f:u≠m:=λe=>by
   subst e;rw[BC hm]at c;cases c
  rw[Ag f]at c;exact up u y f (ol u y c)
def S?{x:Af}{ps:List Ha}(wf:Wf H0)(hn:ps.length<1000000000)(C:ps=[]->v=Aw)(c:NewSl H0 ps v H)(t:∀d,NewSl H0 (Eu ps) v d->K (.tup []) d=x):
 (r! L (n+4)).call AM [v] H K=x:=by
 by_cases b:ps=[]
 ·subst b;obtain rfl:=C rfl;have e:(r! L (n+4)).call AM [Aw] H K=K (.tup []) H:=by kernel_rfl
  rw[e];exact t H c
 have p:=(Bb ps).length_eq;rcases c.sl with⟨_,h,_⟩|⟨r,q,rfl,k,hc⟩
 ·exact absurd (gM h) b
 ·have A:∀K,(r! L (n+4)).call AM [.sl 1 r 0 ps.length] H K=TR [.sl 1 r 0 ps.length] H K (ZA (E (L+20)) (nT (L+20)) (r! L (n+3)) AM [.sl 1 r 0 ps.length] H K):=λK=>rfl;rw[A];have j:∀(l:List Ha),V0 (AF l)=some l:=λl=>by
   induction l with
   |nil=>rfl
   |cons a l ih=>show(V0 (AF l)).map _=_;rw[ih];rfl
  have s:0<ps.length:=List.length_pos_iff.2 b;have B:∀alt K,TR [.sl 1 r 0 ps.length] H K alt=Ey 0 (AF (Eu ps)) (AF ps) λi=>LJ H r (.cells q Au i) λd=>K (.tup []) d:=λalt K=>by
   unfold TR;simp only[k,qV];rw[l25 (by rw[Be];omega),j];have g:(Nat.beq ps.length ps.length&&(Nat.blt ps.length 4611686018427387904&&Nat.blt 0 ps.length))=true:=by simp;omega
   simp only[g];rfl
  rw[B,It _ _ _ _ (by rw[Be,Be];omega),Wr _ _ (by rw[Be,Be];exact p),Dh];refine t _ ⟨.inr ⟨r,q,by rw[p],AC k,by rw[Be];omega⟩,λu f=>c.new u f,Bm c.wf,λu y f=>?_,by rw[B9];exact c.nx⟩;have a1:=wf.lt f;have a2:=c.new r ⟨1,0,ps.length,rfl⟩;rw[Ag (by omega)];exact c.keep u y f
def A57{ty m:Nat}:FV ty (.mp m) H K=K (.ptr (Ar H) 0 0) ((Ar H,c_ ty [.mp m])::H):=by
 unfold FV;rw[CP,FM,BS];rfl
def oP(q:Vo 6 w w=true)(hn:es.length<1000000)(j:es.length<L)(wf:Wf H0)(hm:Ah H0 m=some (.map false (Dd uS es) none))(f:(es.map Prod.fst).Perm ks)(p:ks.Pairwise (· <= ·))(r:∀v H,Bp H Au 1 v ks.length (AF ks)->(ks=[]->v=Aw)->K v H=some (w,[])):(r! L (n+6)).call GZ [.mp m] H0 K=some (w,[]):=by
 rw[QI];unfold K9;rw[Gn];unfold Dt Ih;have i:∀{K:KV},FV BX (.mp m) H0 K=K (.ptr (Ar H0) 0 0) ((Ar H0,c_ BX [.mp m])::H0):=λ{K}=>A57;rw[i];show(r! L (n+5)).call D9 [jK (.ptr (Ar H0) 0 0)] ((Ar H0,c_ BX [.mp m])::H0) _=_;rw[Fw];unfold Eo;have w1:=AG (x:=.cells true BX [.mp m]) wf;have hb:=Ay (H:=H0) (x:=.cells true BX [.mp m]) (by simp);have b:=A6 (x:=.cells true BX [.mp m]) (wf.lt hm) hm;refine tC (n:=n) q hn j w1 hb b λl v H c d hc=>?_;have e:Eu l=ks:=FZ ((Bb l).trans (c.trans f)) (Da l) p;have k:l.length=es.length:=by rw[c.length_eq,QK]
 refine S? (n:=n) (Bm w1) (by omega) d hc λg a=>?_;rw[e]at a;refine r v g a.sl λh=>d ?_;have:=(c.trans f).length_eq;rw[h]at this;exact gM this
end
end
section
variable{q:Bool}{H:Hp}{e i r:Nat}{R:Rt}
variable{L n:Nat}{K:KV}{x:Af}
def iH{ty:TI}{K:K2}(a:0<i)(h:i<1000000000):Aq ty .sub (I i) (.v (.int .i64 1)) K=K (I ((i-1:Nat):Int)):=by
 rw[Le,CX (by omega) (by omega)];have:(i:Int)-1=((i-1:Nat):Int):=by omega
 rw[this]
def A0i{l:List Ha}{K:K2}(a:Ah H r=some (.cells q e (AF l)))(h:i<l.length):AE Ai (.ptr r i 0) H K=K (S l[i]):=by
 rw[AL (p:=i) rfl a (by rw[Be];exact h),PK h]
def RM{r i m:Nat}{K:K2}(h:i<m):D4 Ac (.sl 1 r 0 m) (I i) K=K (.ptr r i 0):=by
 rw[A0j rfl (by omega) (by omega),kY]
def C1A{c:KV}{l:List Ha}(b:Ah H r=some (.cells q e (AF l)))(hn:l.Nodup)(hb:l.length<1000000000):∀(f i:Nat)(v w:AV),1<=i->i<=l.length->l.length-i<f->
 El (L+20) R K c f (.sl 1 r 0 l.length) (I i) v w H=c (.sl 1 r 0 l.length) H:=by
 intro f
 induction f with
 |zero=>intro i v w _ _ h;omega
 |succ f ih=>
  intro i v w h1 hi d;rw[Ix];unfold Em Kx A4;have el:∀K,Ba Ac (.sl 1 r 0 l.length) K=K (I l.length):=λK=>id rfl;rw[el];by_cases h:i<l.length
  ·rw[XA2 (by omega),Cy,RM h,B1,A0i b h,B1,iH (by omega) (by omega),B1,RM (by omega),B1,A0i b (by omega),B1,MA];have a:l[i]≠l[i-1]:=λe=>by
    have:=(List.getElem_inj (h₀:=h) (h₁:=by omega) hn).1 e;omega
   rw[Ir a,B1,AY,CW (by omega)];exact ih (i+1) _ _ (by omega) (by omega) (by omega)
  ·rw[Fk (by omega),AY]
def A7n{l:List Ha}(b:Ah H r=some (.cells q e (AF l)))(hn:l.Nodup)(hb:l.length<1000000000)(c:l.length<L):
 (r! L (n+1)).call Cx [.sl 1 r 0 l.length] H K=K (.sl 1 r 0 l.length) H:=by
 rw[IF];unfold Ew A4;simp only[BF];have el:∀K,Ba Ac (.sl 1 r 0 l.length) K=K (I l.length):=λK=>id rfl;rw[el];by_cases h:l.length<2
 ·rw[XA2 (by omega),Cy]
 ·rw[Fk (by omega),AY];have a:(AV.v (.int .i64 1))=I ((1:Nat):Int):=rfl;rw[a,C1A b hn hb _ 1 _ _ (by omega) (by omega) (by omega)]
def C2u{s:Ha}(h:s.length=32):PS (r! L (n+1)) Ev [S s] (Bo false):=by
 refine CS.ps (λK a=>?_) (λH=>λK=>by kernel_rfl);rw[Qe];unfold Ip Ih;rw[Qt rfl,h,I2];exact a _ _ (λb=>⟨false,λK=>by kernel_rfl⟩)
abbrev B2Q:AV:=.fn (.func Ev) [] []
def C0N{a:Ru}{ps:List Ha}(hb:ps.length<1000000000)(c:∀s∈ps,s.length=32):∀(f i:Nat),i<=ps.length->ps.length-i<f->
 DR (L+20) (r! L (n+1)) K a f (Ls ps) B2Q (I ps.length) (I i) H=a H:=by
 intro f
 induction f with
 |zero=>intro i _ h;omega
 |succ f ih=>
  intro i hi d;rw[Hy];unfold DS Ia A4;by_cases h:i<ps.length
  ·rw[XA2 (by omega),Cy,Tx h,JS];have b:∀K,CH (E (L+20)) (r! L (n+1)) B2Q [S ps[i]] H K=Ap (r! L (n+1)) Ev [S ps[i]] H λv=>K v H:=λK=>by kernel_rfl
   rw[b,C2u (c _ (Ql h)),AY,CW (by omega)];exact ih (i+1) (by omega) (by omega)
  ·rw[Fk (by omega),AY]
def A9N{ps:List Ha}(hb:ps.length<1000000000)(f:ps.length<L)(d:∀s∈ps,s.length=32):CS (r! L (n+3)) B8 [Ls ps,B2Q] (Bo false):=by
 intro K a;rw[GK];unfold D8 LF;have hi:CS (r! L (n+2)) Ed [Ls ps,B2Q] (I (-1)):=by
  intro K a;rw[HZ];unfold Ec A4;simp only[BF];have c:(AV.v (.int .i64 0))=I ((0:Nat):Int):=rfl;rw[Nk,c,C0N hb d _ 0 (by omega) (by omega)];exact a _ _ (λb=>⟨false,λK=>by kernel_rfl⟩)
 rw[AO (q:=false) hi (λK=>by kernel_rfl),Mi];exact a _ _ (λb=>⟨false,λK=>by kernel_rfl⟩)
def Iw{f:Nat}{args args':Is}{v:AV}{K:K2}(hc:∀K:KV,(∀a b,(∃q,Fx true depth a v b q)->K a b=some (v,[]))->R.call f args' [] K=some (v,[]))(g:RZ true depth args args' H false):Ap R f args H K=K v:=by
 unfold Ap;rw[g];have:=hc (λa c=>HU (!false) c depth a λ_ j=>some (j,[])) (λa b h=>by
  have⟨k,d⟩:=h;exact d _)
 rw[this];rfl
def zQ{ps:List Ha}(hn:ps.Nodup)(w:1<=ps.length)(hb:ps.length<=6)(y:10<L)(p:∀s∈ps,s.length=32):
 CS (r! L (n+6)) JR [Ls ps] (Bo true):=by
 intro K d;rw[Td];unfold JM D5 A4 FW;have hv:∀K,Ap (r! L (n+5)) Gu [Ls ps] [] K=K (A9S ps):=λK=>by
  refine Iw (args':=[Ls ps]) (λK d=>?_) (λK=>by kernel_rfl);rw[Ny];unfold Gf Ih;rw[C1p];exact d _ _ ⟨true,λK=>by kernel_rfl⟩
 rw[hv];refine A9p (n:=n) (by omega) (by omega) (by omega) Ft λv H t=>?_;have k:=(Bb ps).length_eq;rcases t.sl with⟨_,h,_⟩|⟨r,q,rfl,hr,hc⟩
 ·omega
 rw[Nk,iA (n:=n+4) (by omega) (by omega)];have g:∀(x:Bool->Af),gdV true (Bo true) x=x true:=λx=>id rfl;have c:∀{v:AV}{H:Hp}{K:KV},Ei (some (v,H)) K=K v H:=id rfl;have pk:∀{a b:AV}{K:K2},Cj (Bo true) a b K=K a:=id rfl;have u:∀{K:K2},MJ .not (Bo false) K=K (Bo true):=id rfl;simp only[g,c];have f:∀K,Ap (r! L (n+5)) B8 [Ls ps,B2Q] H K=K (Bo false):=λK=>AO (q:=false) (A9N (n:=n+2) (by omega) (by omega) p) (λK=>by kernel_rfl);have el:∀m K,Ba Ac (.sl 1 r 0 m) K=K (I m):=λm K=>id rfl;have j:∀K,(r! L (n+5)).call Cx [.sl 1 r 0 ps.length] H K=K (.sl 1 r 0 ps.length) H:=λK=>by
  have:=A7n (K:=K) (L:=L) (n:=n+4) hr ((Bb ps).nodup_iff.2 hn) (by omega) (by omega);rw[k]at this;exact this
 simp only[f,u,c,pk,g,j,el,Nk,CV,k,decide_true];exact d _ _ (λb=>⟨false,λK=>by cases b<;>kernel_rfl⟩)
end
section
variable{a b:Int}
def dig(k:Nat):Ha:=if k<10 then[UInt8.ofNat (48+k)] else[UInt8.ofNat (48+k/10),UInt8.ofNat (48+k%10)]
def dec(z:Int):Ha:=if z<0 then 45::dig z.natAbs else dig z.natAbs
def qn(z:Int):Ha:=dec (if z%4=0 then z/4 else if z%2=0 then z/2 else z)
def qd(z:Int):Ha:=if z%4=0 then[49] else if z%2=0 then[50] else[52]
abbrev qa(z:Int):Is:=[S (qn z),S (qd z)]
def B1Q{p:Int->Bool}(h:((List.range (b-a).toNat).all λk=>p ((k:Int)+a))=true){z:Int}(h1:a<=z)(h2:z<b):p z=true:=by
 have:=G9.1 h (z-a).toNat (Lf.2 (by omega));have e:(((z-a).toNat:Nat):Int)+a=z:=by omega
 simp only[e]at this;exact this
def A7H{L m f:Nat}{args:Int->Is}{val:Int->AV}(c:∀z H,RZ true depth (args z) (args z) H false)(h:((List.range (b-a).toNat).all λk=>JY (Bj (Dz (rt L m) f (args ((k:Int)+a))) (val ((k:Int)+a))))=true){z:Int}(h1:a<=z)(h2:z<b):PS (rt L m) f (args z) (val z):=
 BM (c z) (B1Q (p:=λz=>JY (Bj (Dz (rt L m) f (args z)) (val z))) h h1 h2)
def YJ{z:Int}(h1: -80<=z)(h2:z<81):(qn z).length<4:=by
 have:=B1Q (p:=λz=>decide ((qn z).length<4)) (a:= -80) (b:=81) (by kernel_rfl) h1 h2;simpa using this
def YK(z:Int):(qd z).length=1:=by unfold qd;split<;>(try split)<;>rfl
def C3b{z:Int}(h1: -80<=z)(h2:z<81)(h:z≠0):qn z≠[48]:=by
 have:=B1Q (p:=λz=>decide (z=0\/qn z≠[48])) (a:= -80) (b:=81) (by kernel_rfl) h1 h2;simpa [h] using this
end
section
variable{L n:Nat}
def B0D{z:Int}(h1: -80<=z)(h2:z<81):PS (r! L (n+40)) Gx [I z,I 4] (.tup [.agg (qa z),I 0]):=
 A7H (args:=λz=>[I z,I 4]) (val:=λz=>.tup [.agg (qa z),I 0]) (a:= -80) (b:=81) (λz H K=>by kernel_rfl) (by kernel_rfl) h1 h2
def tY{z:Int}(h1: -80<=z)(h2:z<81):PS (r! L (n+40)) F6 [.agg (qa z)] (Bo true):=
 A7H (args:=λz=>[.agg (qa z)]) (val:=λz=>Bo true) (a:= -80) (b:=81) (λz H K=>by kernel_rfl) (by kernel_rfl) h1 h2
def C02{z:Int}(h1:0<=z)(h2:z<9):PS (r! L (n+40)) Rl [.agg (qa z),.agg [S [48],S [49]]] (I (if z=0 then 0 else 1)):=
 A7H (args:=λz=>[.agg (qa z),.agg [S [48],S [49]]]) (val:=λz=>I (if z=0 then 0 else 1)) (a:=0) (b:=9) (λz H K=>by kernel_rfl) (by kernel_rfl) h1 h2
def A1B{z:Int}(h1:0<=z)(h2:z<1):PS (r! L (n+40)) MX [I z] (.agg [S [48],S [49]]):=
 A7H (args:=λz=>[I z]) (val:=λz=>.agg [S [48],S [49]]) (a:=0) (b:=1) (λz H K=>by kernel_rfl) (by kernel_rfl) h1 h2
end
section
variable{q:Bool}{y:Bool->Af}{H:Hp}{i:Nat}{t:TI}{α:Type}
variable{L n:Nat}
def jW(f:α->Is)(w:Nat)(b:∀x,(f x).length=w):∀l:List α,(l.flatMap f).length=l.length*w:=by
 intro l
 induction l with
 |nil=>simp
 |cons a l ih=>simp[ih,b,l1e,Nat.add_comm]
def vX(f:α->Is)(w:Nat)(b:∀x,(f x).length=w):∀(l:List α)(i:Nat)(h:i<l.length),((l.flatMap f).drop (i*w)).take w=f l[i]:=by
 intro l
 induction l with
 |nil=>intro i h;simp at h
 |cons a l ih=>
  intro i h;cases i with
  |zero=>
   simp only[nM,Nat.zero_mul,qV,List.getElem_cons_zero];rw[l32 (by rw[b];omega),l25 (by rw[b];omega)]
  |succ i=>
   simp only[nM,List.getElem_cons_succ];have:(i+1)*w=(f a).length+i*w:=by rw[b,l1e];omega
   rw[this,List.drop_append,List.drop_of_length_le (by omega),l3b,Nat.add_sub_cancel_left];exact ih i (by simpa using h)
def Z5{e w:Nat}{f:α->Is}{l:List α}{K:K2}(g:t.d=.slice e w)(p:∀x,(f x).length=w)(h:i<l.length):D4 t (.list l.length (l.flatMap f)) (I i) K=K (.iptr (f l[i])):=by
 have j:D4 t (.list l.length (l.flatMap f)) (I (i:Int)) K=iN (i:Int) λm=>ck (Nat.blt m l.length) (To w (Dn (Nat.mul m w) (l.flatMap f)) λc=>K (.iptr c)):=by
  have⟨a,b,d,z⟩:=t;simp only at g;subst g;rfl
 rw[j,JU,CA,OY];have k:Nat.blt i l.length=true:=by rw[Wg];exact h
 rw[k];show K (.iptr (((l.flatMap f).drop (i*w)).take w))=_;rw[vX f w p l i h]
def DD{r p e:Nat}{cs:Is}{K:K2}(h:t.d.isAgg=true)(a:Ah H r=some (.cells q e cs))(b:p+t.size<=cs.length):AE t (.ptr r p 0) H K=K (.agg ((cs.drop p).take t.size)):=by
 have:AE t (.ptr r p 0) H K=IP H r λx=>Kb x λ_ cs=>@Bool.rec (λ_=>Af) (hdK (Dn (Nat.add p 0) cs) K) (E9 t.size (Dn (Nat.add p 0) cs) λc=>K (.agg c)) t.d.isAgg:=rfl;rw[this,h,Bl a];show E9 t.size (Dn p cs) _=_;rw[CA,Km _ _ _ (by simp;omega)]
abbrev eO:=List (Int×Int)
def NO(t:Int×Int):Is:=[I t.1,S (qn t.2),S (qd t.2)]
def E4(ts:eO):AV:=match ts with
 |[]=>Aw
 |t::ts=>.list (t::ts).length ((t::ts).flatMap NO)
structure TmsOk(ts:eO):Prop where
 len:ts.length<=6
 rng:∀t∈ts,1<=t.1/\t.1<=100/\ -8<=t.2/\t.2<=8/\t.2≠0
 asc:ts.Pairwise λa b=>a.1<b.1
def Hv(ts:eO):Sl (E4 ts):=by
 cases ts with
 |nil=>exact .inl rfl
 |cons t ts=>exact .inr ⟨_,_,rfl⟩
def MZ{ts:eO}{K:K2}:Ba A1 (E4 ts) K=K (I ts.length):=by cases ts<;>exact id rfl
def B46{ts:eO}(h:i<ts.length):E4 ts=.list ts.length (ts.flatMap NO):=by
 cases ts with
 |nil=>simp at h
 |cons t ts=>rfl
def Ue{ts:eO}{K:K2}(h:i<ts.length):D4 A1 (E4 ts) (I i) K=K (.iptr (NO ts[i])):=by
 rw[B46 h];exact Z5 (f:=NO) rfl (λ_=>rfl) h
def C6d{a b c d:Ha}{K:K2}:Vg JA .eql (.agg [S a,S b]) (.agg [S c,S d]) K=K (Bo (decide (a=c)&&decide (b=d))):=by
 have e:Vg JA .eql (.agg [S a,S b]) (.agg [S c,S d]) K=(match(generalizing:=false) (some (eqB a c&&(eqB b d&&true)):Option Bool),BinOp.eql with
  |some q,.eql=>bB q K
  |some q,.neq=>bB (!q) K
  |_,_=>none):=rfl
 rw[e];show bB _ K=_;rw[NY,Rm,Rm,l1g];have h1:∀(x y:Ha),(x==y)=decide (x=y):=λx y=>by by_cases h:x=y<;>simp[h]
 rw[h1,h1]
section
variable{K:KV}{x:Af}{ca cb ra rb:Ha}{ts:eO}
def gT:gdV q (.v (.bool q)) y=y true:=by cases q<;>exact id rfl
def dY:gdV true (.v (.bool false)) y=y false:=id rfl
def F!:gdV false (.v (.bool true)) y=y false:=id rfl
def BK{v:AV}:Ei (some (v,H)) K=K v H:=id rfl
def SJ{a b:AV}{K:K2}:Cj (.v (.bool true)) a b K=K a:=id rfl
def QA{a b:AV}{K:K2}:Cj (.v (.bool false)) a b K=K b:=id rfl
def ntT{K:K2}:MJ .not (.v (.bool true)) K=K (Bo false):=id rfl
def ntF{K:K2}:MJ .not (.v (.bool false)) K=K (Bo true):=id rfl
abbrev A2m(ca cb ra rb:Ha)(ts:eO):Row:=.cells true Ek [S ca,S cb,E4 ts,S ra,S rb]
def C31{j:Ru}{r0:Nat}(u:TmsOk ts)(M:∀H,j H=x):∀(f i:Nat)(H:Hp),i<=ts.length->ts.length-i<f->Ah H r0=some (A2m ca cb ra rb ts)->Wf H->
 Sy (L+20) (r! L (n+41)) K j f (.ptr r0 0 0) (I i) H=x:=by
 intro f
 induction f with
 |zero=>intro i H _ h;omega
 |succ f ih=>
  intro i H hi R m w;have hb:=u.len;rw[mA];unfold Sz DN Ia D5 Fg A4 Ks FW;have f2:∀K:K2,CI 2 (.ptr r0 0 0) K=K (.ptr r0 2 0):=λK=>id rfl;have F:∀K,AE A1 (.ptr r0 2 0) H K=K (E4 ts):=λK=>AL (p:=2) rfl m (by simp);rw[f2,F,MZ];by_cases h:i<ts.length
  ·rw[XA2 (by omega),Cy,f2,F,Ue h];have hr:=u.rng _ (Ql h);have lt:∀H K,AE BJ (.iptr (NO ts[i])) H K=K (.agg (NO ts[i])):=λH K=>id rfl;rw[lt,Bv (cs:=[zI,zS,zS]) rfl];have g:=Ay (H:=H) (x:=.cells true Bf [zI,zS,zS]) (by simp);rw[BO (vs:=NO ts[i]) g rfl rfl rfl];have b:=AC (q:=true) (e:=Bf) (cs:=NO ts[i]) g;have s:=w.lt m;have a:Ah (upd ((Ar H,c_ Bf [zI,zS,zS])::H) (Ar H) (c_ Bf (NO ts[i]))) r0=some (A2m ca cb ra rb ts):=by
    rw[Ag (by omega)];exact A6 s m
   have w1:=Bm (r:=Ar H) (y:=.cells true Bf (NO ts[i])) (AG (x:=.cells true Bf [zI,zS,zS]) w);generalize upd ((Ar H,c_ Bf [zI,zS,zS])::H) (Ar H) (c_ Bf (NO ts[i]))=c at b a w1;generalize Ar H=r at b;have C:∀K:K2,CI 1 (.ptr r 0 0) K=K (.ptr r 1 0):=λK=>id rfl;have B:∀K:K2,CI 0 (.ptr r 0 0) K=K (.ptr r 0 0):=λK=>id rfl;have m1:∀K,AE A3 (.ptr r 1 0) c K=K (.agg (qa ts[i].2)):=λK=>DD (p:=1) rfl b (show 3<=3 from MC _);have m0:∀K,AE Ad (.ptr r 0 0) c K=K (I ts[i].1):=λK=>AL (p:=0) rfl b (show 0<3 by decide);have Q:∀K,AE A1 (.ptr r0 2 0) c K=K (E4 ts):=λK=>AL (p:=2) rfl a (by simp);rw[C,m1,tY (n:=n+1) (by omega) (by omega)];have hq:=C3b (by omega) (by omega) hr.2.2.2.2;have J:∀H K,Ap (r! L (n+41)) MX [.v (.int .i64 0)] H K=K (.agg [S [48],S [49]]):=λH K=>A1B (z:=0) (n:=n+1) (by decide) (by decide) H K;have i1:∀K,Aq Ad .lss (I ts[i].1) (.v (.int .i64 1)) K=K (Bo false):=λK=>Fk (by omega);have i2:∀K,Aq Ad .gtr (I ts[i].1) (.v (.int .i64 1000000)) K=K (Bo false):=λK=>by rw[Eh,Ir (by omega)]
   simp only[ntT,B1,gT,C,m1,BK,J,C6d,hq,decide_false,Bool.false_and,QA,B,m0,i1,i2];by_cases k:0<i
   ·have A:∀K,Aq Ad .gtr (I (i:Int)) (.v (.int .i64 0)) K=K (Bo true):=λK=>by rw[Eh,Hu (by omega)]
    have d:i-1<ts.length:=by omega
    have N:∀K:K2,CI 0 (.iptr (NO ts[i-1])) K=K (.iptr (NO ts[i-1])):=λK=>id rfl;have O:∀K,AE Ad (.iptr (NO ts[i-1])) c K=K (I ts[i-1].1):=λK=>id rfl;have D:ts[i-1].1<ts[i].1:=(l26.1 u.asc) (i-1) i d h (by omega);have P:∀K,Aq Ad .geq (I ts[i-1].1) (I ts[i].1) K=K (Bo false):=λK=>by rw[Mi,Ir (by omega)]
    simp only[A,B1,BK,gT,f2,Q,iH k (by omega:i<1000000000),Ue d,N,O,B,m0,P,SJ,QA];rw[AY,CW (by omega)];exact ih (i+1) c (by omega) (by omega) a w1
   ·have A:∀K,Aq Ad .gtr (I (i:Int)) (.v (.int .i64 0)) K=K (Bo false):=λK=>by rw[Eh,Ir (by omega)]
    simp only[A,B1,BK,gT,dY,SJ,QA];rw[AY,CW (by omega)];exact ih (i+1) c (by omega) (by omega) a w1
  ·rw[Fk (by omega),AY];exact M H
def uB{c r:Int}(j: -80<=c)(k:c<=80)(m:0<=r)(s:r<=8)(A:10<L)(d:TmsOk ts):CS (r! L (n+42)) JP [.agg (NU (qn c) (qd c) (E4 ts) (qn r) (qd r))] (Bo true):=by
 intro K h;have hb:=d.len;rw[qG];unfold UM DN Fg A4 Ks FW;rw[DZ (by cases ts<;>rfl)];have a:=Ay (H:=[]) (x:=A2m (qn c) (qd c) (qn r) (qd r) ts) (by simp);have w0:Wf [(Ar [],A2m (qn c) (qd c) (qn r) (qd r) ts)]:=AG Ft;generalize [(Ar [],A2m (qn c) (qd c) (qn r) (qd r) ts)]=H at a w0;generalize Ar []=r0 at a;have f:∀K:K2,CI 0 (.ptr r0 0 0) K=K (.ptr r0 0 0):=λK=>id rfl;have f2:∀K:K2,CI 2 (.ptr r0 0 0) K=K (.ptr r0 2 0):=λK=>id rfl;have f3:∀K:K2,CI 3 (.ptr r0 0 0) K=K (.ptr r0 3 0):=λK=>id rfl;have m0:∀K,AE A3 (.ptr r0 0 0) H K=K (.agg (qa c)):=λK=>DD (p:=0) rfl a (show 2<=5 by decide);have m3:∀K,AE A3 (.ptr r0 3 0) H K=K (.agg (qa r)):=λK=>DD (p:=3) rfl a (show 5<=5 by decide);have w:∀K,AE A1 (.ptr r0 2 0) H K=K (E4 ts):=λK=>AL (p:=2) rfl a (show 2<5 by decide);have u:∀H K,Ap (r! L (n+41)) MX [.v (.int .i64 0)] H K=K (.agg [S [48],S [49]]):=λH K=>A1B (z:=0) (n:=n+1) (by decide) (by decide) H K;rw[f,m0,tY (n:=n+1) (by omega) (by omega),f3,m3,tY (n:=n+1) (by omega) (by omega)];have h1:∀K,Ap (r! L (n+41)) Rl [.agg (qa r),.agg [S [48],S [49]]] H K=K (I (if r=0 then 0 else 1)):=λK=>C02 (n:=n+1) (by omega) (by omega) H K;have h2:∀K,Aq Ad .lss (I (if r=0 then 0 else 1)) (.v (.int .i64 0)) K=K (Bo false):=λK=>Fk (by split<;>omega);have g:∀K,Aq Ad .gtr (I (ts.length:Int)) (.v (.int .i64 64)) K=K (Bo false):=λK=>by rw[Eh,Ir (by omega)]
 simp only[ntT,B1,BK,gT,QA,f3,m3,u,h1,h2,f2,w,MZ,g,BF];rw[AY];have e:(AV.v (.int .i64 0))=I ((0:Nat):Int):=rfl;rw[e];exact C31 (n:=n) d (λH=>h _ _ (λb=>⟨false,λK=>by kernel_rfl⟩)) (L+20) 0 H (by omega) (by omega) a w0
end
end
section
variable{L n:Nat}
def B3N{z:Int}(h1:0<=z)(h2:z<9):PS (r! L (n+40)) QP [.agg (qa z)] (I (if z=0 then 0 else 1)):=
 A7H (args:=λz=>[.agg (qa z)]) (val:=λz=>I (if z=0 then 0 else 1)) (a:=0) (b:=9) (λz H K=>by kernel_rfl) (by kernel_rfl) h1 h2
def B3M{z:Int}(h1: -8<=z)(h2:z<9):PS (r! L (n+40)) Po [.agg (qa z)] (Bo (decide (z=0))):=
 A7H (args:=λz=>[.agg (qa z)]) (val:=λz=>Bo (decide (z=0))) (a:= -8) (b:=9) (λz H K=>by kernel_rfl) (by kernel_rfl) h1 h2
end
end Go.Abs
end
