import Derived.Test.YtobbbklaopaiaaaGreatDoorP10
set_option linter.all false
set_option maxHeartbeats 100000000
noncomputable section
namespace Go.Abs
open Go.RowKit Go.Proofs
set_option maxRecDepth 100000
section
variable{K:K2}{s:Ha}
def F5{a b:AV}:C9 (.tup [a,b]) 0 K=K a:=id rfl
def F4{a b:AV}:C9 (.tup [a,b]) 1 K=K b:=id rfl
def B6{i:TI}{a b:Ha}(d:a.length+b.length<9223372036854775808):Ap i .add (S a) (S b) K=K (S (a++b)):=by
 have e:Ap i .add (S a) (S b) K=Yy a b λl=>ck (Nat.blt l.length 9223372036854775808) (K (.v (.string ⟨⟨l⟩⟩))):=rfl;have c:Nat.blt (a++b).length 9223372036854775808=true:=by rw[Wr,EC];exact d
 rw[e,MK,c];rfl
def B15(f:Nat):∀z,(B16 f z).length<=f:=by
 induction f with
 |zero=>intro z;exact Me _
 |succ f ih=>
  intro z;unfold B16;split
  ·simp
  ·have:=ih (z/128);simp;omega
def T9(z:Int):(enc z).length<=9:=B15 9 _
def R?(s:Ha):Ha:=enc s.length++s
def A0P(L n:Nat)(h:s.length<390):PS (r! L (n+5)) Ox [S s] (.tup [S (R? s),I 0]):=by
 refine CS.ps (λK a=>?_) (λH=>fx1);rw[Zu];unfold NX Iu;rw[PQ rfl,Eo,FA,C5 (by simp;omega),PQ rfl,A0Q L n (by omega) (by omega),F5,F4,B6 (by have:=T9 (s.length:Int);omega)];exact a _ _ (λb=>⟨false,dR (An (q:=false) (q':=false) C7 (An (q:=false) (q':=false) C7 AK))⟩)
def A0l(L n:Nat)(h:s.length<390):PS (r! L (n+9)) PJ [S s] (.tup [S (R? s),I 0]):=by
 refine CS.ps (λK a=>?_) (λH=>fx1);rw[dE];unfold Pp Iu;rw[PQ rfl,Eo,FA,C5 (by simp;omega),PQ rfl,A0m L n (by omega) (by omega),F5,F4,B6 (by have:=T9 (s.length:Int);omega)];exact a _ _ (λb=>⟨false,dR (An (q:=false) (q':=false) C7 (An (q:=false) (q':=false) C7 AK))⟩)
end
section
variable{k:KV}{H:Hp}{i:Nat}
def Fa(l:List Int):Is:=l.map λz=>.v (.int .i64 z)
def AG(l:List Ha):Is:=l.map λs=>S s
def Jk(l:List Int):Ha:=(l.map enc).flatten
def Iz(l:List Ha):Ha:=(l.map R?).flatten
def SG{l:List Int}{k:Nat}(h:k<l.length):(Fa l).getD k .dk=I l[k]:=by
 simp[Fa,Vf,h]
def Pe{l:List Ha}{k:Nat}(h:k<l.length):(AG l).getD k .dk=S l[k]:=by
 simp[AG,Vf,h]
def F2(l:List Int):(Jk l).length<=9*l.length:=by
 induction l with
 |nil=>simp[Jk]
 |cons z l ih=>
  have:=T9 z;simp[Jk]at ih⊢;omega
def F1(l:List Ha)(h:∀s∈l,s.length<390):(Iz l).length<=400*l.length:=by
 induction l with
 |nil=>simp[Iz]
 |cons s l ih=>
  have h1:=T9 (s.length:Int);have h2:=h s (by simp);have a:=ih (λs b=>h s (by simp[b]));simp only[Iz,Xa,l1d,EC,LV,R?]at a⊢;omega
def zF(l:List Int)(h:i<l.length):Jk (l.take (i+1))=Jk (l.take i)++enc l[i]:=by
 unfold Jk;rw[lO h,Za,List.flatten_append];simp only[Xa,List.map_nil,l1d,List.flatten_nil,UC]
def zE(l:List Ha)(h:i<l.length):Iz (l.take (i+1))=Iz (l.take i)++R? l[i]:=by
 unfold Iz;rw[lO h,Za,List.flatten_append];simp only[Xa,List.map_nil,l1d,List.flatten_nil,UC]
variable{L n:Nat}{K:KV}{x:Af}
def B97{l:List Int}(m:l.length<100)(hz:∀z∈l, -10<=z/\z<1090)(d:k (S (Jk l)) H=x):
 ∀(f i:Nat),i<=l.length->l.length-i<f->Pi (L+20) (r! L (n+4)) K k f (.list l.length (Fa l)) (S (Jk (l.take i))) (I i) H=x:=by
 intro f
 induction f with
 |zero=>intro i _ h;omega
 |succ f ih=>
  intro i j g;rw[dB];unfold Pj HR A3;have c:∀K,Bm Bj (.list l.length (Fa l)) K=K (I l.length):=λK=>id rfl;rw[c,DO,FA];by_cases h:i<l.length
  ·rw[Dl (by simp;omega)];have a:=hz l[i] (PD h);have b:(Jk (l.take i)).length<=9*l.length:=by
    have:=F2 (l.take i);have e:(l.take i).length<=l.length:=by simp;omega
    omega
   rw[YD rfl (by simp[Fa]) (by omega) (by omega),jI,Ni rfl,SG h,A0Q L n a.1 a.2,F5,F4,B6 (by have:=T9 l[i];omega),<-zF l h,Do,CV (by omega) (by omega),RG];exact ih (i+1) (by omega) (by omega)
  ·rw[C5 (by simp;omega)];have:i=l.length:=by omega
   subst this;rw[vO];exact d
def yC{l:List Int}(c:l.length<100)(d:l.length<L)(hz:∀z∈l, -10<=z/\z<1090):CS (r! L (n+5)) EN [.list l.length (Fa l)] (S (Jk l)):=by
 intro K a;rw[fW];unfold Q8 A3;simp only[BJ];refine B97 c hz ?_ (L+20) 0 (by omega) (by omega);exact a _ _ (λb=>⟨false,C7⟩)
def B6Q{l:List Ha}(q:l.length<100)(hz:∀s∈l,s.length<390)(g:k (S (Iz l)) H=x):
 ∀(f i:Nat),i<=l.length->l.length-i<f->RJ (L+20) (r! L (n+5)) K k f (.list l.length (AG l)) (S (Iz (l.take i))) (I i) H=x:=by
 intro f
 induction f with
 |zero=>intro i _ h;omega
 |succ f ih=>
  intro i p m;rw[UR];unfold NK HR A3;have d:∀K,Bm Ac (.list l.length (AG l)) K=K (I l.length):=λK=>id rfl;rw[d,DO,FA];by_cases h:i<l.length
  ·rw[Dl (by simp;omega)];have b:=hz l[i] (PD h);have c:(Iz (l.take i)).length<=400*l.length:=by
    have:=F1 (l.take i) (λs e=>hz s (l2a e));have j:(l.take i).length<=l.length:=by simp;omega
    omega
   have a:(R? l[i]).length<=400:=by unfold R?;rw[EC];have:=T9 (l[i].length:Int);omega
   rw[YD rfl (by simp[AG]) (by omega) (by omega),jI,Ni rfl,Pe h,A0P L n b,F5,F4,B6 (by omega),<-zE l h,Do,CV (by omega) (by omega),RG];exact ih (i+1) (by omega) (by omega)
  ·rw[C5 (by simp;omega)];have:i=l.length:=by omega
   subst this;rw[vO];exact g
def A55{l:List Ha}(c:l.length<100)(d:l.length<L)(hz:∀s∈l,s.length<390):CS (r! L (n+6)) Hn [.list l.length (AG l)] (S (Iz l)):=by
 intro K a;rw[WZ];unfold PY A3;simp only[BJ];refine B6Q c hz ?_ (L+20) 0 (by omega) (by omega);exact a _ _ (λb=>⟨false,C7⟩)
end
section
variable{m:Nat}{p:Nat->Bool}
structure UD where
 (p0 q0 p1 q1 p2 q2 p3 q3 p4 q4 p5 q5 p6 q6:Int)
 (fn fd on od:Ha)
 (kd sc:Int)
abbrev UD.cs(u:UD):Is:=[I u.p0,I u.q0,I u.p1,I u.q1,I u.p2,I u.q2,I u.p3,I u.q3,I u.p4,I u.q4,I u.p5,I u.q5,I u.p6,I u.q6,S u.fn,S u.fd,S u.on,S u.od,I u.kd,I u.sc]
def u0:UD:=⟨0,0,0,0,0,0,0,0,0,0,0,0,0,0,[],[],[],[],0,0⟩
def nA:Ha:=[49]
def nB:Ha:=[49,48,48,48]
def nC:Ha:=[49,48,48,48,48,48,48]
def nD:Ha:=[49,48,48,48,48,48,48,48,48,48]
def uD(a b c:Int)(f d:Ha)(s:Int):UD:=⟨a,1,0,1,b,1,0,1,c,1,0,1,0,1,f,d,[48],[49],0,s⟩
def C1d:List UD:=[
 uD 1 0 0 nA nA 1,
 uD 0 1 0 nA nA 1,
 uD 1 0 0 nA nB 1,
 uD 0 0 0 nA nA 2,
 ⟨0,1,0,1,0,1,0,1,1,1,0,1,0,1,[49],[49],[53,52,54,51],[50,48],0,0⟩,
 uD 0 0 1 nA nA 1,
 uD 2 0 0 nA nA 1,
 uD 1 1 0 nA nA 1,
 uD 1 (-1) 0 nA nA 1,
 uD 2 0 0 nA nB 1,
 uD 0 0 0 nB nA 2,
 uD 1 0 1 nA nA 1,
 uD 1 0 (-1) nA nA 1,
 uD 3 0 0 nA nA 1,
 uD (-1) 0 0 nA nA 1,
 uD (-2) 0 0 nA nA 1,
 uD (-1) 1 0 nA nA 1,
 uD 0 2 0 nA nA 1,
 uD 1 1 0 nA nB 1,
 uD (-1) 1 0 nB nA 1,
 uD 0 1 1 nA nA 1,
 uD 0 1 (-1) nA nA 1,
 uD 2 1 0 nA nA 1,
 uD (-2) 1 0 nA nA 1,
 uD 0 (-1) 0 nA nA 1,
 uD 0 3 0 nA nA 1,
 uD 0 (-2) 0 nA nA 1,
 uD 0 0 0 nA nB 2,
 uD 1 (-1) 0 nA nB 1,
 uD 2 0 0 nA nC 1,
 uD 1 0 1 nA nB 1,
 uD 1 0 (-1) nA nB 1,
 uD 3 0 0 nA nB 1,
 uD (-1) 0 0 nA nB 1,
 uD (-1) 0 0 nB nA 1,
 uD 3 0 0 nA nD 1,
 uD (-2) 0 0 nC nA 1,
 uD 0 0 (-1) nA nA 1,
 uD (-1) 0 1 nA nA 1,
 uD 0 (-1) 1 nA nA 1,
 uD (-1) 0 1 nB nA 1,
 uD 0 0 2 nA nA 1,
 uD 2 0 1 nA nA 1,
 uD (-2) 0 1 nA nA 1,
 uD 0 0 3 nA nA 1,
 uD 0 0 (-2) nA nA 1,
 uD 2 (-1) 0 nA nA 1,
 uD 1 0 0 nB nA 1,
 uD 2 0 (-1) nA nA 1,
 uD 4 0 0 nA nA 1,
 uD 6 0 0 nA nA 1,
 uD (-4) 0 0 nA nA 1]
def uu(k:Nat):UD:=C1d.getD k u0
def nE:Ha:=[49,47,49,48,48,48]
def nF:Ha:=[49,47,49,48,48,48,48,48,48]
def nG:Ha:=[49,47,49,48,48,48,48,48,48,48,48,48]
def nK:Ha:=[32,107,105,110,100,32,48,32,102,97,99,116,111,114,32]
def nO:Ha:=[32,111,102,102,115,101,116,32,48]
def nR:Ha:=[114,97,116,105,111]
def nU(f t:Ha):Ha:=[100,105,102,102,101,114,101,110,99,101]++(nK++(f++(nO++(32::t))))
def B6P:List Ha:=[
 nU nA [109,94,49],
 nU nA [115,94,49],
 nU nE [109,94,49],
 nR++(nK++(nA++nO)),
 [97,98,115,111,108,117,116,101,32,107,105,110,100,32,48,32,102,97,99,116,111,114,32,49,32,111,102,102,115,101,116,32,53,52,54,51,47,50,48,32,75,94,49],
 nU nA [75,94,49],
 nU nA [109,94,50],
 nU nA [109,94,49,32,115,94,49],
 nU nA [109,94,49,32,115,94,45,49],
 nU nE [109,94,50],
 nR++(nK++(nB++nO)),
 nU nA [109,94,49,32,75,94,49],
 nU nA [109,94,49,32,75,94,45,49],
 nU nA [109,94,51],
 nU nA [109,94,45,49],
 nU nA [109,94,45,50],
 nU nA [109,94,45,49,32,115,94,49],
 nU nA [115,94,50],
 nU nE [109,94,49,32,115,94,49],
 nU nB [109,94,45,49,32,115,94,49],
 nU nA [115,94,49,32,75,94,49],
 nU nA [115,94,49,32,75,94,45,49],
 nU nA [109,94,50,32,115,94,49],
 nU nA [109,94,45,50,32,115,94,49],
 nU nA [115,94,45,49],
 nU nA [115,94,51],
 nU nA [115,94,45,50],
 nR++(nK++(nE++nO)),
 nU nE [109,94,49,32,115,94,45,49],
 nU nF [109,94,50],
 nU nE [109,94,49,32,75,94,49],
 nU nE [109,94,49,32,75,94,45,49],
 nU nE [109,94,51],
 nU nE [109,94,45,49],
 nU nB [109,94,45,49],
 nU nG [109,94,51],
 nU nC [109,94,45,50],
 nU nA [75,94,45,49],
 nU nA [109,94,45,49,32,75,94,49],
 nU nA [115,94,45,49,32,75,94,49],
 nU nB [109,94,45,49,32,75,94,49],
 nU nA [75,94,50],
 nU nA [109,94,50,32,75,94,49],
 nU nA [109,94,45,50,32,75,94,49],
 nU nA [75,94,51],
 nU nA [75,94,45,50],
 nU nA [109,94,50,32,115,94,45,49],
 nU nB [109,94,49],
 nU nA [109,94,50,32,75,94,45,49],
 nU nA [109,94,52],
 nU nA [109,94,54],
 nU nA [109,94,45,52]]
def Lo(k:Nat):Ha:=B6P.getD k []
def C47:List (List (List (Option Nat))):=[
 [[some 0,none,none,none,none,none,none],
  [none,some 1,none,none,none,none,none],
  [none,none,some 2,none,none,none,none],
  [none,none,none,some 3,none,none,none],
  [none,none,none,none,none,some 4,none],
  [none,none,none,none,some 4,some 5,none],
  [none,none,none,none,none,none,some 6]],
 [[some 0,none,none,none,none,none,none],
  [none,some 1,none,none,none,none,none],
  [none,none,some 2,none,none,none,none],
  [none,none,none,some 3,none,none,none],
  [none,none,none,none,some 5,some 4,none],
  [none,none,none,none,none,some 5,none],
  [none,none,none,none,none,none,some 6]],
 [[some 6,some 7,some 9,some 0,none,some 11,some 13],
  [some 7,some 17,some 18,some 1,none,some 20,some 22],
  [some 9,some 18,some 29,some 2,none,some 30,some 32],
  [some 0,some 1,some 2,some 3,none,some 5,some 6],
  [none,none,none,none,none,none,none],
  [some 11,some 20,some 30,some 5,none,some 41,some 42],
  [some 13,some 22,some 32,some 6,none,some 42,some 49]],
 [[some 3,some 8,some 10,some 0,none,some 12,some 14],
  [some 16,some 3,some 19,some 1,none,some 21,some 23],
  [some 27,some 28,some 3,some 2,none,some 31,some 33],
  [some 14,some 24,some 34,some 3,none,some 37,some 15],
  [none,none,none,none,none,none,none],
  [some 38,some 39,some 40,some 5,none,some 3,some 43],
  [some 0,some 46,some 47,some 6,none,some 48,some 3]]]
def Vs(o i j:Nat):Option Nat:=((C47.getD o []).getD i []).getD j none
def mC(k:Nat):Int:=([2, -1,3, -2,1]:List Int).getD k 0
def C1c:List (List (Option Nat)):=[[some 6,some 14,some 13,some 15,some 0],
 [some 17,some 24,some 25,some 26,some 1],
 [some 29,some 34,some 35,some 36,some 2],
 [some 3,some 3,some 3,some 3,some 3],
 [none,none,none,none,none],
 [some 41,some 37,some 44,some 45,some 5],
 [some 49,some 15,some 50,some 51,some 6]]
def XB(i k:Nat):Option Nat:=(C1c.getD i []).getD k none
def JX:Option Nat->AV
 |some k=>.tup [.agg (uu k).cs,I 0]
 |none=>.tup [.agg u0.cs,I 70]
def isU:Option Nat->Bool
 |some _=>true
 |none=>false
def B24(p:Nat->Bool)(m:Nat):Nat->Prop
 |0=>True
 |c+1=>((List.range m).all λk=>p (c*m+k))=true/\B24 p m c
def dA:B24 p m 0:=trivial
def ZZ{m c:Nat}(h:((List.range m).all λk=>p (c*m+k))=true)(h2:B24 p m c):B24 p m (c+1):=⟨h,h2⟩
def ZY:∀{c:Nat},B24 p m c->∀{i:Nat},i<c*m->p i=true:=by
 intro c
 induction c with
 |zero=>intro _ i a;omega
 |succ c ih=>
  intro h i a;by_cases hc:i<c*m
  ·exact ih h.2 hc
  ·have h1:=GE.1 h.1 (i-c*m) (KE.2 (by rw[Z']at a;omega));have e:c*m+(i-c*m)=i:=by omega
   rw[e]at h1;exact h1
end
section
variable{v:AV}{x y:Af}{f:Nat}{R:Rt}
def nM:Rt->Nat->Is->Hp->K2->Af:=Classical.choose (⟨Ao,rfl⟩:∃z:Rt->Nat->Is->Hp->K2->Af,Ao=z)
def zO:Ao=nM:=Classical.choose_spec (⟨Ao,rfl⟩:∃z:Rt->Nat->Is->Hp->K2->Af,Ao=z)
def eBi:TI->BinOp->AV->AV->K2->Af:=Classical.choose (⟨Ap,rfl⟩:∃z:TI->BinOp->AV->AV->K2->Af,Ap=z)
def bO:Ap=eBi:=Classical.choose_spec (⟨Ap,rfl⟩:∃z:TI->BinOp->AV->AV->K2->Af,Ap=z)
def eEq:List LK->BinOp->AV->AV->K2->Af:=Classical.choose (⟨Xp,rfl⟩:∃z:List LK->BinOp->AV->AV->K2->Af,Xp=z)
def qO:Xp=eEq:=Classical.choose_spec (⟨Xp,rfl⟩:∃z:List LK->BinOp->AV->AV->K2->Af,Xp=z)
def cnd:AV->Af->Af->Af:=Classical.choose (⟨A2,rfl⟩:∃z:AV->Af->Af->Af,A2=z)
def cO:A2=cnd:=Classical.choose_spec (⟨A2,rfl⟩:∃z:AV->Af->Af->Af,A2=z)
def Qe:cnd (.v (.bool true)) x y=x:=by rw[<-cO];rfl
def GF:cnd (.v (.bool false)) x y=y:=by rw[<-cO];rfl
section
variable{K:K2}{i:TI}{k:IntKind}{a b:Int}{s u:Ha}
def Qr(h:a=b):eBi i .eql (.v (.int k a)) (.v (.int k b)) K=K (Bo true):=by rw[<-bO,CQ,Hj h]
def Xf(h:a≠b):eBi i .eql (.v (.int k a)) (.v (.int k b)) K=K (Bo false):=by rw[<-bO,CQ,HX h]
def B0d(h:a=b):eBi i .neq (.v (.int k a)) (.v (.int k b)) K=K (Bo false):=by rw[<-bO,IS,Hj h];rfl
def A5p(h:a<=b):eBi i .leq (.v (.int k a)) (.v (.int k b)) K=K (Bo true):=by rw[<-bO,iR,Hj h]
def A5z(h:b<=a):eBi i .geq (.v (.int k a)) (.v (.int k b)) K=K (Bo true):=by rw[<-bO,KC,Hj h]
end
def A7H:∀{ks:List LK}{xs:Hx},fits ks xs=true->YK xs xs=some true:=by
 intro ks
 induction ks with
 |nil=>intro xs h;cases xs with|nil=>rfl|cons a l=>simp[fits]at h
 |cons k ks ih=>
  intro xs h;cases xs with
  |nil=>rfl
  |cons a l=>
   simp only[fits,K0]at h;have h2:=ih h.2;have e:YK (a::l) (a::l)=(match gQ a a with|some b=>(match YK l l with|some c=>some (b&&c)|none=>none)|none=>none):=rfl;rw[e,h2];have h1:gQ a a=some true:=by
    have h1:=h.1;cases k<;>cases a<;>simp[LK.fit]at h1<;>simp[gQ,QI,QK]
   rw[h1];rfl
def A5A(xs:Hx):∀K:Hx->Af,mY (xs.map AV.v) K=K xs:=by
 induction xs with
 |nil=>intro K;rfl
 |cons a l ih=>intro K;exact ih _
def B1r{ks:List LK}(xs:Hx)(h:fits ks xs=true)(K:K2):eEq ks .eql (.agg (xs.map AV.v)) (.agg (xs.map AV.v)) K=K (Bo true):=by
 rw[<-qO];have e:Xp ks .eql (.agg (xs.map AV.v)) (.agg (xs.map AV.v)) K=mY (xs.map AV.v) λc=>mY (xs.map AV.v) λd=>ck (fits ks c) (match YK c d,BinOp.eql with
  |some q,.eql=>bB q K
  |some q,.neq=>bB (!q) K
  |_,_=>none):=rfl
 rw[e,A5A,A5A,A7H h,h];show bB true K=_;rw[OH]
def uM(u:UD)(K:K2):eEq L9 .eql (.agg u.cs) (.agg u.cs) K=K (Bo true):=
 B1r (ks:=L9) [.int .i64 u.p0,.int .i64 u.q0,.int .i64 u.p1,.int .i64 u.q1,.int .i64 u.p2,.int .i64 u.q2,.int .i64 u.p3,.int .i64 u.q3,.int .i64 u.p4,.int .i64 u.q4,.int .i64 u.p5,.int .i64 u.q5,.int .i64 u.p6,.int .i64 u.q6,.string ⟨⟨u.fn⟩⟩,.string ⟨⟨u.fd⟩⟩,.string ⟨⟨u.on⟩⟩,.string ⟨⟨u.od⟩⟩,.int .i64 u.kd,.int .i64 u.sc] rfl K
def LS(R:Rt)(f:Nat)(args':Is)(v:AV):Prop:=∀(q:Bool)(args:Is)(H:Hp),R5 true depth args args' H q->∀K,nM R f args H K=K v
def CS.ls{args':Is}(h:CS R f args' v):LS R f args' v:=λ_ _ _ c _=>by rw[<-zO];exact AR h c
def PO(R:Rt)(f:Nat)(args:Is)(v:AV):Prop:=∀H K,nM R f args H K=K v
def PS.o{args:Is}(h:PS R f args v):PO R f args v:=λH K=>by rw[<-zO];exact h H K
end
section
variable{L n:Nat}
attribute [local irreducible] Ao rt nM eBi eEq cnd Ap Xp A2
def eS{z c a:Int}(h1:c<=z)(h2:z<=a):PS (rt (L+20) (n+1)) FH [I z,I c,I a] (Bo true):=by
 refine CS.ps (λK d=>?_) (λH=>λK=>by kernel_rfl);rewrite[Wl];unfold Lz q3N
 try rewrite[zO]
 try rewrite[bO]
 try rewrite[qO]
 try rewrite[cO]
 conv=>lhs;whnf
 rewrite[A5z h1]
 conv=>lhs;whnf
 rewrite[A5p h2]
 conv=>lhs;whnf
 exact d _ _ (λb=>⟨false,λK=>by kernel_rfl⟩)
def XK{z c a:Int}(h1:c<=z)(h2:z<=a):PS (rt (L+20) (n+1)) IR [I z,I c,I a] (Bo true):=by
 refine CS.ps (λK d=>?_) (λH=>λK=>by kernel_rfl);rewrite[kW];unfold Sj q3N
 try rewrite[zO]
 try rewrite[bO]
 try rewrite[qO]
 try rewrite[cO]
 conv=>lhs;whnf
 rewrite[A5z h1]
 conv=>lhs;whnf
 rewrite[A5p h2]
 conv=>lhs;whnf
 exact d _ _ (λb=>⟨false,λK=>by kernel_rfl⟩)
def Sl(T:AV):Prop:=T=.v (.slice none 0 0)\/∃n cs,T=.list n cs
abbrev Aw:AV:=.v (.slice none 0 0)
abbrev CL(u:UD):Is:=[I u.p0,I u.q0,I u.p1,I u.q1,I u.p2,I u.q2,I u.p3,I u.q3,I u.p4,I u.q4,I u.p5,I u.q5,I u.p6,I u.q6,S u.fn,S u.fd,S u.on,S u.od,I u.kd,I u.sc]
abbrev ZM(ca cb:Ha)(T:AV)(ra rb:Ha):Is:=[S ca,S cb,T,S ra,S rb]
abbrev BI(id:Int)(ins nds:AV)(u:UD):Is:=[I id,ins,nds,
 I u.p0,I u.q0,I u.p1,I u.q1,I u.p2,I u.q2,I u.p3,I u.q3,I u.p4,I u.q4,I u.p5,I u.q5,I u.p6,I u.q6,S u.fn,S u.fd,S u.on,S u.od,I u.kd,I u.sc]
structure RD where
 k:Int
 (a1 a2 b1 b2 c1 c2 d1 d2:Ha)
abbrev RD.cs(r:RD):Is:=[I r.k,S r.a1,S r.a2,S r.b1,S r.b2,S r.c1,S r.c2,S r.d1,S r.d2]
def r0:RD:=⟨0,[],[],[],[],[],[],[],[]⟩
structure ND where
 (lab num itm tim day:Int)
def rr(k:Nat):RD:=⟨k,[45,53],[49],[50,53],[50],if k=2 then[49] else[48],if k=2 then[50] else[49],[49],[50,48]⟩
abbrev Ey(kd:Int)(m:ND)(u:UD)(ca cb:Ha)(T:AV)(ra rb:Ha)(P:AV)(id:Int)(ins nds:AV)(o:UD)(r:RD)(vd:Int):Is:=[I kd,I m.lab,I m.num,I m.itm,I m.tim,I m.day,
 I u.p0,I u.q0,I u.p1,I u.q1,I u.p2,I u.q2,I u.p3,I u.q3,I u.p4,I u.q4,I u.p5,I u.q5,I u.p6,I u.q6,S u.fn,S u.fd,S u.on,S u.od,I u.kd,I u.sc,
 S ca,S cb,T,S ra,S rb,P,I id,ins,nds,
 I o.p0,I o.q0,I o.p1,I o.q1,I o.p2,I o.q2,I o.p3,I o.q3,I o.p4,I o.q4,I o.p5,I o.q5,I o.p6,I o.q6,S o.fn,S o.fd,S o.on,S o.od,I o.kd,I o.sc,
 I r.k,S r.a1,S r.a2,S r.b1,S r.b2,S r.c1,S r.c2,S r.d1,S r.d2,I vd,I 0,Aw,Aw]
def ND.ok(m:ND):Prop:=1<=m.lab/\m.lab<=9/\1<=m.num/\m.num<=9/\1<=m.itm/\m.itm<=9/\0<=m.tim/\m.tim<=100/\0<=m.day/\m.day<=100
abbrev A4M:Is:=[zI,zL,zL,zI,zI,zI,zI,zI,zI,zI,zI,zI,zI,zI,zI,zI,zI,zS,zS,zS,zS,zI,zI]
def A8t:PS (rt (L+20) (n+40)) PN [.agg (BI 0 Aw Aw u0),.agg A4M] (Bo true):=BK (λH K=>by kernel_rfl) (by kernel_rfl)
def A9A:PS (rt (L+20) (n+40)) iG [.agg (BI 0 Aw Aw u0),.agg A4M] (Bo true):=BK (λH K=>by kernel_rfl) (by kernel_rfl)
section
variable{m:ND}{u o:UD}{ca cb ra rb:Ha}{T P ins nds:AV}{id vd:Int}{r:RD}
def A6i(hm:m.ok)(t:Sl T)(s:∃n cs,P=.list n cs)(j:∃n cs,ins=.list n cs)(q:∃n cs,nds=.list n cs)(hc:LS (rt (L+20) (n+60)) Hq [.agg (Ey 2 m u ca cb T ra rb P id ins nds o r0 0)] (Bo true))(w:PO (rt (L+20) (n+60)) LX [.agg (CL u)] (Bo true))(v:LS (rt (L+20) (n+60)) L8 [.agg (ZM ca cb T ra rb)] (Bo true)):
 CS (rt (L+20) (n+61)) Eh [.agg (Ey 2 m u ca cb T ra rb P id ins nds o r0 0)] (Bo true):=by
 intro K p;obtain⟨h1,h2,f,x,g,y,h,A,i,e⟩:=hm;obtain⟨n1,c1,rfl⟩:=s;obtain⟨n2,c2,rfl⟩:=j;obtain⟨B,c3,rfl⟩:=q;have hb:∀{z d c:Int},d<=z->z<=c->PO (rt (L+20) (n+60)) FH [I z,I d,I c] (Bo true):=λa b=>(eS a b).o;rcases t with rfl|⟨C,c4,rfl⟩
 all_goals
  rewrite[JB];unfold Gi Iu
  try rewrite[zO]
  try rewrite[bO]
  try rewrite[qO]
  try rewrite[cO]
  generalize rt (L+20) (n+60)=R at*
  conv=>lhs;whnf
  rewrite[hb h1 (by omega)]
  conv=>lhs;whnf
  rewrite[hb f (by omega)]
  conv=>lhs;whnf
  rewrite[hb g (by omega)]
  conv=>lhs;whnf
  rewrite[hb h (by omega)]
  conv=>lhs;whnf
  rewrite[hb i (by omega)]
  conv=>lhs;whnf
  rewrite[w]
  conv=>lhs;whnf
  rewrite[(v) false _ _ ?hq]
  case hq=>exact λK=>by kernel_rfl
  conv=>lhs;whnf
  rewrite[GF]
  conv=>lhs;whnf
  rewrite[show∀K,eEq J2 BinOp.eql (AV.agg [I r0.k,S r0.a1,S r0.a2,S r0.b1,S r0.b2,S r0.c1,S r0.c2,S r0.d1,S r0.d2]) (AV.agg [zI,zS,zS,zS,zS,zS,zS,zS,zS]) K=K (Bo true) from λK=>by rw[<-qO];kernel_rfl]
  conv=>lhs;whnf
  rewrite[Qr ?hc]
  case hc=>decide
  conv=>lhs;whnf
  rewrite[Xf ?hc]
  case hc=>decide
  conv=>lhs;whnf
  rewrite[GF]
  conv=>lhs;whnf
  rewrite[Qr ?hc]
  case hc=>decide
  conv=>lhs;whnf
  rewrite[Qe]
  conv=>lhs;whnf
  rewrite[(hc) false _ _ ?hq]
  case hq=>exact λK=>by kernel_rfl
  conv=>lhs;whnf
  exact p _ _ (λb=>⟨false,λK=>by kernel_rfl⟩)
def A6j(hm:m.ok)(p:Sl T)(s:PO (rt (L+20) (n+60)) PN [.agg (BI 0 Aw Aw o),.agg A4M] (Bo true))(t:PO (rt (L+20) (n+60)) LX [.agg (CL u)] (Bo true))(q:LS (rt (L+20) (n+60)) L8 [.agg (ZM ca cb T ra rb)] (Bo true)):
 CS (rt (L+20) (n+61)) Eh [.agg (Ey 1 m u ca cb T ra rb Aw 0 Aw Aw o r0 0)] (Bo true):=by
 intro K j;obtain⟨h1,h2,f,v,g,w,h,x,i,e⟩:=hm;have hb:∀{z d c:Int},d<=z->z<=c->PO (rt (L+20) (n+60)) FH [I z,I d,I c] (Bo true):=λa b=>(eS a b).o;rcases p with rfl|⟨y,c4,rfl⟩
 all_goals
  rewrite[JB];unfold Gi Iu
  try rewrite[zO]
  try rewrite[bO]
  try rewrite[qO]
  try rewrite[cO]
  generalize rt (L+20) (n+60)=R at*
  conv=>lhs;whnf
  rewrite[hb h1 (by omega)]
  conv=>lhs;whnf
  rewrite[hb f (by omega)]
  conv=>lhs;whnf
  rewrite[hb g (by omega)]
  conv=>lhs;whnf
  rewrite[hb h (by omega)]
  conv=>lhs;whnf
  rewrite[hb i (by omega)]
  conv=>lhs;whnf
  rewrite[t]
  conv=>lhs;whnf
  rewrite[(q) false _ _ ?hq]
  case hq=>exact λK=>by kernel_rfl
  conv=>lhs;whnf
  rewrite[GF]
  conv=>lhs;whnf
  rewrite[show∀K,eEq J2 BinOp.eql (AV.agg [I r0.k,S r0.a1,S r0.a2,S r0.b1,S r0.b2,S r0.c1,S r0.c2,S r0.d1,S r0.d2]) (AV.agg [zI,zS,zS,zS,zS,zS,zS,zS,zS]) K=K (Bo true) from λK=>by rw[<-qO];kernel_rfl]
  conv=>lhs;whnf
  rewrite[Qr ?hc]
  case hc=>decide
  conv=>lhs;whnf
  rewrite[Qr ?hc]
  case hc=>decide
  conv=>lhs;whnf
  rewrite[Qe]
  conv=>lhs;whnf
  rewrite[Qr ?hc]
  case hc=>decide
  conv=>lhs;whnf
  rewrite[s]
  conv=>lhs;whnf
  exact j _ _ (λb=>⟨false,λK=>by kernel_rfl⟩)
def A6h(hm:m.ok)(w:Sl T)(v:∃n cs,P=.list n cs)(q:∃n cs,ins=.list n cs)(t:∃n cs,nds=.list n cs)(c:∀K,eEq J2 BinOp.eql (AV.agg r.cs) (AV.agg [zI,zS,zS,zS,zS,zS,zS,zS,zS]) K=K (Bo false))(hr:PO (rt (L+20) (n+60)) Y0 [.agg r.cs] (Bo true))(d:1<=vd)(e:vd<=3)(y:PO (rt (L+20) (n+60)) LX [.agg (CL u)] (Bo true))(x:LS (rt (L+20) (n+60)) L8 [.agg (ZM ca cb T ra rb)] (Bo true))(hc:LS (rt (L+20) (n+60)) Hq [.agg (Ey 3 m u ca cb T ra rb P id ins nds o r vd)] (Bo true)):
 CS (rt (L+20) (n+61)) Eh [.agg (Ey 3 m u ca cb T ra rb P id ins nds o r vd)] (Bo true):=by
 intro K s;obtain⟨h1,h2,i,A,j,B,k,C,p,h⟩:=hm;obtain⟨n1,c1,rfl⟩:=v;obtain⟨n2,c2,rfl⟩:=q;obtain⟨D,c3,rfl⟩:=t;have hb:∀{z g f:Int},g<=z->z<=f->PO (rt (L+20) (n+60)) FH [I z,I g,I f] (Bo true):=λa b=>(eS a b).o;rcases w with rfl|⟨F,c4,rfl⟩
 all_goals
  rewrite[JB];unfold Gi Iu
  try rewrite[zO]
  try rewrite[bO]
  try rewrite[qO]
  try rewrite[cO]
  generalize rt (L+20) (n+60)=R at*
  conv=>lhs;whnf
  rewrite[hb h1 (by omega)]
  conv=>lhs;whnf
  rewrite[hb i (by omega)]
  conv=>lhs;whnf
  rewrite[hb j (by omega)]
  conv=>lhs;whnf
  rewrite[hb k (by omega)]
  conv=>lhs;whnf
  rewrite[hb p (by omega)]
  conv=>lhs;whnf
  rewrite[y]
  conv=>lhs;whnf
  rewrite[(x) false _ _ ?hq]
  case hq=>exact λK=>by kernel_rfl
  conv=>lhs;whnf
  rewrite[GF]
  conv=>lhs;whnf
  rewrite[c]
  conv=>lhs;whnf
  rewrite[Xf ?hc]
  case hc=>decide
  conv=>lhs;whnf
  rewrite[GF]
  conv=>lhs;whnf
  rewrite[Xf ?hc]
  case hc=>decide
  conv=>lhs;whnf
  rewrite[GF]
  conv=>lhs;whnf
  rewrite[Qr ?hc]
  case hc=>decide
  conv=>lhs;whnf
  rewrite[Qe]
  conv=>lhs;whnf
  rewrite[(hc) false _ _ ?hq]
  case hq=>exact λK=>by kernel_rfl
  conv=>lhs;whnf
  rewrite[hr]
  conv=>lhs;whnf
  rewrite[hb d e]
  conv=>lhs;whnf
  exact s _ _ (λb=>⟨false,λK=>by kernel_rfl⟩)
end
end
section
variable{c2:Is}{n2:Nat}
variable{L n:Nat}
attribute [local irreducible] Ao rt nM eBi eEq cnd Ap Xp A2
section
variable{m:ND}{u o:UD}{ca cb ra rb:Ha}{T P ins nds:AV}{id vd:Int}{r:RD}
def A6H(hm:m.ok)(p:Sl T)(hr:PO (rt (L+20) (n+60)) JE [.agg r0.cs] (Bo false))(s:PO (rt (L+20) (n+60)) iG [.agg (BI 0 Aw Aw o),.agg A4M] (Bo true))(t:PO (rt (L+20) (n+60)) Fy [.agg (CL u)] (Bo true))(q:LS (rt (L+20) (n+60)) JG [.agg (ZM ca cb T ra rb)] (Bo true)):
 CS (rt (L+20) (n+61)) Fu [.agg (Ey 1 m u ca cb T ra rb Aw 0 Aw Aw o r0 0)] (.tup [Bo true,Bo false]):=by
 intro K j;obtain⟨h1,h2,f,v,g,w,h,x,i,e⟩:=hm;have hb:∀{z d c:Int},d<=z->z<=c->PO (rt (L+20) (n+60)) IR [I z,I d,I c] (Bo true):=λa b=>(XK a b).o;rcases p with rfl|⟨y,c4,rfl⟩
 all_goals
  rewrite[JQ];unfold IL Iu
  try rewrite[zO]
  try rewrite[bO]
  try rewrite[qO]
  try rewrite[cO]
  generalize rt (L+20) (n+60)=R at*
  conv=>lhs;whnf
  rewrite[Xf ?hc]
  case hc=>decide
  conv=>lhs;whnf
  rewrite[t]
  conv=>lhs;whnf
  rewrite[(q) false _ _ ?hq]
  case hq=>exact λK=>by kernel_rfl
  conv=>lhs;whnf
  rewrite[hb h1 (by omega)]
  conv=>lhs;whnf
  rewrite[hb f (by omega)]
  conv=>lhs;whnf
  rewrite[hb g (by omega)]
  conv=>lhs;whnf
  rewrite[hb h (by omega)]
  conv=>lhs;whnf
  rewrite[hb i (by omega)]
  conv=>lhs;whnf
  rewrite[GF]
  conv=>lhs;whnf
  rewrite[hr]
  conv=>lhs;whnf
  rewrite[show∀K,eEq J2 BinOp.neq (AV.agg [I r0.k,S r0.a1,S r0.a2,S r0.b1,S r0.b2,S r0.c1,S r0.c2,S r0.d1,S r0.d2]) (AV.agg [zI,zS,zS,zS,zS,zS,zS,zS,zS]) K=K (Bo false) from λK=>by rw[<-qO];kernel_rfl]
  conv=>lhs;whnf
  rewrite[B0d ?hc]
  case hc=>decide
  conv=>lhs;whnf
  rewrite[GF]
  conv=>lhs;whnf
  rewrite[Qr ?hc]
  case hc=>decide
  conv=>lhs;whnf
  rewrite[Qe]
  conv=>lhs;whnf
  rewrite[s]
  conv=>lhs;whnf
  rewrite[Qr ?hc]
  case hc=>decide
  conv=>lhs;whnf
  exact j _ _ (λb=>⟨false,λK=>by kernel_rfl⟩)
def A6G(hm:m.ok)(s:Sl T)(hr:PO (rt (L+20) (n+60)) JE [.agg r0.cs] (Bo false))(q:∃n cs,P=.list n cs)(p:∃n cs,nds=.list n cs)(v:LS (rt (L+20) (n+60)) Ir [P] (.tup [Bo true,I n2]))(hv:LS (rt (L+20) (n+60)) FY [.agg (BI id (.list n2 c2) nds u)] (Bo true))(w:PO (rt (L+20) (n+60)) Fy [.agg (CL u)] (Bo true))(t:LS (rt (L+20) (n+60)) JG [.agg (ZM ca cb T ra rb)] (Bo true)):
 CS (rt (L+20) (n+61)) Fu [.agg (Ey 2 m u ca cb T ra rb P id (.list n2 c2) nds u r0 0)] (.tup [Bo true,Bo false]):=by
 intro K j;obtain⟨h1,h2,f,x,g,y,h,A,i,e⟩:=hm;obtain⟨n1,c1,rfl⟩:=q;obtain⟨B,c3,rfl⟩:=p;have hb:∀{z d c:Int},d<=z->z<=c->PO (rt (L+20) (n+60)) IR [I z,I d,I c] (Bo true):=λa b=>(XK a b).o;rcases s with rfl|⟨C,c4,rfl⟩
 all_goals
  rewrite[JQ];unfold IL Iu
  try rewrite[zO]
  try rewrite[bO]
  try rewrite[qO]
  try rewrite[cO]
  generalize rt (L+20) (n+60)=R at*
  conv=>lhs;whnf
  rewrite[Xf ?hc]
  case hc=>decide
  conv=>lhs;whnf
  rewrite[w]
  conv=>lhs;whnf
  rewrite[(t) false _ _ ?hq]
  case hq=>exact λK=>by kernel_rfl
  conv=>lhs;whnf
  rewrite[hb h1 (by omega)]
  conv=>lhs;whnf
  rewrite[hb f (by omega)]
  conv=>lhs;whnf
  rewrite[hb g (by omega)]
  conv=>lhs;whnf
  rewrite[hb h (by omega)]
  conv=>lhs;whnf
  rewrite[hb i (by omega)]
  conv=>lhs;whnf
  rewrite[GF]
  conv=>lhs;whnf
  rewrite[hr]
  conv=>lhs;whnf
  rewrite[show∀K,eEq J2 BinOp.neq (AV.agg [I r0.k,S r0.a1,S r0.a2,S r0.b1,S r0.b2,S r0.c1,S r0.c2,S r0.d1,S r0.d2]) (AV.agg [zI,zS,zS,zS,zS,zS,zS,zS,zS]) K=K (Bo false) from λK=>by rw[<-qO];kernel_rfl]
  conv=>lhs;whnf
  rewrite[B0d ?hc]
  case hc=>decide
  conv=>lhs;whnf
  rewrite[GF]
  conv=>lhs;whnf
  rewrite[Xf ?hc]
  case hc=>decide
  conv=>lhs;whnf
  rewrite[GF]
  conv=>lhs;whnf
  rewrite[Qr ?hc]
  case hc=>decide
  conv=>lhs;whnf
  rewrite[Qe]
  conv=>lhs;whnf
  rewrite[Qe]
  conv=>lhs;whnf
  rewrite[(v) false _ _ ?hq]
  case hq=>exact λK=>by kernel_rfl
  conv=>lhs;whnf
  rewrite[(hv) false _ _ ?hq]
  case hq=>exact λK=>by kernel_rfl
  conv=>lhs;whnf
  rewrite[Qr ?hc]
  case hc=>rfl
  conv=>lhs;whnf
  rewrite[uM u]
  conv=>lhs;whnf
  exact j _ _ (λb=>⟨false,λK=>by kernel_rfl⟩)
def A6F(hm:m.ok)(t:Sl T)(hr:PO (rt (L+20) (n+60)) JE [.agg r.cs] (Bo true))(c:1<=vd)(d:vd<=3)(s:∃n cs,P=.list n cs)(q:∃n cs,nds=.list n cs)(w:LS (rt (L+20) (n+60)) Ir [P] (.tup [Bo true,I n2]))(hv:LS (rt (L+20) (n+60)) FY [.agg (BI id (.list n2 c2) nds u)] (Bo true))(x:PO (rt (L+20) (n+60)) Fy [.agg (CL u)] (Bo true))(v:LS (rt (L+20) (n+60)) JG [.agg (ZM ca cb T ra rb)] (Bo true)):
 CS (rt (L+20) (n+61)) Fu [.agg (Ey 3 m u ca cb T ra rb P id (.list n2 c2) nds u r vd)] (.tup [Bo true,Bo true]):=by
 intro K p;obtain⟨h1,h2,h,y,i,A,j,B,k,g⟩:=hm;obtain⟨n1,c1,rfl⟩:=s;obtain⟨C,c3,rfl⟩:=q;have hb:∀{z f e:Int},f<=z->z<=e->PO (rt (L+20) (n+60)) IR [I z,I f,I e] (Bo true):=λa b=>(XK a b).o;rcases t with rfl|⟨D,c4,rfl⟩
 all_goals
  rewrite[JQ];unfold IL Iu
  try rewrite[zO]
  try rewrite[bO]
  try rewrite[qO]
  try rewrite[cO]
  generalize rt (L+20) (n+60)=R at*
  conv=>lhs;whnf
  rewrite[Qr ?hc]
  case hc=>decide
  conv=>lhs;whnf
  rewrite[x]
  conv=>lhs;whnf
  rewrite[(v) false _ _ ?hq]
  case hq=>exact λK=>by kernel_rfl
  conv=>lhs;whnf
  rewrite[hb h1 (by omega)]
  conv=>lhs;whnf
  rewrite[hb h (by omega)]
  conv=>lhs;whnf
  rewrite[hb i (by omega)]
  conv=>lhs;whnf
  rewrite[hb j (by omega)]
  conv=>lhs;whnf
  rewrite[hb k (by omega)]
  conv=>lhs;whnf
  rewrite[GF]
  conv=>lhs;whnf
  rewrite[hr]
  conv=>lhs;whnf
  rewrite[hb c d]
  conv=>lhs;whnf
  rewrite[GF]
  conv=>lhs;whnf
  rewrite[Xf ?hc]
  case hc=>decide
  conv=>lhs;whnf
  rewrite[GF]
  conv=>lhs;whnf
  rewrite[Xf ?hc]
  case hc=>decide
  conv=>lhs;whnf
  rewrite[GF]
  conv=>lhs;whnf
  rewrite[Qr ?hc]
  case hc=>decide
  conv=>lhs;whnf
  rewrite[Qe]
  conv=>lhs;whnf
  rewrite[(w) false _ _ ?hq]
  case hq=>exact λK=>by kernel_rfl
  conv=>lhs;whnf
  rewrite[(hv) false _ _ ?hq]
  case hq=>exact λK=>by kernel_rfl
  conv=>lhs;whnf
  rewrite[Qr ?hc]
  case hc=>rfl
  conv=>lhs;whnf
  rewrite[uM u]
  conv=>lhs;whnf
  exact p _ _ (λb=>⟨false,λK=>by kernel_rfl⟩)
end
end
section
variable{L n:Nat}
attribute [local irreducible] Ao rt nM eBi eEq cnd Ap Xp A2
section
variable{m:ND}{u:UD}{ca cb ra rb:Ha}{T nds:AV}{kd id vd:Int}{r:RD}
def rI{n2:Nat}{c1 c2:Is}(d:Sl T)(c:∃n cs,nds=.list n cs)(e:LS (rt (L+20) (n+59)) JI [.list n2 c1] (Bo true))(hv:LS (rt (L+20) (n+59)) Gu [.agg (BI id (.list n2 c2) nds u)] (Bo true)):
 CS (rt (L+20) (n+60)) Hq [.agg (Ey kd m u ca cb T ra rb (.list n2 c1) id (.list n2 c2) nds u r vd)] (Bo true):=by
 intro K a;obtain⟨f,c3,rfl⟩:=c;rcases d with rfl|⟨g,c4,rfl⟩
 all_goals
  rewrite[SB];unfold JC Iu
  try rewrite[zO]
  try rewrite[bO]
  try rewrite[qO]
  try rewrite[cO]
  generalize rt (L+20) (n+59)=R at*
  conv=>lhs;whnf
  rewrite[(e) false _ _ ?hq]
  case hq=>exact λK=>by kernel_rfl
  conv=>lhs;whnf
  rewrite[(hv) false _ _ ?hq]
  case hq=>exact λK=>by kernel_rfl
  conv=>lhs;whnf
  rewrite[Qr ?hc]
  case hc=>rfl
  conv=>lhs;whnf
  rewrite[uM u]
  conv=>lhs;whnf
  exact a _ _ (λb=>⟨false,λK=>by kernel_rfl⟩)
end
end
section
variable{x y:Af}{a b:Int}{i:Nat}
variable{L n:Nat}
abbrev Ls(l:List Ha):AV:=.list l.length (AG l)
def MN{l:List Ha}{K:K2}:Bm Ac (Ls l) K=K (I l.length):=id rfl
def XA7{l:List Ha}{K:K2}(h:i<l.length):Ds Ac (Ls l) (I i) K=K (.iptr [S l[i]]):=by
 rw[YD rfl (by simp[AG]) (by omega) (by omega),jI,Pe h]
def LD{s:Ha}{H:Hp}{K:K2}:AD Ak (.iptr [S s]) H K=K (S s):=Ni rfl
def Dd{ty:TI}{K:K2}(h:i<1000000000):Ap ty .add (I i) (.v (.int .i64 1)) K=K (I ((i+1:Nat):Int)):=by
 rw[Do,CV (by omega) (by omega),RG]
def FV{ty:TI}{K:K2}(h:a<b):Ap ty .lss (I a) (I b) K=K (Bo true):=by rw[DO,Hj h]
def FT{ty:TI}{K:K2}(h:¬a<b):Ap ty .lss (I a) (I b) K=K (Bo false):=by rw[DO,HX h]
def Cr:A2 (.v (.bool true)) x y=x:=id rfl
def Bh:A2 (.v (.bool false)) x y=y:=id rfl
def B4{v:AV}{H:Hp}{K:K2}:Ar (some (v,H)) K=K v:=id rfl
section
variable{R:Rt}{K:KV}{ps:List Ha}{H:Hp}
def B92{c:AV->AV->KV}(g:i<ps.length)(hn:ps.Nodup)(hb:ps.length<100):∀(f j:Nat),j<=i->i-j<f->
 LL (L+20) R K c f (Ls ps) (I i) (I j) H=c (Ls ps) (I i) (I i) H:=by
 intro f
 induction f with
 |zero=>intro j _ h;omega
 |succ f ih=>
  intro j m k;rw[RK];unfold LN OG A3 HS;by_cases h:j<i
  ·rw[FV (by omega),Cr,XA7 (by omega),B4,LD,B4,XA7 g,B4,LD,B4,Mb];have d:ps[j]≠ps[i]:=λe=>by
    have:=(List.getElem_inj (h₀:=by omega) (h₁:=g) hn).1 e;omega
   rw[HX d,B4,Bh,Dd (by omega)];exact ih (j+1) (by omega) (by omega)
  ·rw[FT (by omega),Bh];have:j=i:=by omega
   rw[this]
def B93{c:KV}(hn:ps.Nodup)(hb:ps.length<100)(g:ps.length<L+20)(e:∀s∈ps,s.length=32):∀(f i:Nat)(v:AV),i<=ps.length->ps.length-i<f->
 LM (L+20) R K c f (Ls ps) (I i) v H=c (Ls ps) H:=by
 intro f
 induction f with
 |zero=>intro i v _ h;omega
 |succ f ih=>
  intro i v k j;rw[RL];unfold LO HR A3 HS;rw[MN];by_cases h:i<ps.length
  ·rw[FV (by omega),Cr];simp only[BJ];rw[XA7 h,LD,PQ rfl,e _ (PD h),IS];rw[show(!decide (((32:Nat):Int)=32))=false from rfl,Bh];have d:(AV.v (.int .i64 0))=I ((0:Nat):Int):=rfl;rw[d,B92 h hn hb _ 0 (by omega) (by omega),Dd (by omega)];exact ih (i+1) _ (by omega) (by omega)
  ·rw[FT (by omega),Bh]
end
def yE{ps:List Ha}(hn:ps.Nodup)(h:1<=ps.length)(hb:ps.length<=6)(f:∀s∈ps,s.length=32):
 CS (r! L (n+1)) Ir [Ls ps] (.tup [Bo true,I ps.length]):=by
 intro K e;rw[Tu];unfold MH Dk A3 HS;simp only[BJ];have d:(AV.v (.int .i64 0))=I ((0:Nat):Int):=rfl;rw[d,B93 hn (by omega) (by omega) f _ 0 _ (by omega) (by omega),MN,KC,Hj (by omega)];have g:∀(x:Bool->Af),gdV true (Bo true) x=x true:=λx=>id rfl;have c:∀{v:AV}{H:Hp}{K:KV},D5 (some (v,H)) K=K v H:=id rfl;simp only[g,c,MN];rw[iR,Hj (by omega)];exact e _ _ (λb=>⟨false,λK=>by kernel_rfl⟩)
end
section
variable{v:AV}{q0:Bool}{H H0:Hp}
variable{L n:Nat}
def AZ(l:List Ha):(AG l).length=l.length:=by simp[AG]
def jW(a b:List Ha):AG a++AG b=AG (a++b):=by simp[AG]
def A5Y{l:List Ha}(b:Ha)(h:B0 H Av 1 v l.length (AG l))(w:Wf H)(hn:l.length<1000000000):
 ∃d a,(∀K:KV,(GM Av 1 Ak 1 [(0,1,S b)] H λv1 j=>E5 Av 1 Ak Ac v v1 j K)=K d a)/\B0 a Av 1 d (l++[b]).length (AG (l++[b]))/\Wf a/\As H<=As a/\(∀s x,Aj H s=some x->¬A8 v s->Aj a s=some x)/\(∀s,A8 d s->As H<=s):=by
 have i:B0 ((As H,.cells false Av [S b])::H) Av 1 v l.length (AG l):=h.lat w (Lat.cons H _ (λ_=>False)) (λ_ _ h=>h);have c:=NI (H:=H) (e:=Av) (n:=1) (cs:=[S b]) rfl;obtain⟨d,a,h1,h2,k,m⟩:=apt (ie:=Ak) (i2:=Ac) i (λK=>Rq (K:=K) c) rfl rfl (by decide) rfl rfl (by show(l.length+1)*16<=_;omega) (by omega);have f:=(Lat.cons H (.cells false Av [S b]) (A8 v)).trans m (R:=A8 v) (λ_ _ h=>h) (λ_ _ h=>h);refine⟨d,a,λK=>?_,by rw[EC,<-jW];exact h2,f.wf w,f.nx,λs x g hn=>f.keep w s x g hn,λs g=>?_⟩
 ·rw[uY (z:=S []) (λ_=>rfl) (λ_=>rfl) rfl];exact h1 K
 ·rw[k s g];exact l1u _
def NC(c2 c6:AV)(p:Option (Option Code)):Row:=.loop 13 [(2,c2),(4,Aw),(5,AV.dk),(6,c6),(7,AV.dk),(8,AV.dk),(9,AV.dk),(10,AV.dk),(11,AV.dk)] (Bp).2.1 (Bp).2.2.1 (Bp).2.2.2 p
structure Coll(H0:Hp)(r0 s:Nat)(q0:Bool)(e0:Nat)(c6:AV)(l:List Ha)(v:AV)(H:Hp):Prop where
 at_:Aj H r0=some (.cells q0 e0 [v])
 sl:B0 H Av 1 v l.length (AG l)
 lp:Aj H s=some (NC (.ptr r0 0 0) c6 (some none))
 new:∀u,A8 v u->u≠r0/\u≠s/\As H0<=u
 wf:Wf H
 keep:∀u y,Aj H0 u=some y->Aj H u=some y
 ne:r0≠s
 r0n:As H0<=r0
 sn:As H0<=s
 w0:Wf H0
variable{K:KV}{x:Af}
def B3A{r0 s e0:Nat}{c6 v:AV}{l:List Ha}{b:Ha}(h:Coll H0 r0 s q0 e0 c6 l v H)(hn:l.length<1000000000)(Z:∀d j,Coll H0 r0 s q0 e0 c6 (l++[b]) d j->K (Bo true) j=x):Ct (E (L+20)) (r! L (n+1)) (.yl s) [S b] H K=x:=by
 show XA6 (r! L (n+1)) s [S b] H K=x;rw[OY h.lp (by kernel_rfl)];have t:(r! L (n+1)).run= λR=>OK (E (L+20)) (r! L n) R:=rfl;rw[t,Hw,Ph h.lp];have O:=Bq (r:=s) (y:=NC (.ptr r0 0 0) c6 none) h.wf;have k:Aj (upd H s (NC (.ptr r0 0 0) c6 none)) r0=some (.cells q0 e0 [v]):=by rw[Ag h.ne];exact h.at_
 have J:Aj (upd H s (NC (.ptr r0 0 0) c6 none)) s=some (NC (.ptr r0 0 0) c6 none):=Ff h.lp;have N:B0 (upd H s (NC (.ptr r0 0 0) c6 none)) Av 1 v l.length (AG l):=h.sl.lat h.wf (Lat.upd H s _ (P:=λu=>u=s) rfl) (λu c=>(h.new u c).2.1);have D:∀u y,Aj H0 u=some y->Aj (upd H s (NC (.ptr r0 0 0) c6 none)) u=some y:=λu y c=>by
  have:=h.w0.lt c;rw[Ag (by have:=h.sn;omega)];exact h.keep u y c
 show AD Ac (.ptr r0 0 0) (upd H s (NC (.ptr r0 0 0) c6 none)) _=_;rw[AQ (p:=0) rfl k (by simp)];show GM Av 1 Ak 1 [(0,1,S b)] (upd H s (NC (.ptr r0 0 0) c6 none)) (λQ A=>E5 Av 1 Ak Ac v Q A _)=_;obtain⟨d,j,h1,h2,B,h4,C,V⟩:=A5Y b N O hn;rw[h1];have n0:¬A8 v r0:=λc=>(h.new r0 c).1 rfl;have ns:¬A8 v s:=λc=>(h.new s c).2.1 rfl;have m:=C r0 _ k n0;have M:=C s _ J ns;have f:Bw d=[d]/\AV.one d=true:=by
  rcases h2 with⟨rfl,_⟩|⟨a,b,rfl,_⟩<;>exact⟨rfl,rfl⟩
 rw[Ei (q:=q0) (e:=e0) (cs:=[v]) m (by simp) rfl f.1 f.2];have Y:As H0<=As H:=by have:=h.wf.lt h.at_;have:=h.r0n;omega
 have F:As (upd H s (NC (.ptr r0 0 0) c6 none))=As H:=BB _ _ _;have i:∀u,A8 d u->u≠r0/\u≠s/\As H0<=u:=λu c=>by
  have a1:=V u c;rw[F]at a1;have a2:=h.wf.lt h.at_;have a3:=h.wf.lt h.lp;exact⟨by omega,by omega,by omega⟩
 have w:Aj (upd j r0 (.cells q0 e0 [d])) s=some (NC (.ptr r0 0 0) c6 none):=by rw[Ag h.ne.symm];exact M
 show E7 (upd j r0 (.cells q0 e0 [d])) s false (some none) _=_;have g:=w;unfold NC at g;rw[Pg g];refine Z d _ ⟨?_,?_,?_,i,Bq (Bq B),λu y c=>?_,h.ne,h.r0n,h.sn,h.w0⟩
 ·rw[Ag h.ne];exact AC m
 ·have a:=h2.lat B (Lat.upd j r0 (.cells q0 e0 [d]) (P:=λu=>u=r0) rfl) (λu c=>(i u c).1);exact a.lat (Bq B) (Lat.upd _ s _ (P:=λu=>u=s) rfl) (λu c=>(i u c).2.1)
 ·exact Ff w
 ·have X:=h.w0.lt c;have b1:=h.r0n;have b2:=h.sn;rw[Ag (by omega),Ag (by omega)];refine C u y (D u y c) (λhv=>?_);have:=(h.new u hv).2.2;omega
def C1b{r0 s e0:Nat}{c6:AV}{k3:Ru}{ps:List Ha}(hn:ps.length<1000000000)(c:∀v H,Coll H0 r0 s q0 e0 c6 ps v H->k3 H=x):
 ∀(f i:Nat)(v:AV)(H:Hp),i<=ps.length->ps.length-i<f->Coll H0 r0 s q0 e0 c6 (ps.take i) v H->
  EH (L+20) (r! L (n+1)) K k3 f (.yl s) (Ls ps) (I ps.length) (I i) H=x:=by
 intro f
 induction f with
 |zero=>intro i v H _ h;omega
 |succ f ih=>
  intro i v H g e hc;rw[KH];unfold EI HR A3;by_cases h:i<ps.length
  ·rw[FV (by omega),Cr,XA7 h,LD];refine B3A hc (by simp;omega) λd b a=>?_;rw[Et];show A2 (.v (.bool false)) _ _=_;rw[Bh,Dd (by omega)];rw[<-lO h]at a;exact ih (i+1) d b (by omega) (by omega) a
  ·rw[FT (by omega),Bh];have:i=ps.length:=by omega
   rw[this,vO]at hc;exact c v H hc
structure NewSl(H0:Hp)(l:List Ha)(v:AV)(H:Hp):Prop where
 sl:B0 H Av 1 v l.length (AG l)
 new:∀u,A8 v u->As H0<=u
 wf:Wf H
 keep:∀u y,Aj H0 u=some y->Aj H u=some y
 nx:As H0<=As H
abbrev A8W(ps:List Ha):AV:=.fn (.func HY) [] [.iptr [Ls ps]]
def A6v{ps:List Ha}(hn:ps.length<1000000000)(f:ps.length<L)(w:Wf H0)(e:∀v H,NewSl H0 ps v H->K v H=x):
 (r! L (n+4)).call EF [A8W ps] H0 K=x:=by
 rw[GC];unfold EE;rw[D9];unfold C4;simp only[BJ];rw[mG (by rfl),A57,Li];unfold EU A3;simp only[BJ];have d:∀H K,AD Ac (.iptr [Ls ps]) H K=K (Ls ps):=λH K=>Ni rfl;rw[d,MN];have e0:(AV.v (.int .i64 0))=I ((0:Nat):Int):=rfl;rw[e0];have w1:=AJ (x:=.cells true A5 [Aw]) w;have b:=Az (H:=H0) (x:=.cells true A5 [Aw]) (by simp);have c:As ((As H0,c_ A5 [Aw])::H0)=As H0+1:=rfl;refine C1b (n:=n) (H0:=H0) (r0:=As H0) (s:=As H0+1) (q0:=true) (e0:=A5) (c6:=A8W ps) hn ?_ (L+20) 0 Aw _ (by omega) (by omega) ⟨A7 (w1.lt b) b,.inl ⟨rfl,rfl,rfl⟩,Az (H:=((As H0,c_ A5 [Aw])::H0)) (x:=NC (.ptr (As H0) 0 0) (A8W ps) (some none)) (by simp[NC]),λu ⟨_,_,_,h⟩=>(by cases h),AJ w1,λu y a=>?_,by omega,by omega,by omega,w⟩
 ·intro v H hc;rw[c,AX hc.lp];show Ll H (As H0+1) .gone _=x;rw[Dh];have hr:Aj (upd H (As H0+1) .gone) (As H0)=some (c_ A5 [v]):=by rw[Ag (by omega)];exact hc.at_
  show AD Ac (.ptr (As H0) 0 0) (upd H (As H0+1) .gone) _=x;rw[AQ (p:=0) rfl hr (by simp)];refine e _ _ ⟨?_,λu a=>(hc.new u a).2.2,Bq hc.wf,λu y a=>?_,?_⟩
  ·exact hc.sl.lat hc.wf (Lat.upd H _ _ (P:=λu=>u=As H0+1) rfl) (λu a=>(hc.new u a).2.1)
  ·have:=w.lt a;rw[Ag (by omega)];exact hc.keep u y a
  ·rw[BB];have:=hc.wf.lt hc.at_;omega
 ·have a1:=A7 (x:=.cells true A5 [Aw]) (w.lt a) a;exact A7 (w1.lt a1) a1
def A8s{ps:List Ha}(A:0<ps.length)(hn:ps.length<1000000000)(s:ps.length<L)(w:Wf H0)(t:∀v H,NewSl H0 (DW ps) v H->K v H=x):
 (r! L (n+5)).call Ef [A8W ps] H0 K=x:=by
 rw[Hh];unfold EV;refine A6v hn s w λv H b=>?_;have i:=(Bg ps).length_eq;rcases b.sl with⟨_,h,_⟩|⟨r,q,rfl,f,hc⟩
 ·omega
 ·have m:∀K,(r! L (n+4)).call AH [.sl 1 r 0 ps.length] H K=Tr [.sl 1 r 0 ps.length] H K (YI (E (L+20)) (nT (L+20)) (r! L (n+3)) AH [.sl 1 r 0 ps.length] H K):=λK=>rfl;rw[m];have e:∀(l:List Ha),UO (AG l)=some l:=λl=>by
   induction l with
   |nil=>rfl
   |cons a l ih=>show(UO (AG l)).map _=_;rw[ih];rfl
  have p:∀alt K,Tr [.sl 1 r 0 ps.length] H K alt=Er 0 (AG (DW ps)) (AG ps) λc=>Ll H r (.cells q Av c) λk=>K (.tup []) k:=λalt K=>by
   unfold Tr;simp only[f,pE];rw[Y? (by rw[AZ];omega),e];have g:(Nat.beq ps.length ps.length&&(Nat.blt ps.length 4611686018427387904&&Nat.blt 0 ps.length))=true:=by simp;omega
   simp only[g];rfl
  rw[p,Iq _ _ _ _ (by rw[AZ,AZ];omega),VC _ _ (by rw[AZ,AZ];exact i),Dh];refine t _ _ ⟨.inr ⟨r,q,by rw[i],AC f,by rw[AZ];omega⟩,λu ⟨_,_,_,d⟩=>?_,Bq b.wf,λu y j=>?_,by rw[BB];exact b.nx⟩
  ·injection d with _ d
   subst d;exact b.new r ⟨1,0,ps.length,rfl⟩
  ·have a1:=w.lt j;have a2:=b.new r ⟨1,0,ps.length,rfl⟩;rw[Ag (by omega)];exact b.keep u y j
end
section
variable{a:AV}{H:Hp}{es:IH}{m s:Nat}
variable{L n:Nat}
def VE{R:Rt}{m g:Nat}{cap:Is}{t:Tm}{ps:Array Tmp}{sa d:Code}{K:Option (Option Code)->Ru}:
 nQ R m (.fn (.func g) [] cap) t ps sa d H K=R.call g (.yl (As H)::cap) ((As H,.loop m t ps sa d (some none))::H) λ_ c=>I6 c (As H) λx=>ZJ x λ_ _ _ _ _ b=>Ll c (As H) .gone λf=>K b f:=by
 have e:nQ R m (.fn (.func g) [] cap) t ps sa d H K=Ik H λs=>Yy [] (.yl s::cap) λall=>R.call g all ((s,.loop m t ps sa d (some none))::H) λ_ c=>I6 c s λx=>ZJ x λ_ _ _ _ _ b=>Ll c s .gone λf=>K b f:=rfl;rw[e,BW,MK];rfl
def WM{K:KV}:WN (.imap es) H K=K (.it (As H)) ((As H,.iter es none)::H):=by
 have e:WN (.imap es) H K=Ik H λs=>K (.it s) ((s,.iter es none)::H):=rfl;rw[e,BW]
def A7l{e:Value×AV}{o:Option (Value×AV)}{K:KV}(h:Aj H s=some (.iter (e::es) o)):
 YB (.it s) H K=TX (λe rest=>Ll H s (.iter rest (some e)) λb=>K (.tup [.v (.bool true),sQ e.1,e.2]) b) (e::es) []:=by
 have c:YB (.it s) H K=I6 H s λx=>A5u x λl=>@List.rec (Value×AV) (λ_=>Af) (K (.tup [.v (.bool false)]) H)
  (λ_ _ _=>TX (λe rest=>Ll H s (.iter rest (some e)) λb=>K (.tup [.v (.bool true),sQ e.1,e.2]) b) l []) l:=rfl
 rw[c,AX h];rfl
def B1d{o:Option (Value×AV)}{K:KV}(h:Aj H s=some (.iter [] o)):YB (.it s) H K=K (.tup [.v (.bool false)]) H:=by
 have c:YB (.it s) H K=I6 H s λx=>A5u x λl=>@List.rec (Value×AV) (λ_=>Af) (K (.tup [.v (.bool false)]) H)
  (λ_ _ _=>TX (λe rest=>Ll H s (.iter rest (some e)) λb=>K (.tup [.v (.bool true),sQ e.1,e.2]) b) l []) l:=rfl
 rw[c,AX h];rfl
def Nu{p:Value×AV}{K:K2}(h:Aj H s=some (.iter es (some p))):ZE (.it s) H K=K (.tup [sQ p.1,p.2]):=by
 have b:ZE (.it s) H K=I6 H s λx=>B0p x λp=>K (.tup [sQ p.1,p.2]):=rfl;rw[b,AX h];rfl
def F3{l:Is}{K:K2}:C9 (.tup (a::l)) 0 K=K a:=id rfl
def PT{a b:AV}{l:Is}{K:K2}:C9 (.tup (a::b::l)) 1 K=K b:=id rfl
def A5L{c:Option (Hb×Nat)}{K:KV}(d:Aj H m=some (.map false es c))(hc:es.all (λp=>iT 3 p.2)=true):WN (.mp m) H K=K (.it (As H)) ((As H,.iter es none)::upd H m .gone):=by
 have e:WN (.mp m) H K=I6 H m λx=>lL x λes _=>ck (es.all λp=>iT 3 p.2) (Ll H m .gone λb=>Ik b λt=>K (.it t) ((t,.iter es none)::b)):=rfl;rw[e,AX d];show ck (es.all λp=>iT 3 p.2) _=_;rw[hc];show Ll H m .gone _=_;rw[Dh,BW,BB]
def A6P{F:Value×AV->IH->Af}{v:AV}(hv:Vw 6 v v=true):∀(l pre:IH),l≠[]->(∀l1 e l2,l=l1++e::l2->F e (pre++(l1++l2))=some (v,[]))->TX F l pre=some (v,[]):=by
 intro l
 induction l with
 |nil=>intro _ h;exact absurd rfl h
 |cons e l ih=>
  intro pre _ h;have b:=h [] e l rfl;rw[l3d]at b;cases l with
  |nil=>rw[sN];rw[UC]at b;exact b
  |cons f l=>
   rw[mV,b,ih (pre++[e]) (by simp) λl1 c l2 d=>?_]
   ·show(match Vw 6 v v with|true=>some (v,[])|false=>none)=_;rw[hv]
   ·have:=h (e::l1) c l2 (by rw[d];rfl);rw[ZL];exact this
def XW{α:Type}{f:α->AV}{es:List (Ha×α)}{it:Nat}{o:Option (Value×AV)}{w:AV}{K:KV}(u:Vw 6 w w=true)(d:Aj H it=some (.iter (es.map λe=>(.string ⟨⟨e.1⟩⟩,f e.2)) o))(i:es=[]->K (.tup [.v (.bool false)]) H=some (w,[]))(h1:∀a e b,es=a++e::b->K (.tup [.v (.bool true),S e.1,f e.2]) (upd H it (.iter ((a++b).map λe=>(.string ⟨⟨e.1⟩⟩,f e.2)) (some (.string ⟨⟨e.1⟩⟩,f e.2))))=some (w,[])):YB (.it it) H K=some (w,[]):=by
 cases es with
 |nil=>rw[B1d d];exact i rfl
 |cons e es=>
  rw[Xa]at d;rw[A7l d];refine A6P u _ [] (by simp) λl1 p l2 h=>?_;rw[<-Xa (f:=λe:Ha×α=>((Value.string ⟨⟨e.1⟩⟩:Value),f e.2))]at h;obtain⟨a,c,h2,j,k⟩:=List.map_eq_append_iff.1 h;obtain⟨g,b,q,r,t⟩:=List.map_eq_cons_iff.1 k;subst q j r t;rw[Dh,l3d,<-Za];exact h1 a g b h2
end
section
variable{α:Type}
structure Ce(κ:Type) where
 real:Bool
 ps:List κ
section
variable{κ:Type}[DecidableEq κ]{g:List (κ×Ce κ)}
def Mu:List (κ×α)->κ->Option α
 |[],_=>none
 |e::g,x=>if e.1=x then some e.2 else Mu g x
def yZ{p q:α->Bool}{l:List α}(h:∀a∈l,p a=true->q a=true){a:α}(d:a∈l)(h1:q a=true)(h2:p a=false):(l.filter p).length<(l.filter q).length:=by
 induction l with
 |nil=>cases d
 |cons b l ih=>
  have mono:∀l:List α,(∀a∈l,p a=true->q a=true)->(l.filter p).length<=(l.filter q).length:=by
   intro l
   induction l with
   |nil=>intro _;simp
   |cons c l ih=>
    intro h;have:=ih λa d=>h a (by simp[d]);rw[l2n,l2n];have e:=h c (by simp);cases f:p c<;>cases hq:q c<;>simp_all<;>omega
  have i:=mono l λa d=>h a (by simp[d]);rw[l2n,l2n];rcases Tz.1 d with rfl|d
  ·rw[h1,h2];simp;omega
  ·have:=ih (λa d=>h a (by simp[d])) d;have e:=h b (by simp);cases f:p b<;>cases hq:q b<;>simp_all<;>omega
def LP(b:List (κ×α))(x:κ)(v:α):List (κ×α):=match b with
 |[]=>[(x,v)]
 |e::b=>if e.1=x then(e.1,v)::b else e::LP b x v
def iD{b:List (κ×α)}{x y:κ}{v:α}:Mu (LP b x v) y=if x=y then some v else Mu b y:=by
 induction b with
 |nil=>rfl
 |cons e b ih=>
  unfold LP;by_cases h:e.1=x
  ·rw[Dl h];simp only[Mu];subst h;by_cases h1:e.1=y<;>simp[h1]
  ·rw[C5 h];simp only[Mu,ih];by_cases h1:x=y
   ·subst h1;simp[h]
   ·simp[h1]
end
end
section
variable{m:AV}{r:Nat}{ie:TI}
abbrev SV(s:Ha):Value:=.string ⟨⟨s⟩⟩
section
variable{α:Type}{f:α->AV}{b:List (Ha×α)}{x:Ha}{H:Hp}
abbrev Df(f:α->AV)(b:List (Ha×α)):IH:=b.map λe=>(SV e.1,f e.2)
def Yx(x:Ha):List (Ha×α)->Nat->Option (Nat×α)
 |[],_=>none
 |e::b,i=>if e.1=x then some (i,e.2) else Yx x b (i+1)
def Zc{e:Ha×α}{i:Nat}:Yx x (e::b) i=if e.1=x then some (i,e.2) else Yx x b (i+1):=rfl
def C2r{s u:Ha}:keq (SV s) (SV u)=some (decide (u=s)):=by
 show some (eqB s u)=_;rw[QK];by_cases h:s=u
 ·subst h;simp
 ·simp[h,Ne.symm h]
def B0u:∀(b:List (Ha×α))(i:Nat),gM (SV x) (Df f b) i=some ((Yx x b i).map λp=>(p.1,f p.2)):=by
 intro b
 induction b with
 |nil=>intro i;rfl
 |cons e b ih=>
  intro i;show gM (SV x) ((SV e.1,f e.2)::Df f b) i=_;rw[dO,C2r,ih,Zc];by_cases h:e.1=x
  ·simp[h]
  ·simp[h]
def A1w:∀(b:List (Ha×α))(i:Nat),(Yx x b i).map (·.2)=Mu b x:=by
 intro b
 induction b with
 |nil=>intro i;rfl
 |cons e b ih=>
  intro i;rw[Zc];unfold Mu;by_cases h:e.1=x
  ·simp[h]
  ·simp[h,ih]
def A1v(v:α):∀(b:List (Ha×α))(i:Nat),(match Yx x b i with|none=>b++[(x,v)]|some (j,_)=>b.set (j-i) (x,v))=LP b x v/\(∀j w,Yx x b i=some (j,w)->i<=j):=by
 intro b
 induction b with
 |nil=>intro i;exact⟨rfl,λj w h=>by cases h⟩
 |cons e b ih=>
  intro i;rw[Zc];unfold LP;by_cases h:e.1=x
  ·refine⟨?_,λj w a=>?_⟩
   ·simp[h]
   ·simp[h]at a;omega
  ·obtain⟨h1,h2⟩:=ih (i+1);refine⟨?_,λj w a=>?_⟩
   ·rw[C5 h,C5 h,<-h1];cases d:Yx x b (i+1) with
    |none=>rfl
    |some p=>
     obtain⟨j,w⟩:=p;have:=h2 j w d;have c:j-i=(j-(i+1))+1:=by omega
     simp only[c,List.set_cons_succ]
   ·rw[C5 h]at a;have:=h2 j w a;omega
def Ze{es:IH}{a:Option (Hb×Nat)}{K:IH->Af}(h:Aj H r=some (.map false es a)):xJ (.mp r) H K=K es:=by
 show I6 H r _=_;rw[AX h];rfl
def kfK{K:Option (Nat×AV)->Af}:I5 (SV x) (Df f b) K=K ((Yx x b 0).map λp=>(p.1,f p.2)):=by
 unfold I5;rw[B0u]
theorem A46{K:K2}(h:∀K,xJ m H K=K (Df f b)):Zi ie true m (SV x) H K=match Mu b x with
 |some v=>K (.tup [f v,Bo true])
 |none=>K (.tup [ie.zero,Bo false]):=by
 unfold Zi;rw[h,kfK,<-A1w b 0];cases Yx x b 0<;>rfl
theorem qF{K:K2}(h:∀K,xJ m H K=K (Df f b)):Zi ie false m (SV x) H K=match Mu b x with
 |some v=>K (f v)
 |none=>K ie.zero:=by
 unfold Zi;rw[h,kfK,<-A1w b 0];cases Yx x b 0<;>rfl
def iJ{v:α}{K:Ru}(h:Aj H r=some (.map false (Df f b) none)):Mm (.mp r) (SV x) (f v) H K=K (upd H r (.map false (Df f (LP b x v)) none)):=by
 have e:Mm (.mp r) (SV x) (f v) H K=I6 H r λy=>lL y λa c=>I5 (SV x) a λq=>match q with
  |none=>Ll H r (.map false (a++[(SV x,f v)]) (uZ c)) K
  |some (i,_)=>Ll H r (.map false (a.set i (SV x,f v)) c) K:=rfl
 rw[e,AX h];show I5 (SV x) (Df f b) _=_;rw[kfK];obtain⟨h1,h2⟩:=A1v (x:=x) v b 0;cases d:Yx x b 0 with
 |none=>
  rw[d]at h1;show Ll H r (.map false (Df f b++[(SV x,f v)]) none) K=_;rw[Dh,<-h1,Df,Df,Za];rfl
 |some p=>
  obtain⟨j,w⟩:=p;rw[d]at h1;show Ll H r (.map false ((Df f b).set j (SV x,f v)) none) K=_;rw[Dh,<-h1,Df,Df,List.map_set,Nat.sub_zero]
end
end
section
variable{v:AV}{q0:Bool}{H:Hp}{ks:List Ha}
variable{L n:Nat}
abbrev uS:Unit->AV:=λ_=>.agg []
section
variable{K:KV}{x:Af}
def H!{H0 H:Hp}{r0 s e0:Nat}{c6 v:AV}{l:List Ha}{b:Ha}(h:Coll H0 r0 s q0 e0 c6 l v H)(hn:l.length<1000000000)(hx:∀d f,Coll H0 r0 s q0 e0 c6 (l++[b]) d f->(∀u y,u≠r0->u≠s->¬A8 v u->Aj H u=some y->Aj f u=some y)->(∀u,A8 d u->As H<=u)->K (Bo true) f=x):Ct (E (L+20)) (r! L (n+1)) (.yl s) [S b] H K=x:=by
 show XA6 (r! L (n+1)) s [S b] H K=x;rw[OY h.lp (by kernel_rfl)];have C:(r! L (n+1)).run= λV=>OK (E (L+20)) (r! L n) V:=rfl;rw[C,Hw,Ph h.lp];have Q:=Bq (r:=s) (y:=NC (.ptr r0 0 0) c6 none) h.wf;have A:Aj (upd H s (NC (.ptr r0 0 0) c6 none)) r0=some (.cells q0 e0 [v]):=by rw[Ag h.ne];exact h.at_
 have M:Aj (upd H s (NC (.ptr r0 0 0) c6 none)) s=some (NC (.ptr r0 0 0) c6 none):=Ff h.lp;have O:B0 (upd H s (NC (.ptr r0 0 0) c6 none)) Av 1 v l.length (AG l):=h.sl.lat h.wf (Lat.upd H s _ (P:=λu=>u=s) rfl) (λu c=>(h.new u c).2.1);show AD Ac (.ptr r0 0 0) (upd H s (NC (.ptr r0 0 0) c6 none)) _=_;rw[AQ (p:=0) rfl A (by simp)];show GM Av 1 Ak 1 [(0,1,S b)] (upd H s (NC (.ptr r0 0 0) c6 none)) (λR F=>E5 Av 1 Ak Ac v R F _)=_;obtain⟨d,f,h1,h2,t,h4,J,X⟩:=A5Y b O Q hn;rw[h1];have n0:¬A8 v r0:=λc=>(h.new r0 c).1 rfl;have ns:¬A8 v s:=λc=>(h.new s c).2.1 rfl;have B:=J r0 _ A n0;have N:=J s _ M ns;have i:Bw d=[d]/\AV.one d=true:=by
  rcases h2 with⟨rfl,_⟩|⟨a,b,rfl,_⟩<;>exact⟨rfl,rfl⟩
 rw[Ei (q:=q0) (e:=e0) (cs:=[v]) B (by simp) rfl i.1 i.2];have aa:As H0<=As H:=by have:=h.wf.lt h.at_;have:=h.r0n;omega
 have Z:As (upd H s (NC (.ptr r0 0 0) c6 none))=As H:=BB _ _ _;have g:∀u,A8 d u->As H<=u:=λu c=>by have:=X u c;omega
 have k:∀u,A8 d u->u≠r0/\u≠s/\As H0<=u:=λu c=>by
  have a1:=g u c;have a2:=h.wf.lt h.at_;have a3:=h.wf.lt h.lp;exact⟨by omega,by omega,by omega⟩
 have D:Aj (upd f r0 (.cells q0 e0 [d])) s=some (NC (.ptr r0 0 0) c6 none):=by rw[Ag h.ne.symm];exact N
 show E7 (upd f r0 (.cells q0 e0 [d])) s false (some none) _=_;have j:=D;unfold NC at j;rw[Pg j];have kp:∀u y,u≠r0->u≠s->¬A8 v u->Aj H u=some y->Aj (upd (upd f r0 (.cells q0 e0 [d])) s (NC (.ptr r0 0 0) c6 (some none))) u=some y:=λu y h1 h2 t c=>by
  rw[Ag h2,Ag h1];exact J u y (by rw[Ag h2];exact c) t
 refine hx d _ ⟨?_,?_,?_,k,Bq (Bq t),λu y c=>?_,h.ne,h.r0n,h.sn,h.w0⟩ kp g
 ·rw[Ag h.ne];exact AC B
 ·have a:=h2.lat t (Lat.upd f r0 (.cells q0 e0 [d]) (P:=λu=>u=r0) rfl) (λu c=>(k u c).1);exact a.lat (Bq t) (Lat.upd _ s _ (P:=λu=>u=s) rfl) (λu c=>(k u c).2.1)
 ·exact Ff D
 ·have Y:=h.w0.lt c;have b1:=h.r0n;have b2:=h.sn;exact kp u y (by omega) (by omega) (λhv=>by have:=(h.new u hv).2.2;omega) (h.keep u y c)
theorem Coll.it{H0 H:Hp}{r0 s e0 it:Nat}{q0:Bool}{c6 v:AV}{l:List Ha}(h:Coll H0 r0 s q0 e0 c6 l v H)(y:Row)(h1:it≠r0/\it≠s/\As H0<=it)(h2:¬A8 v it):Coll H0 r0 s q0 e0 c6 l v (upd H it y):=
 ⟨by rw[Ag h1.1.symm];exact h.at_,h.sl.lat h.wf (Lat.upd H it y (P:=λu=>u=it) rfl) (λu a e=>h2 (e▸a)),by rw[Ag h1.2.1.symm];exact h.lp,h.new,Bq h.wf,λu z a=>by rw[Ag (by have:=h.w0.lt a;omega)];exact h.keep u z a,h.ne,h.r0n,h.sn,h.w0⟩
def L0{r:Nat}{x:Row}{es:IH}{o:Option (Value×AV)}(h:Aj H r=some x):Aj (upd H r (.iter es o)) r=some (.iter es o):=(B8 h).trans rfl
def B4o{H0:Hp}{r0 s e0 it:Nat}{c6 w:AV}{t:Ru}(M:Vw 6 w w=true)(r:ks.length<1000000)(i:∀l v H,l.Perm ks->(l=[]->v=Aw)->Coll H0 r0 s q0 e0 c6 l v H->t H=some (w,[]))(c:it≠r0/\it≠s/\As H0<=it):
 ∀(f:Nat)(es:List (Ha×Unit))(l:List Ha)(v:AV)(H:Hp)(o:Option (Value×AV)),es.length<f->(l++es.map Prod.fst).Perm ks->(l=[]->v=Aw)->Coll H0 r0 s q0 e0 c6 l v H->¬A8 v it->Aj H it=some (.iter (Df uS es) o)->
 D6 (L+20) (r! L (n+1)) K t f (.yl s) (.it it) H=some (w,[]):=by
 intro f
 induction f with
 |zero=>intro es l v H o h;omega
 |succ f ih=>
  intro es l v H o D p C hc hv q;rw[Ji];unfold D7;refine XW (f:=uS) M q (λe=>?_) (λa e b he=>?_)
  ·subst e;rw[F3,Bh];exact i l v H (by simpa using p) C hc
  ·subst he;have g:=hc.it (.iter (Df uS (a++b)) (some (.string ⟨⟨e.1⟩⟩,uS e.2))) c hv;have d:=L0 (es:=Df uS (a++b)) (o:=some (.string ⟨⟨e.1⟩⟩,uS e.2)) q;have k:(l++(a++e::b).map Prod.fst).length=ks.length:=p.length_eq;simp at k;have y:sQ (.string ⟨⟨e.1⟩⟩)=S e.1:=rfl;rw[F3,Cr,Nu d,F3,y];refine H! g (by omega) λN u j F hr=>?_;rw[Et];show A2 (.v (.bool false)) _ _=_;rw[Bh];refine ih (a++b) (l++[e.1]) N u _ (by simp at D⊢;omega) ?_ (by simp) j (λJ=>?_) (F it _ c.1 c.2.1 hv d)
   ·refine List.Perm.trans ?_ p;simp only[Za,Xa,ZL];refine List.Perm.append_left l ?_;show(e.1::(a.map Prod.fst++b.map Prod.fst)).Perm _;exact List.perm_middle.symm
   ·have A:=hr it J;have B:=g.wf.lt d;rw[BB]at A B;omega
end
abbrev lP(c:AV):AV:=.fn (.func FB) [] [c]
section
variable{K:KV}{w:AV}{H0:Hp}{m rb:Nat}{es:List (Ha×Unit)}
def C1e(es:List (Ha×Unit)):(Df uS es).all (λp=>iT 3 p.2)=true:=by
 rw[GE];intro p a;obtain⟨e,_,rfl⟩:=Mj.1 a;rfl
def A2S(N:Vw 6 w w=true)(hn:es.length<1000000)(R:es.length<L)(wf:Wf H0)(hb:Aj H0 rb=some (c_ CN [.mp m]))(hm:Aj H0 m=some (.map false (Df uS es) none))(O:∀l v H,l.Perm (es.map Prod.fst)->(l=[]->v=Aw)->NewSl (upd H0 m .gone) l v H->K v H=some (w,[])):
 (r! L (n+4)).call EF [lP (.ptr rb 0 0)] H0 K=some (w,[]):=by
 rw[GC];unfold EE;rw[D9];unfold C4;simp only[BJ];rw[mG (by rfl),VE,Js];unfold DF;simp only[BJ];have w1:=AJ (x:=.cells true A5 [Aw]) wf;have g:=Az (H:=H0) (x:=.cells true A5 [Aw]) (by simp);have J:As ((As H0,c_ A5 [Aw])::H0)=As H0+1:=rfl;have A:Wf ((As H0+1,NC (.ptr (As H0) 0 0) (lP (.ptr rb 0 0)) (some none))::(As H0,c_ A5 [Aw])::H0):=AJ (x:=NC (.ptr (As H0) 0 0) (lP (.ptr rb 0 0)) (some none)) w1;have k:Aj ((As H0+1,NC (.ptr (As H0) 0 0) (lP (.ptr rb 0 0)) (some none))::(As H0,c_ A5 [Aw])::H0) (As H0+1)=some (NC (.ptr (As H0) 0 0) (lP (.ptr rb 0 0)) (some none)):=Az (H:=((As H0,c_ A5 [Aw])::H0)) (x:=NC (.ptr (As H0) 0 0) (lP (.ptr rb 0 0)) (some none)) (by simp[NC]);have ol:∀u y,Aj H0 u=some y->Aj ((As H0+1,NC (.ptr (As H0) 0 0) (lP (.ptr rb 0 0)) (some none))::(As H0,c_ A5 [Aw])::H0) u=some y:=λu y c=>by
  have a1:=A7 (x:=.cells true A5 [Aw]) (wf.lt c) c;exact A7 (w1.lt a1) a1
 show AD CD (.ptr rb 0 0) ((As H0+1,NC (.ptr (As H0) 0 0) (lP (.ptr rb 0 0)) (some none))::(As H0,c_ A5 [Aw])::H0) _=_;rw[AQ (p:=0) rfl (ol _ _ hb) (by simp)];show WN (.mp m) ((As H0+1,NC (.ptr (As H0) 0 0) (lP (.ptr rb 0 0)) (some none))::(As H0,c_ A5 [Aw])::H0) _=_;rw[A5L (ol _ _ hm) (C1e es)];have mlt:=wf.lt hm;have D:Wf (upd H0 m .gone):=Bq wf;have j:Aj ((As H0+1,NC (.ptr (As H0) 0 0) (lP (.ptr rb 0 0)) (some none))::(As H0,c_ A5 [Aw])::H0) (As H0)=some (c_ A5 [Aw]):=A7 (w1.lt g) g;generalize q:((As H0+1,NC (.ptr (As H0) 0 0) (lP (.ptr rb 0 0)) (some none))::(As H0,c_ A5 [Aw])::H0:Hp)=d at A k ol j;have i:As d=As H0+2:=by rw[<-q];rfl
 have B:Wf (upd d m .gone):=Bq A;have r:As (upd d m .gone)=As H0+2:=by rw[BB,i]
 have C:=AJ (x:=.iter (Df uS es) none) B;have up:∀u y,u≠m->Aj d u=some y->Aj ((As d,Row.iter (Df uS es) none)::upd d m .gone) u=some y:=λu y c Q=>by
  have a:Aj (upd d m .gone) u=some y:=by rw[Ag c];exact Q
  have b:=A7 (x:=.iter (Df uS es) none) (B.lt a) a;rw[r,<-i]at b;exact b
 have t:Aj ((As d,Row.iter (Df uS es) none)::upd d m .gone) (As d)=some (.iter (Df uS es) none):=by
  have:=Az (H:=upd d m .gone) (x:=.iter (Df uS es) none) (by simp);rw[BB]at this;exact this
 rw[BB]at C;refine B4o (n:=n) (H0:=upd H0 m .gone) (r0:=As H0) (s:=As H0+1) (it:=As d) (q0:=true) (e0:=A5) (c6:=lP (.ptr rb 0 0)) (ks:=es.map Prod.fst) N (by simpa using hn) ?_ (by rw[BB];omega) (L+20) es [] Aw _ none (by omega) (by simp) (λ_=>rfl)
  ⟨up _ _ (by omega) j,.inl ⟨rfl,rfl,rfl⟩,up _ _ (by omega) k,λu ⟨_,_,_,h⟩=>(by cases h),C,λu y c=>?_,by omega,by rw[BB];omega,by rw[BB];omega,D⟩ (λ⟨_,_,_,h⟩=>(by cases h)) t
 ·intro l v H M F hc;show I6 H (As H0+1) _=_;rw[AX hc.lp];show Ll H (As H0+1) .gone _=_;rw[Dh];have hr:Aj (upd H (As H0+1) .gone) (As H0)=some (c_ A5 [v]):=by rw[Ag (by omega)];exact hc.at_
  show AD Ac (.ptr (As H0) 0 0) (upd H (As H0+1) .gone) _=_;rw[AQ (p:=0) rfl hr (by simp)];refine O _ _ _ M F ⟨?_,λu c=>(hc.new u c).2.2,Bq hc.wf,λu y c=>?_,?_⟩
  ·exact hc.sl.lat hc.wf (Lat.upd H _ _ (P:=λu=>u=As H0+1) rfl) (λu c=>(hc.new u c).2.1)
  ·have:=D.lt c;rw[BB]at this;rw[Ag (by omega)];exact hc.keep u y c
  ·rw[BB,BB];have:=hc.wf.lt hc.at_;omega
 ·have f:u≠m:=λe=>by
   subst e;rw[B8 hm]at c;cases c
  rw[Ag f]at c;exact up u y f (ol u y c)
def A2I{x:Af}{ps:List Ha}(wf:Wf H0)(hn:ps.length<1000000000)(C:ps=[]->v=Aw)(c:NewSl H0 ps v H)(t:∀d,NewSl H0 (DW ps) v d->K (.tup []) d=x):
 (r! L (n+4)).call AH [v] H K=x:=by
 by_cases b:ps=[]
 ·subst b;obtain rfl:=C rfl;have e:(r! L (n+4)).call AH [Aw] H K=K (.tup []) H:=by kernel_rfl
  rw[e];exact t H c
 have p:=(Bg ps).length_eq;rcases c.sl with⟨_,h,_⟩|⟨r,q,rfl,k,hc⟩
 ·exact absurd (gL h) b
 ·have A:∀K,(r! L (n+4)).call AH [.sl 1 r 0 ps.length] H K=Tr [.sl 1 r 0 ps.length] H K (YI (E (L+20)) (nT (L+20)) (r! L (n+3)) AH [.sl 1 r 0 ps.length] H K):=λK=>rfl;rw[A];have j:∀(l:List Ha),UO (AG l)=some l:=λl=>by
   induction l with
   |nil=>rfl
   |cons a l ih=>show(UO (AG l)).map _=_;rw[ih];rfl
  have s:0<ps.length:=List.length_pos_iff.2 b;have B:∀alt K,Tr [.sl 1 r 0 ps.length] H K alt=Er 0 (AG (DW ps)) (AG ps) λi=>Ll H r (.cells q Av i) λd=>K (.tup []) d:=λalt K=>by
   unfold Tr;simp only[k,pE];rw[Y? (by rw[AZ];omega),j];have g:(Nat.beq ps.length ps.length&&(Nat.blt ps.length 4611686018427387904&&Nat.blt 0 ps.length))=true:=by simp;omega
   simp only[g];rfl
  rw[B,Iq _ _ _ _ (by rw[AZ,AZ];omega),VC _ _ (by rw[AZ,AZ];exact p),Dh];refine t _ ⟨.inr ⟨r,q,by rw[p],AC k,by rw[AZ];omega⟩,λu f=>c.new u f,Bq c.wf,λu y f=>?_,by rw[BB];exact c.nx⟩;have a1:=wf.lt f;have a2:=c.new r ⟨1,0,ps.length,rfl⟩;rw[Ag (by omega)];exact c.keep u y f
def B1w{ty m:Nat}:Hr ty (.mp m) H K=K (.ptr (As H) 0 0) ((As H,c_ ty [.mp m])::H):=by
 unfold Hr;rw[CK,FK,BW];rfl
def mS(q:Vw 6 w w=true)(hn:es.length<1000000)(j:es.length<L)(wf:Wf H0)(hm:Aj H0 m=some (.map false (Df uS es) none))(f:(es.map Prod.fst).Perm ks)(p:ks.Pairwise (· <= ·))(r:∀v H,B0 H Av 1 v ks.length (AG ks)->(ks=[]->v=Aw)->K v H=some (w,[])):(r! L (n+6)).call Ks [.mp m] H0 K=some (w,[]):=by
 rw[Yh];unfold Nc;rw[Kn];unfold E3 Iu;have i:∀{K:KV},Hr CN (.mp m) H0 K=K (.ptr (As H0) 0 0) ((As H0,c_ CN [.mp m])::H0):=λ{K}=>B1w;rw[i];show(r! L (n+5)).call Ef [lP (.ptr (As H0) 0 0)] ((As H0,c_ CN [.mp m])::H0) _=_;rw[Hh];unfold EV;have w1:=AJ (x:=.cells true CN [.mp m]) wf;have hb:=Az (H:=H0) (x:=.cells true CN [.mp m]) (by simp);have b:=A7 (x:=.cells true CN [.mp m]) (wf.lt hm) hm;refine A2S (n:=n) q hn j w1 hb b λl v H c d hc=>?_;have e:DW l=ks:=IB ((Bg l).trans (c.trans f)) (D2 l) p;have k:l.length=es.length:=by rw[c.length_eq,Qa]
 refine A2I (n:=n) (Bq w1) (by omega) d hc λg a=>?_;rw[e]at a;refine r v g a.sl λh=>d ?_;have:=(c.trans f).length_eq;rw[h]at this;exact gL this
end
end
section
variable{q:Bool}{H:Hp}{e i r:Nat}{R:Rt}
variable{L n:Nat}{K:KV}{x:Af}
def fB{ty:TI}{K:K2}(a:0<i)(h:i<1000000000):Ap ty .sub (I i) (.v (.int .i64 1)) K=K (I ((i-1:Nat):Int)):=by
 rw[KB,CV (by omega) (by omega)];have:(i:Int)-1=((i-1:Nat):Int):=by omega
 rw[this]
def S?{l:List Ha}{K:K2}(a:Aj H r=some (.cells q e (AG l)))(h:i<l.length):AD Ak (.ptr r i 0) H K=K (S l[i]):=by
 rw[AQ (p:=i) rfl a (by rw[AZ];exact h),Pe h]
def Rr{r i m:Nat}{K:K2}(h:i<m):Ds Ac (.sl 1 r 0 m) (I i) K=K (.ptr r i 0):=by
 rw[S_ rfl (by omega) (by omega),jI]
def C0e{c:KV}{l:List Ha}(b:Aj H r=some (.cells q e (AG l)))(hn:l.Nodup)(hb:l.length<1000000000):∀(f i:Nat)(v w:AV),1<=i->i<=l.length->l.length-i<f->
 Ea (L+20) R K c f (.sl 1 r 0 l.length) (I i) v w H=c (.sl 1 r 0 l.length) H:=by
 intro f
 induction f with
 |zero=>intro i v w _ _ h;omega
 |succ f ih=>
  intro i v w h1 j g;rw[Iw];unfold Eb OG A3;have d:∀K,Bm Ac (.sl 1 r 0 l.length) K=K (I l.length):=λK=>id rfl;rw[d];by_cases h:i<l.length
  ·rw[FV (by omega),Cr,Rr h,B4,S? b h,B4,fB (by omega) (by omega),B4,Rr (by omega),B4,S? b (by omega),B4,Mb];have a:l[i]≠l[i-1]:=λe=>by
    have:=(List.getElem_inj (h₀:=h) (h₁:=by omega) hn).1 e;omega
   rw[HX a,B4,Bh,Dd (by omega)];exact ih (i+1) _ _ (by omega) (by omega) (by omega)
  ·rw[FT (by omega),Bh]
def A6u{l:List Ha}(c:Aj H r=some (.cells q e (AG l)))(hn:l.Nodup)(hb:l.length<1000000000)(d:l.length<L):
 (r! L (n+1)).call Cq [.sl 1 r 0 l.length] H K=K (.sl 1 r 0 l.length) H:=by
 rw[IC];unfold Ep A3;simp only[BJ];have b:∀K,Bm Ac (.sl 1 r 0 l.length) K=K (I l.length):=λK=>id rfl;rw[b];by_cases h:l.length<2
 ·rw[FV (by omega),Cr]
 ·rw[FT (by omega),Bh];have a:(AV.v (.int .i64 1))=I ((1:Nat):Int):=rfl;rw[a,C0e c hn hb _ 1 _ _ (by omega) (by omega) (by omega)]
def C18{s:Ha}(h:s.length=32):PS (r! L (n+1)) El [S s] (Bo false):=by
 refine CS.ps (λK a=>?_) (λH=>λK=>by kernel_rfl);rw[Px];unfold Io Iu;rw[PQ rfl,h,IS];exact a _ _ (λb=>⟨false,λK=>by kernel_rfl⟩)
abbrev B1R:AV:=.fn (.func El) [] []
def B9q{a:Ru}{ps:List Ha}(hb:ps.length<1000000000)(c:∀s∈ps,s.length=32):∀(f i:Nat),i<=ps.length->ps.length-i<f->
 DH (L+20) (r! L (n+1)) K a f (Ls ps) B1R (I ps.length) (I i) H=a H:=by
 intro f
 induction f with
 |zero=>intro i _ h;omega
 |succ f ih=>
  intro i g d;rw[Hv];unfold DI HR A3;by_cases h:i<ps.length
  ·rw[FV (by omega),Cr,XA7 h,LD];have b:∀K,Ct (E (L+20)) (r! L (n+1)) B1R [S ps[i]] H K=Ao (r! L (n+1)) El [S ps[i]] H λv=>K v H:=λK=>by kernel_rfl
   rw[b,C18 (c _ (PD h)),Bh,Dd (by omega)];exact ih (i+1) (by omega) (by omega)
  ·rw[FT (by omega),Bh]
def A8Q{ps:List Ha}(hb:ps.length<1000000000)(g:ps.length<L)(f:∀s∈ps,s.length=32):CS (r! L (n+3)) B2 [Ls ps,B1R] (Bo false):=by
 intro K a;rw[GI];unfold D1 Lr;have d:CS (r! L (n+2)) DR [Ls ps,B1R] (I (-1)):=by
  intro K a;rw[HW];unfold DQ A3;simp only[BJ];have c:(AV.v (.int .i64 0))=I ((0:Nat):Int):=rfl;rw[MN,c,B9q hb f _ 0 (by omega) (by omega)];exact a _ _ (λb=>⟨false,λK=>by kernel_rfl⟩)
 rw[AR (q:=false) d (λK=>by kernel_rfl),KC];exact a _ _ (λb=>⟨false,λK=>by kernel_rfl⟩)
def K1{f:Nat}{args args':Is}{v:AV}{K:K2}(hc:∀K:KV,(∀a b,(∃q,Fx true depth a v b q)->K a b=some (v,[]))->R.call f args' [] K=some (v,[]))(g:R5 true depth args args' H false):Ao R f args H K=K v:=by
 unfold Ao;rw[g];have:=hc (λa c=>HQ (!false) c depth a λ_ j=>some (j,[])) (λa b h=>by
  obtain⟨k,d⟩:=h;exact d _)
 rw[this];rfl
def xS{ps:List Ha}(hn:ps.Nodup)(y:1<=ps.length)(hb:ps.length<=6)(A:10<L)(t:∀s∈ps,s.length=32):
 CS (r! L (n+6)) JI [Ls ps] (Bo true):=by
 intro K d;rw[SC];unfold JD Dk A3 HS;have hv:∀K,Ao (r! L (n+5)) Gq [Ls ps] [] K=K (A8W ps):=λK=>by
  refine K1 (args':=[Ls ps]) (λK d=>?_) (λK=>by kernel_rfl);rw[MX];unfold Gb Iu;rw[C02];exact d _ _ ⟨true,λK=>by kernel_rfl⟩
 rw[hv];refine A8s (n:=n) (by omega) (by omega) (by omega) Fl λv H u=>?_;have k:=(Bg ps).length_eq;rcases u.sl with⟨_,h,_⟩|⟨r,q,rfl,hr,hc⟩
 ·omega
 rw[MN,eS (n:=n+4) (by omega) (by omega)];have g:∀(x:Bool->Af),gdV true (Bo true) x=x true:=λx=>id rfl;have c:∀{v:AV}{H:Hp}{K:KV},D5 (some (v,H)) K=K v H:=id rfl;have pk:∀{a b:AV}{K:K2},Ck (Bo true) a b K=K a:=id rfl;have w:∀{K:K2},Mv .not (Bo false) K=K (Bo true):=id rfl;simp only[g,c];have f:∀K,Ao (r! L (n+5)) B2 [Ls ps,B1R] H K=K (Bo false):=λK=>AR (q:=false) (A8Q (n:=n+2) (by omega) (by omega) t) (λK=>by kernel_rfl);have p:∀m K,Bm Ac (.sl 1 r 0 m) K=K (I m):=λm K=>id rfl;have j:∀K,(r! L (n+5)).call Cq [.sl 1 r 0 ps.length] H K=K (.sl 1 r 0 ps.length) H:=λK=>by
  have:=A6u (K:=K) (L:=L) (n:=n+4) hr ((Bg ps).nodup_iff.2 hn) (by omega) (by omega);rw[k]at this;exact this
 simp only[f,w,c,pk,g,j,p,MN,CQ,k,decide_true];exact d _ _ (λb=>⟨false,λK=>by cases b<;>kernel_rfl⟩)
end
section
variable{a b:Int}
def dig(k:Nat):Ha:=if k<10 then[UInt8.ofNat (48+k)] else[UInt8.ofNat (48+k/10),UInt8.ofNat (48+k%10)]
def dec(z:Int):Ha:=if z<0 then 45::dig z.natAbs else dig z.natAbs
def qn(z:Int):Ha:=dec (if z%4=0 then z/4 else if z%2=0 then z/2 else z)
def qd(z:Int):Ha:=if z%4=0 then[49] else if z%2=0 then[50] else[52]
abbrev qa(z:Int):Is:=[S (qn z),S (qd z)]
def B0R{p:Int->Bool}(h:((List.range (b-a).toNat).all λk=>p ((k:Int)+a))=true){z:Int}(h1:a<=z)(h2:z<b):p z=true:=by
 have:=GE.1 h (z-a).toNat (KE.2 (by omega));have e:(((z-a).toNat:Nat):Int)+a=z:=by omega
 simp only[e]at this;exact this
def A6M{L m f:Nat}{args:Int->Is}{val:Int->AV}(c:∀z H,R5 true depth (args z) (args z) H false)(h:((List.range (b-a).toNat).all λk=>JM (Bc (Dt (rt L m) f (args ((k:Int)+a))) (val ((k:Int)+a))))=true){z:Int}(h1:a<=z)(h2:z<b):PS (rt L m) f (args z) (val z):=
 BK (c z) (B0R (p:=λz=>JM (Bc (Dt (rt L m) f (args z)) (val z))) h h1 h2)
def XL{z:Int}(h1: -80<=z)(h2:z<81):(qn z).length<4:=by
 have:=B0R (p:=λz=>decide ((qn z).length<4)) (a:= -80) (b:=81) (by kernel_rfl) h1 h2;simpa using this
def XM(z:Int):(qd z).length=1:=by unfold qd;split<;>(try split)<;>rfl
def C1P{z:Int}(h1: -80<=z)(h2:z<81)(h:z≠0):qn z≠[48]:=by
 have:=B0R (p:=λz=>decide (z=0\/qn z≠[48])) (a:= -80) (b:=81) (by kernel_rfl) h1 h2;simpa [h] using this
end
section
variable{L n:Nat}
def A9F{z:Int}(h1: -80<=z)(h2:z<81):PS (r! L (n+40)) Gt [I z,I 4] (.tup [.agg (qa z),I 0]):=
 A6M (args:=λz=>[I z,I 4]) (val:=λz=>.tup [.agg (qa z),I 0]) (a:= -80) (b:=81) (λz H K=>by kernel_rfl) (by kernel_rfl) h1 h2
def sG{z:Int}(h1: -80<=z)(h2:z<81):PS (r! L (n+40)) Fz [.agg (qa z)] (Bo true):=
 A6M (args:=λz=>[.agg (qa z)]) (val:=λz=>Bo true) (a:= -80) (b:=81) (λz H K=>by kernel_rfl) (by kernel_rfl) h1 h2
def B8G{z:Int}(h1:0<=z)(h2:z<9):PS (r! L (n+40)) QJ [.agg (qa z),.agg [S [48],S [49]]] (I (if z=0 then 0 else 1)):=
 A6M (args:=λz=>[.agg (qa z),.agg [S [48],S [49]]]) (val:=λz=>I (if z=0 then 0 else 1)) (a:=0) (b:=9) (λz H K=>by kernel_rfl) (by kernel_rfl) h1 h2
def A0M{z:Int}(h1:0<=z)(h2:z<1):PS (r! L (n+40)) ME [I z] (.agg [S [48],S [49]]):=
 A6M (args:=λz=>[I z]) (val:=λz=>.agg [S [48],S [49]]) (a:=0) (b:=1) (λz H K=>by kernel_rfl) (by kernel_rfl) h1 h2
end
section
variable{q:Bool}{y:Bool->Af}{H:Hp}{i:Nat}{t:TI}{α:Type}
variable{L n:Nat}
def iE(f:α->Is)(w:Nat)(b:∀x,(f x).length=w):∀l:List α,(l.flatMap f).length=l.length*w:=by
 intro l
 induction l with
 |nil=>simp
 |cons a l ih=>simp[ih,b,Z',Nat.add_comm]
def uB(f:α->Is)(w:Nat)(b:∀x,(f x).length=w):∀(l:List α)(i:Nat)(h:i<l.length),((l.flatMap f).drop (i*w)).take w=f l[i]:=by
 intro l
 induction l with
 |nil=>intro i h;simp at h
 |cons a l ih=>
  intro i h;cases i with
  |zero=>
   simp only[qB,Nat.zero_mul,pE,List.getElem_cons_zero];rw[l34 (by rw[b];omega),Y? (by rw[b];omega)]
  |succ i=>
   simp only[qB,List.getElem_cons_succ];have:(i+1)*w=(f a).length+i*w:=by rw[b,Z'];omega
   rw[this,List.drop_append,List.drop_of_length_le (by omega),l3d,Nat.add_sub_cancel_left];exact ih i (by simpa using h)
def XA8{e w:Nat}{f:α->Is}{l:List α}{K:K2}(g:t.d=.slice e w)(p:∀x,(f x).length=w)(h:i<l.length):Ds t (.list l.length (l.flatMap f)) (I i) K=K (.iptr (f l[i])):=by
 have j:Ds t (.list l.length (l.flatMap f)) (I (i:Int)) K=iN (i:Int) λm=>ck (Nat.blt m l.length) (OW w (Dg (Nat.mul m w) (l.flatMap f)) λc=>K (.iptr c)):=by
  obtain⟨a,b,d,z⟩:=t;simp only at g;subst g;rfl
 rw[j,Ju,Cy,MD];have k:Nat.blt i l.length=true:=by rw[Wr];exact h
 rw[k];show K (.iptr (((l.flatMap f).drop (i*w)).take w))=_;rw[uB f w p l i h]
def GB{r p e:Nat}{cs:Is}{K:K2}(h:t.d.isAgg=true)(a:Aj H r=some (.cells q e cs))(b:p+t.size<=cs.length):AD t (.ptr r p 0) H K=K (.agg ((cs.drop p).take t.size)):=by
 have:AD t (.ptr r p 0) H K=I6 H r λx=>J6 x λ_ cs=>@Bool.rec (λ_=>Af) (hdK (Dg (Nat.add p 0) cs) K) (Ek t.size (Dg (Nat.add p 0) cs) λc=>K (.agg c)) t.d.isAgg:=rfl;rw[this,h,AX a];show Ek t.size (Dg p cs) _=_;rw[Cy,JU _ _ _ (by simp;omega)]
abbrev jL:=List (Int×Int)
def OI(t:Int×Int):Is:=[I t.1,S (qn t.2),S (qd t.2)]
def FF(ts:jL):AV:=match ts with
 |[]=>Aw
 |t::ts=>.list (t::ts).length ((t::ts).flatMap OI)
structure TmsOk(ts:jL):Prop where
 len:ts.length<=6
 rng:∀t∈ts,1<=t.1/\t.1<=100/\ -8<=t.2/\t.2<=8/\t.2≠0
 asc:ts.Pairwise λa b=>a.1<b.1
def Ht(ts:jL):Sl (FF ts):=by
 cases ts with
 |nil=>exact .inl rfl
 |cons t ts=>exact .inr ⟨_,_,rfl⟩
def Qs{ts:jL}{K:K2}:Bm AB (FF ts) K=K (I ts.length):=by cases ts<;>exact id rfl
def B32{ts:jL}(h:i<ts.length):FF ts=.list ts.length (ts.flatMap OI):=by
 cases ts with
 |nil=>simp at h
 |cons t ts=>rfl
def WO{ts:jL}{K:K2}(h:i<ts.length):Ds AB (FF ts) (I i) K=K (.iptr (OI ts[i])):=by
 rw[B32 h];exact XA8 (f:=OI) rfl (λ_=>rfl) h
def C4H{a b c d:Ha}{K:K2}:Xp Ro .eql (.agg [S a,S b]) (.agg [S c,S d]) K=K (Bo (decide (a=c)&&decide (b=d))):=by
 have e:Xp Ro .eql (.agg [S a,S b]) (.agg [S c,S d]) K=(match(generalizing:=false) (some (eqB a c&&(eqB b d&&true)):Option Bool),BinOp.eql with
  |some q,.eql=>bB q K
  |some q,.neq=>bB (!q) K
  |_,_=>none):=rfl
 rw[e];show bB _ K=_;rw[OH,QK,QK,l1g];have h1:∀(x y:Ha),(x==y)=decide (x=y):=λx y=>by by_cases h:x=y<;>simp[h]
 rw[h1,h1]
section
variable{K:KV}{x:Af}{ca cb ra rb:Ha}{ts:jL}
def gT:gdV q (.v (.bool q)) y=y true:=by cases q<;>exact id rfl
def ZC:gdV true (.v (.bool false)) y=y false:=id rfl
def xG:gdV false (.v (.bool true)) y=y false:=id rfl
def Cb{v:AV}:D5 (some (v,H)) K=K v H:=id rfl
def Tt{a b:AV}{K:K2}:Ck (.v (.bool true)) a b K=K a:=id rfl
def Sf{a b:AV}{K:K2}:Ck (.v (.bool false)) a b K=K b:=id rfl
def ntT{K:K2}:Mv .not (.v (.bool true)) K=K (Bo false):=id rfl
def ntF{K:K2}:Mv .not (.v (.bool false)) K=K (Bo true):=id rfl
abbrev A1u(ca cb ra rb:Ha)(ts:jL):Row:=.cells true EG [S ca,S cb,FF ts,S ra,S rb]
def C1F{j:Ru}{r0:Nat}(u:TmsOk ts)(J:∀H,j H=x):∀(f i:Nat)(H:Hp),i<=ts.length->ts.length-i<f->Aj H r0=some (A1u ca cb ra rb ts)->Wf H->
 RS (L+20) (r! L (n+41)) K j f (.ptr r0 0 0) (I i) H=x:=by
 intro f
 induction f with
 |zero=>intro i H _ h;omega
 |succ f ih=>
  intro i H R Q m w;have hb:=u.len;rw[kI];unfold RU Em HR Dk Hl A3 Mf HS;have f2:∀K:K2,CY 2 (.ptr r0 0 0) K=K (.ptr r0 2 0):=λK=>id rfl;have l2:∀K,AD AB (.ptr r0 2 0) H K=K (FF ts):=λK=>AQ (p:=2) rfl m (by simp);rw[f2,l2,Qs];by_cases h:i<ts.length
  ·rw[FV (by omega),Cr,f2,l2,WO h];have hr:=u.rng _ (PD h);have lt:∀H K,AD BU (.iptr (OI ts[i])) H K=K (.agg (OI ts[i])):=λH K=>id rfl;rw[lt,B3 (cs:=[zI,zS,zS]) rfl];have g:=Az (H:=H) (x:=.cells true Ba [zI,zS,zS]) (by simp);rw[Ch (vs:=OI ts[i]) g rfl rfl rfl];have b:=AC (q:=true) (e:=Ba) (cs:=OI ts[i]) g;have s:=w.lt m;have a:Aj (upd ((As H,c_ Ba [zI,zS,zS])::H) (As H) (c_ Ba (OI ts[i]))) r0=some (A1u ca cb ra rb ts):=by
    rw[Ag (by omega)];exact A7 s m
   have w1:=Bq (r:=As H) (y:=.cells true Ba (OI ts[i])) (AJ (x:=.cells true Ba [zI,zS,zS]) w);generalize upd ((As H,c_ Ba [zI,zS,zS])::H) (As H) (c_ Ba (OI ts[i]))=c at b a w1;generalize As H=r at b;have C:∀K:K2,CY 1 (.ptr r 0 0) K=K (.ptr r 1 0):=λK=>id rfl;have B:∀K:K2,CY 0 (.ptr r 0 0) K=K (.ptr r 0 0):=λK=>id rfl;have m1:∀K,AD A6 (.ptr r 1 0) c K=K (.agg (qa ts[i].2)):=λK=>GB (p:=1) rfl b (show 3<=3 from Me _);have m0:∀K,AD Ab (.ptr r 0 0) c K=K (I ts[i].1):=λK=>AQ (p:=0) rfl b (show 0<3 by decide);have P:∀K,AD AB (.ptr r0 2 0) c K=K (FF ts):=λK=>AQ (p:=2) rfl a (by simp);rw[C,m1,sG (n:=n+1) (by omega) (by omega)];have hq:=C1P (by omega) (by omega) hr.2.2.2.2;have F:∀H K,Ao (r! L (n+41)) ME [.v (.int .i64 0)] H K=K (.agg [S [48],S [49]]):=λH K=>A0M (z:=0) (n:=n+1) (by decide) (by decide) H K;have i1:∀K,Ap Ab .lss (I ts[i].1) (.v (.int .i64 1)) K=K (Bo false):=λK=>FT (by omega);have i2:∀K,Ap Ab .gtr (I ts[i].1) (.v (.int .i64 1000000)) K=K (Bo false):=λK=>by rw[Eo,HX (by omega)]
   simp only[ntT,B4,gT,C,m1,Cb,F,C4H,hq,decide_false,Bool.false_and,Sf,B,m0,i1,i2];by_cases k:0<i
   ·have A:∀K,Ap Ab .gtr (I (i:Int)) (.v (.int .i64 0)) K=K (Bo true):=λK=>by rw[Eo,Hj (by omega)]
    have d:i-1<ts.length:=by omega
    have M:∀K:K2,CY 0 (.iptr (OI ts[i-1])) K=K (.iptr (OI ts[i-1])):=λK=>id rfl;have N:∀K,AD Ab (.iptr (OI ts[i-1])) c K=K (I ts[i-1].1):=λK=>id rfl;have D:ts[i-1].1<ts[i].1:=(l26.1 u.asc) (i-1) i d h (by omega);have O:∀K,Ap Ab .geq (I ts[i-1].1) (I ts[i].1) K=K (Bo false):=λK=>by rw[KC,HX (by omega)]
    simp only[A,B4,Cb,gT,f2,P,fB k (by omega:i<1000000000),WO d,M,N,B,m0,O,Tt,Sf];rw[Bh,Dd (by omega)];exact ih (i+1) c (by omega) (by omega) a w1
   ·have A:∀K,Ap Ab .gtr (I (i:Int)) (.v (.int .i64 0)) K=K (Bo false):=λK=>by rw[Eo,HX (by omega)]
    simp only[A,B4,Cb,gT,ZC,Tt,Sf];rw[Bh,Dd (by omega)];exact ih (i+1) c (by omega) (by omega) a w1
  ·rw[FT (by omega),Bh];exact J H
def sJ{c r:Int}(j: -80<=c)(k:c<=80)(m:0<=r)(s:r<=8)(A:10<L)(d:TmsOk ts):CS (r! L (n+42)) JG [.agg (ZM (qn c) (qd c) (FF ts) (qn r) (qd r))] (Bo true):=by
 intro K h;have hb:=d.len;rw[oL];unfold Uc Em Hl A3 Mf HS;rw[En (by cases ts<;>rfl)];have a:=Az (H:=[]) (x:=A1u (qn c) (qd c) (qn r) (qd r) ts) (by simp);have w0:Wf [(As [],A1u (qn c) (qd c) (qn r) (qd r) ts)]:=AJ Fl;generalize [(As [],A1u (qn c) (qd c) (qn r) (qd r) ts)]=H at a w0;generalize As []=r0 at a;have f:∀K:K2,CY 0 (.ptr r0 0 0) K=K (.ptr r0 0 0):=λK=>id rfl;have f2:∀K:K2,CY 2 (.ptr r0 0 0) K=K (.ptr r0 2 0):=λK=>id rfl;have f3:∀K:K2,CY 3 (.ptr r0 0 0) K=K (.ptr r0 3 0):=λK=>id rfl;have m0:∀K,AD A6 (.ptr r0 0 0) H K=K (.agg (qa c)):=λK=>GB (p:=0) rfl a (show 2<=5 by decide);have m3:∀K,AD A6 (.ptr r0 3 0) H K=K (.agg (qa r)):=λK=>GB (p:=3) rfl a (show 5<=5 by decide);have w:∀K,AD AB (.ptr r0 2 0) H K=K (FF ts):=λK=>AQ (p:=2) rfl a (show 2<5 by decide);have u:∀H K,Ao (r! L (n+41)) ME [.v (.int .i64 0)] H K=K (.agg [S [48],S [49]]):=λH K=>A0M (z:=0) (n:=n+1) (by decide) (by decide) H K;rw[f,m0,sG (n:=n+1) (by omega) (by omega),f3,m3,sG (n:=n+1) (by omega) (by omega)];have h1:∀K,Ao (r! L (n+41)) QJ [.agg (qa r),.agg [S [48],S [49]]] H K=K (I (if r=0 then 0 else 1)):=λK=>B8G (n:=n+1) (by omega) (by omega) H K;have h2:∀K,Ap Ab .lss (I (if r=0 then 0 else 1)) (.v (.int .i64 0)) K=K (Bo false):=λK=>FT (by split<;>omega);have g:∀K,Ap Ab .gtr (I (ts.length:Int)) (.v (.int .i64 64)) K=K (Bo false):=λK=>by rw[Eo,HX (by omega)]
 simp only[ntT,B4,Cb,gT,Sf,f3,m3,u,h1,h2,f2,w,Qs,g,BJ];rw[Bh];have e:(AV.v (.int .i64 0))=I ((0:Nat):Int):=rfl;rw[e];exact C1F (n:=n) d (λH=>h _ _ (λb=>⟨false,λK=>by kernel_rfl⟩)) (L+20) 0 H (by omega) (by omega) a w0
end
end
section
variable{L n:Nat}
def B2J{z:Int}(h1:0<=z)(h2:z<9):PS (r! L (n+40)) Qq [.agg (qa z)] (I (if z=0 then 0 else 1)):=
 A6M (args:=λz=>[.agg (qa z)]) (val:=λz=>I (if z=0 then 0 else 1)) (a:=0) (b:=9) (λz H K=>by kernel_rfl) (by kernel_rfl) h1 h2
def B2I{z:Int}(h1: -8<=z)(h2:z<9):PS (r! L (n+40)) OA [.agg (qa z)] (Bo (decide (z=0))):=
 A6M (args:=λz=>[.agg (qa z)]) (val:=λz=>Bo (decide (z=0))) (a:= -8) (b:=9) (λz H K=>by kernel_rfl) (by kernel_rfl) h1 h2
end
end Go.Abs
end
