import Derived.ChangeKeysEq
import Derived.Laws.StructEq
import Derived.Laws.BytesString
import Derived.Laws.MakeOwn
import Derived.Test.YthffkeagibaidaaGreatDoorP01
set_option linter.all false
set_option maxHeartbeats 0
noncomputable section
namespace Go.Abs
open Go.RowKit
section
variable{a:AV}{K:K2}{op:BinOp}{i:TI}
section
variable{T:Ty}{H:Hp}{r:AV×Hp}
def A9G(z:Int)(K:Int->Af):Af:=
 @Int.rec (λ_=>Af) (λn=>fN n λn=>@Bool.rec (λ_=>Af) (fI (IntKind.i64.wrap (.ofNat n)) K) (K (.ofNat n)) (Nat.blt n 9223372036854775808))
  (λn=>fN n λn=>@Bool.rec (λ_=>Af) (fI (IntKind.i64.wrap (.negSucc n)) K) (K (.negSucc n)) (Nat.blt n 9223372036854775808)) z
def A9F(z:Int)(K:Int->Af):A9G z K=K (IntKind.i64.wrap z):=by
 have key:∀x:Int, -9223372036854775808<=x->x<9223372036854775808->IntKind.i64.wrap x=x:=λx h1 h2=>by
  simp only[IntKind.wrap,IntKind.bits,IntKind.signed];have c:(2^64:Int)=18446744073709551616:=by decide
  have d:(2^(64-1):Int)=9223372036854775808:=by decide
  simp only[c,d,xR,decide_eq_true_eq];split<;>omega
 cases z with
 |ofNat n=>
  simp only[A9G,Ep];cases h:Nat.blt n 9223372036854775808
  ·simp only[Mi]
  ·rw[Ua]at h;rw[key _ (by simp only[Int.ofNat_eq_natCast];omega) (by simp only[Int.ofNat_eq_natCast];omega)]
 |negSucc n=>
  simp only[A9G,Ep];cases h:Nat.blt n 9223372036854775808
  ·simp only[Mi]
  ·rw[Ua]at h;rw[key _ (by omega) (by omega)]
def JA(k:IntKind)(z:Int)(K:Int->Af):Af:=match k with|.i64=>A9G z K|k=>fI (k.wrap z) K
def XA0(k:IntKind)(z:Int)(K:Int->Af):JA k z K=K (k.wrap z):=by
 cases k<;>first|exact A9F _ _|exact Mi _ _
abbrev IT:=IntKind->Int->Int->K2->Af
def A9z:IT:=λk a b K=>JA k (Int.add a b) λz=>K (.v (.int k z))
def B7s:IT:=λk a b K=>JA k (Int.sub a b) λz=>K (.v (.int k z))
def B7y:IT:=λk a b K=>JA k (Int.mul a b) λz=>K (.v (.int k z))
def B7w:IT:=λk a b K=>ck (!tH b 0) (JA k (Int.tdiv a b) λz=>K (.v (.int k z)))
def B7v:IT:=λk a b K=>ck (!tH b 0) (fI (Int.tmod a b) λz=>K (.v (.int k z)))
def A9y:IT:=λk a b K=>fI (k.wrap ((BitVec.ofInt k.bits a&&&BitVec.ofInt k.bits b).toNat)) λz=>K (.v (.int k z))
def iOr:IT:=λk a b K=>fI (k.wrap ((BitVec.ofInt k.bits a|||BitVec.ofInt k.bits b).toNat)) λz=>K (.v (.int k z))
def A9x:IT:=λk a b K=>fI (k.wrap ((BitVec.ofInt k.bits a^^^BitVec.ofInt k.bits b).toNat)) λz=>K (.v (.int k z))
def B7E:IT:=λk a b K=>fI (k.wrap ((BitVec.ofInt k.bits a&&& ~~~BitVec.ofInt k.bits b).toNat)) λz=>K (.v (.int k z))
def B7D:IT:=λ_ a b K=>bB (tH a b) K
def B7x:IT:=λ_ a b K=>bB (!tH a b) K
def B7z:IT:=λ_ a b K=>bB (!Zq b a) K
def B7A:IT:=λ_ a b K=>bB (Zq a b) K
def B7B:IT:=λ_ a b K=>bB (!Zq a b) K
def B7C:IT:=λ_ a b K=>bB (Zq b a) K
def B7u:IT:=λk a b K=>ck (Zq 0 b) (JA k (a*2^(min b.toNat k.bits)) λz=>K (.v (.int k z)))
def B7t:IT:=λk a b K=>ck (Zq 0 b) (fI (a.fdiv (2^(min b.toNat k.bits))) λz=>K (.v (.int k z)))
def A0a(op:BinOp):IT:=match op with
 |.add=>A9z|.sub=>B7s|.mul=>B7y|.quo=>B7w|.rem=>B7v|.and=>A9y|.or=>iOr|.xor=>A9x|.andNot=>B7E
 |.eql=>B7D|.neq=>B7x|.lss=>B7z|.leq=>B7A|.gtr=>B7B|.geq=>B7C|.shl=>B7u|.shr=>B7t
def qL{k:IntKind}{a b:Int}(h:A0a op k a b K=some r):∃v,K (.v v)=some r/\(if Gz op then YV op k a b=some v else dZ op k a b=some v):=by
 have hq:∀{x:Af},ck (!tH b 0) x=some r->b≠0/\x=some r:=λh=>by
  obtain⟨h1,h2⟩:=Bb h;refine⟨λe=>?_,h2⟩;subst e;simp[JN]at h1
 have c:∀{x:Af},ck (Zq 0 b) x=some r->0<=b/\x=some r:=λh=>by
  obtain⟨h1,h2⟩:=Bb h;rw[IJ]at h1;exact⟨by simpa using h1,h2⟩
 cases op<;>simp only[A0a,A9z,B7s,B7y,B7w,B7v,A9y,iOr,A9x,B7E,B7D,B7x,B7z,B7A,B7B,B7C,B7u,B7t,XA0,Mi,JB]at h<;>try (cases h;done)
 case add=>exact⟨_,h,rfl⟩
 case sub=>exact⟨_,h,rfl⟩
 case mul=>exact⟨_,h,rfl⟩
 case quo=>
  obtain⟨h1,h2⟩:=hq h;exact⟨_,h2,by simp[Gz,dZ,h1]⟩
 case rem=>
  obtain⟨h1,h2⟩:=hq h;exact⟨_,h2,by simp[Gz,dZ,h1]⟩
 case and=>exact⟨_,h,rfl⟩
 case or=>exact⟨_,h,rfl⟩
 case xor=>exact⟨_,h,rfl⟩
 case andNot=>exact⟨_,h,rfl⟩
 case shl=>
  obtain⟨h1,h2⟩:=c h;exact⟨_,h2,by simp only[Gz,if_true,YV];rw[Co (by omega)]⟩
 case shr=>
  obtain⟨h1,h2⟩:=c h;exact⟨_,h2,by simp only[Gz,if_true,YV];rw[Co (by omega)]⟩
 case eql=>exact⟨_,h,by simp only[Gz,dZ,JN];rw[show(a==b)=decide (a=b) from by by_cases e:a=b<;>simp[e]];simp⟩
 case neq=>exact⟨_,h,by simp only[Gz,dZ,JN,bne];rw[show(a==b)=decide (a=b) from by by_cases e:a=b<;>simp[e]];simp⟩
 case lss=>exact⟨_,h,by simp only[Gz,dZ,IJ];rw[show(!decide (b<=a))=decide (a<b) from by rw[eZ];simp];simp⟩
 case leq=>exact⟨_,h,by simp[Gz,dZ,IJ]⟩
 case gtr=>exact⟨_,h,by simp only[Gz,dZ,IJ];rw[show(!decide (a<=b))=decide (a>b) from by rw[eZ];simp];simp⟩
 case geq=>exact⟨_,h,by simp[Gz,dZ,IJ]⟩
def yO(a:Ha):Ha->Bool:=
 @List.rec UInt8 (λ_=>Ha->Bool) (λb=>@List.rec UInt8 (λ_=>Bool) true (λ_ _ _=>false) b)
  (λx _ ih b=>@List.rec UInt8 (λ_=>Bool) false (λy l _=>@Bool.rec (λ_=>Bool) false (ih l) (Nat.beq x.toNat y.toNat)) b) a
def LO(a:Ha):∀b,yO a b=(a==b):=by
 induction a with
 |nil=>intro b;cases b<;>rfl
 |cons x a ih=>
  intro b;cases b with
  |nil=>rfl
  |cons y b=>
   have e:yO (x::a) (y::b)=@Bool.rec (λ_=>Bool) false (yO a b) (Nat.beq x.toNat y.toNat):=rfl;rw[e,ih];cases h:Nat.beq x.toNat y.toNat
   ·have:x≠y:=λe=>by rw[e,tB]at h;cases h
    simp[this]
   ·have:x=y:=UInt8.toNat_inj.1 (VQ h);simp[this]
def ltB(a:Ha):Ha->Bool:=
 @List.rec UInt8 (λ_=>Ha->Bool) (λb=>@List.rec UInt8 (λ_=>Bool) false (λ_ _ _=>true) b)
  (λx _ ih b=>@List.rec UInt8 (λ_=>Bool) false (λy l _=>@Bool.rec (λ_=>Bool) (@Bool.rec (λ_=>Bool) false (ih l) (Nat.beq x.toNat y.toNat)) true (Nat.blt x.toNat y.toNat)) b) a
def kI(a:Ha):∀b,ltB a b=Op.bytesLess a b:=by
 induction a with
 |nil=>intro b;cases b<;>rfl
 |cons x a ih=>
  intro b;cases b with
  |nil=>rfl
  |cons y b=>
   have e:ltB (x::a) (y::b)=@Bool.rec (λ_=>Bool) (@Bool.rec (λ_=>Bool) false (ltB a b) (Nat.beq x.toNat y.toNat)) true (Nat.blt x.toNat y.toNat):=rfl;rw[e,ih,Op.bytesLess];have h1:(Nat.blt x.toNat y.toNat)=decide (x<y):=by
    rw[eZ];simp[Ua,UInt8.lt_iff_toNat_lt]
   have h2:(Nat.beq x.toNat y.toNat)=(x==y):=by
    rw[eZ];simp[eY,UInt8.toNat_inj]
   rw[h1,h2];cases decide (x<y)
   ·cases (x==y)<;>rfl
   ·rfl
def B4R(op:BinOp)(a b:ByteArray)(K:K2):Af:=
 match op with
 |.add=>WJ a.data.toList b.data.toList λl=>ck (Nat.blt l.length 9223372036854775808) (K (.v (.string ⟨⟨l⟩⟩)))
 |.eql=>bB (yO a.data.toList b.data.toList) K
 |.neq=>bB (!yO a.data.toList b.data.toList) K
 |.lss=>bB (ltB a.data.toList b.data.toList) K
 |.leq=>bB (ltB a.data.toList b.data.toList||yO a.data.toList b.data.toList) K
 |.gtr=>bB (!(ltB a.data.toList b.data.toList||yO a.data.toList b.data.toList)) K
 |.geq=>bB (!ltB a.data.toList b.data.toList) K
 |_=>none
def Uk(a:ByteArray):a.toList=a.data.toList:=ByteArray.toList_eq a
def A2U{a b:ByteArray}(h:B4R op a b K=some r):∃v,K (.v v)=some r/\A2p op a b=some v:=by
 cases op<;>simp only[B4R,JB,LB,LO,kI]at h<;>try (cases h;done)
 case add=>
  obtain⟨h1,h2⟩:=Bb h;refine⟨_,h2,?_⟩;rw[Ua]at h1;have c:IntKind.i64.max=9223372036854775807:=by decide
  have d:a.size+b.size=(a.data.toList++b.data.toList).length:=by rw[E6];rfl
  simp only[A2p];rw[Co (by rw[c];omega)]
  congr 2
 all_goals exact⟨_,h,by simp[A2p,Uk]⟩
def Al(i:TI)(op:BinOp)(a b:AV)(K:K2):Af:=
 match a,b with
 |.v (.int k m),.v (.int c n)=>@Bool.rec (λ_=>Af) (ck (decide (k=c)) (A0a op k m n K)) (A0a op k m n K) (Gz op)
 |.v (.string s),.v (.string u)=>B4R op s u K
 |.v (.bool p),.v (.bool q)=>match i.d,op with
  |.bool,.eql=>bB (p==q) K
  |.bool,.neq=>bB (!(p==q)) K
  |_,_=>none
 |a,b=>match xA i.d a b,op with
  |some q,.eql=>bB q K
  |some q,.neq=>bB (!q) K
  |_,_=>none
def qQ{ty:TypeId}{a b:AV}(g:T ty=some i)(h:Al i op a b K=some r):∃v,K v=some r/\hY T op ty a b (λt=>t=v):=by
 unfold Al at h;split at h
 ·rename_i k m u n;cases f:Gz op
  ·rw[f]at h;obtain⟨h1,h2⟩:=Bb h;obtain⟨v,e,c⟩:=qL h2;rw[f]at c;exact⟨_,e,by simp only[hY,f,mL,if_false];exact⟨by simpa using h1,by simp only[mL,if_false]at c;rw[c];rfl⟩⟩
  ·rw[f]at h;obtain⟨v,e,c⟩:=qL h;rw[f]at c;exact⟨_,e,by simp only[hY,f,if_true];simp only[if_true]at c;rw[c];rfl⟩
 ·obtain⟨v,e,c⟩:=A2U h;exact⟨_,e,by simp only[hY];rw[c];rfl⟩
 ·rename_i p q;split at h
  ·rename_i j;rw[JB]at h;exact⟨_,h,by simp only[hY];exact⟨⟨i,g,j⟩,trivial⟩⟩
  ·rename_i j;rw[JB]at h;exact⟨_,h,by simp only[hY];exact⟨⟨i,g,j⟩,trivial⟩⟩
  ·cases h
 ·rename_i h1 h2 e;have s:∀Kp:AV->Prop,(∃q,xA i.d a b=some q/\((op=.eql/\Kp (.v (.bool q)))\/(op=.neq/\Kp (.v (.bool (!q))))))->hY T op ty a b Kp:=λKp hk=>by
   obtain⟨q,hq,hk⟩:=hk;unfold hY;split
   ·exact(h1 _ _ _ _ rfl rfl).elim
   ·exact(h2 _ _ rfl rfl).elim
   ·exact(e _ _ rfl rfl).elim
   ·rw[g];simp only[hq];rcases hk with⟨rfl,hk⟩|⟨rfl,hk⟩<;>exact hk
  cases hq:xA i.d a b with
  |none=>rw[hq]at h;cases h
  |some q=>
   rw[hq]at h;cases op<;>first|(cases h;done)|skip
   ·simp only[JB]at h;exact⟨_,h,s _ ⟨q,hq,.inl ⟨rfl,rfl⟩⟩⟩
   ·simp only[JB]at h;exact⟨_,h,s _ ⟨q,hq,.inr ⟨rfl,rfl⟩⟩⟩
def Nh(op:UnOp)(a:AV)(K:K2):Af:=
 match op,a with
 |.neg,.v (.int k n)=>JA k (Int.sub 0 n) λz=>K (.v (.int k z))
 |.xor,.v (.int k n)=>fI (k.wrap ((BitVec.ofInt k.bits (if k.signed then-1 else k.max)^^^BitVec.ofInt k.bits n).toNat)) λz=>K (.v (.int k z))
 |.not,.v (.bool b)=>bB (!b) K
 |_,_=>none
def A6h{op:UnOp}(h:Nh op a K=some r):∃v,K v=some r/\xun op a (λc=>c=v):=by
 unfold Nh at h;split at h
 ·rw[XA0]at h;exact⟨_,h,rfl⟩
 ·rw[Mi]at h;exact⟨_,h,rfl⟩
 ·rw[JB]at h;exact⟨_,h,rfl⟩
 ·cases h
def EE(i j:TI)(a:AV)(K:K2):Af:=
 match j.d,a with
 |.int k,.v (.int _ n)=>JA k n λz=>K (.v (.int k z))
 |.string,.v (.string s)=>match i.d with|.string=>K (.v (.string s))|_=>none
 |_,_=>none
def A0h{s d:TypeId}{i j:TI}(e:T s=some i)(f:T d=some j)(h:EE i j a K=some r):∃v,K v=some r/\oV T s d a (λk=>k=v):=by
 unfold EE at h;split at h
 ·rename_i c;rw[XA0]at h;exact⟨_,h,by simp only[oV,e,f,c]⟩
 ·rename_i c;split at h
  ·rename_i g;exact⟨_,h,by simp only[oV,e,f,c,g];exact⟨trivial,trivial⟩⟩
  ·cases h
 ·cases h
end
end
section
variable{a ix v x:AV}{K:K2}{fs:List (Nat×Nat×TypeId)}{f ft off sz:Nat}{i j:TI}
section
variable{T:Ty}{H:Hp}{r:AV×Hp}
def CC(off:Nat)(v:AV)(K:K2):Af:=
 match v with
 |.ptr s p k=>fN (Nat.add (Nat.add p k) off) λo=>K (.ptr s o 0)
 |.iptr cs=>K (.iptr (CL off cs))
 |_=>none
def A6t{ty:TypeId}(c:T ty=some i)(e:i.d=.struct fs)(g:fs[f]?=some (off,sz,ft))(hz:sz≠0)(h:CC off v K=some r):∃u,K u=some r/\YG T ty v f (λk=>k=u):=by
 unfold CC at h;split at h
 ·rw[Ep]at h;refine⟨_,h,?_⟩;simp only[YG,c,e,g];exact⟨hz,_,0,by simp[WE],rfl⟩
 ·rw[Cs]at h;refine⟨_,h,?_⟩;simp only[YG,c,e,g];exact⟨hz,trivial⟩
 ·cases h
def lT(off:Nat)(j:TI)(v:AV)(K:K2):Af:=
 match v with
 |.agg cs=>dE j (CL off cs) K
 |_=>none
def A31{ty:TypeId}(c:T ty=some i)(e:i.d=.struct fs)(g:fs[f]?=some (off,sz,ft))(k:T ft=some j)(h:lT off j v K=some r):∃u,K u=some r/\hC T ty v f (λm=>m=u):=by
 unfold lT at h;split at h
 ·rw[Cs]at h;obtain⟨u,h1,h2⟩:=Tq (T:=T) (ty:=ft) k h;exact⟨u,h1,by simp only[hC,c,e,g];exact h2⟩
 ·cases h
def tG(a:AV)(K:Int->Af):Af:=match a with|.v (.int _ n)=>K n|_=>none
def MJ{K:Int->Af}(h:tG a K=some r):∃k n,a=.v (.int k n)/\K n=some r:=by
 unfold tG at h;split at h
 ·exact⟨_,_,rfl,h⟩
 ·cases h
def Cy(i:TI)(x ix:AV)(K:K2):Af:=
 tG ix λz=>iN z λn=>match i.d,x with
  |.slice _ e,.list m cs=>ck (Nat.blt n m) (UX e (CL (Nat.mul n e) cs) λc=>K (.iptr c))
  |.slice _ e,.sl _ s o m=>ck (Nat.blt n m) (fN (Nat.add o (Nat.mul n e)) λp=>K (.ptr s p 0))
  |.array m _ e,.ptr s p k=>ck (Nat.blt n m) (fN (Nat.add (Nat.add p k) (Nat.mul n e)) λq=>K (.ptr s q 0))
  |.array m _ e,.iptr cs=>ck (Nat.blt n m) (UX e (CL (Nat.mul n e) cs) λc=>K (.iptr c))
  |_,_=>none
def A6r{ty:TypeId}(e:T ty=some i)(h:Cy i x ix K=some r):∃u,K u=some r/\gZ T ty x ix (λg=>g=u):=by
 unfold Cy at h;obtain⟨k,z,rfl,d⟩:=MJ h;clear h;obtain⟨n,rfl,h⟩:=Tf d;clear d;unfold gZ;rw[e];simp only;split at h
 ·rename_i c;obtain⟨h1,h⟩:=Bb h;rw[Nw,Cs]at h;rw[Ua]at h1;exact⟨_,h,by simp only[c,XV];exact⟨⟨by omega,by omega⟩,rfl⟩⟩
 ·rename_i c;obtain⟨h1,h⟩:=Bb h;rw[Ep]at h;rw[Ua]at h1;exact⟨_,h,by simp only[c,XV];exact⟨⟨by omega,by omega⟩,rfl⟩⟩
 ·rename_i c;obtain⟨h1,h⟩:=Bb h;rw[Ep]at h;rw[Ua]at h1;exact⟨_,h,by simp only[c,XV];exact⟨⟨by omega,by omega⟩,_,0,by simp[WE],rfl⟩⟩
 ·rename_i c;obtain⟨h1,h⟩:=Bb h;rw[Nw,Cs]at h;rw[Ua]at h1;exact⟨_,h,by simp only[c,XV];exact⟨⟨by omega,by omega⟩,rfl⟩⟩
 ·cases h
def B18(l:Ha)(K:K2):Af:=@List.rec UInt8 (λ_=>Af) none (λb _ _=>fN b.toNat λn=>K (.v (.int .u8 (.ofNat n)))) l
def Yp(i j:TI)(x ix:AV)(K:K2):Af:=
 tG ix λz=>iN z λn=>match i.d,x with
  |.string,.v (.string s)=>B18 (CL n s.data.toList) K
  |.array m _ c,.agg cs=>ck (Nat.blt n m) (dE j (CL (Nat.mul n c) cs) K)
  |_,_=>none
def Yj(i:TI):Option TypeId:=match i.d with|.array _ e _=>some e|.slice e _=>some e|_=>none
def A30{ty:TypeId}(t:T ty=some i)(w:∀e,Yj i=some e->T e=some j)(h:Yp i j x ix K=some r):∃u,K u=some r/\gY T ty x ix (λA=>A=u):=by
 unfold Yp at h;obtain⟨k,z,rfl,g⟩:=MJ h;clear h;obtain⟨n,rfl,h⟩:=Tf g;clear g;unfold gY;rw[t];simp only;split at h
 ·rename_i s c;rw[Cs]at h;cases d:s.data.toList.drop n with
  |nil=>rw[d]at h;cases h
  |cons b l=>
   rw[d]at h;have h:(fN b.toNat λn=>K (.v (.int .u8 (.ofNat n))))=some r:=h;rw[Ep]at h;have y:n<s.data.toList.length:=by
    have:=congrArg List.length d;simp at this;simp;omega
   have hb:s.data.toList[n]?=some b:=by
    have:=congrArg (λl=>l[0]?) d;simpa using this
   refine⟨_,h,?_⟩;simp only[c,XV];refine⟨⟨by omega,?_⟩,?_⟩
   ·have:s.size=s.data.toList.length:=rfl;omega
   ·rw[Tc,hb];rfl
 ·rename_i m e p cs c;obtain⟨h1,h⟩:=Bb h;rw[Cs]at h;rw[Ua]at h1;obtain⟨u,h2,q⟩:=Tq (T:=T) (ty:=e) (w e (by simp[Yj,c])) h;exact⟨u,h2,by simp only[c,XV];exact⟨⟨by omega,by omega⟩,q⟩⟩
 ·cases h
def TV(x:Option AV)(d:Nat)(K:Nat->Af):Af:=
 match x with
 |none=>fN d K
 |some a=>tG a λz=>iN z K
def GJ{x:Option AV}{d:Nat}{K:Nat->Af}(h:TV x d K=some r):∃n:Nat,V7 x d=some (n:Int)/\K n=some r:=by
 unfold TV at h;split at h
 ·rw[Ep]at h;exact⟨d,rfl,h⟩
 ·obtain⟨k,z,rfl,h1⟩:=MJ h;obtain⟨n,rfl,h2⟩:=Tf h1;exact⟨n,rfl,h2⟩
def GF(i:TI)(x:AV)(k g mx:Option AV)(K:K2):Af:=
 match i.d,x with
 |.string,.v (.string s)=>ck mx.isNone (TV k 0 λl=>HB s.data.toList 0 λm=>TV g m λh=>ck (Nat.ble l h&&Nat.ble h m) (UX (Nat.sub h l) (CL l s.data.toList) λb=>K (.v (.string ⟨⟨b⟩⟩))))
 |.slice _ e,.list m cs=>TV k 0 λl=>TV g m λh=>TV mx m λx=>ck ((mx.isNone||g.isSome)&&(Nat.ble l h&&(Nat.ble h x&&Nat.ble x m))) (fN (Nat.sub h l) λn=>UX (Nat.mul n e) (CL (Nat.mul l e) cs) λc=>K (.list n c))
 |.slice _ e,.sl sz s o m=>ck (Nat.beq e sz) (TV k 0 λl=>TV g m λh=>TV mx m λx=>ck ((mx.isNone||g.isSome)&&(Nat.ble l h&&(Nat.ble h x&&Nat.ble x m))) (fN (Nat.add o (Nat.mul l e)) λp=>fN (Nat.sub h l) λn=>K (.sl sz s p n)))
 |.slice _ _,.v (.slice none 0 0)=>ck mx.isNone (TV k 0 λl=>TV g 0 λh=>ck (Nat.beq l 0&&Nat.beq h 0) (K (.v (.slice none 0 0))))
 |_,_=>none
def yQ{ty:TypeId}{w t mx:Option AV}(A:T ty=some i)(h:GF i x w t mx K=some r):∃u,K u=some r/\gW T ty x w t mx (λB=>B=u):=by
 unfold GF at h;unfold gW;rw[A];simp only;split at h
 ·rename_i s c;obtain⟨k,h⟩:=Bb h;obtain⟨l,d,h⟩:=GJ h;rw[Cz]at h;obtain⟨n,hn,h⟩:=GJ h;obtain⟨h1,h⟩:=Bb h;rw[Nw,Cs]at h;simp only[I0,Zl]at h1;have hz:0+s.data.toList.length=s.size:=Le _;rw[hz]at hn h1;refine⟨_,h,?_⟩;simp only[c,d,hn,J3,XV];refine⟨k,⟨by omega,by omega,by omega⟩,?_⟩
  congr 2
  apply ByteArray.ext;apply fB;simp only[ByteArray.data_extract,Array.toList_extract,List.extract];rfl
 ·rename_i e g m cs c;obtain⟨l,d,h⟩:=GJ h;obtain⟨n,hn,h⟩:=GJ h;obtain⟨y,q,h⟩:=GJ h;obtain⟨h1,h⟩:=Bb h;rw[Ep,Nw,Cs]at h;simp only[I0,Zl]at h1;refine⟨_,h,?_⟩;have p:((n:Int)-l).toNat=n-l:=by omega
  simp only[c,d,hn,q,J3,XV,p];refine⟨⟨by omega,by omega,by omega,by omega⟩,λhm=>?_,rfl⟩;cases mx with
  |none=>simp at hm
  |some _=>simpa using h1.1
 ·rename_i e g sz s o m c;obtain⟨k,h⟩:=Bb h;obtain⟨l,d,h⟩:=GJ h;obtain⟨n,hn,h⟩:=GJ h;obtain⟨y,q,h⟩:=GJ h;obtain⟨h1,h⟩:=Bb h;rw[Ep,Ep]at h;simp only[I0,Zl]at h1;refine⟨_,h,?_⟩;have p:((n:Int)-l).toNat=n-l:=by omega
  simp only[c,d,hn,q,J3,XV,p];refine⟨VQ k,⟨by omega,by omega,by omega,by omega⟩,λhm=>?_,rfl⟩;cases mx with
  |none=>simp at hm
  |some _=>simpa using h1.1
 ·rename_i e g c;obtain⟨k,h⟩:=Bb h;obtain⟨l,d,h⟩:=GJ h;obtain⟨n,hn,h⟩:=GJ h;obtain⟨h1,h⟩:=Bb h;simp only[I0,eY]at h1;refine⟨_,h,?_⟩;simp only[c,d,hn,J3];exact⟨k,⟨by omega,by omega⟩,trivial⟩
 ·cases h
def Cg(v:AV)(k:Nat)(K:K2):Af:=match v with|.tup vs=>hdK (CL k vs) K|_=>none
def A32{k:Nat}(h:Cg v k K=some r):∃vs u,v=.tup vs/\vs[k]?=some u/\K u=some r:=by
 unfold Cg at h;split at h
 ·rename_i vs;rw[Cs]at h;obtain⟨a,l,c,h⟩:=xX h;refine⟨vs,a,rfl,?_,h⟩;have:=congrArg (λl=>l[0]?) c;simpa using this
 ·cases h
def Bi(i:TI)(x:AV)(K:K2):Af:=
 match i.d,x with
 |.string,.v (.string s)=>HB s.data.toList 0 λn=>K (.v (.int .i64 (.ofNat n)))
 |.slice _ _,.list n _=>K (.v (.int .i64 (.ofNat n)))
 |.slice _ _,.sl _ _ _ n=>K (.v (.int .i64 (.ofNat n)))
 |.slice _ _,.v (.slice none 0 0)=>K (.v (.int .i64 (.ofNat 0)))
 |.array n _ _,_=>K (.v (.int .i64 (.ofNat n)))
 |_,_=>none
def A2Z{ty:TypeId}(d:T ty=some i)(h:Bi i x K=some r):∃u,K u=some r/\A3Q T ty x (λe=>e=u):=by
 unfold Bi at h;unfold A3Q;rw[d];simp only;split at h
 ·rename_i s c;rw[Cz]at h;refine⟨_,h,?_⟩;simp only[c];rw[Le];rfl
 ·rename_i c;exact⟨_,h,by simp only[c];rfl⟩
 ·rename_i c;exact⟨_,h,by simp only[c];rfl⟩
 ·rename_i c;exact⟨_,h,by simp only[c];rfl⟩
 ·rename_i c;exact⟨_,h,by simp only[c];rfl⟩
 ·cases h
def C!(c:Bool)(a b:AV)(K:K2):Af:=
 match a,b with
 |.v (.int k x),.v (.int d y)=>ck (decide (k=d)) (@Bool.rec (λ_=>Af) (@Bool.rec (λ_=>Af) (K (.v (.int k y))) (K (.v (.int k x))) (Zq y x)) (@Bool.rec (λ_=>Af) (K (.v (.int k y))) (K (.v (.int k x))) (Zq x y)) c)
 |.v (.string s),.v (.string u)=>@Bool.rec (λ_=>Af) (K (.v (.string u))) (K (.v (.string s))) (@Bool.rec (λ_=>Bool) (!ltB s.data.toList u.data.toList) (ltB s.data.toList u.data.toList||yO s.data.toList u.data.toList) c)
 |_,_=>none
def yW{c:Bool}{a b:AV}(h:C! c a b K=some r):∃u,K u=some r/\xmm c a b (λg=>g=u):=by
 unfold C! at h;split at h
 ·rename_i k x e y;obtain⟨h1,h⟩:=Bb h;simp only[xmm];have hk:k=e:=by simpa using h1
  cases c
  ·rw[IJ]at h;by_cases d:y<=x
   ·rw[Iz d]at h;exact⟨_,h,hk,by rw[Co (by simp),Co (by omega)]⟩
   ·rw[Iy d]at h;exact⟨_,h,hk,by rw[Co (by simp),CJ (by omega)]⟩
  ·rw[IJ x y]at h;by_cases d:x<=y
   ·rw[Iz d]at h;exact⟨_,h,hk,by rw[CJ rfl,Co (by omega)]⟩
   ·rw[Iy d]at h;exact⟨_,h,hk,by rw[CJ rfl,CJ (by omega)]⟩
 ·rename_i s u;simp only[xmm];cases c
  ·simp only[kI,Uk]at h⊢;cases hb:(!Op.bytesLess s.data.toList u.data.toList)<;>(rw[hb]at h;exact⟨_,h,rfl⟩)
  ·simp only[kI,LO,Uk]at h⊢;cases hb:(Op.bytesLess s.data.toList u.data.toList||s.data.toList==u.data.toList)<;>(rw[hb]at h;exact⟨_,h,rfl⟩)
 ·cases h
end
end
section
variable{r:AV×Hp}{tmps:Array Value}{fn:Func}{args:Is}{ys:Hx}{i k m:Nat}{t:Tm}{wa:World}
def Ctx.delB(C:Ctx)(b:Nat):Ctx:={C with B:=λk=>C.B k/\k≠b}
section
variable{P:Program}{G:Gl}{w0:Base}{C:Ctx}{H:Hp}{w w':World}{b:Nat}{o o':Obj}
def uA(hb:w.heap[b]?=some o)(a:∀arr T fz,o≠.cells arr T fz){v:Value}(h:w.cell? ⟨k,i,none⟩=some v):k≠b:=by
 intro e;subst e;simp only[World.cell?,hb]at h;cases o<;>simp at h
 exact a _ _ _ rfl
def SameObj.cell(a:SameObj w w' b o')(hk:k≠b):w'.cell? ⟨k,i,none⟩=w.cell? ⟨k,i,none⟩:=l0s (a.others k hk)
def VRel.shut(hb:w.heap[b]?=some (.deferred (some [])))(f:SameObj w w' b o'){a:AV}{y:Value}(h:VRel C w a y):VRel (C.delB b) w' a y:=by
 have p:∀arr T fz,(Obj.deferred (some []):Obj)≠.cells arr T fz:=λ_ _ _ h=>by cases h
 induction h with
 |v x=>exact .v x
 |ptr h=>exact .ptr h
 |iptr vs q hc _ ih=>exact .iptr vs q (λi c=>(f.cell (uA hb p (hc i c))).trans (hc i c)) (λi c=>ih i c hb f)
 |list0=>exact .list0
 |list h vs q hc _ ih=>exact .list h vs q (λi c=>(f.cell (uA hb p (hc i c))).trans (hc i c)) (λi c=>ih i c hb f)
 |sl h j d hsz=>exact .sl h j ((f.others _ (λe=>by subst e;rw[hb]at d;cases d)).trans d) hsz
 |slz hr=>exact .slz hr
 |fn ys D g s _ _ u A=>exact .fn ys D g s (λi c=>u i c hb f) (λi c=>A i c hb f)
 |agg ys g _ ih=>exact .agg ys g (λi c=>ih i c hb f)
 |tup ys g _ ih=>exact .tup ys g (λi c=>ih i c hb f)
 |mp h=>exact .mp h
 |@imap C w F b2 clock ms B d g hk hn hc _ ih=>
  have n:b2≠b:=λe=>by subst e;rw[hb]at d;cases d
  exact .imap ms ⟨B,n⟩ ((f.others _ n).trans d) g hk hn hc (λi c=>ih i c hb f)
 |yl h=>exact .yl h
 |it h=>exact .it h
 |dk y=>exact .dk y
theorem BU.shut(hb:w.heap[b]?=some (.deferred (some [])))(e:SameObj w w' b o'){c:Is}(h:BU C w c ys):BU (C.delB b) w' c ys:=
 ⟨h.1,λi a d=>let⟨y,f,hv⟩:=h.2 i a d;⟨y,f,hv.shut hb e⟩⟩
theorem Ju.shut(hb:w.heap[b]?=some (.deferred (some [])))(c:SameObj w w' b o'){es:IH}{ms:List MapEntry}(h:Ju C w es ms):Ju (C.delB b) w' es ms:=
 ⟨h.1,λi p a=>let⟨m,hm,hk,hv⟩:=h.2 i p a;⟨m,hm,hk,hv.shut hb c⟩⟩
theorem WR.shut(hb:w.heap[b]?=some (.deferred (some [])))(d:SameObj w w' b o'){ms:Array MapEntry}{seen:Array Nat}:∀{x:Option (Value×AV)},WR C w ms seen x->WR (C.delB b) w' ms seen x
 |none,_=>trivial
 |some _,⟨m,h1,h2,a,c⟩=>⟨m,h1,h2,a,c.shut hb d⟩
theorem Tx.shut(hb:w.heap[b]?=some (.deferred (some [])))(a:SameObj w w' b o')(h:Tx C w t tmps):Tx (C.delB b) w' t tmps:=λi=>(h i).shut hb a
def vZ(q:Bool):(C.delB b).sel q=(C.sel q).delB b:=by cases q<;>rfl
theorem PZ.shut(hb:w.heap[b]?=some (.deferred (some [])))(a:SameObj w w' b o'){r:Nat}{x:Row}(h:PZ C w r x):PZ (C.delB b) w' r x:=by
 have ne:∀{k:Nat}{q:Obj},w.heap[k]?=some q->(∀l,q≠.deferred l)->k≠b:=λhk hq e=>by
  subst e;rw[hb]at hk;injection hk with hk;exact hq _ hk.symm
 cases x with
 |cells q T cs=>
  rcases h with⟨h1,h2⟩|⟨k,f,arr,fz,h⟩
  ·exact .inl ⟨h1,h2⟩
  ·refine .inr ⟨k,f,arr,fz,h.at_,(a.others k (ne h.block (λ_ e=>by cases e))).trans h.block,h.free,h.fits,?_,h.exact⟩;rw[vZ];exact h.vals.shut hb a
 |map q L K=>
  obtain⟨k,ms,clock,h1,c,g,d,j⟩:=h;refine⟨k,ms,clock,h1,(a.others k (ne c (λ_ e=>by cases e))).trans c,g,?_,j⟩;rw[vZ];exact d.shut hb a
 |loop N t ps F J s=>
  obtain⟨k,l,h1,h2,c,g,d,j,n,p,A⟩:=h;exact⟨k,l,h1,(a.others k (ne h2 (λ_ e=>by cases e))).trans h2,c,g,d,j,n,p,A.shut hb a⟩
 |iter left B=>
  obtain⟨k,D,since,seen,last,h1,h2,c⟩:=h;refine⟨k,D,since,seen,last,h1,(a.others k (ne h2 (λ_ e=>by cases e))).trans h2,?_⟩;rcases c with c|⟨m,ms,clock,u,v,y,g,d,j,n,p⟩
  ·exact .inl c
  ·have hm:=ne d (λ_ e=>by cases e);exact .inr ⟨m,ms,clock,u,v,y,⟨g,hm⟩,(a.others m hm).trans d,j,n.shut (C:=C.bare) hb a,p.shut (C:=C.bare) hb a⟩
 |gone=>trivial
theorem Rel.shut(h:Rel G w0 C H w)(hb:w.heap[b]?=some (.deferred (some [])))(n:w0.own b)(a:SameObj w w' b o'):Rel G w0 (C.delB b) H w':=by
 have d:∀arr T fz,(Obj.deferred (some []):Obj)≠.cells arr T fz:=λ_ _ _ h=>by cases h
 refine⟨λg cs j i v hv=>?_,h.below.same_obj a n,h.lt,λr x e=>(h.rows r x e).shut hb a,λr x k o e p=>?_,h.sep,λk i f=>a.size▸h.fin k i f,λk c=>a.size▸h.finB k c.1,h.nx⟩
 ·have:=h.glob g cs j i v hv;exact⟨this.1,(a.cell (uA hb d this.2)).trans this.2⟩
 ·have:=h.own r x k o e p;exact⟨this.1,this.2.1,λc=>this.2.2 c.1⟩
def A1J(E:XE)(t:Tm)(H:Hp)(rs:List ResultVar):(Is->Af)->Af:=
 @List.rec ResultVar (λ_=>(Is->Af)->Af) (λK=>K [])
  (λr _ ih K=>match r with
   |.tmp i=>B? t i λv=>ih λvs=>K (v::vs)
   |.cell a ty=>B? t a λp=>E.ty.getK ty λi=>A9 i p H λv=>ih λvs=>K (v::vs)) rs
def fL(vs:Is)(K:K2):Af:=
 @List.rec AV (λ_=>Af) (K (.tup [])) (λv l _=>@List.rec AV (λ_=>Af) (K v) (λu a _=>K (.tup (v::u::a))) l) vs
def A4m:Is->AV
 |[v]=>v
 |vs=>.tup vs
def E'(vs:Is)(K:K2):fL vs K=K (A4m vs):=by
 match vs with
 |[]=>rfl
 |[v]=>rfl
 |v::u::l=>rfl
def XE.T(E:XE):Ty:=λty=>E.ty.get ty
def AL{α:Type}{b:BT α}{K:α->Af}(h:b.getK i K=some r):∃v,b.get i=some v/\K v=some r:=by
 rw[BT.getK_eq]at h;split at h
 ·exact⟨_,by assumption,h⟩
 ·cases h
def A4v(tmps:Array Value):ResultVar->Sem Value
 |.tmp t=>pure (tmps.getD t undef)
 |.cell x t=>do loadVar t (<-asAddr (tmps.getD x undef))
def A1I{E:XE}{T:Ty}(y:Y8 P T)(s:∀ty i,E.ty.get ty=some i->T ty=some i)(hr:Rel G w0 C H w)(f:Tx C w t tmps):∀(rs:List ResultVar)(K:Is->Af),A1J E t H rs K=some r->
 ∃vs ys,(rs.mapM (A4v tmps)).run P w=.ok ys w/\BU C w vs ys/\K vs=some r:=by
 intro rs
 induction rs with
 |nil=>intro K h;exact⟨[],[],rfl,.nil,h⟩
 |cons x rs ih=>
  intro K h;cases x with
  |tmp i=>
   have h:(B? t i λv=>A1J E t H rs λvs=>K (v::vs))=some r:=h;rw[Rf]at h;obtain⟨vs,ys,h1,h2,d⟩:=ih _ h;refine⟨_,_::ys,?_,.cons (f i) h2,d⟩;rw[List.mapM_cons];simp only[A4v,Cr,Zn,Eu,h1]
  |cell x ty=>
   have h:(B? t x λp=>E.ty.getK ty λi=>A9 i p H λv=>A1J E t H rs λvs=>K (v::vs))=some r:=h;rw[Rf]at h;obtain⟨i,A,h⟩:=AL h;obtain⟨u,h,B⟩:=zC (T:=T) (s _ _ A) h;obtain⟨v,z,h1,h2,d⟩:=ZO y hr (f x) B;subst d;obtain⟨vs,ys,g,j,n⟩:=ih _ h;refine⟨v::vs,z::ys,?_,.cons h2 j,n⟩;rw[List.mapM_cons];have c:(do loadVar ty (<-asAddr (tmps.getD x undef)):Sem Value).run P w=.ok z w:=by
    generalize tmps.getD x undef=q at*;cases q<;>simp only[Instr.loadAt,Instr.sureAddr,Cr,run_stuck,Result.andThen_halt]at h1<;>try (cases h1;done)
    rename_i e;cases e with
    |none=>simp at h1
    |some e=>simpa [asAddr] using h1
   have a:(A4v tmps (.cell x ty)).run P w=.ok z w:=c;rw[Cr,a];simp only[Eu,Cr,g,Zn]
def rW:Hx->Value
 |[y]=>y
 |ys=>.tuple ys.toArray
def wF(h:(fn.results.toList.mapM (A4v tmps)).run P w=.ok ys w):
 (results fn tmps).run P w=.ok (rW ys) w:=by
 have e:results fn tmps=(do
  let vs<-fn.results.mapM (A4v tmps)
  pure (if h:vs.size=1 then vs[0] else .tuple vs)):=by
  unfold results
  congr 1
 rw[e,Cr,Array.mapM_eq_mapM_toList,Sem.run_map,h];simp only[Eu,Zn]
 congr 1
 match ys with
 |[]=>rfl
 |[y]=>rfl
 |y::z::ys=>simp[rW]
def N!{vs:Is}(h:BU C w vs ys):VRel C w (A4m vs) (rW ys):=by
 match vs,ys,h with
 |[],[],h=>exact CD.2 ⟨[],rfl,h⟩
 |[v],[y],h=>exact h.get 0 (by simp)
 |v::u::vs,y::z::ys,h=>exact CD.2 ⟨_,rfl,h⟩
 |[],_::_,h=>exact absurd h.1 (by simp)
 |[v],[],h=>exact absurd h.1 (by simp)
 |[v],_::_::_,h=>exact absurd h.1 (by simp)
 |_::_::_,[],h=>exact absurd h.1 (by simp)
 |_::_::_,[_],h=>exact absurd h.1 (by simp)
def numbered:Nat->Is->Tm
 |_,[]=>[]
 |k,a::c=>(k,a)::numbered (k+1) c
def mZ:∀(c:Is)(k i:Nat),F7 (numbered k c) i=if k<=i/\i<k+c.length then c.getD (i-k) .dk else .dk:=by
 intro c
 induction c with
 |nil=>intro k i;simp[numbered,F7]
 |cons a c ih=>
  intro k i;simp only[numbered,F7];by_cases d:i=k
  ·subst d;simp
  ·rw[Co d,ih];by_cases h:k<=i/\i<k+(a::c).length
   ·simp only[Kg]at h;rw[CJ (by omega),CJ (by simp only[Kg];omega)];have:i-k=(i-(k+1))+1:=by omega
    rw[this];simp
   ·simp only[Kg]at h;rw[Co (by omega),Co (by simp only[Kg];omega)]
def A9M(c:Is):Nat->(Tm->Af)->Af:=
 (λ(_:Unit)=>@List.rec AV (λ_=>Nat->(Tm->Af)->Af) (λ_ K=>K []) (λa _ ih k K=>fNS (Nat.succ k) λd=>ih d λt=>K ((k,a)::t)) c) FA
def A9L(c:Is):∀(k:Nat)(K:Tm->Af),A9M c k K=K (numbered k c):=by
 induction c with
 |nil=>intro k K;rfl
 |cons a c ih=>
  intro k K;have:A9M (a::c) k K=fNS (Nat.succ k) λd=>A9M c d λt=>K ((k,a)::t):=rfl;rw[this,A6b,ih];rfl
theorem Tx.numbered{n:Nat}(d:BU C w args ys):Tx C w (numbered 0 args) (ys.toArray++Array.replicate n undef):=by
 intro i;rw[mZ];have c:=d.1;split
 ·rename_i e;have a:i<args.length:=by omega
  have:=d.get i a;simp only[Nat.sub_zero,Tc,II a,l1l,WX];rw[Array.getElem?_append_left (by simp;omega)];simp[c,a];exact this
 ·exact .dk _
theorem Frm.delB{O:Nat->Prop}{C0:Ctx}(h:Frm m O C0 wa C w)(a:∀k,C0.B k->k<wa.heap.size)(f:∀k i,C0.F k i->k<wa.heap.size)(hb:wa.heap.size<=b)(g:w.heap[b]?=some (.deferred (some [])))(d:SameObj w w' b o'):Frm m O C0 wa (C.delB b) w':=
 ⟨h.π,h.F,λk i j=>(d.cell (by have:=f k i j;omega)).trans (h.keep k i j),λk c=>⟨h.B k c,by have:=a k c;omega⟩,λk c=>(d.others k (by have:=a k c;omega)).trans (h.keepB k c),
  λk arr T fz hk=>by
   obtain⟨a1,f1,h1,h2⟩:=h.size k arr T fz hk;exact⟨a1,f1,(d.others k (λe=>by subst e;rw[g]at h1;cases h1)).trans h1,h2⟩,
  h.new,λk c=>h.newB k c.1,by rw[d.size];exact h.grow⟩
def sZ{R:Ending->World->Prop}{m s0:Nat}{C0:Ctx}(d:∀k,C0.B k->k<wa.heap.size)(n:∀k i,C0.F k i->k<wa.heap.size)(J:wa.heap.size<=s0)(g:∀C w,Rel G w0 C H w->Tx C w t tmps->Frm m w0.own C0 wa C w->∃v,(results fn tmps).run P w=.ok v w/\R (.returned v) w):
 ∀(a:Hb)(C:Ctx)(w:World),a.Nodup->(∀b∈a,s0<=b/\w0.own b/\C.B b/\w.heap[b]?=some (.deferred (some [])))->Rel G w0 C H w->Tx C w t tmps->Frm m w0.own C0 wa C w->
  LeavesInM (Fe none) 0 P fn tmps R (a.map sT) .returning w:=by
 intro a
 induction a with
 |nil=>
  intro C w _ _ hr u j;exact g C w hr u j
 |cons b a ih=>
  intro C w hn hb hr u j;obtain⟨h1,h2,K,c⟩:=hb b (by simp);obtain⟨q,s⟩:=List.nodup_cons.1 hn;have p:=(l1q.1 c).1;have h:SameObj w (w.putObj b (.deferred none)) b (.deferred none):=SameObj.putObj p _;refine⟨by simp,.inl ⟨b,_,rfl,run_takeDeferred c,ih (C.delB b) _ s (λk hk=>?_) (hr.shut c h2 h) (u.shut c h) (j.delB d n (by omega) c h)⟩⟩;obtain⟨x,y,A,D⟩:=hb k (by simp[hk]);have f:k≠b:=λe=>q (e▸hk);exact⟨x,y,⟨A,f⟩,(h.others k f).trans D⟩
def B5K(E:XE)(rs:List ResultVar)(K:KV):Exit->Tm->Ru:=λe t H=>
 match e with
 |.normal=>A1J E t H rs λvs=>fL vs λv=>K v H
 |.ret=>A1J E t H rs λvs=>fL vs λv=>K v H
 |_=>none
def A3p{E:XE}{T:Ty}(M:Y8 P T)(J:∀ty i,E.ty.get ty=some i->T ty=some i){f:FuncId}{c:Code}{K:KV}(N:P.funcs[f]?=some fn)(hb:fn.body=some c)(h:NC P G none (Ay H) (args.length+(fn.ntmps-args.length)) c (λe t a=>B5K E fn.results.toList K e t a=some r) (numbered 0 args) H):Oa P G f args H (λv a=>K v a=some r):=by
 intro w0 C w ys p A;refine callsIn_wide.1 (callsIn_of_wp_marks (n:=0) N hb trivial ?_);have g:=A.1;have L:St G w0 w.heap.size C (args.length+(fn.ntmps-args.length)) (numbered 0 args) H {tmps:=ys.toArray++Array.replicate (fn.ntmps-ys.toArray.size) undef,defers:=[]} w:=⟨p,by simp[g],.numbered A,.nil,MZ _⟩
 have O:=h w0 w.heap.size C _ w L;have j:Fe none=Fence.wide:=rfl;rw[<-j];refine wpIn_mono O λe u w' ⟨d,B,a,s,R,q⟩=>?_;have fin:(A1J E B a fn.results.toList λvs=>fL vs λv=>K v a)=some r->LeavesInM (Fe none) 0 P fn u.tmps (λe w'=>∃v y d a,e=.returned y/\Rel G w0 d a w'/\VRel d w' v y/\Frm (Ay H) w0.own C w d w'/\K v a=some r) u.defers .returning w':=by
  intro q;obtain⟨F,d1,d2,d3⟩:=s.defers;rw[d2];refine sZ (H:=a) (t:=B) (C0:=C) (wa:=w) (m:=Ay H) (s0:=w.heap.size) p.finB p.fin (MZ _) (λD w1 r1 Q f1=>?_) F d w' d1 d3 s.rel s.tmps R;obtain⟨vs,V,h1,h2,x⟩:=A1I M J r1 Q _ _ q;rw[E']at x;exact⟨_,wF h1,_,_,D,a,rfl,r1,N! h2,f1,x⟩
 cases e with
 |normal=>exact fin q
 |ret=>exact fin q
 |_=>cases q
end
end
section
variable{f:AV->(Bool->K2)->Af}{q q':Bool}
def Hy(f:AV->(Bool->K2)->Af)(l:Is):(Bool->Is->Af)->Af:=
 @List.rec AV (λ_=>(Bool->Is->Af)->Af) (λK=>K false [])
  (λa _ ih K=>f a λq c=>ih λq' d=>K (@Bool.rec (λ_=>Bool) q' true q) (c::d)) l
def ZX(f:AV->(Bool->K2)->Af)(l:IH):(Bool->IH->Af)->Af:=
 @List.rec (Value×AV) (λ_=>(Bool->IH->Af)->Af) (λK=>K false [])
  (λp _ ih K=>f p.2 λq a=>ih λq' c=>K (@Bool.rec (λ_=>Bool) q' true q) ((p.1,a)::c)) l
def A2x(x:Row)(K:IH->Af):Af:=match x with|.map false a _=>K a|_=>none
def xP(b:Bool)(a:AV)(K:Bool->K2):Af:=
 match a with
 |.v x=>K false (.v x)
 |.list n cs=>ck b (K false (.list n cs))
 |.iptr cs=>ck b (K false (.iptr cs))
 |.imap c=>ck b (K false (.imap c))
 |_=>none
def xO(b:Bool)(H:Hp)(ih:AV->(Bool->K2)->Af)(a:AV)(K:Bool->K2):Af:=
 match a with
 |.v x=>K false (.v x)
 |.list n cs=>ck b (K false (.list n cs))
 |.iptr cs=>ck b (K false (.iptr cs))
 |.imap g=>ck b (K false (.imap g))
 |.agg cs=>Hy ih cs λq d=>K q (.agg d)
 |.tup cs=>Hy ih cs λq d=>K q (.tup d)
 |.fn f j cs=>Hy ih j λq i=>Hy ih cs λq' d=>K (@Bool.rec (λ_=>Bool) q' true q) (.fn f i d)
 |.sl sz r o n=>IZ H r λx=>KY x λ_ cs=>Fb (Nat.mul n sz) (CL o cs) λc=>Hy ih c λ_ e=>K true (.list n e)
 |.ptr r p k=>IZ H r λx=>KY x λ_ cs=>Hy ih (CL (Nat.add p k) cs) λ_ e=>K true (.iptr e)
 |.mp r=>IZ H r λx=>A2x x λg=>ZX ih g λ_ h=>K true (.imap h)
 |_=>none
def IG(b:Bool)(H:Hp)(D:Nat):AV->(Bool->K2)->Af:=@Nat.rec (λ_=>AV->(Bool->K2)->Af) (xP b) (λ_ ih=>xO b H ih) D
def RU(b q:Bool)(C:Ctx)(H:Hp):Ctx:=
 {π:=λ_=>none
  F:=λk i=>(b=true/\C.F k i)\/(q=true/\∃r x o,Ao H r=some x/\C.π r=some (some (k,o)))
  B:=λk=>(b=true/\C.B k)\/(q=true/\∃r x o,Ao H r=some x/\C.π r=some (some (k,o)))}
def qA(b q:Bool)(C:Ctx)(H:Hp):(RU b q C H).bare=RU b q C H:=rfl
def L9{b q q':Bool}{C:Ctx}{H:Hp}{w:World}(h:q=true->q'=true):Ext (λ_=>True) (RU b q C H) w (RU b q' C H) w:=
 ⟨λ_ _=>rfl,λ_ _ c=>c.imp id (λ⟨h1,h2⟩=>⟨h h1,h2⟩),λ_ _ _=>rfl,λ_ c=>c.imp id (λ⟨h1,h2⟩=>⟨h h1,h2⟩),λ_ _=>rfl,λ_ a _ f h=>⟨a,f,h,rfl⟩,λ_ _ _=>.inr trivial,λ_ _=>.inr trivial,MZ _⟩
def ZK:q=true->(@Bool.rec (λ_=>Bool) q' true q)=true:=λh=>by subst h;rfl
def WM:q'=true->(@Bool.rec (λ_=>Bool) q' true q)=true:=λh=>by subst h;cases q<;>rfl
section
variable{G:Gl}{w0:Base}{C:Ctx}{H:Hp}{w:World}{b:Bool}{r:AV×Hp}
def ZW(n:∀a y K,VRel C w a y->f a K=some r->∃q c,VRel (RU b q C H) w c y/\K q c=some r):
 ∀(l:Is)(ys:Hx)(K:Bool->Is->Af),BU C w l ys->Hy f l K=some r->∃q d,BU (RU b q C H) w d ys/\K q d=some r:=by
 intro l
 induction l with
 |nil=>intro ys K e h;exact⟨false,[],by rw[e.nil_inv];exact .nil,h⟩
 |cons a l ih=>
  intro ys K e h;obtain⟨y,g,rfl,h1,h2⟩:=e.cons_inv;have h:(f a λq c=>Hy f l λq' d=>K (@Bool.rec (λ_=>Bool) q' true q) (c::d))=some r:=h;obtain⟨q,c,i,j⟩:=n a y _ h1 h;obtain⟨q',d,k,m⟩:=ih g _ h2 j;exact⟨_,_,.cons (i.mono (L9 ZK)) (k.mono (L9 WM)),m⟩
def xN(A:∀a y K,VRel C w a y->f a K=some r->∃q d,VRel (RU b q C H) w d y/\K q d=some r):
 ∀(l:IH)(ms:List MapEntry)(K:Bool->IH->Af),Ju C w l ms->ZX f l K=some r->∃q g,Ju (RU b q C H) w g ms/\K q g=some r:=by
 intro l
 induction l with
 |nil=>intro ms K c h;exact⟨false,[],⟨c.1,λi p B=>by simp at B⟩,h⟩
 |cons p l ih=>
  intro ms K c h;cases ms with
  |nil=>exact absurd c.1 (by simp)
  |cons m ms=>
   obtain⟨F,hm,hk,hv⟩:=c.2 0 p rfl;simp at hm;subst hm;have h:(f p.2 λq d=>ZX f l λq' g=>K (@Bool.rec (λ_=>Bool) q' true q) ((p.1,d)::g))=some r:=h;obtain⟨q,d,t,u⟩:=A _ _ _ hv h;obtain⟨q',g,j,v⟩:=ih ms _ ⟨by simpa using c.1,λi x e=>by simpa using c.2 (i+1) x (by simpa using e)⟩ u;refine⟨_,_,⟨by simpa using j.1,λi x e=>?_⟩,v⟩;cases i with
   |zero=>simp at e;subst e;exact⟨m,rfl,hk,t.mono (L9 ZK)⟩
   |succ i=>
    obtain⟨D,k,n,s⟩:=j.2 i x (by simpa using e);exact⟨D,by simpa using k,n,s.mono (L9 WM)⟩
def RS{a:AV}{y:Value}(hb:b=true)(hc:tZ 0 a=true)(h:VRel C w a y):VRel (RU b false C H) w a y:=
 VRel.down (by subst hb;funext k i;simp[RU]) (by subst hb;funext k;simp[RU]) 0 a y hc h
def kK(hr:Rel G w0 C H w):∀(D:Nat)(a:AV)(y:Value)(K:Bool->K2),VRel C w a y->IG b H D a K=some r->∃q a',VRel (RU b q C H) w a' y/\K q a'=some r:=by
 intro D
 induction D with
 |zero=>
  intro a y K hv h;change xP b a K=some r at h;unfold xP at h;split at h
  ·exact⟨false,_,by rw[A6.1 hv];exact .v _,h⟩
  ·obtain⟨h1,h⟩:=Bb h;exact⟨false,_,RS h1 rfl hv,h⟩
  ·obtain⟨h1,h⟩:=Bb h;exact⟨false,_,RS h1 rfl hv,h⟩
  ·obtain⟨h1,h⟩:=Bb h;exact⟨false,_,RS h1 rfl hv,h⟩
  ·cases h
 |succ D ih=>
  intro a y K hv h;have V:=λl N K=>ZW (f:=IG b H D) (b:=b) (H:=H) (C:=C) (w:=w) (r:=r) ih l N K;have hX:=λl N K=>xN (f:=IG b H D) (b:=b) (H:=H) (C:=C) (w:=w) (r:=r) ih l N K;change xO b H (IG b H D) a K=some r at h;unfold xO at h;split at h
  ·exact⟨false,_,by rw[A6.1 hv];exact .v _,h⟩
  ·obtain⟨h1,h⟩:=Bb h;exact⟨false,_,RS h1 rfl hv,h⟩
  ·obtain⟨h1,h⟩:=Bb h;exact⟨false,_,RS h1 rfl hv,h⟩
  ·obtain⟨h1,h⟩:=Bb h;exact⟨false,_,RS h1 rfl hv,h⟩
  ·obtain⟨N,rfl,hl⟩:=D5.1 hv;obtain⟨q,L,h1,h2⟩:=V _ _ _ hl h;exact⟨q,_,D5.2 ⟨N,rfl,h1⟩,h2⟩
  ·obtain⟨N,rfl,hl⟩:=CD.1 hv;obtain⟨q,L,h1,h2⟩:=V _ _ _ hl h;exact⟨q,_,CD.2 ⟨N,rfl,h1⟩,h2⟩
  ·obtain⟨N,zs,rfl,hl,ac⟩:=GL.1 hv;obtain⟨q,L,h1,h2⟩:=V _ _ _ hl h;obtain⟨q',ai,g,P⟩:=V _ _ _ ac h2;exact⟨_,_,GL.2 ⟨N,zs,rfl,h1.mono (L9 ZK),g.mono (L9 WM)⟩,P⟩
  ·rename_i sz s o n;obtain⟨q0,e,cs,F,h1⟩:=HG h;obtain⟨B,h2⟩:=Jl _ _ _ _ h1;rw[Cs]at B h2;cases hv with
   |slz ah=>
    have h2:Hy (IG b H D) ((cs.drop o).take (0*sz)) (λ_ c'=>K true (.list 0 c'))=some r:=h2;rw[Nat.zero_mul,List.take_zero]at h2;exact⟨true,_,.list0,h2⟩
   |@sl _ _ _ _ _ _ bk O cap arr T fz J Z ag ae=>
    rcases hr.rows s _ F with⟨_,h6⟩|⟨b',c,u,aa,M⟩
    ·rw[h6]at J;cases J
    ·have A:=M.at_.symm.trans J;injection A with A;injection A with A;injection A with X Y;subst X Y
     have d:BU C w ((cs.drop o).take (n*sz)) ((((u.toList.drop c).take cs.length).drop o).take (n*sz)):=(M.vals.unsel.drop o).take _;obtain⟨q,L,g,P⟩:=V _ _ _ d h2;have g:=g.mono (L9 (q':=true) (λ_=>rfl));have ad:L.length=n*sz:=by
      rw[<-g.1,d.1,xS];have:n*sz<=(cs.drop o).length:=B;omega
     refine⟨true,_,.list Z (λi=>((((u.toList.drop c).take cs.length).drop o).take (n*sz)).getD i undef) (λi t=>.inr ⟨rfl,s,_,_,F,J⟩) (λi t=>?_) (λi t=>?_),P⟩
     ·have ab:i<n*sz:=by omega
      have Q:o+i<cs.length:=by have:n*sz<=(cs.drop o).length:=B;simp at this;omega
      rw[WE,M.cell];rw[Tc,oI,CJ ab,fX,oI,CJ Q,fX,B'];have hf:=M.fits;rw[l1k (by omega)];rfl
     ·have:=g.get i t;rw[qA,Tc,II (by rw[g.1];exact t)];exact this
  ·rename_i s p k;obtain⟨q0,e,cs,F,h2⟩:=HG h;rw[Cs]at h2;cases hv with
   |@ptr _ _ _ _ _ bk O J=>
    rcases hr.rows s _ F with⟨_,h6⟩|⟨b',c,u,aa,M⟩
    ·rw[h6]at J;cases J
    ·have A:=M.at_.symm.trans J;injection A with A;injection A with A;injection A with X Y;subst X Y
     have d:BU C w (cs.drop (p+k)) (((u.toList.drop c).take cs.length).drop (p+k)):=M.vals.unsel.drop _;obtain⟨q,L,g,P⟩:=V _ _ _ d h2;have g:=g.mono (L9 (q':=true) (λ_=>rfl));have ad:L.length=cs.length-(p+k):=by rw[<-g.1,d.1,l0t]
     refine⟨true,_,.iptr (λi=>(((u.toList.drop c).take cs.length).drop (p+k)).getD i undef) (λi t=>.inr ⟨rfl,s,_,_,F,J⟩) (λi t=>?_) (λi t=>?_),P⟩
     ·have Q:p+k+i<cs.length:=by omega
      rw[WE,M.cell];rw[Tc,fX,oI,CJ Q,fX,B'];have hf:=M.fits;rw[l1k (by omega)];rfl
     ·have:=g.get i t;rw[qA,Tc,II (by rw[g.1];exact t)];exact this
  ·rename_i s;obtain⟨x,F,h2⟩:=FR rfl h;unfold A2x at h2;split at h2
   ·rename_i es _bo;cases hv with
    |@mp _ _ _ bk O J=>
     obtain⟨af,ms,clock,g1,g2,g3,g4,_⟩:=hr.rows s _ F;have A:=g1.symm.trans J;injection A with A;injection A with A;injection A with X Y;subst X Y
     obtain⟨q,L,g,P⟩:=hX _ _ _ g4 h2;have g:=g.mono (L9 (q':=true) (λ_=>rfl));have B:ms.size=L.length:=by have:=g.1;simpa using this
     have get:∀i(t:i<L.length),(ms.getD i default).key=L[i].1/\VRel (RU b true C H) w L[i].2 (ms.getD i default).val:=λi t=>by
      obtain⟨m,k1,k2,k3⟩:=g.2 i _ (II t);have:ms.getD i default=m:=by
       rw[B']at k1;simp[WX,k1]
      rw[this];exact⟨k2,k3⟩
     refine⟨true,_,.imap ms (.inr ⟨rfl,s,_,_,F,J⟩) g2 B (λi t=>(get i t).1) (λi j R hj=>?_) (λi t=>?_) (λi t=>(get i t).2),P⟩
     ·have:=l20.1 g3.born i j (by simpa using Nat.lt_trans R hj) (by simpa using hj) R;simpa [WX,hj,Nat.lt_trans R hj] using this
     ·have:=g3.lt ms[i] (by simp);simpa [WX,t] using this
   ·cases h2
  ·cases h
end
end
section
variable{ag:Bool}{d:Nat}{t:TypeId}
def LK.fit:LK->Value->Bool
 |.int k,.int a _=>decide (a=k)
 |.str,.string _=>true
 |.bool,.bool _=>true
 |_,_=>false
def fits:List LK->Hx->Bool
 |[],[]=>true
 |k::ks,v::vs=>k.fit v&&fits ks vs
 |_,_=>false
def R5(ag:Bool)(vs:Hx):Value:=match ag with|true=>.agg vs.toArray|false=>vs.headD undef
def Kr(P:Program)(rec:TypeId->Option (Bool×List LK)):Nat->List Field->Option (List LK)
 |_,[]=>some []
 |off,f::a=>match rec f.type with
  |some (_,ks)=>if f.name != "_" &&(Nat.beq f.offset off&&(Nat.beq (P.cellsOf f.type) ks.length&& !Nat.beq ks.length 0)) then(Kr P rec (off+ks.length) a).map (ks++ ·) else none
  |none=>none
def leaves(P:Program):Nat->TypeId->Option (Bool×List LK)
 |0,_=>none
 |d+1,t=>match P.underlying t with
  |some (.int k)=>some (false,[.int k])
  |some .string=>some (false,[.str])
  |some .bool=>some (false,[.bool])
  |some (.struct a)=>if P.stoodInHeld t then none else(Kr P (leaves P d) 0 a.toList).map λks=>(true,ks)
  |some (.array n e)=>match leaves P d e with
   |some (_,ks)=>if Nat.beq (P.cellsOf e) ks.length&& !Nat.beq ks.length 0 then some (true,(List.replicate n ks).flatten) else none
   |none=>none
  |_=>none
def Dh:∀{ks:List LK}{vs:Hx},fits ks vs=true->vs.length=ks.length:=by
 intro ks
 induction ks with
 |nil=>intro vs h;cases vs<;>simp[fits]at h;rfl
 |cons k ks ih=>
  intro vs h;cases vs with
  |nil=>simp[fits]at h
  |cons v vs=>simp only[fits,I0]at h;simp[ih h.2]
def KP:∀{ks ls:List LK}{vs:Hx},fits (ks++ls) vs=true->fits ks (vs.take ks.length)=true/\fits ls (vs.drop ks.length)=true:=by
 intro ks
 induction ks with
 |nil=>intro ls vs h;exact⟨by simp[fits],by simpa using h⟩
 |cons k ks ih=>
  intro ls vs h;cases vs with
  |nil=>simp[fits]at h
  |cons v vs=>
   simp only[List.cons_append,fits,I0]at h;obtain⟨h1,h2⟩:=ih h.2;exact⟨by simp[fits,h.1,h1],by simpa using h2⟩
def Xm{α:Type}[DecidableEq α](n:Nat)(xs ys:List α):decide (xs=ys)=(decide (xs.take n=ys.take n)&&decide (xs.drop n=ys.drop n)):=by
 rw[eZ];simp only[decide_eq_true_eq,I0];constructor
 ·rintro rfl;exact⟨rfl,rfl⟩
 ·rintro⟨h1,h2⟩;rw[<-List.take_append_drop n xs,<-List.take_append_drop n ys,h1,h2]
instance:DecidableEq Value:=Classical.typeDecidableEq Value
section
variable{P:Program}
def tA{ks:List LK}(h:leaves P d t=some (ag,ks))(w:World):(isAgg t).run P w=.ok ag w:=by
 cases d with
 |zero=>simp[leaves]at h
 |succ d=>
  unfold leaves at h;split at h
  ·rename_i a;injection h with h;injection h with h1 h2;subst h1;unfold isAgg;rw[Cr,run_underlying a w];rfl
  ·rename_i a;injection h with h;injection h with h1 h2;subst h1;unfold isAgg;rw[Cr,run_underlying a w];rfl
  ·rename_i a;injection h with h;injection h with h1 h2;subst h1;unfold isAgg;rw[Cr,run_underlying a w];rfl
  ·rename_i f a;split at h
   ·cases h
   ·cases c:Kr P (leaves P d) 0 f.toList with
    |none=>rw[c]at h;simp at h
    |some l=>
     rw[c]at h;simp only[oH,l0y,Prod.mk.injEq]at h;obtain⟨h1,h2⟩:=h;subst h1;unfold isAgg;rw[Cr,run_underlying a w];rfl
  ·rename_i n e a;split at h
   ·split at h
    ·injection h with h;injection h with h1 h2;subst h1;unfold isAgg;rw[Cr,run_underlying a w];rfl
    ·cases h
   ·cases h
  ·cases h
def KN{ks:List LK}(h:leaves P d t=some (ag,ks))(hc:P.cellsOf t=ks.length)(c:ks.length≠0)(xs:Hx)(off:Nat)(e:off+ks.length<=xs.length)(w:World):
 (part t xs.toArray off).run P w=.ok (R5 ag ((xs.drop off).take ks.length)) w:=by
 unfold part;rw[Cr,tA h w];simp only[Eu];cases ag with
 |true=>
  simp only[if_true];rw[Cr,B2 w (by rw[hc];exact c)];simp only[Eu,Zn,R5,hc]
  congr 2
  apply fB;simp[List.take_drop]
 |false=>
  simp only[mL,if_false];have a:off<xs.length:=by omega
  rw[l10,II a];simp only[Zn,R5]
  congr 1
  rw[l11 a];cases hk:ks.length with
  |zero=>exact absurd hk c
  |succ n=>rfl
def A7a(P:Program)(d:Nat)(t:TypeId):Prop:=
 ∀ag ks,leaves P d t=some (ag,ks)->∀(m:Nat)(xs a:Hx),fits ks xs=true->fits ks a=true->∀w,(Op.equalIn (m+d) t (R5 ag xs) (R5 ag a)).run P w=.ok (decide (xs=a)) w
def fD(k:∀t,A7a P d t)(m:Nat):∀(a:List Field)(off:Nat)(ks:List LK),Kr P (leaves P d) off a=some ks->∀(xs ys:Hx),fits ks (xs.drop off)=true->fits ks (ys.drop off)=true->
 off<=xs.length->off<=ys.length->∀w,(Op.eqFields (m+d) xs.toArray ys.toArray a).run P w=.ok (decide (xs.drop off=ys.drop off)) w:=by
 intro a
 induction a with
 |nil=>
  intro off ks h xs ys c g _ _ w;simp only[Kr,l0y]at h;subst h;have h1:=Dh c;have h2:=Dh g;simp only[Oc,List.length_eq_zero_iff]at h1 h2;rw[h1,h2];simp[Op.eqFields]
 |cons f a ih=>
  intro off ks h xs ys c g s u w;unfold Kr at h;split at h
  ·rename_i ag k1 i;split at h
   ·rename_i hc;simp only[I0,eY,tD,bne_iff_ne,ne_eq]at hc;obtain⟨c1,c2,c3,c4⟩:=hc;have c4:k1.length≠0:=λe=>by rw[e]at c4;simp at c4
    cases hr:Kr P (leaves P d) (off+k1.length) a with
    |none=>rw[hr]at h;simp at h
    |some r=>
     rw[hr]at h;simp only[oH,l0y]at h;subst h;obtain⟨q,j⟩:=KP c;obtain⟨y1,y2⟩:=KP g;rw[l15]at j y2;have n:=Dh c;have p:=Dh g;simp only[l0t,E6]at n p;simp only[Op.eqFields];rw[CJ c1,Cr,c2,KN i c3 c4 xs off (by omega) w];simp only[Eu];rw[Cr,KN i c3 c4 ys off (by omega) w];simp only[Eu];rw[Cr,k f.type ag k1 i m _ _ q y1 w];simp only[Eu];rw[Xm k1.length (xs.drop off) (ys.drop off),l15,l15];cases hq:decide (List.take k1.length (List.drop off xs)=List.take k1.length (List.drop off ys))
     ·simp
     ·simp only[Bool.not_true,mL,if_false,xR];exact ih _ _ hr xs ys j y2 (by omega) (by omega) w
   ·cases h
  ·cases h
def lN{e:TypeId}(k:A7a P d e)(m:Nat){ks:List LK}(g:leaves P d e=some (ag,ks))(hc:P.cellsOf e=ks.length)(a:ks.length≠0):∀(n i:Nat)(xs ys:Hx),fits (List.replicate n ks).flatten (xs.drop (i*ks.length))=true->fits (List.replicate n ks).flatten (ys.drop (i*ks.length))=true->
 i*ks.length<=xs.length->i*ks.length<=ys.length->∀w,(Op.eqItems (m+d) e (P.cellsOf e) xs.toArray ys.toArray (List.range' i n)).run P w=.ok (decide (xs.drop (i*ks.length)=ys.drop (i*ks.length))) w:=by
 intro n
 induction n with
 |zero=>
  intro i xs ys c f _ _ w;have h1:=Dh c;have h2:=Dh f;simp only[List.replicate_zero,List.flatten_nil,Oc,List.length_eq_zero_iff]at h1 h2;rw[h1,h2];simp[Op.eqItems]
 |succ n ih=>
  intro i xs ys c f s u w;rw[l17,l18]at c f;obtain⟨r,h⟩:=KP c;obtain⟨y1,y2⟩:=KP f;rw[l15]at h y2;have p:=Dh c;have q:=Dh f;simp only[l0t,E6]at p q;have j:i*ks.length+ks.length=(i+1)*ks.length:=by rw[B!];omega
  rw[List.range'_succ];simp only[Op.eqItems];rw[Cr,hc,KN g hc a xs (i*ks.length) (by omega) w];simp only[Eu];rw[Cr,KN g hc a ys (i*ks.length) (by omega) w];simp only[Eu];rw[Cr,k ag ks g m _ _ r y1 w];simp only[Eu];rw[Xm ks.length (xs.drop (i*ks.length)) (ys.drop (i*ks.length)),l15,l15,j];rw[j]at h y2;cases hq:decide (List.take ks.length (List.drop (i*ks.length) xs)=List.take ks.length (List.drop (i*ks.length) ys))
  ·simp
  ·simp only[Bool.not_true,mL,if_false,xR];have:=ih (i+1) xs ys h y2 (by omega) (by omega) w;rw[hc]at this;exact this
def lK:∀(d:Nat)(t:TypeId),A7a P d t:=by
 intro d
 induction d with
 |zero=>intro t ag ks h;simp[leaves]at h
 |succ d s=>
  intro t ag ks h m xs v a c w;rw[<-WE];unfold leaves at h;split at h
  ·rename_i k f;injection h with h;injection h with h1 h2;subst h1 h2
   obtain⟨x,rfl⟩:=l1a.1 (Dh a);obtain⟨y,rfl⟩:=l1a.1 (Dh c)
   ·
    simp only[fits,uT]at a c;cases x<;>simp[LK.fit]at a
    cases y<;>simp[LK.fit]at c
    subst a c;simp only[R5,List.headD];rw[run_equalIn_int w (m+d) t _ _ _ _ f]
    congr 1
    rw[eZ];simp
  ·rename_i f;injection h with h;injection h with h1 h2;subst h1 h2
   obtain⟨x,rfl⟩:=l1a.1 (Dh a);obtain⟨y,rfl⟩:=l1a.1 (Dh c)
   ·
    simp only[fits,uT]at a c;cases x<;>simp[LK.fit]at a
    cases y<;>simp[LK.fit]at c
    simp only[R5,List.headD];rw[run_equalIn_string w (m+d) t _ _ f]
    congr 1
    rw[<-beq_toListBytes,eZ,MapKept.bytes_beq];simp
  ·rename_i f;injection h with h;injection h with h1 h2;subst h1 h2
   obtain⟨x,rfl⟩:=l1a.1 (Dh a);obtain⟨y,rfl⟩:=l1a.1 (Dh c)
   ·
    simp only[fits,uT]at a c;cases x<;>simp[LK.fit]at a
    cases y<;>simp[LK.fit]at c
    simp only[R5,List.headD];rw[run_equalIn_bool' w (m+d) t _ _ f]
    congr 1
    rw[eZ];simp
  ·rename_i p f;split at h
   ·cases h
   ·rename_i r;cases g:Kr P (leaves P d) 0 p.toList with
    |none=>rw[g]at h;simp at h
    |some l=>
     rw[g]at h;simp only[oH,l0y,Prod.mk.injEq]at h;obtain⟨h1,h2⟩:=h;subst h1 h2;have u:P.fieldsOf t=p:=by simp[Program.fieldsOf,f]
     simp only[R5];rw[run_equalIn_struct w (m+d) t _ _ (by rw[u];exact f) (by simpa using r),u];exact fD s m p.toList 0 l g xs v a c (xQ _) (xQ _) w
  ·rename_i n e f;split at h
   ·rename_i A k1 g;split at h
    ·rename_i hc;simp only[I0,eY,tD]at hc;have j:k1.length≠0:=λB=>by have:=hc.2;rw[B]at this;simp at this
     injection h with h;injection h with h1 h2;subst h1 h2
     simp only[R5];obtain⟨i,C⟩:∃i,P.info? e=some i:=by
      cases q:P.info? e with
      |none=>exfalso;exact j (by rw[<-hc.1];simp[Program.cellsOf,q])
      |some i=>exact⟨i,rfl⟩
     rw[run_equalIn_array w (m+d) _ _ f C,List.range_eq_range'];have:=lN (s e) m g hc.1 j n 0 xs v (by simpa using a) (by simpa using c) (by simp) (by simp) w;simpa using this
    ·cases h
   ·cases h
  ·cases h
structure EqFlat(P:Program)(t:TypeId)(ks:List LK):Prop where
 leaves:leaves P 6 t=some (true,ks)
 guard:P.eqGuardType P.depth t=false
theorem EqFlat.equal{ks:List LK}(h:EqFlat P t ks){xs ys:Hx}(a:fits ks xs=true)(c:fits ks ys=true)(w:World):(Op.equal t (.agg xs.toArray) (.agg ys.toArray)).run P w=.ok (decide (xs=ys)) w:=
 lK 6 t true ks h.leaves 9994 xs ys a c w
def fH:∀(d:Nat)(t:TypeId)(ag:Bool)(ks:List LK),leaves P d t=some (ag,ks)->∀(m:Nat)(em:Bool)(xs:Hx),fits ks xs=true->∀w,(Instr.checkKey em (m+d) t (R5 ag xs)).run P w=.ok () w:=by
 intro d
 induction d with
 |zero=>intro t ag ks h;simp[leaves]at h
 |succ d B=>
  intro t ag ks h m em xs c w;rw[<-WE];unfold Instr.checkKey;unfold leaves at h;split at h
  ·rename_i k a;rw[Cr,run_underlying a w];rfl
  ·rename_i a;rw[Cr,run_underlying a w];rfl
  ·rename_i a;rw[Cr,run_underlying a w];rfl
  ·rename_i C a;split at h
   ·cases h
   ·rename_i H;cases p:Kr P (leaves P d) 0 C.toList with
    |none=>rw[p]at h;simp at h
    |some l=>
     rw[p]at h;simp only[oH,l0y,Prod.mk.injEq]at h;obtain⟨h1,h2⟩:=h;subst h1 h2;rw[Cr,run_underlying a w];simp only[Eu,R5];rw[<-Array.forIn_toList];generalize C.toList=g at p;have key:∀(g:List Field)(off:Nat)(l:List LK),Kr P (leaves P d) off g=some l->fits l (xs.drop off)=true->off<=xs.length->
      (forIn g PUnit.unit (λf(_:PUnit)=>(if f.name≠ "_" then(do let y<-part f.type xs.toArray f.offset;Instr.checkKey em (m+d) f.type y;pure (ForInStep.yield PUnit.unit)) else pure (ForInStep.yield PUnit.unit):Sem (ForInStep PUnit)))).run P w=.ok PUnit.unit w:=by
      intro g
      induction g with
      |nil=>intro off l _ _ _;simp
      |cons f g ih=>
       intro off l h c J;unfold Kr at h;split at h
       ·rename_i ag k1 s;split at h
        ·rename_i hc;simp only[I0,eY,tD,bne_iff_ne,ne_eq]at hc;obtain⟨c1,c2,c3,c4⟩:=hc;have c4:k1.length≠0:=λe=>by rw[e]at c4;simp at c4
         cases hr:Kr P (leaves P d) (off+k1.length) g with
         |none=>rw[hr]at h;simp at h
         |some K=>
          rw[hr]at h;simp only[oH,l0y]at h;subst h;obtain⟨A,r⟩:=KP c;rw[l15]at r;have x:=Dh c;simp only[l0t,E6]at x;rw[List.forIn_cons,CJ c1,Cr,Cr,c2,KN s c3 c4 xs off (by omega) w];simp only[Eu];rw[Cr,B f.type ag k1 s m em _ A w];simp only[Eu,Zn];exact ih _ _ hr r (by omega)
        ·cases h
       ·cases h
     have:=key g 0 l p (by simpa using c) (xQ _);rw[Cr];refine(congrArg (λq=>Result.andThen q _) this).trans ?_;rfl
  ·rename_i n e a;split at h
   ·rename_i v k1 p;split at h
    ·rename_i hc;simp only[I0,eY,tD]at hc;have u:k1.length≠0:=λD=>by have:=hc.2;rw[D]at this;simp at this
     injection h with h;injection h with h1 h2;subst h1 h2
     have hsz:(sizeOf e).run P w=.ok (P.cellsOf e) w:=B2 w (by rw[hc.1];exact u);rw[Cr,run_underlying a w];simp only[Eu,R5];simp only[Std.Legacy.Range.forIn_eq_forIn_range',Std.Legacy.Range.size,Nat.sub_zero,Nat.add_one_sub_one,Nat.div_one];have key:∀(n i:Nat),fits (List.replicate n k1).flatten (xs.drop (i*k1.length))=true->i*k1.length<=xs.length->
      (forIn (List.range' i n) PUnit.unit (λj(_:PUnit)=>(do let z<-sizeOf e;let y<-part e xs.toArray (j*z);Instr.checkKey em (m+d) e y;pure (ForInStep.yield PUnit.unit):Sem (ForInStep PUnit)))).run P w=.ok PUnit.unit w:=by
      intro n
      induction n with
      |zero=>intro i _ _;simp
      |succ n ih=>
       intro i c J;rw[l17,l18]at c;obtain⟨A,r⟩:=KP c;rw[l15]at r;have x:=Dh c;simp only[l0t,E6]at x;have F:i*k1.length+k1.length=(i+1)*k1.length:=by rw[B!];omega
       rw[F]at r;rw[List.range'_succ,List.forIn_cons,Cr,Cr,hsz];simp only[Eu];rw[Cr,hc.1,KN p hc.1 u xs (i*k1.length) (by omega) w];simp only[Eu];rw[Cr,B e v k1 p m em _ A w];simp only[Eu,Zn];exact ih (i+1) r (by omega)
     have:=key n 0 (by simpa using c) (by simp);rw[Cr];refine(congrArg (λq=>Result.andThen q _) this).trans ?_;rfl
    ·cases h
   ·cases h
  ·cases h
def YB(P:Program)(f:FuncId):Prop:=∀(x:Value)(w:World),(callFunc f #[x]).run P w=.ok (.value x) w
def EqFlat.check{ks:List LK}(h:EqFlat P t ks){xs:Hx}(a:fits ks xs=true)(em:Bool)(w:World):(Instr.checkKey em 10000 t (.agg xs.toArray)).run P w=.ok () w:=
 fH 6 t true ks h.leaves 9994 em xs a w
end
end
section
variable{K:K2}{w0:Base}{C:Ctx}{w:World}{x:XFn}
abbrev KQ:=Exit->Tm->Ru
abbrev uJ:=Cf->Code->Tm->Hp->KQ->Af
structure Rt where
 call:A7b
 run:uJ
def unV:AV->Value
 |.v x=>x
 |_=>undef
def isV:AV->Bool
 |.v _=>true
 |_=>false
def XE.G(E:XE):Gl:=λg=>(E.gl.get g).map λcs=>cs.map unV
def PT(D:Nat->List Oper->Bool):Code->Bool
 |.region id a true=>D id a.toList
 |.seq x y=>PT D x&&PT D y
 |.cond _ x y=>PT D x&&PT D y
 |.block _ x=>PT D x
 |.loop x=>PT D x
 |.scope x=>PT D x
 |_=>true
structure XE.Ok(D:XE->Cf->Nat->List Oper->Bool)(E:XE)(P:Program):Prop where
 ty:Y8 P E.T
 pos:∀t i e esz,E.T t=some i->(i.d=.slice e esz\/∃n,i.d=.array n e esz)->esz≠0
 mix:P.follows .mixedOrders=true
 gl:∀g cs,E.gl.get g=some cs->cs.all isV=true
 fn:∀f x,E.ft.get f=some x->∃fn,P.funcs[f]?=some fn/\fn.body=some x.c/\fn.ntmps=x.n/\fn.results.toList=x.rs/\(fn.name== "runtime.NumGoroutine")=false/\PT (D E ⟨false,x.lv,x.fz,x.n,x.rc⟩) x.c=true
 eq:∀t ks,E.eqt.get t=some ks->EqFlat P t ks
 lie:∀e n o u,(e,n,o,u)∈E.lie->liesAt P P.depth e (n/P.cellsOf e) o u 1=true/\(P.info? u).isSome=true
 up:E.lie.isEmpty=false->P.underlying E.up=some .unsafePointer
 ne:∀f,E.ne f=true->YB P f
def XE.env(E:XE)(P:Program):Env:={P:=P,G:=E.G,T:=E.T}
theorem XE.Ok.env{D:XE->Cf->Nat->List Oper->Bool}{E:XE}{P:Program}(h:XE.Ok D E P):(E.env P).Ok:=⟨h.ty,h.pos,h.mix⟩
def TY(P:Program)(f:Nat):Prop:=∃fn,P.funcs[f]?=some fn/\fn.body.isNone=false/\(fn.name== "runtime.NumGoroutine")=false
def Y9(D:XE->Cf->Nat->List Oper->Bool)(E:XE)(P:Program)(R:uJ):Prop:=
 ∀(ro:Option Nat)(a:Cf)(c:Code)(t:Tm)(H:Hp)(K:KQ)(r:AV×Hp)(m:Nat),(ro≠none->a.b=true)->(a.b=false->PT (D E a) c=true)->R a c t H K=some r->NC P E.G ro m a.n c (λe g d=>K e g d=some r) t H
structure RSound(D:XE->Cf->Nat->List Oper->Bool)(E:XE)(P:Program)(R:Rt):Prop where
 run:Y9 D E P R.run
 call:∀(f:Nat)(args:Is)(H:Hp)(K:KV)(r:AV×Hp),R.call f args H K=some r->TY P f/\Oa P E.G f args H (λv H'=>K v H'=some r)
def zgo(E:XE)(R:uJ)(x:XFn)(args:Is)(H:Hp)(K:KV):Af:=
 A1o args 0 λk=>ckS (Nat.ble k x.n) (A9M args 0 λt=>R ⟨false,x.lv,x.fz,x.n,x.rc⟩ x.c t H (B5K E x.rs K))
def zfn(E:XE)(R:uJ)(f:Nat)(args:Is)(H:Hp)(K:KV):Af:=E.ft.getK f λx=>zgo E R x args H K
def depth:Nat:=12
def Ai(a:Af)(K:K2):Af:=match a with|some (v,_)=>K v|none=>none
def Ak(R:Rt)(f:Nat)(args:Is)(H:Hp)(K:K2):Af:=
 Hy (IG true H depth) args λq a=>Ai (R.call f a [] λv c=>IG (!q) c depth v λ_ d=>some (d,[])) K
section
variable{D:XE->Cf->Nat->List Oper->Bool}{E:XE}{P:Program}{R:Rt}{f:Nat}{args:Is}{H:Hp}{r:AV×Hp}
def B7S(c:XE.Ok D E P)(d:E.ft.get f=some x):TY P f:=by
 obtain⟨fn,h1,h2,e,g,a,h⟩:=c.fn f x d;exact⟨fn,h1,by rw[h2];rfl,a⟩
def A1M(d:XE.Ok D E P){a:uJ}(p:Y9 D E P a)(q:E.ft.get f=some x){K:KV}(h:zgo E a x args H K=some r):Oa P E.G f args H (λv e=>K v e=some r):=by
 unfold zgo at h;rw[A5Y]at h;obtain⟨hk,h⟩:=Jt h;rw[A9L]at h;obtain⟨fn,h1,h2,g,j,s,k⟩:=d.fn f x q;refine A3p (E:=E) (T:=E.T) d.ty (λty i h=>h) h1 h2 ?_;have hk:args.length<=x.n:=by rw[Zl]at hk;omega
 have m:args.length+(fn.ntmps-args.length)=x.n:=by rw[g];omega
 rw[m,j];exact p none ⟨false,x.lv,x.fz,x.n,x.rc⟩ x.c _ H _ r (Ay H) (λh=>absurd rfl h) (λ_=>k) h
def oR(c:XE.Ok D E P){a:uJ}(g:Y9 D E P a){K:KV}(h:zfn E a f args H K=some r):TY P f/\Oa P E.G f args H (λv e=>K v e=some r):=by
 obtain⟨x,d,h⟩:=AL h;exact⟨B7S c d,A1M c g d h⟩
def Keep.toBelow{w w':World}(h:Keep ⟨w,λ_=>False⟩ w'):Below w.heap.size w w':=⟨h.os,h.tape,h.output,h.size,λb hb=>h.block b hb id⟩
def yK{G:Gl}{b q:Bool}(h:Rel G w0 C H w):(∀k i,(RU b q C H).F k i->k<w.heap.size)/\∀k,(RU b q C H).B k->k<w.heap.size:=by
 refine⟨λk i d=>?_,λk c=>?_⟩
 ·rcases d with⟨_,d⟩|⟨_,s,x,o,a,e⟩
  ·exact h.fin k i d
  ·exact(h.rows s x a).block (Dr a) e
 ·rcases c with⟨_,c⟩|⟨_,s,x,o,a,e⟩
  ·exact h.finB k c
  ·exact(h.rows s x a).block (Dr a) e
def V!{G:Gl}(hr:Rel G w0 C H w)(args:Is)(ys:Hx)(K:Bool->Is->Af)(d:BU C w args ys)(h:Hy (IG true H depth) args K=some r):∃q c,BU (RU true q C H) w c ys/\K q c=some r:=
 ZW (f:=IG true H depth) (b:=true) (λa y K hv h=>kK hr depth a y K hv h) args ys K d h
def PB:∀(f:AV->(Bool->K2)->Af)(d:∀a K,f a K=some r->∃q c,K q c=some r)(l:Is)(K:Bool->Is->Af),Hy f l K=some r->∃q e,K q e=some r:=by
 intro f d l
 induction l with
 |nil=>intro K h;exact⟨_,_,h⟩
 |cons a l ih=>
  intro K h;obtain⟨q,c,h⟩:=d a _ h;obtain⟨g,e,h⟩:=ih _ h;exact⟨_,_,h⟩
def A5B:∀(f:AV->(Bool->K2)->Af)(d:∀a K,f a K=some r->∃q c,K q c=some r)(l:IH)(K:Bool->IH->Af),ZX f l K=some r->∃q e,K q e=some r:=by
 intro f d l
 induction l with
 |nil=>intro K h;exact⟨_,_,h⟩
 |cons a l ih=>
  intro K h;obtain⟨q,c,h⟩:=d a.2 _ h;obtain⟨g,e,h⟩:=ih _ h;exact⟨_,_,h⟩
def A9n{b:Bool}:∀(n:Nat)(a:AV)(K:Bool->K2),IG b H n a K=some r->∃q c,K q c=some r:=by
 intro n
 induction n with
 |zero=>
  intro a K h;change xP b a K=some r at h;unfold xP at h;split at h
  ·exact⟨_,_,h⟩
  ·exact⟨_,_,(Bb h).2⟩
  ·exact⟨_,_,(Bb h).2⟩
  ·exact⟨_,_,(Bb h).2⟩
  ·cases h
 |succ n ih=>
  intro a K h;change xO b H (IG b H n) a K=some r at h;unfold xO at h;split at h
  ·exact⟨_,_,h⟩
  ·exact⟨_,_,(Bb h).2⟩
  ·exact⟨_,_,(Bb h).2⟩
  ·exact⟨_,_,(Bb h).2⟩
  ·obtain⟨q,l,h⟩:=PB _ ih _ _ h;exact⟨_,_,h⟩
  ·obtain⟨q,l,h⟩:=PB _ ih _ _ h;exact⟨_,_,h⟩
  ·obtain⟨q,l,h⟩:=PB _ ih _ _ h;obtain⟨q,l,h⟩:=PB _ ih _ _ h;exact⟨_,_,h⟩
  ·obtain⟨q0,e,cs,_,h⟩:=HG h;obtain⟨_,h⟩:=Jl _ _ _ _ h;obtain⟨q,l,h⟩:=PB _ ih _ _ h;exact⟨_,_,h⟩
  ·obtain⟨q0,e,cs,_,h⟩:=HG h;obtain⟨q,l,h⟩:=PB _ ih _ _ h;exact⟨_,_,h⟩
  ·obtain⟨x,_,h⟩:=FR rfl h;unfold A2x at h;split at h
   ·obtain⟨q,l,h⟩:=A5B _ ih _ _ h;exact⟨_,_,h⟩
   ·cases h
  ·cases h
def O9{a:Af}(h:Ai a K=some r):∃v c,a=some (v,c)/\K v=some r:=by
 unfold Ai at h;split at h
 ·exact⟨_,_,rfl,h⟩
 ·cases h
def Vl(hR:RSound D E P R)(h:Ak R f args H K=some r):TY P f/\Oa P E.G f args H (λv L=>L=H/\K v=some r):=by
 unfold Ak at h;refine⟨?_,?_⟩
 ·obtain⟨q,l',h⟩:=PB _ (λa K h=>A9n depth a K h) _ _ h;obtain⟨v,L,h1,_⟩:=O9 h;exact(hR.call _ _ _ _ _ h1).1
 intro w0 C w ys hr ha;obtain⟨q,X,aa,u⟩:=V! hr args ys _ ha h;obtain⟨v0,H0,u,Y⟩:=O9 u;have hc:=(hR.call _ _ _ _ _ u).2;have J:=yK (b:=true) (q:=q) hr;have Z:Rel E.G ⟨w,λ_=>False⟩ (RU true q C H) [] w:=
  ⟨λg cs hg i v hv=>⟨.inl ⟨rfl,(hr.glob g cs hg i v hv).1⟩,(hr.glob g cs hg i v hv).2⟩,.refl _ _,λ_ _ h=>by simp[Ao]at h,λ_ _ h=>by simp[Ao]at h,λ_ _ _ _ h=>by simp[Ao]at h,λ_ _ _ _ _ _ _ h=>by simp[Ao]at h,J.1,J.2,λ_ _=>rfl⟩
 refine(hc _ _ w ys Z aa).mono ?_;rintro e O ⟨v,y,V,L,rfl,t,hv,hx,j⟩;obtain⟨q2,v',ab,M⟩:=kK t depth v y _ hv j;injection M with M
 injection M with M ad
 subst M;have hb:Below w.heap.size w O:=t.below.toBelow;have m:∀k,Base.own ⟨w,λ_=>False⟩ k->w.heap.size<=k:=λk h=>h.elim id (λh=>h.elim)
 let Q:Ctx:={π:=C.π,F:=λk i=>C.F k i\/(w.heap.size<=k/\(RU (!q) q2 V L).F k i),B:=λk=>C.B k\/(w.heap.size<=k/\(RU (!q) q2 V L).B k)}
 have n:=yK (b:=!q) (q:=q2) t;have e:Ext w0.own C w Q O:=⟨λ_ _=>rfl,λ_ _ h=>.inl h,λk i h=>hb.cell (p:=⟨k,i,none⟩) (hr.fin k i h),λ_ h=>.inl h,λk h=>hb.block k (hr.finB k h),
  λk arr T fz h=>⟨arr,fz,(hb.block k (l1q.1 h).1).trans h,rfl⟩,λk i h=>h.imp id (λh=>.inl (WW hr.below.size h.1)),λk h=>h.imp id (λh=>.inl (WW hr.below.size h.1)),hb.size⟩
 have N:Rel E.G w0 Q H O:=by
  refine⟨hr.glob.mono e,hr.below.below hb,hr.lt,λs x j=>(hr.rows s x j).mono e (λk ac A=>hb.block k ((hr.rows s x j).block (Dr j) A)),λs x k o j A=>?_,hr.sep,λk i d=>?_,λk c=>?_,hr.nx⟩
  ·have h1:=hr.own s x k o j A;have h2:=(hr.rows s x j).block (Dr j) A;refine⟨h1.1,λi d=>?_,λc=>?_⟩
   ·rcases d with d|d
    ·exact h1.2.1 i d
    ·have:=d.1;omega
   ·rcases c with c|c
    ·exact h1.2.2 c
    ·have:=c.1;omega
  ·rcases d with d|d
   ·exact l2m (hr.fin k i d) hb.size
   ·exact n.1 k i d.2
  ·rcases c with c|c
   ·exact l2m (hr.finB k c) hb.size
   ·exact n.2 k c.2
 have e2:Ext (λ_=>True) (RU (!q) q2 V L) O Q O:=by
  refine⟨λs h=>absurd rfl h,λk i d=>?_,λ_ _ _=>rfl,λk c=>?_,λ_ _=>rfl,λ_ a _ f h=>⟨a,f,h,rfl⟩,λ_ _ _=>.inr trivial,λ_ _=>.inr trivial,MZ _⟩
  ·rcases d with⟨hq,d⟩|⟨hq,s,x,o,j,A⟩
   ·rcases hx.new k i d with h1|h1
    ·rcases h1 with⟨_,h1⟩|⟨h1,_⟩
     ·exact .inl h1
     ·rw[h1]at hq;cases hq
    ·exact .inr ⟨m k h1,.inl ⟨hq,d⟩⟩
   ·exact .inr ⟨m k (t.own s x k o j A).1,.inr ⟨hq,s,x,o,j,A⟩⟩
  ·rcases c with⟨hq,c⟩|⟨hq,s,x,o,j,A⟩
   ·rcases hx.newB k c with h1|h1
    ·rcases h1 with⟨_,h1⟩|⟨h1,_⟩
     ·exact .inl h1
     ·rw[h1]at hq;cases hq
    ·exact .inr ⟨m k h1,.inl ⟨hq,c⟩⟩
   ·exact .inr ⟨m k (t.own s x k o j A).1,.inr ⟨hq,s,x,o,j,A⟩⟩
 exact⟨v',y,Q,H,rfl,N,ab.mono e2,e.frm,rfl,Y⟩
end
end
section
variable{x:AV}{esz n:Nat}{i ie:TI}
def Yc(n:Nat)(cs:Is):(Is->Af)->Af:=
 @Nat.rec (λ_=>(Is->Af)->Af) (λK=>K []) (λ_ ih K=>ih λl=>WJ cs l K) n
def UY(n:Nat)(cs:Is):∀K,Yc n cs K=K (Ur n cs):=by
 induction n with
 |zero=>intro K;rfl
 |succ n ih=>
  intro K;have e:Yc (n+1) cs K=Yc n cs λl=>WJ cs l K:=rfl;rw[e,ih,LB];rfl
def F4(e:TypeId)(esz:Nat)(ie:TI)(n:Nat)(l:List (Nat×Nat×AV))(H:Hp)(K:KV):Af:=
 Gy ie.zero λz=>HB z 0 λk=>ck (Nat.beq k esz&&(!Nat.beq esz 0&&Nat.ble (Nat.mul n esz) 16777216)) (Yc n z λcs=>WI l cs λa=>GP H λs=>K (.sl esz s 0 n) ((s,.cells false e a)::H))
def Qa(esz:Nat)(ie:TI)(n:Nat)(l:List (Nat×Nat×AV))(K:K2):Af:=
 Gy ie.zero λz=>HB z 0 λk=>ck (Nat.beq k esz&&(!Nat.beq esz 0&&Nat.ble (Nat.mul n esz) 16777216)) (Yc n z λcs=>WI l cs λa=>ck (a.all (tZ 2)) (K (.list n a)))
def WK(l:Ha):(Is->Af)->Af:=@List.rec UInt8 (λ_=>(Is->Af)->Af) (λK=>K []) (λb _ ih K=>fN b.toNat λn=>ih λl=>K (.v (.int .u8 (.ofNat n))::l)) l
def V1(l:Ha):∀K:Is->Af,WK l K=K (l.map λb=>.v (.int .u8 b.toNat)):=by
 induction l with
 |nil=>intro K;rfl
 |cons b l ih=>
  intro K;have e:WK (b::l) K=fN b.toNat λn=>WK l λl=>K (.v (.int .u8 (.ofNat n))::l):=rfl;rw[e,Ep,ih];rfl
def vX:TD->Bool
 |.slice .. =>true
 |.string=>true
 |_=>false
def Xp(esz:Nat):AV->Bool
 |.v (.string _)=>Nat.beq esz 1
 |_=>true
def M'(h:Xp esz x=true):(match(generalizing:=false) x with|.v (.string _)=>esz=1|_=>True):=by
 split
 ·exact VQ h
 ·trivial
def TU(H:Hp)(x:AV)(K:Nat->Is->Af):Af:=
 match x with
 |.list m cs=>K m cs
 |.sl sz r o m=>IZ H r λx=>KY x λ_ cs=>Fb (Nat.mul m sz) (CL o cs) λc=>K m c
 |.v (.slice none 0 0)=>K 0 []
 |.v (.string s)=>HB s.data.toList 0 λm=>WK s.data.toList λl=>K m l
 |_=>none
def fu8(cs:Is):(Ha->Af)->Af:=
 @List.rec AV (λ_=>(Ha->Af)->Af) (λK=>K []) (λa _ ih K=>match a with|.v (.int .u8 z)=>iN z λn=>ih λl=>K (UInt8.ofNat n::l)|_=>none) cs
def yD{r:AV×Hp}:∀(cs:Is)(K:Ha->Af),fu8 cs K=some r->∃c:Hb,cs=c.map (λn=>.v (.int .u8 (n:Int)))/\K (c.map UInt8.ofNat)=some r:=by
 intro cs
 induction cs with
 |nil=>intro K h;exact⟨[],rfl,h⟩
 |cons a cs ih=>
  intro K h;have h:(match(generalizing:=false) a with|.v (.int .u8 z)=>iN z λn=>fu8 cs λl=>K (UInt8.ofNat n::l)|_=>none)=some r:=h;split at h
  ·obtain⟨n,d,h2⟩:=Tf h;obtain⟨c,e,f⟩:=ih _ h2;exact⟨n::c,by rw[d,e];rfl,f⟩
  ·cases h
def fE(a:AV)(H:Hp)(K:K2):Af:=
 match a with
 |.v (.string _)=>none
 |a=>TU H a λm cs=>HB cs 0 λk=>ck (Nat.beq k m) (fu8 cs λl=>K (.v (.string ⟨⟨l⟩⟩)))
section
variable{T:Ty}{H:Hp}{r:AV×Hp}
def A6y{ty e:TypeId}{l:List (Nat×Nat×AV)}{ps:List (Nat×AV)}{K:KV}(s:T ty=some i)(t:i.d=.slice e esz)(c:T e=some ie)(he:(ps.map λp=>(some (p.1*esz,esz)).map λq=>(q.1,q.2,p.2))=l.map some)(h:F4 e esz ie n l H K=some r):
 ∃v f,K v f=some r/\Xe T ty n ps H (Ay H) (λu a=>u=v/\a=f):=by
 rw[F4,CH,Cz]at h;obtain⟨h1,h⟩:=Bb h;rw[UY]at h;obtain⟨g,h2,m⟩:=UZ (place:=λj=>some (j*esz,esz)) l ps _ _ he h;rw[BQ]at h2;simp only[I0,eY,tD,Zl]at h1;refine⟨_,_,h2,?_⟩;unfold Xe;simp only[s,t,c];refine⟨λk=>?_,by omega,?_,by rw[m];simp[J3]⟩
 ·have:=h1.2.1;rw[k]at this;simp at this
 ·have:=h1.2.2;exact this
def V3{K:Nat->Is->Af}(h:TU H x K=some r):∃m cs q,zV H x=some (m,cs,q)/\K m cs=some r:=by
 unfold TU at h;split at h
 ·exact⟨_,_,_,rfl,h⟩
 ·obtain⟨q0,e,cs,h1,h2⟩:=HG h;obtain⟨c,a⟩:=Jl _ _ _ _ h2;rw[Cs]at a;exact⟨_,_,_,by simp only[zV,h1];rfl,a⟩
 ·exact⟨_,_,_,rfl,h⟩
 ·rename_i s;rw[Cz]at h;rw[V1]at h;exact⟨_,_,_,rfl,by rw[Le]at h;exact h⟩
 ·cases h
def Q_:∀(a:Hb)(acc:Ha),(a.map λn:Nat=>(n:Int)).foldl (λ(r:ByteArray)n=>r.push (UInt8.ofNat n.toNat)) ⟨⟨acc⟩⟩=⟨⟨acc++a.map UInt8.ofNat⟩⟩:=by
 intro a
 induction a with
 |nil=>intro acc;simp
 |cons n a ih=>
  intro acc;simp only[Zm,List.foldl_cons,XV];have:(⟨⟨acc⟩⟩:ByteArray).push (UInt8.ofNat n)=⟨⟨acc++[UInt8.ofNat n]⟩⟩:=by simp[ByteArray.push]
  rw[this,ih];simp
def A0k{P:Program}{G:Gl}{w0:Base}{C:Ctx}{w:World}{a:AV}{y:Value}{K:K2}(hr:Rel G w0 C H w)(hv:VRel C w a y)(h:fE a H K=some r):(∀s,y≠.string s)/\∃l:Ha,K (.v (.string ⟨⟨l⟩⟩))=some r/\(Conv.bytesToString y).run P w=.ok (.string ⟨⟨l⟩⟩) w:=by
 unfold fE at h;split at h
 ·cases h
 ·rename_i A;obtain⟨m,cs,q,k,h⟩:=V3 h;rw[Cz]at h;obtain⟨hk,h⟩:=Bb h;have hk:cs.length=m:=by have:=VQ hk;omega
  obtain⟨t,F,D⟩:=yD _ _ h;subst F;obtain⟨f,vs,B,d⟩:=Tw (P:=P) (esz:=1) hr hv k (by omega) (λs L=>absurd L (A s));have d:=d w (λ_ _=>rfl);have p:vs=t.map λn:Nat=>Value.int .u8 (n:Int):=by
   apply l0o;intro i;cases g:(t.map λn:Nat=>AV.v (.int .u8 (n:Int)))[i]? with
   |none=>
    have h1:t.length<=i:=by simpa using List.getElem?_eq_none_iff.1 g
    rw[l1e (by rw[B.1];simpa using h1),l1e (by simpa using h1)]
   |some c=>
    obtain⟨N,M,J⟩:=B.2 i c g;rw[M];rw[pS]at g⊢;cases hn:t[i]? with
    |none=>rw[hn]at g;cases g
    |some n=>
     rw[hn]at g;injection g with g
     subst g;have:=A6.1 J.unsel;rw[this];rfl
  have j:∀s,y≠.string s:=by
   intro s e;subst e;cases hv with
   |v=>exact A s rfl
   |dk=>simp[zV]at k
  refine⟨j,_,D,?_⟩;cases y with
  |slice u n cap=>
   have hn:n=m:=by
    simp only[Builtin.lenOf,Zn]at f;injection f
   subst hn;cases u with
   |none=>
    simp only[Builtin.firstCells,Zn]at d;injection d with d
    have:vs=[]:=by
     have:=congrArg Array.toList d;simpa using this.symm
    rw[p]at this;have:t=[]:=by simpa using this
    subst this;rfl
   |some u=>
    have e:(Builtin.firstCells 1 n (.slice (some u) n cap))=loadCells u (n*1):=rfl;rw[e,l28,p]at d;have:=run_bytesToString w u n cap (t.map λn:Nat=>(n:Int)) (by rw[d];simp[l1t]);rw[this];have:=Q_ t [];rw[show(ByteArray.empty:ByteArray)=⟨⟨[]⟩⟩ from rfl,this];rfl
  |string s=>exact absurd rfl (j s)
  |_=>simp[Builtin.lenOf]at f
def lX(e:TypeId)(esz:Nat)(ie i2:TI)(s x:AV)(H:Hp)(K:KV):Af:=
 TU H x λm a=>HB a 0 λk=>Gy ie.zero λz=>HB z 0 λh=>
  ck (Nat.beq k (Nat.mul m esz)&&(Qb a&&(!Nat.beq esz 0&&(Nat.beq h esz&&(vX i2.d&&Xp esz x)))))
   (match s with
   |.v (.slice none 0 0)=>ck (Nat.ble (Nat.mul m ie.bytes) 70368744177664&&Nat.ble m 70368744177664) (@Bool.rec (λ_=>Af) (GP H λr=>K (.sl esz r 0 m) ((r,.cells false e a)::H)) (K (.v (.slice none 0 0)) H) (Nat.beq m 0))
   |.sl sz r1 o n=>IZ H r1 λx=>KY x λE cs=>HB cs 0 λcl=>
    ck (Nat.beq E e&&(Nat.beq sz esz&&(Nat.beq (Nat.add o (Nat.mul n esz)) cl&&(Nat.ble (Nat.mul (Nat.add n m) ie.bytes) 70368744177664&&Nat.ble (Nat.add n m) 70368744177664))))
     (WJ (CL o cs) a λc=>XA5 H r1 .gone λf=>GP H λr=>fN (Nat.add n m) λg=>K (.sl esz r 0 g) ((r,.cells false e c)::f))
   |_=>none)
def qU{t1 t2 e:TypeId}{i1 i2 ie:TI}{s x:AV}{K:KV}(h1:T t1=some i1)(h2:T t2=some i2)(u:i1.d=.slice e esz)(j:T e=some ie)(h:lX e esz ie i2 s x H K=some r):
 ∃v k,K v k=some r/\Vn T t1 t2 s x H (Ay H) (λA c=>A=v/\c=k):=by
 unfold lX at h;obtain⟨m,B,q,a,h⟩:=V3 h;rw[Cz,CH,Cz]at h;obtain⟨hc,h⟩:=Bb h;simp only[I0,eY,FV,tD]at hc;obtain⟨c1,c2,c3,c4,c5,c6⟩:=hc;have p1:esz≠0:=λf=>by rw[f]at c3;simp at c3
 have p2:(Br ie.zero).length=esz:=by omega
 unfold Vn;simp only[h1,h2,u,j,a,J3];have pre:=And.intro p1 (And.intro p2 (And.intro (show(match i2.d with|.slice .. =>True|.string=>True|_=>False) from by cases g:i2.d<;>rw[g]at c5<;>first|trivial|cases c5) (M' c6)));split at h
 ·obtain⟨hb,h⟩:=Bb h;simp only[I0,Zl]at hb;by_cases hm:m=0
  ·subst hm;exact⟨_,_,h,pre,⟨by simpa using c1,c2⟩,by simpa using hb,rfl,rfl⟩
  ·have f:Nat.beq m 0=false:=by
    cases m with
    |zero=>exact absurd rfl hm
    |succ m=>rfl
   rw[f]at h;simp only[BQ]at h;simp only[Co hm];exact⟨_,_,h,pre,⟨by simpa using c1,c2⟩,by simpa using hb,rfl,rfl⟩
 ·rename_i sz r1 o n;obtain⟨q0,E,cs,y,h⟩:=HG h;rw[Cz]at h;obtain⟨hb,h⟩:=Bb h;rw[LB,CX,BQ,Ep,Cs]at h;simp only[I0,eY,Zl]at hb;obtain⟨b1,b2,p,b4,t⟩:=hb;refine⟨_,_,h,pre,⟨by simpa using c1,c2⟩,?_⟩;simp only[y];exact⟨⟨b1,b2,by simpa using p,b4,t⟩,rfl,rfl⟩
 ·cases h
variable{P:Program}{G:Gl}{w0:Base}{C:Ctx}{w w':World}
def Ctx.addF(C:Ctx)(b:Nat):Ctx:={C with F:=λk i=>C.F k i\/k=b}
def Rel.new_fixed(h:Rel G w0 C H w)(hb:Below w.heap.size w w')(m:w.heap.size<w'.heap.size):Rel G w0 (C.addF w.heap.size) H w'/\Ext w0.own C w (C.addF w.heap.size) w':=by
 have e:Ext w0.own C w (C.addF w.heap.size) w':=⟨λ_ _=>rfl,λ_ _ h=>.inl h,λk i a=>hb.cell (p:=⟨k,i,none⟩) (h.fin k i a),λ_ h=>h,λk a=>hb.block k (h.finB k a),
  λk arr T fz a=>⟨arr,fz,(hb.block k (l1q.1 a).1).trans a,rfl⟩,λk i a=>a.imp id (λe=>.inl (by rw[e];exact h.below.size)),λk a=>.inl a,hb.size⟩
 refine⟨⟨h.glob.mono e,h.below.below hb,h.lt,λs x d=>(h.rows s x d).mono e (λk g f=>hb.block k ((h.rows s x d).block (Dr d) f)),λs x k o d f=>?_,h.sep,λk i c=>?_,λk j=>l2m (h.finB k j) hb.size,h.nx⟩,e⟩
 ·have h1:=h.own s x k o d f;have h2:=(h.rows s x d).block (Dr d) f;refine⟨h1.1,λi c=>?_,h1.2.2⟩;rcases c with c|c
  ·exact h1.2.1 i c
  ·omega
 ·rcases c with c|c
  ·exact l2m (h.fin k i c) hb.size
  ·omega
def A35(hT:Y8 P T){ty e:TypeId}{l:List (Nat×Nat×AV)}{ps:List (Nat×AV)}{F:List (Nat×Value)}{K:K2}(g:T ty=some i)(hd:i.d=.slice e esz)(Q:T e=some ie)(he:(ps.map λp=>(some (p.1*esz,esz)).map λq=>(q.1,q.2,p.2))=l.map some)(h:Qa esz ie n l K=some r)(s:ps.length=F.length)(hq:∀(j:Nat)(p:Nat×AV),ps[j]?=some p->∃z,F[j]?=some (p.1,z)/\VRel C w p.2 z)(hr:Rel G w0 C H w):
 ∃v y J w',K v=some r/\(Instr.buildSlice ty n F.toArray).run P w=.ok y w'/\VRel J w' v y/\Rel G w0 J H w'/\Ext w0.own C w J w':=by
 rw[Qa,CH,Cz]at h;obtain⟨h1,h⟩:=Bb h;rw[UY]at h;obtain⟨m,h2,hf⟩:=UZ (place:=λj=>some (j*esz,esz)) l ps _ _ he h;obtain⟨O,hK⟩:=Bb h2;simp only[I0,eY,tD,Zl]at h1;have u:esz≠0:=λe0=>by have:=h1.2.1;rw[e0]at this;simp at this
 have V:(Br ie.zero).length=esz:=by omega
 have aa:n*esz<=2^24:=h1.2.2;have ok:=hT ty i g;obtain⟨hu,hc⟩:=ok.elem_slice hd;have Z:=hT e ie Q;obtain⟨z,hz,ez⟩:=Z.run_zero (P:=P) w;have hsz:(sizeOf e).run P w=.ok esz w:=by rw[<-hc];exact B2 w (by rw[hc];exact u)
 have B:BU C w (Br ie.zero) z.cells.toList:=Mj (t:=e) ez;have X:z.cells.size=esz:=by have:=B.1;simp at this;omega
 have Y:BU C w (Ur n (Br ie.zero)) ((List.range n).flatMap λ_=>z.cells.toList):=by rw[Xt];exact V0 B n
 obtain⟨c,L,D⟩:=Yd (C:=C) (w:=w) ps F _ _ m s hq Y hf;have f:¬(n*esz>2^24):=by omega
 have ab:c.length=n*esz:=by rw[D.1,Y5 _ _ _ hf,Uq,V]
 have N:=WO w (.cells c.toArray e);obtain⟨A,a⟩:=hr.new_fixed N (by simp);refine⟨_,.slice (some ⟨w.heap.size,0,none⟩) n n,_,_,hK,?_,?_,A,a⟩
 ·unfold Instr.buildSlice;rw[Cr,run_underlying hu w];simp only[Eu];rw[Cr,hsz];simp only[Eu,Co f,pure_bind];by_cases M:n*esz=0
  ·have R:n=0:=by rcases Nat.mul_eq_zero.1 M with h|h;exact h;exact absurd h u
   subst R;rw[CJ M];simp only[List.range_zero,List.flatMap_nil]at L;rw[show(Array.map (λx=>(#[]:Array Value)[x%(#[]:Array Value).size]!) (Array.range (0*esz)))= #[] from by rw[Nat.zero_mul];apply fB;simp,L];simp[newRow]
  ·rw[Co M,Cr,hz];simp only[Eu];have:=WZ z.cells n;rw[X]at this⊢;rw[this,L];simp[newRow]
 ·have g3:BU (C.addF w.heap.size).bare {w with heap:=w.heap.push (.cells c.toArray e)} m c:=BU.mono (C:=C.bare) (BU.down 2 O D rfl rfl) a.bare;refine .list (MZ _) (λi=>c.getD i undef) (λi g=>.inr rfl) (λi g=>?_) (λi g=>?_)
  ·have k:i<c.length:=by rw[D.1];exact g
   rw[cell_of_row _ w.heap.size (0+i) c.toArray e (0,0) (by simp)];simp[Tc,k]
  ·have k:i<c.length:=by rw[D.1];exact g
   rw[Tc,II k];exact g3.get i g
end
end
def eMk(e:TypeId)(esz:Nat)(ie:TI)(len cap:AV)(H:Hp)(K:KV):Af:=
 tG len λl=>iN l λn=>tG cap λc=>iN c λm=>Gy ie.zero λz=>HB z 0 λk=>
  ck (Nat.beq k esz&&(!Nat.beq esz 0&&(Nat.beq ie.size esz&&(Nat.ble n m&&(Nat.ble (Nat.mul ie.bytes m) 281474976710656&&Nat.ble m 281474976710656)))))
   (Yc n z λcs=>GP H λs=>K (.sl esz s 0 n) ((s,.cells false e cs)::H))
section
variable{T:Ty}{H:Hp}{r:AV×Hp}{P:Program}{G:Gl}{w0:Base}{C:Ctx}{w:World}
def A2X(O:Y8 P T){ty e:TypeId}{esz:Nat}{i ie:TI}{len cap:AV}{y1 y2:Value}{K:KV}(hi:T ty=some i)(hd:i.d=.slice e esz)(x:T e=some ie)(h1:VRel C w len y1)(h2:VRel C w cap y2)(hr:Rel G w0 C H w)(h:eMk e esz ie len cap H K=some r):
 ∃v L y R Q,K v L=some r/\(Instr.makeSlice ty y1 y2).run P w=.ok y Q/\It G w0 C w v L y R Q:=by
 unfold eMk at h;obtain⟨k1,l,d1,Z⟩:=MJ h;obtain⟨n,f,g2⟩:=Tf Z;obtain⟨k2,c,d2,g3⟩:=MJ g2;obtain⟨m,Y,M⟩:=Tf g3;rw[CH,Cz]at M;obtain⟨hb,N⟩:=Bb M;rw[UY,BQ]at N;simp only[I0,eY,tD,Zl]at hb;obtain⟨b1,b2,V,b4,X,b6⟩:=hb;subst f Y d1 d2;have F:=A6.1 h1;have J:=A6.1 h2;subst F J;obtain⟨hu,hc⟩:=(O ty i hi).elem_slice hd;obtain⟨inf,z,j,A,B,hz,u⟩:=(O e ie x).info;have p:BU C w (Br ie.zero) z.cells.toList:=Mj (t:=e) u;have q:z.cells.size=esz:=by have:=p.1;simp at this;omega
 have aa:ie.bytes*m<=281474976710656:=X;have s:(inf.bytes:Int)*(m:Int)<=281474976710656:=by
  have:((ie.bytes*m:Nat):Int)<=281474976710656:=by omega
  rw[Int.natCast_mul]at this;rw[B];exact this
 have k:=run_make (P:=P) w ty e inf z hu j hz k1 k2 n m (by omega) (by omega) s (by omega);have D:BU C w (Ur n (Br ie.zero)) ((List.range n).flatMap λ_=>z.cells.toList):=by rw[Xt];exact V0 p n
 have a:(Ur n (Br ie.zero)).length=n*esz:=by rw[Uq];congr 1;omega
 have g:(madeCells z.cells (m*esz)).toList.take (n*esz)=(List.range n).flatMap λ_=>z.cells.toList:=by
  have f:=congrArg Array.toList (WZ z.cells n);rw[q]at f;simp only[Array.toList_map,Array.toList_range]at f;rw[<-f];simp only[madeCells,Array.toList_map,Array.toList_range,q];rw[<-List.map_take]
  congr 1
  rw[List.take_range,l1x (l22 _ b4)]
 have key:=Vz hr (KT w (.cells (madeCells z.cells (m*esz)) e)) e (cs:=Ur n (Br ie.zero)) (arr:=madeCells z.cells (m*esz)) (fz:=(0,0)) (World.alloc_heap_new w _) (λi _=>by omega) esz n m b4 (by rw[size_madeCells];exact MZ _) (by rw[size_madeCells,a];exact l22 _ b4) (by rw[a,g];exact D);refine⟨_,_,_,_,_,N,?_,key⟩;rw[k];simp only[XV,A,V]
end
def yS(e:TypeId)(a:AV)(H:Hp)(K:KV):Af:=
 match a with
 |.v (.string s)=>HB s.data.toList 0 λn=>WK s.data.toList λcs=>GP H λr=>K (.sl 1 r 0 n) ((r,.cells false e cs)::H)
 |_=>none
section
variable{H:Hp}{r:AV×Hp}{P:Program}{G:Gl}{w0:Base}{C:Ctx}{w:World}
def A8C(w:World)(e:TypeId)(s:ByteArray):∃(cap:Nat)(arr:Array Value)(w':World),s.size<=cap/\(Conv.stringToBytes e s).run P w=.ok (.slice (some ⟨w.heap.size,0,none⟩) s.size cap) w'/\Below w.heap.size w w'/\
 w'.heap[w.heap.size]?=some (.cells arr e (cap,cap+1))/\arr.size=cap/\arr.toList.take s.size=s.data.toList.map λb=>Value.int .u8 b.toNat:=by
 let q:Question:=.appendCap s.size 0 e
 let c:=q.cut (w.tape w.drawn q)
 have hc:s.size<=c:=by show s.size<=s.size+_;omega
 have hsz:(s.data.map λb=>Value.int .u8 b.toNat).size=s.size:=by rw[Array.size_map];rfl
 have f:(s.data.map λb=>Value.int .u8 b.toNat).toList.length=s.size:=by rw[Array.length_toList];exact hsz
 let arr:Array Value:=(s.data.map λb=>Value.int .u8 b.toNat)++Array.replicate (c-s.size) (.int .u8 0)
 have a:arr.size=c:=by
  show((s.data.map λb=>Value.int .u8 b.toNat)++Array.replicate (c-s.size) (Value.int .u8 0)).size=c;rw[Array.size_append,hsz,Array.size_replicate];omega
 refine⟨c,arr,{w with drawn:=w.drawn+1,heap:=w.heap.push (.cells arr e (c,c+1))},hc,?_,?_,by simp,a,?_⟩
 ·unfold Conv.stringToBytes;rw[Cr,run_choose,Co (by simp[Question.forced])];simp only[Eu];simp only[newRow,Cr,run_newObj,Eu,Zn,markStringish];have d:World.shape? {heap:=w.heap.push (Obj.cells arr e),tape:=w.tape,drawn:=w.drawn+1,os:=w.os,output:=w.output} w.heap.size=some (e,c):=by
   simp only[World.shape?,Array.getElem?_push_size];rw[a]
  have i:World.freeze {heap:=w.heap.push (Obj.cells arr e),tape:=w.tape,drawn:=w.drawn+1,os:=w.os,output:=w.output} {block:=w.heap.size,off:=c} 1={heap:=w.heap.push (Obj.cells arr e (c,c+1)),tape:=w.tape,drawn:=w.drawn+1,os:=w.os,output:=w.output}:=by
   unfold World.freeze;rw[Co (by omega)]
   congr 1
   apply Array.ext_getElem?;intro j;rw[l0r];by_cases g:w.heap.size=j
   ·subst g;rw[CJ rfl,Array.getElem?_push_size,Array.getElem?_push_size];rfl
   ·rw[Co g,l27,l27,Co (λh=>g h.symm),Co (λh=>g h.symm)]
  rw[run_shape];have m:=d;show(((Result.ok (World.shape? {heap:=w.heap.push (Obj.cells arr e),tape:=w.tape,drawn:=w.drawn+1,os:=w.os,output:=w.output} w.heap.size) _).andThen _).andThen _)=_;rw[d];simp only[Eu,run_freeze];exact congrArg (Result.ok _) i
 ·exact⟨rfl,rfl,rfl,by simp,λk hk=>by simp[l27,Nat.ne_of_lt hk]⟩
 ·show((s.data.map λb=>Value.int .u8 b.toNat)++Array.replicate (c-s.size) (Value.int .u8 0)).toList.take s.size=_;rw[Array.toList_append,List.take_append_of_le_length (Nat.le_of_eq f.symm)];rw[l1z (Nat.le_of_eq f),Array.toList_map]
def A06{e:TypeId}{a:AV}{y:Value}{K:KV}(hr:Rel G w0 C H w)(hv:VRel C w a y)(h:yS e a H K=some r):
 ∃s,y=.string s/\∃v d g j c,K v d=some r/\(Conv.stringToBytes e s).run P w=.ok g c/\It G w0 C w v d g j c:=by
 unfold yS at h;split at h
 ·rename_i s;have p:=A6.1 hv;refine⟨s,p,?_⟩;rw[Cz,V1,BQ,Le]at h;obtain⟨cap,arr,c,h1,h2,k,m,q,n⟩:=A8C (P:=P) w e s;have f:(s.data.toList.map λb=>AV.v (.int .u8 b.toNat)).length=s.size:=by rw[WV];rfl
  have key:=Vz hr k e (cs:=s.data.toList.map λb=>AV.v (.int .u8 b.toNat)) m (λi t=>by omega) 1 s.size cap h1 (by omega) (by rw[f];omega) (by
   rw[f,n];have:=Tb (C:=C.sel false) (w:=w) (s.data.toList.map λb=>Value.int .u8 b.toNat);simpa [l1t] using this)
  exact⟨_,_,_,_,_,h,h2,key⟩
 ·cases h
end
section
variable{q:Bool}{C:Ctx}{es:IH}{ms:List MapEntry}{kt:TypeId}{k:Value}{p:Value×AV}{w:World}
def XX:Value->Value->Option Bool
 |.string a,.string b=>some (yO a.data.toList b.data.toList)
 |.int k a,.int c b=>match decide (k=c) with|true=>some (tH a b)|false=>none
 |.bool a,.bool b=>some (a==b)
 |_,_=>none
def Vk(xs:Hx):Hx->Option Bool:=
 @List.rec Value (λ_=>Hx->Option Bool) (λa=>match a with|[]=>some true|_=>none)
  (λx _ ih a=>match a with
   |[]=>none
   |y::a=>match XX x y with
    |some b=>(match ih a with|some c=>some (b&&c)|none=>none)
    |none=>none) xs
def keq:Value->Value->Option Bool
 |.agg xs,.agg c=>Vk xs.toList c.toList
 |a,b=>XX a b
def UU(k:Value)(es:IH):Nat->Option (Option (Nat×AV)):=
 @List.rec (Value×AV) (λ_=>Nat->Option (Option (Nat×AV))) (λ_=>some none)
  (λp _ ih i=>match keq k p.1 with|some true=>some (some (i,p.2))|some false=>ih (Nat.succ i)|none=>none) es
def Td(k:Value)(p:Value×AV)(es:IH)(i:Nat):UU k (p::es) i=(match keq k p.1 with|some true=>some (some (i,p.2))|some false=>UU k es (i+1)|none=>none):=rfl
def HN(k:Value)(es:IH)(K:Option (Nat×AV)->Af):Af:=match UU k es 0 with|some x=>K x|none=>none
def ZZ(cs:Is):(Hx->Af)->Af:=
 @List.rec AV (λ_=>(Hx->Af)->Af) (λK=>K []) (λa _ ih K=>match a with|.v x=>ih λl=>K (x::l)|_=>none) cs
def Nt(a:AV)(K:Value->Af):Af:=match a with|.v (.string s)=>K (.string s)|_=>none
def oJ(q:IntKind)(a:AV)(K:Value->Af):Af:=match a with|.v (.int c n)=>ck (decide (c=q)) (K (.int c n))|_=>none
def X!(ks:List LK)(a:AV)(K:Value->Af):Af:=match a with|.agg cs=>ZZ cs λvs=>ck (fits ks vs) (K (.agg vs.toArray))|_=>none
def NZ(P:Program)(kt:TypeId)(k:Value):Prop:=
 (P.underlying kt=some .string/\∃s,k=.string s)\/(∃q n,P.underlying kt=some (.int q)/\k=.int q n)\/(∃ks xs,EqFlat P kt ks/\fits ks xs=true/\k=.agg xs.toArray)
def pT{a b:Value}(h:XX a b=some q):(q=true↔a=b)/\∀c:LK,c.fit a=true->c.fit b=true:=by
 cases a<;>cases b<;>simp[XX]at h
 ·subst h;exact⟨by simp,λc d=>by cases c<;>simp[LK.fit]at d⊢⟩
 ·split at h
  ·rename_i hk;injection h with h
   have hk:_=_:=l2t hk;subst hk;refine⟨by rw[<-h,JN];simp,λc d=>?_⟩;cases c<;>simp[LK.fit]at d⊢
   exact d
  ·cases h
 ·rw[LO]at h;refine⟨?_,λc d=>by cases c<;>simp[LK.fit]at d⊢⟩;rename_i x y;obtain⟨⟨x⟩⟩:=x;obtain⟨⟨y⟩⟩:=y;rw[<-h];simp
def A3k(x:Value)(xs:Hx)(ys:Hx):Vk (x::xs) ys=(match ys with|[]=>none|y::ys=>(match XX x y with|some b=>(match Vk xs ys with|some c=>some (b&&c)|none=>none)|none=>none)):=rfl
def Sc:∀{xs ys:Hx}{q:Bool},Vk xs ys=some q->(q=true↔xs=ys)/\∀ks,fits ks xs=true->fits ks ys=true:=by
 intro xs
 induction xs with
 |nil=>
  intro ys q h;cases ys with
  |nil=>injection h with h;subst h;exact⟨by simp,λ_ h=>h⟩
  |cons y ys=>cases h
 |cons x xs ih=>
  intro ys q h;rw[A3k]at h;cases ys with
  |nil=>cases h
  |cons y ys=>
   simp only at h;cases h1:XX x y with
   |none=>rw[h1]at h;cases h
   |some b=>
    rw[h1]at h;simp only at h;cases h2:Vk xs ys with
    |none=>rw[h2]at h;cases h
    |some c=>
     rw[h2]at h;injection h with h
     obtain⟨a,f1⟩:=pT h1;obtain⟨d,f2⟩:=ih h2;refine⟨by rw[<-h,I0,a,d,List.cons.injEq],λks hk=>?_⟩;cases ks with
     |nil=>simp[fits]at hk
     |cons k ks=>
      simp only[fits,I0]at hk⊢;exact⟨f1 k hk.1,f2 ks hk.2⟩
def xT{a b:Value}(h:keq a b=some q):q=true↔a=b:=by
 unfold keq at h;split at h
 ·rename_i xs c;rw[(Sc h).1];constructor
  ·intro e;rw[Array.toList_inj.1 e]
  ·intro e;injection e with e;rw[e]
 ·exact(pT h).1
section
variable{P:Program}
def WH{r:AV×Hp}:∀(cs:Is)(K:Hx->Af),ZZ cs K=some r->∃vs:Hx,cs=vs.map AV.v/\K vs=some r:=by
 intro cs
 induction cs with
 |nil=>intro K h;exact⟨[],rfl,h⟩
 |cons a cs ih=>
  intro K h;have h:(match(generalizing:=false) a with|.v x=>ZZ cs λl=>K (x::l)|_=>none)=some r:=h;split at h
  ·obtain⟨vs,e,h2⟩:=ih _ h;exact⟨_::vs,by rw[e];rfl,h2⟩
  ·cases h
def iE{vs:Hx}{y:Value}(h:VRel C w (.agg (vs.map AV.v)) y):y=.agg vs.toArray:=by
 obtain⟨e,rfl,c⟩:=D5.1 h
 congr 1
 congr 1
 apply l0o;intro i;cases a:vs[i]? with
 |none=>
  have:=c.1;simp only[WV]at this;have h1:vs.length<=i:=by simpa using List.getElem?_eq_none_iff.1 a
  exact l1e (by omega)
 |some v=>
  obtain⟨y,d,hv⟩:=c.2 i (.v v) (by rw[pS,a];rfl);rw[d,A6.1 hv]
def nH:∀{ks:List LK}{xs:Hx}(n:Nat),fits ks xs=true->((xs.zip xs).all λp=>Instr.sameBits n p.1 p.2)=true:=by
 intro ks
 induction ks with
 |nil=>intro xs n h;cases xs<;>simp[fits]at h;rfl
 |cons k ks ih=>
  intro xs n h;cases xs with
  |nil=>simp[fits]at h
  |cons x xs=>
   simp only[fits,I0]at h;simp only[List.zip_cons_cons,W?,I0];refine⟨?_,ih n h.2⟩;have h1:=h.1;cases k<;>cases x<;>simp[LK.fit]at h1<;>simp[Instr.sameBits,MapKept.bytes_beq]
def NZ.stays(h:NZ P kt k)(w:World):(Instr.keyThatStays k k).run P w=.ok k w:=by
 have:Instr.sameBits 10000 k k=true:=by
  rcases h with⟨_,s,rfl⟩|⟨q,n,_,rfl⟩|⟨ks,xs,_,h,rfl⟩
  ·simp[Instr.sameBits,MapKept.bytes_beq]
  ·simp[Instr.sameBits]
  ·have:=nH 9999 h;show(xs.toArray.size==xs.toArray.size&&(xs.toArray.toList.zip xs.toArray.toList).all λ(x,y)=>Instr.sameBits 9999 x y)=true;simp only[beq_self_eq_true,xR];exact this
 simp[Instr.keyThatStays,this]
theorem NZ.check(h:NZ P kt k)(em:Bool)(w:World):(Instr.checkKey em 10000 kt k).run P w=.ok () w:=by
 rcases h with⟨a,s,rfl⟩|⟨q,n,a,rfl⟩|⟨ks,xs,he,h,rfl⟩
 ·exact MapKept.run_checkKey a (d:=.string) (by simp[MapKept.IsKey]) em 9999
 ·exact MapKept.run_checkKey a (d:=.int q) (by simp[MapKept.IsKey]) em 9999
 ·exact he.check h em w
def mI(k:Value)(es:IH)(ms:List MapEntry)(a:Nat):Option (Nat×AV)->Option (Nat×Value)->Prop
 |none,r=>r=none/\∀p∈es,p.1≠k
 |some (i,v),r=>∃(j:Nat)(m:MapEntry),i=a+j/\es[j]?=some (k,v)/\ms[j]?=some m/\m.key=k/\r=some (i,m.val)
def Ju.cons_inv(h:Ju C w (p::es) ms):∃m a,ms=m::a/\m.key=p.1/\VRel C w p.2 m.val/\Ju C w es a:=by
 cases ms with
 |nil=>exact absurd h.1 (by simp)
 |cons m ms=>
  obtain⟨e,h1,h2,c⟩:=h.2 0 p rfl;simp at h1;subst h1;exact⟨m,ms,rfl,h2,c,by simpa using h.1,λi x d=>by simpa using h.2 (i+1) x (by simpa using d)⟩
def Ju.nil_inv(h:Ju C w [] ms):ms=[]:=tC (by simpa using h.1)
theorem mI.step{m:MapEntry}{c:Nat}(a:p.1≠k):∀{x:Option (Nat×AV)}{r:Option (Nat×Value)},mI k es ms (c+1) x r->mI k (p::es) (m::ms) c x r
 |none,r,⟨h1,h2⟩=>⟨h1,λq hq=>by
  rcases Rx.1 hq with rfl|hq
  ·exact a
  ·exact h2 q hq⟩
 |some (i,v),r,⟨j,g,h1,h2,d,e,f⟩=>⟨j+1,g,by omega,by simpa using h2,by simpa using d,e,f⟩
def Wd{d:TypeDesc}(n:∀v q,keq k v=some q->Instr.sameNow d k v=some q):∀(es:IH)(ms:List MapEntry)(i:Nat)(x:Option (Nat×AV)),Ju C w es ms->UU k es i=some x->∃r,Instr.findNow d k ms i=some r/\mI k es ms i x r:=by
 intro es
 induction es with
 |nil=>
  intro ms i x he h;injection h with h
  subst h;rw[he.nil_inv];exact⟨none,rfl,rfl,by simp⟩
 |cons p es ih=>
  intro ms i x he h;obtain⟨m,g,rfl,hk,hv,c⟩:=he.cons_inv;rw[Td]at h;cases hq:keq k p.1 with
  |none=>rw[hq]at h;cases h
  |some q=>
   rw[hq]at h;have j:=n _ _ hq;have a:=xT hq;cases q with
   |true=>
    injection h with h
    subst h;have:k=p.1:=a.1 rfl;refine⟨some (i,m.val),by simp[Instr.findNow,hk,j],0,m,rfl,by rw[this];rfl,rfl,by rw[hk,this],rfl⟩
   |false=>
    obtain⟨r,h1,h2⟩:=ih g (i+1) x c h;have f:p.1≠k:=λe=>by have:=a.2 e.symm;cases this
    exact⟨r,by simp[Instr.findNow,hk,j,h1],h2.step f⟩
def Z7{ks:List LK}(y:EqFlat P kt ks){xs:Hx}(t:fits ks xs=true):∀(es:IH)(ms:List MapEntry)(i:Nat)(x:Option (Nat×AV)),Ju C w es ms->UU (.agg xs.toArray) es i=some x->
 ∃r,(Instr.findAsking kt (.agg xs.toArray) ms i).run P w=.ok r w/\mI (.agg xs.toArray) es ms i x r:=by
 intro es
 induction es with
 |nil=>
  intro ms i x he h;injection h with h
  subst h;rw[he.nil_inv];exact⟨none,rfl,rfl,by simp⟩
 |cons p es ih=>
  intro ms i x he h;obtain⟨m,j,rfl,hk,hv,d⟩:=he.cons_inv;rw[Td]at h;cases hq:keq (.agg xs.toArray) p.1 with
  |none=>rw[hq]at h;cases h
  |some q=>
   rw[hq]at h;have a:=xT hq;have heq:(Op.equal kt (.agg xs.toArray) m.key).run P w=.ok q w:=by
    rw[hk];unfold keq at hq;split at hq
    ·rename_i A n c u;injection c with c
     subst c;have f:=(Sc hq).2 ks (by simpa using t);have:=y.equal t f w;rw[u];have v:n.toList.toArray=n:=by simp
     rw[v]at this;rw[this]
     congr 1
     rw[eZ,(Sc hq).1];simp
    ·rename_i h1;cases s:p.1 with
     |agg n=>exact absurd s (h1 _ _ rfl)
     |_=>rw[s]at hq;simp[XX]at hq
   cases q with
   |true=>
    injection h with h
    subst h;have:_=p.1:=a.1 rfl;refine⟨some (i,m.val),by simp[Instr.findAsking,heq],0,m,rfl,by rw[this];rfl,rfl,by rw[hk,this],rfl⟩
   |false=>
    obtain⟨r,h1,h2⟩:=ih j (i+1) x d h;have g:p.1≠_:=λe=>by have:=a.2 e.symm;cases this
    exact⟨r,by simp[Instr.findAsking,heq,h1],h2.step g⟩
def NZ.find(hk:NZ P kt k){x:Option (Nat×AV)}(he:Ju C w es ms)(h:UU k es 0=some x):∃r,(Instr.findKey kt k ms).run P w=.ok r w/\mI k es ms 0 x r:=by
 rcases hk with⟨a,s,rfl⟩|⟨q,n,a,rfl⟩|⟨ks,xs,g,f,rfl⟩
 ·obtain⟨r,h1,h2⟩:=Wd (d:=.string) (λv q hq=>by
   cases v<;>simp[keq,XX]at hq
   rename_i u;simp only[Instr.sameNow];rw[<-hq,LO]
   congr 1
   obtain⟨⟨s⟩⟩:=s;obtain⟨⟨u⟩⟩:=u;rw[eZ,MapKept.bytes_beq];simp) es ms 0 x he h
  exact⟨r,MapKept.run_findKey a h1,h2⟩
 ·obtain⟨r,h1,h2⟩:=Wd (d:=.int q) (λv y hq=>by
   cases v<;>simp[keq,XX]at hq
   rename_i t m;by_cases e:q=t
   ·subst e;simp at hq;simp only[Instr.sameNow,CJ];rw[<-hq,JN]
    congr 1
   ·simp[e]at hq) es ms 0 x he h
  exact⟨r,MapKept.run_findKey a h1,h2⟩
 ·obtain⟨r,h1,h2⟩:=Z7 g f es ms 0 x he h;refine⟨r,?_,h2⟩;have a:∃u,P.underlying kt=some u/\(∀b,Instr.sameNow u (.agg xs.toArray) b=none):=by
   have c:=g.leaves;unfold leaves at c;split at c
   ·simp at c
   ·simp at c
   ·simp at c
   ·rename_i a;exact⟨_,a,λb=>by cases b<;>rfl⟩
   ·rename_i a;exact⟨_,a,λb=>by cases b<;>rfl⟩
   ·cases c
  obtain⟨u,a,j⟩:=a;unfold Instr.findKey;rw[Cr,run_underlying a w];simp only[Eu];cases ms with
  |nil=>
   have:=he.1;have e:es=[]:=tC (by simpa using this.symm);obtain⟨i,_⟩:r=none/\True:=by
    subst e;have f:x=none:=(l26 h).symm;subst f;exact⟨h2.1,trivial⟩
   rw[i];rfl
  |cons m ms=>
   have:Instr.findNow u (.agg xs.toArray) (m::ms) 0=none:=by simp[Instr.findNow,j]
   rw[this];exact h1
end
end
end Go.Abs
end
