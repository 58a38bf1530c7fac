import Derived.Test.YtlbhdmbfdcohhaaGreatDoorR04
set_option linter.all false
set_option maxHeartbeats 100000000
noncomputable section
namespace Go.Abs
open Go.RowKit
section
variable {T:Ty} {H:Hp} {r:AV×Hp}
def B7C (z:Int) (K:Int→Al):Al:=
 @Int.rec (λ_=>Al) (λn=>fN n λn=>@Bool.rec (λ_=>Al) (fI (IntKind.i64.wrap (.ofNat n)) K) (K (.ofNat n)) (Nat.blt n 9223372036854775808))
  (λn=>fN n λn=>@Bool.rec (λ_=>Al) (fI (IntKind.i64.wrap (.negSucc n)) K) (K (.negSucc n)) (Nat.blt n 9223372036854775808)) z
theorem B7B (z:Int) (K:Int→Al):B7C z K=K (IntKind.i64.wrap z):=by
 have key:∀x:Int, -9223372036854775808≤x→x<9223372036854775808→IntKind.i64.wrap x=x:= λx h1 h2=>by
  simp only[IntKind.wrap,IntKind.bits,IntKind.signed]
  have e1:(2^64:Int)=18446744073709551616:=by decide
  have e2:(2^(64-1):Int)=9223372036854775808:=by decide
  simp only[e1,e2,l16,decide_eq_true_eq]
  split<;>omega
 cases z with
 |ofNat n=>
  simp only[B7C,DI]
  cases h:Nat.blt n 9223372036854775808
  ·simp only[RJ]
  ·rw[Uk] at h
   rw[key _ (by simp only[Int.ofNat_eq_natCast];omega) (by simp only[Int.ofNat_eq_natCast];omega)]
 |negSucc n=>
  simp only[B7C,DI]
  cases h:Nat.blt n 9223372036854775808
  ·simp only[RJ]
  ·rw[Uk] at h
   rw[key _ (by omega) (by omega)]
def LN (k:IntKind) (z:Int) (K:Int→Al):Al:=match k with| .i64=>B7C z K|k=>fI (k.wrap z) K
theorem GA (k:IntKind) (z:Int) (K:Int→Al):LN k z K=K (k.wrap z):=by
 cases k<;>first|exact B7B _ _|exact RJ _ _
abbrev IT:=IntKind→Int→Int→(AV→Al)→Al
def B7v:IT:= λk a b K=>LN k (Int.add a b) λz=>K (.v (.int k z))
def C4B:IT:= λk a b K=>LN k (Int.sub a b) λz=>K (.v (.int k z))
def C4H:IT:= λk a b K=>LN k (Int.mul a b) λz=>K (.v (.int k z))
def C4F:IT:= λk a b K=>ck (!ieq b 0) (LN k (Int.tdiv a b) λz=>K (.v (.int k z)))
def C4E:IT:= λk a b K=>ck (!ieq b 0) (fI (Int.tmod a b) λz=>K (.v (.int k z)))
def B7u:IT:= λk a b K=>fI (k.wrap ((BitVec.ofInt k.bits a&&&BitVec.ofInt k.bits b).toNat)) λz=>K (.v (.int k z))
def iOr:IT:= λk a b K=>fI (k.wrap ((BitVec.ofInt k.bits a|||BitVec.ofInt k.bits b).toNat)) λz=>K (.v (.int k z))
def B7t:IT:= λk a b K=>fI (k.wrap ((BitVec.ofInt k.bits a^^^BitVec.ofInt k.bits b).toNat)) λz=>K (.v (.int k z))
def C4N:IT:= λk a b K=>fI (k.wrap ((BitVec.ofInt k.bits a&&& ~~~BitVec.ofInt k.bits b).toNat)) λz=>K (.v (.int k z))
def C4M:IT:= λ_ a b K=>bB (ieq a b) K
def C4G:IT:= λ_ a b K=>bB (!ieq a b) K
def C4I:IT:= λ_ a b K=>bB (!ZH b a) K
def C4J:IT:= λ_ a b K=>bB (ZH a b) K
def C4K:IT:= λ_ a b K=>bB (!ZH a b) K
def C4L:IT:= λ_ a b K=>bB (ZH b a) K
def C4D:IT:= λk a b K=>ck (ZH 0 b) (LN k (a*2^(min b.toNat k.bits)) λz=>K (.v (.int k z)))
def C4C:IT:= λk a b K=>ck (ZH 0 b) (fI (a.fdiv (2^(min b.toNat k.bits))) λz=>K (.v (.int k z)))
def A8S (op:BinOp):IT:=match op with
 | .add=>B7v| .sub=>C4B| .mul=>C4H| .quo=>C4F| .rem=>C4E| .and=>B7u| .or=>iOr| .xor=>B7t| .andNot=>C4N
 | .eql=>C4M| .neq=>C4G| .lss=>C4I| .leq=>C4J| .gtr=>C4K| .geq=>C4L| .shl=>C4D| .shr=>C4C
theorem A3I {op:BinOp} {k:IntKind} {a b:Int} {K:AV→Al} (h:A8S op k a b K=some r):∃v,K (.v v)=some r∧(if GI op then XQ op k a b=some v else Zq op k a b=some v):=by
 have hq:∀{x:Al},ck (!ieq b 0) x=some r→b≠0∧x=some r:= λh=>by
  obtain⟨h1,h2⟩:=Br h
  refine⟨λe=> ?_,h2⟩
  subst e
  simp[Of] at h1
 have hs:∀{x:Al},ck (ZH 0 b) x=some r→0≤b∧x=some r:= λh=>by
  obtain⟨h1,h2⟩:=Br h
  rw[J7] at h1
  exact⟨by simpa using h1,h2⟩
 cases op<;>simp only[A8S,B7v,C4B,C4H,C4F,C4E,B7u,iOr,B7t,C4N,C4M,C4G,C4I,C4J,C4K,C4L,C4D,C4C,GA,RJ,Ld] at h<;>try (cases h;done)
 case add=>exact⟨_,h,rfl⟩
 case sub=>exact⟨_,h,rfl⟩
 case mul=>exact⟨_,h,rfl⟩
 case quo=>
  obtain⟨h1,h2⟩:=hq h
  exact⟨_,h2,by simp[GI,Zq,h1]⟩
 case rem=>
  obtain⟨h1,h2⟩:=hq h
  exact⟨_,h2,by simp[GI,Zq,h1]⟩
 case and=>exact⟨_,h,rfl⟩
 case or=>exact⟨_,h,rfl⟩
 case xor=>exact⟨_,h,rfl⟩
 case andNot=>exact⟨_,h,rfl⟩
 case shl=>
  obtain⟨h1,h2⟩:=hs h
  exact⟨_,h2,by simp only[GI,if_true,XQ];rw[if_neg (by omega)]⟩
 case shr=>
  obtain⟨h1,h2⟩:=hs h
  exact⟨_,h2,by simp only[GI,if_true,XQ];rw[if_neg (by omega)]⟩
 case eql=>exact⟨_,h,by simp only[GI,Zq,Of];rw[show(a==b)=decide (a=b) from by by_cases e:a=b<;>simp[e]];simp⟩
 case neq=>exact⟨_,h,by simp only[GI,Zq,Of,bne];rw[show(a==b)=decide (a=b) from by by_cases e:a=b<;>simp[e]];simp⟩
 case lss=>exact⟨_,h,by simp only[GI,Zq,J7];rw[show(!decide (b≤a))=decide (a<b) from by rw[Yg];simp];simp⟩
 case leq=>exact⟨_,h,by simp[GI,Zq,J7]⟩
 case gtr=>exact⟨_,h,by simp only[GI,Zq,J7];rw[show(!decide (a≤b))=decide (a>b) from by rw[Yg];simp];simp⟩
 case geq=>exact⟨_,h,by simp[GI,Zq,J7]⟩
def eqB (a:List UInt8):List UInt8→Bool:=
 @List.rec UInt8 (λ_=>List UInt8→Bool) (λb=>@List.rec UInt8 (λ_=>Bool) true (λ_ _ _=>false) b)
  (λx _ ih b=>@List.rec UInt8 (λ_=>Bool) false (λy l _=>@Bool.rec (λ_=>Bool) false (ih l) (Nat.beq x.toNat y.toNat)) b) a
theorem PQ (a:List UInt8):∀b,eqB a b=(a==b):=by
 induction a with
 |nil=>intro b;cases b<;>rfl
 |cons x a ih=>
  intro b
  cases b with
  |nil=>rfl
  |cons y b=>
   have e:eqB (x::a) (y::b)=@Bool.rec (λ_=>Bool) false (eqB a b) (Nat.beq x.toNat y.toNat):=rfl
   rw[e,ih]
   cases h:Nat.beq x.toNat y.toNat
   ·have:x≠y:= λe=>by rw[e,l29] at h;cases h
    simp[this]
   ·have:x=y:=UInt8.toNat_inj.1 (Vm h)
    simp[this]
def ltB (a:List UInt8):List UInt8→Bool:=
 @List.rec UInt8 (λ_=>List UInt8→Bool) (λb=>@List.rec UInt8 (λ_=>Bool) false (λ_ _ _=>true) b)
  (λx _ ih b=>@List.rec UInt8 (λ_=>Bool) false (λy l _=>@Bool.rec (λ_=>Bool) (@Bool.rec (λ_=>Bool) false (ih l) (Nat.beq x.toNat y.toNat)) true (Nat.blt x.toNat y.toNat)) b) a
theorem A4C (a:List UInt8):∀b,ltB a b=Op.bytesLess a b:=by
 induction a with
 |nil=>intro b;cases b<;>rfl
 |cons x a ih=>
  intro b
  cases b with
  |nil=>rfl
  |cons y b=>
   have e:ltB (x::a) (y::b)=@Bool.rec (λ_=>Bool) (@Bool.rec (λ_=>Bool) false (ltB a b) (Nat.beq x.toNat y.toNat)) true (Nat.blt x.toNat y.toNat):=rfl
   rw[e,ih,Op.bytesLess]
   have h1:(Nat.blt x.toNat y.toNat)=decide (x<y):=by
    rw[Yg];simp[Uk,UInt8.lt_iff_toNat_lt]
   have h2:(Nat.beq x.toNat y.toNat)=(x==y):=by
    rw[Yg];simp[ZZ,UInt8.toNat_inj]
   rw[h1,h2]
   cases decide (x<y)
   ·cases (x==y)<;>rfl
   ·rfl
def C2n (op:BinOp) (a b:ByteArray) (K:AV→Al):Al:=
 match op with
 | .add=>Ur a.data.toList b.data.toList λl=>ck (Nat.blt l.length 9223372036854775808) (K (.v (.string ⟨⟨l⟩⟩)))
 | .eql=>bB (eqB a.data.toList b.data.toList) K
 | .neq=>bB (!eqB a.data.toList b.data.toList) K
 | .lss=>bB (ltB a.data.toList b.data.toList) K
 | .leq=>bB (ltB a.data.toList b.data.toList||eqB a.data.toList b.data.toList) K
 | .gtr=>bB (!(ltB a.data.toList b.data.toList||eqB a.data.toList b.data.toList)) K
 | .geq=>bB (!ltB a.data.toList b.data.toList) K
 |_=>none
theorem TE (a:ByteArray):a.toList=a.data.toList:=ByteArray.toList_eq a
theorem B1t {op:BinOp} {a b:ByteArray} {K:AV→Al} (h:C2n op a b K=some r):∃v,K (.v v)=some r∧B10 op a b=some v:=by
 cases op<;>simp only[C2n,Ld,K4,PQ,A4C] at h<;>try (cases h;done)
 case add=>
  obtain⟨h1,h2⟩:=Br h
  refine⟨_,h2,?_⟩
  rw[Uk] at h1
  have hmax:IntKind.i64.max=9223372036854775807:=by decide
  have hs:a.size+b.size=(a.data.toList++b.data.toList).length:=by rw[FA];rfl
  simp only[B10]
  rw[if_neg (by rw[hmax];omega)]
  congr 2
 all_goals exact⟨_,h,by simp[B10,TE]⟩
def Ak (i:TI) (op:BinOp) (a b:AV) (K:AV→Al):Al:=
 match a,b with
 | .v (.int k m),.v (.int k' n)=>@Bool.rec (λ_=>Al) (ck (decide (k=k')) (A8S op k m n K)) (A8S op k m n K) (GI op)
 | .v (.string s),.v (.string u)=>C2n op s u K
 | .v (.bool p),.v (.bool q)=>match i.d,op with
  | .bool,.eql=>bB (p==q) K
  | .bool,.neq=>bB (!(p==q)) K
  |_,_=>none
 |a,b=>match A6f i.d a b,op with
  |some q,.eql=>bB q K
  |some q,.neq=>bB (!q) K
  |_,_=>none
theorem A3M {ty:TypeId} {i:TI} {op:BinOp} {a b:AV} {K:AV→Al} (hT:T ty=some i) (h:Ak i op a b K=some r):∃v,K v=some r∧A0o T op ty a b (λv'=>v'=v):=by
 unfold Ak at h
 split at h
 ·rename_i k m k' n
  cases hs:GI op
  ·rw[hs] at h
   obtain⟨h1,h2⟩:=Br h
   obtain⟨v,h3,h4⟩:=A3I h2
   rw[hs] at h4
   exact⟨_,h3,by simp only[A0o,hs,l0z,if_false];exact⟨by simpa using h1,by simp only[l0z,if_false] at h4;rw[h4];rfl⟩⟩
  ·rw[hs] at h
   obtain⟨v,h3,h4⟩:=A3I h
   rw[hs] at h4
   exact⟨_,h3,by simp only[A0o,hs,if_true];simp only[if_true] at h4;rw[h4];rfl⟩
 ·obtain⟨v,h3,h4⟩:=B1t h
  exact⟨_,h3,by simp only[A0o];rw[h4];rfl⟩
 ·rename_i p q
  split at h
  ·rename_i hd
   rw[Ld] at h
   exact⟨_,h,by simp only[A0o];exact⟨⟨i,hT,hd⟩,trivial⟩⟩
  ·rename_i hd
   rw[Ld] at h
   exact⟨_,h,by simp only[A0o];exact⟨⟨i,hT,hd⟩,trivial⟩⟩
  ·cases h
 ·rename_i h1 h2 h3
  have hx:∀Kp:AV→Prop,(∃q,A6f i.d a b=some q∧((op= .eql∧Kp (.v (.bool q)))∨(op= .neq∧Kp (.v (.bool (!q))))))→A0o T op ty a b Kp:= λKp hk=>by
   obtain⟨q,hq,hk⟩:=hk
   unfold A0o
   split
   ·exact(h1 _ _ _ _ rfl rfl).elim
   ·exact(h2 _ _ rfl rfl).elim
   ·exact(h3 _ _ rfl rfl).elim
   ·rw[hT]
    simp only[hq]
    rcases hk with⟨rfl,hk⟩|⟨rfl,hk⟩<;>exact hk
  cases hq:A6f i.d a b with
  |none=>rw[hq] at h;cases h
  |some q=>
   rw[hq] at h
   cases op<;>first|(cases h;done)|skip
   ·simp only[Ld] at h;exact⟨_,h,hx _ ⟨q,hq,.inl ⟨rfl,rfl⟩⟩⟩
   ·simp only[Ld] at h;exact⟨_,h,hx _ ⟨q,hq,.inr ⟨rfl,rfl⟩⟩⟩
def F8 (op:UnOp) (a:AV) (K:AV→Al):Al:=
 match op,a with
 | .neg,.v (.int k n)=>LN k (Int.sub 0 n) λz=>K (.v (.int k z))
 | .xor,.v (.int k n)=>fI (k.wrap ((BitVec.ofInt k.bits (if k.signed then-1 else k.max)^^^BitVec.ofInt k.bits n).toNat)) λz=>K (.v (.int k z))
 | .not,.v (.bool b)=>bB (!b) K
 |_,_=>none
theorem B4s {op:UnOp} {a:AV} {K:AV→Al} (h:F8 op a K=some r):∃v,K v=some r∧xun op a (λv'=>v'=v):=by
 unfold F8 at h
 split at h
 ·rw[GA] at h;exact⟨_,h,rfl⟩
 ·rw[RJ] at h;exact⟨_,h,rfl⟩
 ·rw[Ld] at h;exact⟨_,h,rfl⟩
 ·cases h
def Fg (i j:TI) (a:AV) (K:AV→Al):Al:=
 match j.d,a with
 | .int k,.v (.int _ n)=>LN k n λz=>K (.v (.int k z))
 | .string,.v (.string s)=>match i.d with| .string=>K (.v (.string s))|_=>none
 |_,_=>none
theorem A8Y {s d:TypeId} {i j:TI} {a:AV} {K:AV→Al} (hi:T s=some i) (hj:T d=some j) (h:Fg i j a K=some r):∃v,K v=some r∧A38 T s d a (λv'=>v'=v):=by
 unfold Fg at h
 split at h
 ·rename_i hd
  rw[GA] at h
  exact⟨_,h,by simp only[A38,hi,hj,hd]⟩
 ·rename_i hd
  split at h
  ·rename_i hs
   exact⟨_,h,by simp only[A38,hi,hj,hd,hs];exact⟨trivial,trivial⟩⟩
  ·cases h
 ·cases h
end
section
variable {T:Ty} {H:Hp} {r:AV×Hp}
def AN (off:Nat) (v:AV) (K:AV→Al):Al:=
 match v with
 | .ptr s p k=>fN (Nat.add (Nat.add p k) off) λo=>K (.ptr s o 0)
 | .iptr cs=>K (.iptr (Dp off cs))
 |_=>none
theorem B4E {ty:TypeId} {i:TI} {v:AV} {f off sz ft:Nat} {fs:List (Nat×Nat×TypeId)} {K:AV→Al} (hT:T ty=some i) (hd:i.d= .struct fs) (hf:fs[f]?=some (off,sz,ft)) (hz:sz≠0) (h:AN off v K=some r):∃u,K u=some r∧X1 T ty v f (λv'=>v'=u):=by
 unfold AN at h
 split at h
 ·rw[DI] at h
  refine⟨_,h,?_⟩
  simp only[X1,hT,hd,hf]
  exact⟨hz,_,0,by simp[Xt],rfl⟩
 ·rw[C8] at h
  refine⟨_,h,?_⟩
  simp only[X1,hT,hd,hf]
  exact⟨hz,trivial⟩
 ·cases h
def A50 (off:Nat) (j:TI) (v:AV) (K:AV→Al):Al:=
 match v with
 | .agg cs=>YQ j (Dp off cs) K
 |_=>none
theorem B1B {ty:TypeId} {i j:TI} {v:AV} {f off sz ft:Nat} {fs:List (Nat×Nat×TypeId)} {K:AV→Al} (hT:T ty=some i) (hd:i.d= .struct fs) (hf:fs[f]?=some (off,sz,ft)) (hj:T ft=some j) (h:A50 off j v K=some r):∃u,K u=some r∧A0l T ty v f (λv'=>v'=u):=by
 unfold A50 at h
 split at h
 ·rw[C8] at h
  obtain⟨u,h1,h2⟩:=SY (T:=T) (ty:=ft) hj h
  exact⟨u,h1,by simp only[A0l,hT,hd,hf];exact h2⟩
 ·cases h
def A4M (a:AV) (K:Int→Al):Al:=match a with| .v (.int _ n)=>K n|_=>none
theorem MR {a:AV} {K:Int→Al} (h:A4M a K=some r):∃k n,a= .v (.int k n)∧K n=some r:=by
 unfold A4M at h
 split at h
 ·exact⟨_,_,rfl,h⟩
 ·cases h
def B0 (i:TI) (x ix:AV) (K:AV→Al):Al:=
 A4M ix λz=>iN z λn=>match i.d,x with
  | .slice _ esz,.list m cs=>ck (Nat.blt n m) (Ti esz (Dp (Nat.mul n esz) cs) λc=>K (.iptr c))
  | .slice _ esz,.sl _ s o m=>ck (Nat.blt n m) (fN (Nat.add o (Nat.mul n esz)) λp=>K (.ptr s p 0))
  | .array m _ esz,.ptr s p k=>ck (Nat.blt n m) (fN (Nat.add (Nat.add p k) (Nat.mul n esz)) λq=>K (.ptr s q 0))
  | .array m _ esz,.iptr cs=>ck (Nat.blt n m) (Ti esz (Dp (Nat.mul n esz) cs) λc=>K (.iptr c))
  |_,_=>none
theorem B4C {ty:TypeId} {i:TI} {x ix:AV} {K:AV→Al} (hT:T ty=some i) (h:B0 i x ix K=some r):∃u,K u=some r∧A0k T ty x ix (λv'=>v'=u):=by
 unfold B0 at h
 obtain⟨k,z,rfl,h'⟩:=MR h
 clear h
 obtain⟨n,rfl,h⟩:=SO h'
 clear h'
 unfold A0k
 rw[hT]
 simp only
 split at h
 ·rename_i hd
  obtain⟨h1,h⟩:=Br h
  rw[NH,C8] at h
  rw[Uk] at h1
  exact⟨_,h,by simp only[hd,Xs];exact⟨⟨by omega,by omega⟩,rfl⟩⟩
 ·rename_i hd
  obtain⟨h1,h⟩:=Br h
  rw[DI] at h
  rw[Uk] at h1
  exact⟨_,h,by simp only[hd,Xs];exact⟨⟨by omega,by omega⟩,rfl⟩⟩
 ·rename_i hd
  obtain⟨h1,h⟩:=Br h
  rw[DI] at h
  rw[Uk] at h1
  exact⟨_,h,by simp only[hd,Xs];exact⟨⟨by omega,by omega⟩,_,0,by simp[Xt],rfl⟩⟩
 ·rename_i hd
  obtain⟨h1,h⟩:=Br h
  rw[NH,C8] at h
  rw[Uk] at h1
  exact⟨_,h,by simp only[hd,Xs];exact⟨⟨by omega,by omega⟩,rfl⟩⟩
 ·cases h
def B8R (l:List UInt8) (K:AV→Al):Al:=@List.rec UInt8 (λ_=>Al) none (λb _ _=>fN b.toNat λn=>K (.v (.int .u8 (.ofNat n)))) l
def Ta (i j:TI) (x ix:AV) (K:AV→Al):Al:=
 A4M ix λz=>iN z λn=>match i.d,x with
  | .string,.v (.string s)=>B8R (Dp n s.data.toList) K
  | .array m _ esz,.agg cs=>ck (Nat.blt n m) (YQ j (Dp (Nat.mul n esz) cs) K)
  |_,_=>none
def Xa (i:TI):Option TypeId:=match i.d with| .array _ e _=>some e| .slice e _=>some e|_=>none
theorem B1A {ty:TypeId} {i j:TI} {x ix:AV} {K:AV→Al} (hT:T ty=some i) (hj:∀e,Xa i=some e→T e=some j) (h:Ta i j x ix K=some r):∃u,K u=some r∧A0j T ty x ix (λv'=>v'=u):=by
 unfold Ta at h
 obtain⟨k,z,rfl,h'⟩:=MR h
 clear h
 obtain⟨n,rfl,h⟩:=SO h'
 clear h'
 unfold A0j
 rw[hT]
 simp only
 split at h
 ·rename_i s hd
  rw[C8] at h
  cases hl:s.data.toList.drop n with
  |nil=>rw[hl] at h;cases h
  |cons b l=>
   rw[hl] at h
   have h:(fN b.toNat λn=>K (.v (.int .u8 (.ofNat n))))=some r:=h
   rw[DI] at h
   have hlt:n<s.data.toList.length:=by
    have:=congrArg List.length hl
    simp at this
    simp
    omega
   have hb:s.data.toList[n]?=some b:=by
    have:=congrArg (λl=>l[0]?) hl
    simpa using this
   refine⟨_,h,?_⟩
   simp only[hd,Xs]
   refine⟨⟨by omega,?_⟩,?_⟩
   ·have:s.size=s.data.toList.length:=rfl
    omega
   ·rw[Ul,hb];rfl
 ·rename_i m e esz cs hd
  obtain⟨h1,h⟩:=Br h
  rw[C8] at h
  rw[Uk] at h1
  obtain⟨u,h2,h3⟩:=SY (T:=T) (ty:=e) (hj e (by simp[Xa,hd])) h
  exact⟨u,h2,by simp only[hd,Xs];exact⟨⟨by omega,by omega⟩,h3⟩⟩
 ·cases h
def T2 (x:Option AV) (d:Nat) (K:Nat→Al):Al:=
 match x with
 |none=>fN d K
 |some a=>A4M a λz=>iN z K
theorem GY {x:Option AV} {d:Nat} {K:Nat→Al} (h:T2 x d K=some r):∃n:Nat,UT x d=some (n:Int)∧K n=some r:=by
 unfold T2 at h
 split at h
 ·rw[DI] at h;exact⟨d,rfl,h⟩
 ·obtain⟨k,z,rfl,h1⟩:=MR h
  obtain⟨n,rfl,h2⟩:=SO h1
  exact⟨n,rfl,h2⟩
def EW (i:TI) (x:AV) (lo hi mx:Option AV) (K:AV→Al):Al:=
 match i.d,x with
 | .string,.v (.string s)=>ck mx.isNone (T2 lo 0 λl=>HJ s.data.toList 0 λm=>T2 hi m λh=>ck (Nat.ble l h&&Nat.ble h m) (Ti (Nat.sub h l) (Dp l s.data.toList) λb=>K (.v (.string ⟨⟨b⟩⟩))))
 | .slice _ esz,.list m cs=>T2 lo 0 λl=>T2 hi m λh=>T2 mx m λx=>ck ((mx.isNone||hi.isSome)&&(Nat.ble l h&&(Nat.ble h x&&Nat.ble x m))) (fN (Nat.sub h l) λn=>Ti (Nat.mul n esz) (Dp (Nat.mul l esz) cs) λc=>K (.list n c))
 | .slice _ esz,.sl sz s o m=>ck (Nat.beq esz sz) (T2 lo 0 λl=>T2 hi m λh=>T2 mx m λx=>ck ((mx.isNone||hi.isSome)&&(Nat.ble l h&&(Nat.ble h x&&Nat.ble x m))) (fN (Nat.add o (Nat.mul l esz)) λo'=>fN (Nat.sub h l) λn=>K (.sl sz s o' n)))
 | .slice _ _,.v (.slice none 0 0)=>ck mx.isNone (T2 lo 0 λl=>T2 hi 0 λh=>ck (Nat.beq l 0&&Nat.beq h 0) (K (.v (.slice none 0 0))))
 |_,_=>none
theorem A6K {ty:TypeId} {i:TI} {x:AV} {lo hi mx:Option AV} {K:AV→Al} (hT:T ty=some i) (h:EW i x lo hi mx K=some r):∃u,K u=some r∧A0h T ty x lo hi mx (λv'=>v'=u):=by
 unfold EW at h
 unfold A0h
 rw[hT]
 simp only
 split at h
 ·rename_i s hd
  obtain⟨h0,h⟩:=Br h
  obtain⟨l,hl,h⟩:=GY h
  rw[Cw] at h
  obtain⟨n,hn,h⟩:=GY h
  obtain⟨h1,h⟩:=Br h
  rw[NH,C8] at h
  simp only[Jp,Yf] at h1
  have hz:0+s.data.toList.length=s.size:=Ln _
  rw[hz] at hn h1
  refine⟨_,h,?_⟩
  simp only[hd,hl,hn,JN,Xs]
  refine⟨h0,⟨by omega,by omega,by omega⟩,?_⟩
  congr 2
  apply ByteArray.ext
  apply l0c
  simp only[ByteArray.data_extract,Array.toList_extract,List.extract]
  rfl
 ·rename_i e esz m cs hd
  obtain⟨l,hl,h⟩:=GY h
  obtain⟨n,hn,h⟩:=GY h
  obtain⟨y,hy,h⟩:=GY h
  obtain⟨h1,h⟩:=Br h
  rw[DI,NH,C8] at h
  simp only[Jp,Yf] at h1
  refine⟨_,h,?_⟩
  have e1:((n:Int)-l).toNat=n-l:=by omega
  simp only[hd,hl,hn,hy,JN,Xs,e1]
  refine⟨⟨by omega,by omega,by omega,by omega⟩,λhm=> ?_,rfl⟩
  cases mx with
  |none=>simp at hm
  |some _=>simpa using h1.1
 ·rename_i e esz sz s o m hd
  obtain⟨h0,h⟩:=Br h
  obtain⟨l,hl,h⟩:=GY h
  obtain⟨n,hn,h⟩:=GY h
  obtain⟨y,hy,h⟩:=GY h
  obtain⟨h1,h⟩:=Br h
  rw[DI,DI] at h
  simp only[Jp,Yf] at h1
  refine⟨_,h,?_⟩
  have e1:((n:Int)-l).toNat=n-l:=by omega
  simp only[hd,hl,hn,hy,JN,Xs,e1]
  refine⟨Vm h0,⟨by omega,by omega,by omega,by omega⟩,λhm=> ?_,rfl⟩
  cases mx with
  |none=>simp at hm
  |some _=>simpa using h1.1
 ·rename_i e esz hd
  obtain⟨h0,h⟩:=Br h
  obtain⟨l,hl,h⟩:=GY h
  obtain⟨n,hn,h⟩:=GY h
  obtain⟨h1,h⟩:=Br h
  simp only[Jp,ZZ] at h1
  refine⟨_,h,?_⟩
  simp only[hd,hl,hn,JN]
  exact⟨h0,⟨by omega,by omega⟩,trivial⟩
 ·cases h
def AD (v:AV) (k:Nat) (K:AV→Al):Al:=match v with| .tup vs=>hdK (Dp k vs) K|_=>none
theorem B1C {v:AV} {k:Nat} {K:AV→Al} (h:AD v k K=some r):∃vs u,v= .tup vs∧vs[k]?=some u∧K u=some r:=by
 unfold AD at h
 split at h
 ·rename_i vs
  rw[C8] at h
  obtain⟨a,l,hl,h⟩:=A6x h
  refine⟨vs,a,rfl,?_,h⟩
  have:=congrArg (λl=>l[0]?) hl
  simpa using this
 ·cases h
def AP (i:TI) (x:AV) (K:AV→Al):Al:=
 match i.d,x with
 | .string,.v (.string s)=>HJ s.data.toList 0 λn=>K (.v (.int .i64 (.ofNat n)))
 | .slice _ _,.list n _=>K (.v (.int .i64 (.ofNat n)))
 | .slice _ _,.sl _ _ _ n=>K (.v (.int .i64 (.ofNat n)))
 | .slice _ _,.v (.slice none 0 0)=>K (.v (.int .i64 (.ofNat 0)))
 | .array n _ _,_=>K (.v (.int .i64 (.ofNat n)))
 |_,_=>none
theorem B1z {ty:TypeId} {i:TI} {x:AV} {K:AV→Al} (hT:T ty=some i) (h:AP i x K=some r):∃u,K u=some r∧B2i T ty x (λv'=>v'=u):=by
 unfold AP at h
 unfold B2i
 rw[hT]
 simp only
 split at h
 ·rename_i s hd
  rw[Cw] at h
  refine⟨_,h,?_⟩
  simp only[hd]
  rw[Ln];rfl
 ·rename_i hd;exact⟨_,h,by simp only[hd];rfl⟩
 ·rename_i hd;exact⟨_,h,by simp only[hd];rfl⟩
 ·rename_i hd;exact⟨_,h,by simp only[hd];rfl⟩
 ·rename_i hd;exact⟨_,h,by simp only[hd];rfl⟩
 ·cases h
def eMM (isMin:Bool) (a b:AV) (K:AV→Al):Al:=
 match a,b with
 | .v (.int k x),.v (.int k' y)=>ck (decide (k=k')) (@Bool.rec (λ_=>Al) (@Bool.rec (λ_=>Al) (K (.v (.int k y))) (K (.v (.int k x))) (ZH y x)) (@Bool.rec (λ_=>Al) (K (.v (.int k y))) (K (.v (.int k x))) (ZH x y)) isMin)
 | .v (.string s),.v (.string u)=>@Bool.rec (λ_=>Al) (K (.v (.string u))) (K (.v (.string s))) (@Bool.rec (λ_=>Bool) (!ltB s.data.toList u.data.toList) (ltB s.data.toList u.data.toList||eqB s.data.toList u.data.toList) isMin)
 |_,_=>none
theorem A6P {isMin:Bool} {a b:AV} {K:AV→Al} (h:eMM isMin a b K=some r):∃u,K u=some r∧xmm isMin a b (λv'=>v'=u):=by
 unfold eMM at h
 split at h
 ·rename_i k x k' y
  obtain⟨h1,h⟩:=Br h
  simp only[xmm]
  have hk:k=k':=by simpa using h1
  cases isMin
  ·rw[J7] at h
   by_cases hxy:y≤x
   ·rw[decide_eq_true hxy] at h
    exact⟨_,h,hk,by rw[if_neg (by simp),if_neg (by omega)]⟩
   ·rw[decide_eq_false hxy] at h
    exact⟨_,h,hk,by rw[if_neg (by simp),if_pos (by omega)]⟩
  ·rw[J7 x y] at h
   by_cases hxy:x≤y
   ·rw[decide_eq_true hxy] at h
    exact⟨_,h,hk,by rw[if_pos rfl,if_neg (by omega)]⟩
   ·rw[decide_eq_false hxy] at h
    exact⟨_,h,hk,by rw[if_pos rfl,if_pos (by omega)]⟩
 ·rename_i s u
  simp only[xmm]
  cases isMin
  ·simp only[A4C,TE] at h⊢
   cases hb:(!Op.bytesLess s.data.toList u.data.toList)<;>(rw[hb] at h;exact⟨_,h,rfl⟩)
  ·simp only[A4C,PQ,TE] at h⊢
   cases hb:(Op.bytesLess s.data.toList u.data.toList||s.data.toList==u.data.toList)<;>(rw[hb] at h;exact⟨_,h,rfl⟩)
 ·cases h
end
def Ctx.delB (C:Ctx) (b:Nat):Ctx:={C with B:= λk=>C.B k∧k≠b}
section
variable {P:Program} {G:Gl} {w0:Base} {C:Ctx} {H:Hp} {w w':World} {b:Nat} {o o':Obj}
theorem A53 (hb:w.heap[b]?=some o) (ho:∀arr T fz,o≠.cells arr T fz) {k i:Nat} {v:Value} (h:w.cell? ⟨k,i,none⟩=some v):k≠b:=by
 intro e
 subst e
 simp only[World.cell?,hb] at h
 cases o<;>simp at h
 exact ho _ _ _ rfl
theorem SameObj.cell (hs:SameObj w w' b o') {k i:Nat} (hk:k≠b):w'.cell? ⟨k,i,none⟩=w.cell? ⟨k,i,none⟩:=l0s (hs.others k hk)
theorem VRel.shut (hb:w.heap[b]?=some (.deferred (some []))) (hs:SameObj w w' b o') {a:AV} {y:Value} (h:VRel C w a y):VRel (C.delB b) w' a y:=by
 have hno:∀arr T fz,(Obj.deferred (some []):Obj)≠.cells arr T fz:= λ_ _ _ h=>by cases h
 induction h with
 |v x=>exact .v x
 |ptr h=>exact .ptr h
 |iptr vs hF hc _ ih=>exact .iptr vs hF (λi hi=>(hs.cell (A53 hb hno (hc i hi))).trans (hc i hi)) (λi hi=>ih i hi hb hs)
 |list0=>exact .list0
 |list h vs hF hc _ ih=>exact .list h vs hF (λi hi=>(hs.cell (A53 hb hno (hc i hi))).trans (hc i hi)) (λi hi=>ih i hi hb hs)
 |sl h hcap hbk hsz=>exact .sl h hcap ((hs.others _ (λe=>by subst e;rw[hb] at hbk;cases hbk)).trans hbk) hsz
 |slz hr=>exact .slz hr
 |fn ys zs hl hl' _ _ ihy ihz=>exact .fn ys zs hl hl' (λi hi=>ihy i hi hb hs) (λi hi=>ihz i hi hb hs)
 |agg ys hl _ ih=>exact .agg ys hl (λi hi=>ih i hi hb hs)
 |tup ys hl _ ih=>exact .tup ys hl (λi hi=>ih i hi hb hs)
 |mp h=>exact .mp h
 |@imap C w es b2 clock ms hB hbk hl hk hn hc _ ih=>
  have hne:b2≠b:= λe=>by subst e;rw[hb] at hbk;cases hbk
  exact .imap ms ⟨hB,hne⟩ ((hs.others _ hne).trans hbk) hl hk hn hc (λi hi=>ih i hi hb hs)
 |yl h=>exact .yl h
 |it h=>exact .it h
 |dk y=>exact .dk y
theorem Ca.shut (hb:w.heap[b]?=some (.deferred (some []))) (hs:SameObj w w' b o') {aZ:List AV} {ys:List Value} (h:Ca C w aZ ys):Ca (C.delB b) w' aZ ys:=
 ⟨h.1,λi a ha=>let⟨y,hy,hv⟩:=h.2 i a ha;⟨y,hy,hv.shut hb hs⟩⟩
theorem JF.shut (hb:w.heap[b]?=some (.deferred (some []))) (hs:SameObj w w' b o') {es:List (Value×AV)} {ms:List MapEntry} (h:JF C w es ms):JF (C.delB b) w' es ms:=
 ⟨h.1,λi p hp=>let⟨m,hm,hk,hv⟩:=h.2 i p hp;⟨m,hm,hk,hv.shut hb hs⟩⟩
theorem VQ.shut (hb:w.heap[b]?=some (.deferred (some []))) (hs:SameObj w w' b o') {ms:Array MapEntry} {seen:Array Nat}:∀{x:Option (Value×AV)},VQ C w ms seen x→VQ (C.delB b) w' ms seen x
 |none,_=>trivial
 |some _,⟨m,h1,h2,h3,h4⟩=>⟨m,h1,h2,h3,h4.shut hb hs⟩
theorem Tf.shut (hb:w.heap[b]?=some (.deferred (some []))) (hs:SameObj w w' b o') {t:Tm} {tmps:Array Value} (h:Tf C w t tmps):Tf (C.delB b) w' t tmps:= λi=>(h i).shut hb hs
theorem A5Q (q:Bool):(C.delB b).sel q=(C.sel q).delB b:=by cases q<;>rfl
theorem PZ.shut (hb:w.heap[b]?=some (.deferred (some []))) (hs:SameObj w w' b o') {r:Nat} {x:Row} (h:PZ C w r x):PZ (C.delB b) w' r x:=by
 have ne:∀{k:Nat} {q:Obj},w.heap[k]?=some q→(∀l,q≠.deferred l)→k≠b:= λhk hq e=>by
  subst e;rw[hb] at hk;injection hk with hk;exact hq _ hk.symm
 cases x with
 |cells q T cs=>
  rcases h with⟨h1,h2⟩|⟨k,base,arr,fz,h⟩
  ·exact .inl ⟨h1,h2⟩
  ·refine .inr ⟨k,base,arr,fz,h.at_,(hs.others k (ne h.block (λ_ e=>by cases e))).trans h.block,h.free,h.fits,?_,h.exact⟩
   rw[A5Q];exact h.vals.shut hb hs
 |map q es bo=>
  obtain⟨k,ms,clock,h1,h3,h4,h5,h6⟩:=h
  refine⟨k,ms,clock,h1,(hs.others k (ne h3 (λ_ e=>by cases e))).trans h3,h4,?_,h6⟩
  rw[A5Q];exact h5.shut hb hs
 |loop N t ps aZ bd pend=>
  obtain⟨k,l,h1,h2,h3,h4,h5,h6,h7,h8,h9⟩:=h
  exact⟨k,l,h1,(hs.others k (ne h2 (λ_ e=>by cases e))).trans h2,h3,h4,h5,h6,h7,h8,h9.shut hb hs⟩
 |iter left lst=>
  obtain⟨k,mo,since,seen,last,h1,h2,h3⟩:=h
  refine⟨k,mo,since,seen,last,h1,(hs.others k (ne h2 (λ_ e=>by cases e))).trans h2,?_⟩
  rcases h3 with h3|⟨m,ms,clock,e1,e2,e3,h4,h5,h6,h7,h8⟩
  ·exact .inl h3
  ·have hm:=ne h5 (λ_ e=>by cases e)
   exact .inr ⟨m,ms,clock,e1,e2,e3,⟨h4,hm⟩,(hs.others m hm).trans h5,h6,h7.shut (C:=C.bare) hb hs,h8.shut (C:=C.bare) hb hs⟩
 |gone=>trivial
theorem Rel.shut (h:Rel G w0 C H w) (hb:w.heap[b]?=some (.deferred (some []))) (ho:w0.own b) (hs:SameObj w w' b o'):Rel G w0 (C.delB b) H w':=by
 have hno:∀arr T fz,(Obj.deferred (some []):Obj)≠.cells arr T fz:= λ_ _ _ h=>by cases h
 refine⟨λg cs hg i v hv=> ?_,h.below.same_obj hs ho,h.lt,λr x hx=>(h.rows r x hx).shut hb hs,λr x k o hx hp=> ?_,h.sep,λk i hF=>hs.size▸h.fin k i hF,λk hB=>hs.size▸h.finB k hB.1,h.nx⟩
 ·have:=h.glob g cs hg i v hv
  exact⟨this.1,(hs.cell (A53 hb hno this.2)).trans this.2⟩
 ·have:=h.own r x k o hx hp
  exact⟨this.1,this.2.1,λhB=>this.2.2 hB.1⟩
def B0l (E:XE) (t:Tm) (H:Hp) (rs:List ResultVar):(List AV→Al)→Al:=
 @List.rec ResultVar (λ_=>(List AV→Al)→Al) (λK=>K [])
  (λr _ ih K=>match r with
   | .tmp i=>gtm t i λv=>ih λvs=>K (v::vs)
   | .cell a ty=>gtm t a λp=>E.ty.getK ty λi=>Aq i p H λv=>ih λvs=>K (v::vs)) rs
def ZS (vs:List AV) (K:AV→Al):Al:=
 @List.rec AV (λ_=>Al) (K (.tup [])) (λv l _=>@List.rec AV (λ_=>Al) (K v) (λu l' _=>K (.tup (v::u::l'))) l) vs
def B2M:List AV→AV
 |[v]=>v
 |vs=> .tup vs
theorem A7l (vs:List AV) (K:AV→Al):ZS vs K=K (B2M vs):=by
 match vs with
 |[]=>rfl
 |[v]=>rfl
 |v::u::l=>rfl
def XE.T (E:XE):Ty:= λty=>E.ty.get ty
theorem AW {α:Type} {b:BT α} {i:Nat} {K:α→Al} {r:AV×Hp} (h:b.getK i K=some r):∃v,b.get i=some v∧K v=some r:=by
 rw[BT.getK_eq] at h
 split at h
 ·exact⟨_,by assumption,h⟩
 ·cases h
def B2V (tmps:Array Value):ResultVar→Sem Value
 | .tmp t=>pure (tmps.getD t undef)
 | .cell x t=>do loadVar t (←asAddr (tmps.getD x undef))
theorem B0k {E:XE} {T:Ty} (hT:Xv P T) (hE:∀ty i,E.ty.get ty=some i→T ty=some i) {t:Tm} {tmps:Array Value} (hr:Rel G w0 C H w) (ht:Tf C w t tmps) {r:AV×Hp}:∀(rs:List ResultVar) (K:List AV→Al),B0l E t H rs K=some r→
 ∃vs ys,(rs.mapM (B2V tmps)).run P w= .ok ys w∧Ca C w vs ys∧K vs=some r:=by
 intro rs
 induction rs with
 |nil=>intro K h;exact⟨[],[],rfl,.nil,h⟩
 |cons x rs ih=>
  intro K h
  cases x with
  |tmp i=>
   have h:(gtm t i λv=>B0l E t H rs λvs=>K (v::vs))=some r:=h
   rw[SP] at h
   obtain⟨vs,ys,h1,h2,h3⟩:=ih _ h
   refine⟨_,_::ys,?_,.cons (ht i) h2,h3⟩
   rw[List.mapM_cons]
   simp only[B2V,C4,Yh,E3,h1]
  |cell x ty=>
   have h:(gtm t x λp=>E.ty.getK ty λi=>Aq i p H λv=>B0l E t H rs λvs=>K (v::vs))=some r:=h
   rw[SP] at h
   obtain⟨i,hi,h⟩:=AW h
   obtain⟨u,h,hx⟩:=A6T (T:=T) (hE _ _ hi) h
   obtain⟨v,z,h1,h2,h3⟩:=Y9 hT hr (ht x) hx
   subst h3
   obtain⟨vs,ys,h4,h5,h6⟩:=ih _ h
   refine⟨v::vs,z::ys,?_,.cons h2 h5,h6⟩
   rw[List.mapM_cons]
   have h1':(do loadVar ty (←asAddr (tmps.getD x undef)):Sem Value).run P w= .ok z w:=by
    generalize tmps.getD x undef=q at*
    cases q<;>simp only[Instr.loadAt,Instr.sureAddr,C4,run_stuck,Result.andThen_halt] at h1<;>try (cases h1;done)
    rename_i ad
    cases ad with
    |none=>simp at h1
    |some ad=>simpa [asAddr] using h1
   have h1'':(B2V tmps (.cell x ty)).run P w= .ok z w:=h1'
   rw[C4,h1'']
   simp only[E3,C4,h4,Yh]
def A4d:List Value→Value
 |[y]=>y
 |ys=> .tuple ys.toArray
theorem A5W {fn:Func} {tmps:Array Value} {ys:List Value} (h:(fn.results.toList.mapM (B2V tmps)).run P w= .ok ys w):
 (results fn tmps).run P w= .ok (A4d ys) w:=by
 have e:results fn tmps=(do
  let vs←fn.results.mapM (B2V tmps)
  pure (if h:vs.size=1 then vs[0] else .tuple vs)):=by
  unfold results
  congr 1
 rw[e,C4,Array.mapM_eq_mapM_toList,Sem.run_map,h]
 simp only[E3,Yh]
 congr 1
 match ys with
 |[]=>rfl
 |[y]=>rfl
 |y::z::ys=>simp[A4d]
theorem A7Y {vs:List AV} {ys:List Value} (h:Ca C w vs ys):VRel C w (B2M vs) (A4d ys):=by
 match vs,ys,h with
 |[],[],h=>exact Dw.2 ⟨[],rfl,h⟩
 |[v],[y],h=>exact h.get 0 (by simp)
 |v::u::vs,y::z::ys,h=>exact Dw.2 ⟨_,rfl,h⟩
 |[],_::_,h=>exact absurd h.1 (by simp)
 |[v],[],h=>exact absurd h.1 (by simp)
 |[v],_::_::_,h=>exact absurd h.1 (by simp)
 |_::_::_,[],h=>exact absurd h.1 (by simp)
 |_::_::_,[_],h=>exact absurd h.1 (by simp)
def numbered:Nat→List AV→Tm
 |_,[]=>[]
 |k,a::aZ=>(k,a)::numbered (k+1) aZ
theorem A2v:∀(aZ:List AV) (k i:Nat),FO (numbered k aZ) i=if k≤i∧i<k+aZ.length then aZ.getD (i-k) .dk else .dk:=by
 intro aZ
 induction aZ with
 |nil=>intro k i;simp[numbered,FO]
 |cons a aZ ih=>
  intro k i
  simp only[numbered,FO]
  by_cases hi:i=k
  ·subst hi;simp
  ·rw[if_neg hi,ih]
   by_cases h:k≤i∧i<k+(a::aZ).length
   ·simp only[Lj] at h
    rw[if_pos (by omega),if_pos (by simp only[Lj];omega)]
    have:i-k=(i-(k+1))+1:=by omega
    rw[this];simp
   ·simp only[Lj] at h
    rw[if_neg (by omega),if_neg (by simp only[Lj];omega)]
def B7H (aZ:List AV):Nat→(Tm→Al)→Al:=
 (λ(_:Unit)=>@List.rec AV (λ_=>Nat→(Tm→Al)→Al) (λ_ K=>K []) (λa _ ih k K=>fNS (Nat.succ k) λk'=>ih k' λt=>K ((k,a)::t)) aZ) Gx
theorem B7G (aZ:List AV):∀(k:Nat) (K:Tm→Al),B7H aZ k K=K (numbered k aZ):=by
 induction aZ with
 |nil=>intro k K;rfl
 |cons a aZ ih=>
  intro k K
  have:B7H (a::aZ) k K=fNS (Nat.succ k) λk'=>B7H aZ k' λt=>K ((k,a)::t):=rfl
  rw[this,B4k,ih];rfl
theorem Tf.numbered {args:List AV} {ys:List Value} {n:Nat} (ha:Ca C w args ys):Tf C w (numbered 0 args) (ys.toArray++Array.replicate n undef):=by
 intro i
 rw[A2v]
 have hlen:=ha.1
 split
 ·rename_i hi
  have hi':i<args.length:=by omega
  have:=ha.get i hi'
  simp only[Nat.sub_zero,Ul,JV hi',l1l,YK]
  rw[Array.getElem?_append_left (by simp;omega)]
  simp[hlen,hi']
  exact this
 ·exact .dk _
theorem Frm.delB {m:Nat} {O:Nat→Prop} {C0:Ctx} {wa:World} (h:Frm m O C0 wa C w) (hfin:∀k,C0.B k→k<wa.heap.size) (hfF:∀k i,C0.F k i→k<wa.heap.size) (hb:wa.heap.size≤b) (hob:w.heap[b]?=some (.deferred (some []))) (hs:SameObj w w' b o'):Frm m O C0 wa (C.delB b) w':=
 ⟨h.π,h.F,λk i hF=>(hs.cell (by have:=hfF k i hF;omega)).trans (h.keep k i hF),λk hB=>⟨h.B k hB,by have:=hfin k hB;omega⟩,λk hB=>(hs.others k (by have:=hfin k hB;omega)).trans (h.keepB k hB),
  λk arr T fz hk=>by
   obtain⟨a1,f1,h1,h2⟩:=h.size k arr T fz hk
   exact⟨a1,f1,(hs.others k (λe=>by subst e;rw[hob] at h1;cases h1)).trans h1,h2⟩,
  h.new,λk hB=>h.newB k hB.1,by rw[hs.size];exact h.grow⟩
theorem A4F {fn:Func} {tmps:Array Value} {R:Ending→World→Prop} {m s0:Nat} {C0:Ctx} {wa:World} {t:Tm} (hfin:∀k,C0.B k→k<wa.heap.size) (hfF:∀k i,C0.F k i→k<wa.heap.size) (hs0:wa.heap.size≤s0)
 (hres:∀C w,Rel G w0 C H w→Tf C w t tmps→Frm m w0.own C0 wa C w→∃v,(results fn tmps).run P w= .ok v w∧R (.returned v) w):
 ∀(bs:List Nat) (C:Ctx) (w:World),bs.Nodup→(∀b∈bs,s0≤b∧w0.own b∧C.B b∧w.heap[b]?=some (.deferred (some [])))→Rel G w0 C H w→Tf C w t tmps→Frm m w0.own C0 wa C w→
  LeavesInM (Fe none) 0 P fn tmps R (bs.map A4A) .returning w:=by
 intro bs
 induction bs with
 |nil=>
  intro C w _ _ hr ht hf
  exact hres C w hr ht hf
 |cons b bs ih=>
  intro C w hn hb hr ht hf
  obtain⟨h1,h2,h3,h4⟩:=hb b (by simp)
  obtain⟨hn1,hn2⟩:=List.nodup_cons.1 hn
  have hlt:=(l1q.1 h4).1
  have hs:SameObj w (w.putObj b (.deferred none)) b (.deferred none):=SameObj.putObj hlt _
  refine⟨by simp,.inl ⟨b,_,rfl,run_takeDeferred h4,ih (C.delB b) _ hn2 (λk hk=> ?_) (hr.shut h4 h2 hs) (ht.shut h4 hs) (hf.delB hfin hfF (by omega) h4 hs)⟩⟩
  obtain⟨g1,g2,g3,g4⟩:=hb k (by simp[hk])
  have hne:k≠b:= λe=>hn1 (e▸hk)
  exact⟨g1,g2,⟨g3,hne⟩,(hs.others k hne).trans g4⟩
def C37 (E:XE) (rs:List ResultVar) (K:KV):Exit→Tm→Hp→Al:= λe t H=>
 match e with
 | .normal=>B0l E t H rs λvs=>ZS vs λv=>K v H
 | .ret=>B0l E t H rs λvs=>ZS vs λv=>K v H
 |_=>none
theorem B20 {E:XE} {T:Ty} (hT:Xv P T) (hE:∀ty i,E.ty.get ty=some i→T ty=some i) {f:FuncId} {fn:Func} {c:Code} {args:List AV} {r:AV×Hp} {K:KV} (hf:P.funcs[f]?=some fn) (hb:fn.body=some c)
 (h:Qn P G none (A6 H) (args.length+(fn.ntmps-args.length)) c (λe t H'=>C37 E fn.results.toList K e t H'=some r) (numbered 0 args) H):Rj P G f args H (λv H'=>K v H'=some r):=by
 intro w0 C w ys hR ha
 refine callsIn_wide.1 (callsIn_of_wp_marks (n:=0) hf hb trivial ?_)
 have hlen:=ha.1
 have hS:St G w0 w.heap.size C (args.length+(fn.ntmps-args.length)) (numbered 0 args) H {tmps:=ys.toArray++Array.replicate (fn.ntmps-ys.toArray.size) undef,defers:=[]} w:=⟨hR,by simp[hlen],.numbered ha,.nil,O8 _⟩
 have hw:=h w0 w.heap.size C _ w hS
 have hFe:Fe none=Fence.wide:=rfl
 rw[←hFe]
 refine wpIn_mono hw λe a' w' ⟨C',t',H',s',x',q⟩=> ?_
 have fin:(B0l E t' H' fn.results.toList λvs=>ZS vs λv=>K v H')=some r→LeavesInM (Fe none) 0 P fn a'.tmps (λe w'=>∃v y C' H',e= .returned y∧Rel G w0 C' H' w'∧VRel C' w' v y∧Frm (A6 H) w0.own C w C' w'∧K v H'=some r) a'.defers .returning w':=by
  intro q
  obtain⟨bs,d1,d2,d3⟩:=s'.defers
  rw[d2]
  refine A4F (H:=H') (t:=t') (C0:=C) (wa:=w) (m:=A6 H) (s0:=w.heap.size) hR.finB hR.fin (O8 _) (λC1 w1 r1 t1 f1=> ?_) bs C' w' d1 d3 s'.rel s'.tmps x'
  obtain⟨vs,zs,h1,h2,h3⟩:=B0k hT hE r1 t1 _ _ q
  rw[A7l] at h3
  exact⟨_,A5W h1,_,_,C1,H',rfl,r1,A7Y h2,f1,h3⟩
 cases e with
 |normal=>exact fin q
 |ret=>exact fin q
 |_=>cases q
end
def HP (f:AV→(Bool→AV→Al)→Al) (l:List AV):(Bool→List AV→Al)→Al:=
 @List.rec AV (λ_=>(Bool→List AV→Al)→Al) (λK=>K false [])
  (λa _ ih K=>f a λq a'=>ih λq' l'=>K (@Bool.rec (λ_=>Bool) q' true q) (a'::l')) l
def YJ (f:AV→(Bool→AV→Al)→Al) (l:List (Value×AV)):(Bool→List (Value×AV)→Al)→Al:=
 @List.rec (Value×AV) (λ_=>(Bool→List (Value×AV)→Al)→Al) (λK=>K false [])
  (λp _ ih K=>f p.2 λq a'=>ih λq' l'=>K (@Bool.rec (λ_=>Bool) q' true q) ((p.1,a')::l')) l
def B7d (x:Row) (K:List (Value×AV)→Al):Al:=match x with| .map false es _=>K es|_=>none
def A6r (b:Bool) (a:AV) (K:Bool→AV→Al):Al:=
 match a with
 | .v x=>K false (.v x)
 | .list n cs=>ck b (K false (.list n cs))
 | .iptr cs=>ck b (K false (.iptr cs))
 | .imap es=>ck b (K false (.imap es))
 |_=>none
def A6q (b:Bool) (H:Hp) (ih:AV→(Bool→AV→Al)→Al) (a:AV) (K:Bool→AV→Al):Al:=
 match a with
 | .v x=>K false (.v x)
 | .list n cs=>ck b (K false (.list n cs))
 | .iptr cs=>ck b (K false (.iptr cs))
 | .imap es=>ck b (K false (.imap es))
 | .agg cs=>HP ih cs λq cs'=>K q (.agg cs')
 | .tup cs=>HP ih cs λq cs'=>K q (.tup cs')
 | .fn f fs cs=>HP ih fs λq fs'=>HP ih cs λq' cs'=>K (@Bool.rec (λ_=>Bool) q' true q) (.fn f fs' cs')
 | .sl sz r o n=>Kj H r λx=>KF x λ_ cs=>FT (Nat.mul n sz) (Dp o cs) λc=>HP ih c λ_ c'=>K true (.list n c')
 | .ptr r p k=>Kj H r λx=>KF x λ_ cs=>HP ih (Dp (Nat.add p k) cs) λ_ c'=>K true (.iptr c')
 | .mp r=>Kj H r λx=>B7d x λes=>YJ ih es λ_ es'=>K true (.imap es')
 |_=>none
def Jg (b:Bool) (H:Hp) (D:Nat):AV→(Bool→AV→Al)→Al:=@Nat.rec (λ_=>AV→(Bool→AV→Al)→Al) (A6r b) (λ_ ih=>A6q b H ih) D
def RH (b q:Bool) (C:Ctx) (H:Hp):Ctx:=
 {π:= λ_=>none
  F:= λk i=>(b=true∧C.F k i)∨(q=true∧∃r x o,Ax H r=some x∧C.π r=some (some (k,o)))
  B:= λk=>(b=true∧C.B k)∨(q=true∧∃r x o,Ax H r=some x∧C.π r=some (some (k,o)))}
theorem A3A (b q:Bool) (C:Ctx) (H:Hp):(RH b q C H).bare=RH b q C H:=rfl
theorem LP {b q q':Bool} {C:Ctx} {H:Hp} {w:World} (h:q=true→q'=true):Ext (λ_=>True) (RH b q C H) w (RH b q' C H) w:=
 ⟨λ_ _=>rfl,λ_ _ h'=>h'.imp id (λ⟨h1,h2⟩=>⟨h h1,h2⟩),λ_ _ _=>rfl,λ_ h'=>h'.imp id (λ⟨h1,h2⟩=>⟨h h1,h2⟩),λ_ _=>rfl,λ_ a _ f h=>⟨a,f,h,rfl⟩,λ_ _ _=> .inr trivial,λ_ _=> .inr trivial,O8 _⟩
theorem Y5 {q q':Bool}:q=true→(@Bool.rec (λ_=>Bool) q' true q)=true:= λh=>by subst h;rfl
theorem VM {q q':Bool}:q'=true→(@Bool.rec (λ_=>Bool) q' true q)=true:= λh=>by subst h;cases q<;>rfl
section
variable {G:Gl} {w0:Base} {C:Ctx} {H:Hp} {w:World} {b:Bool} {r:AV×Hp}
theorem YI {f:AV→(Bool→AV→Al)→Al} (hf:∀a y K,VRel C w a y→f a K=some r→∃q a',VRel (RH b q C H) w a' y∧K q a'=some r):
 ∀(l:List AV) (ys:List Value) (K:Bool→List AV→Al),Ca C w l ys→HP f l K=some r→∃q l',Ca (RH b q C H) w l' ys∧K q l'=some r:=by
 intro l
 induction l with
 |nil=>intro ys K hl h;exact⟨false,[],by rw[hl.nil_inv];exact .nil,h⟩
 |cons a l ih=>
  intro ys K hl h
  obtain⟨y,ys',rfl,h1,h2⟩:=hl.cons_inv
  have h:(f a λq a'=>HP f l λq' l'=>K (@Bool.rec (λ_=>Bool) q' true q) (a'::l'))=some r:=h
  obtain⟨q,a',h3,h4⟩:=hf a y _ h1 h
  obtain⟨q',l',h5,h6⟩:=ih ys' _ h2 h4
  exact⟨_,_,.cons (h3.mono (LP Y5)) (h5.mono (LP VM)),h6⟩
theorem A6p {f:AV→(Bool→AV→Al)→Al} (hf:∀a y K,VRel C w a y→f a K=some r→∃q a',VRel (RH b q C H) w a' y∧K q a'=some r):
 ∀(l:List (Value×AV)) (ms:List MapEntry) (K:Bool→List (Value×AV)→Al),JF C w l ms→YJ f l K=some r→∃q l',JF (RH b q C H) w l' ms∧K q l'=some r:=by
 intro l
 induction l with
 |nil=>intro ms K hl h;exact⟨false,[],⟨hl.1,λi p hp=>by simp at hp⟩,h⟩
 |cons p l ih=>
  intro ms K hl h
  cases ms with
  |nil=>exact absurd hl.1 (by simp)
  |cons m ms=>
   obtain⟨m',hm,hk,hv⟩:=hl.2 0 p rfl
   simp at hm
   subst hm
   have h:(f p.2 λq a'=>YJ f l λq' l'=>K (@Bool.rec (λ_=>Bool) q' true q) ((p.1,a')::l'))=some r:=h
   obtain⟨q,a',h3,h4⟩:=hf _ _ _ hv h
   obtain⟨q',l',h5,h6⟩:=ih ms _ ⟨by simpa using hl.1,λi x hx=>by simpa using hl.2 (i+1) x (by simpa using hx)⟩ h4
   refine⟨_,_,⟨by simpa using h5.1,λi x hx=> ?_⟩,h6⟩
   cases i with
   |zero=>simp at hx;subst hx;exact⟨m,rfl,hk,h3.mono (LP Y5)⟩
   |succ i=>
    obtain⟨m2,g1,g2,g3⟩:=h5.2 i x (by simpa using hx)
    exact⟨m2,by simpa using g1,g2,g3.mono (LP VM)⟩
theorem RG {a:AV} {y:Value} (hb:b=true) (hc:cl0 0 a=true) (h:VRel C w a y):VRel (RH b false C H) w a y:=
 VRel.down (by subst hb;funext k i;simp[RH]) (by subst hb;funext k;simp[RH]) 0 a y hc h
theorem A1p (hr:Rel G w0 C H w):∀(D:Nat) (a:AV) (y:Value) (K:Bool→AV→Al),VRel C w a y→Jg b H D a K=some r→∃q a',VRel (RH b q C H) w a' y∧K q a'=some r:=by
 intro D
 induction D with
 |zero=>
  intro a y K hv h
  change A6r b a K=some r at h
  unfold A6r at h
  split at h
  ·exact⟨false,_,by rw[AL.1 hv];exact .v _,h⟩
  ·obtain⟨h1,h⟩:=Br h;exact⟨false,_,RG h1 rfl hv,h⟩
  ·obtain⟨h1,h⟩:=Br h;exact⟨false,_,RG h1 rfl hv,h⟩
  ·obtain⟨h1,h⟩:=Br h;exact⟨false,_,RG h1 rfl hv,h⟩
  ·cases h
 |succ D ih=>
  intro a y K hv h
  have hL:= λl ys K=>YI (f:=Jg b H D) (b:=b) (H:=H) (C:=C) (w:=w) (r:=r) ih l ys K
  have hX:= λl ys K=>A6p (f:=Jg b H D) (b:=b) (H:=H) (C:=C) (w:=w) (r:=r) ih l ys K
  change A6q b H (Jg b H D) a K=some r at h
  unfold A6q at h
  split at h
  ·exact⟨false,_,by rw[AL.1 hv];exact .v _,h⟩
  ·obtain⟨h1,h⟩:=Br h;exact⟨false,_,RG h1 rfl hv,h⟩
  ·obtain⟨h1,h⟩:=Br h;exact⟨false,_,RG h1 rfl hv,h⟩
  ·obtain⟨h1,h⟩:=Br h;exact⟨false,_,RG h1 rfl hv,h⟩
  ·obtain⟨ys,rfl,hl⟩:=E6.1 hv
   obtain⟨q,l',h1,h2⟩:=hL _ _ _ hl h
   exact⟨q,_,E6.2 ⟨ys,rfl,h1⟩,h2⟩
  ·obtain⟨ys,rfl,hl⟩:=Dw.1 hv
   obtain⟨q,l',h1,h2⟩:=hL _ _ _ hl h
   exact⟨q,_,Dw.2 ⟨ys,rfl,h1⟩,h2⟩
  ·obtain⟨ys,zs,rfl,hl,hl'⟩:=GZ.1 hv
   obtain⟨q,l',h1,h2⟩:=hL _ _ _ hl h
   obtain⟨q',l'',h3,h4⟩:=hL _ _ _ hl' h2
   exact⟨_,_,GZ.2 ⟨ys,zs,rfl,h1.mono (LP Y5),h3.mono (LP VM)⟩,h4⟩
  ·rename_i sz s o n
   obtain⟨q0,e,cs,hlk,h1⟩:=J1 h
   obtain⟨hlen,h2⟩:=NI _ _ _ _ h1
   rw[C8] at hlen h2
   cases hv with
   |slz hrn=>
    have h2:HP (Jg b H D) ((cs.drop o).take (0*sz)) (λ_ c'=>K true (.list 0 c'))=some r:=h2
    rw[Nat.zero_mul,List.take_zero] at h2
    exact⟨true,_,.list0,h2⟩
   |@sl _ _ _ _ _ _ bk base cap arr T fz hp hcap hbk hfit=>
    rcases hr.rows s _ hlk with⟨_,h6⟩|⟨b',base',arr',fz',hd⟩
    ·rw[h6] at hp;cases hp
    ·have e':=hd.at_.symm.trans hp
     injection e' with e';injection e' with e';injection e' with e1 e2;subst e1 e2
     have hvals:Ca C w ((cs.drop o).take (n*sz)) ((((arr'.toList.drop base').take cs.length).drop o).take (n*sz)):=(hd.vals.unsel.drop o).take _
     obtain⟨q,l',h3,h4⟩:=hL _ _ _ hvals h2
     have h3:=h3.mono (LP (q':=true) (λ_=>rfl))
     have hll:l'.length=n*sz:=by
      rw[←h3.1,hvals.1,l0g]
      have:n*sz≤(cs.drop o).length:=hlen
      omega
     refine⟨true,_,.list hcap (λi=>((((arr'.toList.drop base').take cs.length).drop o).take (n*sz)).getD i undef) (λi hi=> .inr ⟨rfl,s,_,_,hlk,hp⟩) (λi hi=> ?_) (λi hi=> ?_),h4⟩
     ·have hi2:i<n*sz:=by omega
      have hi3:o+i<cs.length:=by have:n*sz≤(cs.drop o).length:=hlen;simp at this;omega
      rw[Xt,hd.cell]
      rw[Ul,l0m,if_pos hi2,l0d,l0m,if_pos hi3,l0d,l21]
      have hf:=hd.fits
      rw[l1k (by omega)];rfl
     ·have:=h3.get i hi
      rw[A3A,Ul,JV (by rw[h3.1];exact hi)]
      exact this
  ·rename_i s p k
   obtain⟨q0,e,cs,hlk,h2⟩:=J1 h
   rw[C8] at h2
   cases hv with
   |@ptr _ _ _ _ _ bk base hp=>
    rcases hr.rows s _ hlk with⟨_,h6⟩|⟨b',base',arr',fz',hd⟩
    ·rw[h6] at hp;cases hp
    ·have e':=hd.at_.symm.trans hp
     injection e' with e';injection e' with e';injection e' with e1 e2;subst e1 e2
     have hvals:Ca C w (cs.drop (p+k)) (((arr'.toList.drop base').take cs.length).drop (p+k)):=hd.vals.unsel.drop _
     obtain⟨q,l',h3,h4⟩:=hL _ _ _ hvals h2
     have h3:=h3.mono (LP (q':=true) (λ_=>rfl))
     have hll:l'.length=cs.length-(p+k):=by rw[←h3.1,hvals.1,l0t]
     refine⟨true,_,.iptr (λi=>(((arr'.toList.drop base').take cs.length).drop (p+k)).getD i undef) (λi hi=> .inr ⟨rfl,s,_,_,hlk,hp⟩) (λi hi=> ?_) (λi hi=> ?_),h4⟩
     ·have hi3:p+k+i<cs.length:=by omega
      rw[Xt,hd.cell]
      rw[Ul,l0d,l0m,if_pos hi3,l0d,l21]
      have hf:=hd.fits
      rw[l1k (by omega)];rfl
     ·have:=h3.get i hi
      rw[A3A,Ul,JV (by rw[h3.1];exact hi)]
      exact this
  ·rename_i s
   obtain⟨x,hlk,h2⟩:=G9 rfl h
   unfold B7d at h2
   split at h2
   ·rename_i es _bo
    cases hv with
    |@mp _ _ _ bk base hp=>
     obtain⟨bk',ms,clock,g1,g2,g3,g4,_⟩:=hr.rows s _ hlk
     have e':=g1.symm.trans hp
     injection e' with e';injection e' with e';injection e' with e1 e2;subst e1 e2
     obtain⟨q,l',h3,h4⟩:=hX _ _ _ g4 h2
     have h3:=h3.mono (LP (q':=true) (λ_=>rfl))
     have hlen:ms.size=l'.length:=by have:=h3.1;simpa using this
     have get:∀i (hi:i<l'.length),(ms.getD i default).key=l'[i].1∧VRel (RH b true C H) w l'[i].2 (ms.getD i default).val:= λi hi=>by
      obtain⟨m,k1,k2,k3⟩:=h3.2 i _ (JV hi)
      have:ms.getD i default=m:=by
       rw[l21] at k1
       simp[YK,k1]
      rw[this];exact⟨k2,k3⟩
     refine⟨true,_,.imap ms (.inr ⟨rfl,s,_,_,hlk,hp⟩) g2 hlen (λi hi=>(get i hi).1) (λi j hij hj=> ?_) (λi hi=> ?_) (λi hi=>(get i hi).2),h4⟩
     ·have:=l20.1 g3.born i j (by simpa using Nat.lt_trans hij hj) (by simpa using hj) hij
      simpa [YK,hj,Nat.lt_trans hij hj] using this
     ·have:=g3.lt ms[i] (by simp)
      simpa [YK,hi] using this
   ·cases h2
  ·cases h
end
end Go.Abs
end
