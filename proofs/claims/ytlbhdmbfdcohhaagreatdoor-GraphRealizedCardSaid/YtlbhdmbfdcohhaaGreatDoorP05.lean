import Derived.Test.YtlbhdmbfdcohhaaGreatDoorP04
set_option linter.all false
set_option maxHeartbeats 100000000
noncomputable section
namespace Go.Abs
open Go.RowKit
section
variable {T:Ty} {H:Hp} {r:AV×Hp}
def B6C (z:Int) (K:Int→Am):Am:=
 @Int.rec (λ_=>Am) (λn=>fN n λn=>@Bool.rec (λ_=>Am) (fI (IntKind.i64.wrap (.ofNat n)) K) (K (.ofNat n)) (Nat.blt n 9223372036854775808))
  (λn=>fN n λn=>@Bool.rec (λ_=>Am) (fI (IntKind.i64.wrap (.negSucc n)) K) (K (.negSucc n)) (Nat.blt n 9223372036854775808)) z
theorem B6B (z:Int) (K:Int→Am):B6C z K=K (IntKind.i64.wrap z):=by
 have key:∀x:Int, -9223372036854775808≤x→x<9223372036854775808→IntKind.i64.wrap x=x:= λx h1 h2=>by
  simp only[IntKind.wrap,IntKind.bits,IntKind.signed]
  have e1:(2^64:Int)=18446744073709551616:=by decide
  have e2:(2^(64-1):Int)=9223372036854775808:=by decide
  simp only[e1,e2,l16,decide_eq_true_eq]
  split<;>omega
 cases z with
 |ofNat n=>
  simp only[B6C,DX]
  cases h:Nat.blt n 9223372036854775808
  ·simp only[QT]
  ·rw[TS] at h
   rw[key _ (by simp only[Int.ofNat_eq_natCast];omega) (by simp only[Int.ofNat_eq_natCast];omega)]
 |negSucc n=>
  simp only[B6C,DX]
  cases h:Nat.blt n 9223372036854775808
  ·simp only[QT]
  ·rw[TS] at h
   rw[key _ (by omega) (by omega)]
def Lg (k:IntKind) (z:Int) (K:Int→Am):Am:=match k with| .i64=>B6C z K|k=>fI (k.wrap z) K
theorem Ga (k:IntKind) (z:Int) (K:Int→Am):Lg k z K=K (k.wrap z):=by
 cases k<;>first|exact B6B _ _|exact QT _ _
abbrev IT:=IntKind→Int→Int→(AV→Am)→Am
def B6u:IT:= λk a b K=>Lg k (Int.add a b) λz=>K (.v (.int k z))
def C3y:IT:= λk a b K=>Lg k (Int.sub a b) λz=>K (.v (.int k z))
def C3E:IT:= λk a b K=>Lg k (Int.mul a b) λz=>K (.v (.int k z))
def C3C:IT:= λk a b K=>ck (!ieq b 0) (Lg k (Int.tdiv a b) λz=>K (.v (.int k z)))
def C3B:IT:= λk a b K=>ck (!ieq b 0) (fI (Int.tmod a b) λz=>K (.v (.int k z)))
def B6t:IT:= λk a b K=>fI (k.wrap ((BitVec.ofInt k.bits a&&&BitVec.ofInt k.bits b).toNat)) λz=>K (.v (.int k z))
def iOr:IT:= λk a b K=>fI (k.wrap ((BitVec.ofInt k.bits a|||BitVec.ofInt k.bits b).toNat)) λz=>K (.v (.int k z))
def B6s:IT:= λk a b K=>fI (k.wrap ((BitVec.ofInt k.bits a^^^BitVec.ofInt k.bits b).toNat)) λz=>K (.v (.int k z))
def C3K:IT:= λk a b K=>fI (k.wrap ((BitVec.ofInt k.bits a&&& ~~~BitVec.ofInt k.bits b).toNat)) λz=>K (.v (.int k z))
def C3J:IT:= λ_ a b K=>bB (ieq a b) K
def C3D:IT:= λ_ a b K=>bB (!ieq a b) K
def C3F:IT:= λ_ a b K=>bB (!YL b a) K
def C3G:IT:= λ_ a b K=>bB (YL a b) K
def C3H:IT:= λ_ a b K=>bB (!YL a b) K
def C3I:IT:= λ_ a b K=>bB (YL b a) K
def C3A:IT:= λk a b K=>ck (YL 0 b) (Lg k (a*2^(min b.toNat k.bits)) λz=>K (.v (.int k z)))
def C3z:IT:= λk a b K=>ck (YL 0 b) (fI (a.fdiv (2^(min b.toNat k.bits))) λz=>K (.v (.int k z)))
def A7Y (op:BinOp):IT:=match op with
 | .add=>B6u| .sub=>C3y| .mul=>C3E| .quo=>C3C| .rem=>C3B| .and=>B6t| .or=>iOr| .xor=>B6s| .andNot=>C3K
 | .eql=>C3J| .neq=>C3D| .lss=>C3F| .leq=>C3G| .gtr=>C3H| .geq=>C3I| .shl=>C3A| .shr=>C3z
theorem A2U {op:BinOp} {k:IntKind} {a b:Int} {K:AV→Am} (h:A7Y op k a b K=some r):∃v,K (.v v)=some r∧(if Gi op then Xf op k a b=some v else Yw op k a b=some v):=by
 have hq:∀{x:Am},ck (!ieq b 0) x=some r→b≠0∧x=some r:= λh=>by
  obtain⟨h1,h2⟩:=Bm h
  refine⟨λe=> ?_,h2⟩
  subst e
  simp[Ns] at h1
 have hs:∀{x:Am},ck (YL 0 b) x=some r→0≤b∧x=some r:= λh=>by
  obtain⟨h1,h2⟩:=Bm h
  rw[Jc] at h1
  exact⟨by simpa using h1,h2⟩
 cases op<;>simp only[A7Y,B6u,C3y,C3E,C3C,C3B,B6t,iOr,B6s,C3K,C3J,C3D,C3F,C3G,C3H,C3I,C3A,C3z,Ga,QT,Lz] at h<;>try (cases h;done)
 case add=>exact⟨_,h,rfl⟩
 case sub=>exact⟨_,h,rfl⟩
 case mul=>exact⟨_,h,rfl⟩
 case quo=>
  obtain⟨h1,h2⟩:=hq h
  exact⟨_,h2,by simp[Gi,Yw,h1]⟩
 case rem=>
  obtain⟨h1,h2⟩:=hq h
  exact⟨_,h2,by simp[Gi,Yw,h1]⟩
 case and=>exact⟨_,h,rfl⟩
 case or=>exact⟨_,h,rfl⟩
 case xor=>exact⟨_,h,rfl⟩
 case andNot=>exact⟨_,h,rfl⟩
 case shl=>
  obtain⟨h1,h2⟩:=hs h
  exact⟨_,h2,by simp only[Gi,if_true,Xf];rw[if_neg (by omega)]⟩
 case shr=>
  obtain⟨h1,h2⟩:=hs h
  exact⟨_,h2,by simp only[Gi,if_true,Xf];rw[if_neg (by omega)]⟩
 case eql=>exact⟨_,h,by simp only[Gi,Yw,Ns];rw[show(a==b)=decide (a=b) from by by_cases e:a=b<;>simp[e]];simp⟩
 case neq=>exact⟨_,h,by simp only[Gi,Yw,Ns,bne];rw[show(a==b)=decide (a=b) from by by_cases e:a=b<;>simp[e]];simp⟩
 case lss=>exact⟨_,h,by simp only[Gi,Yw,Jc];rw[show(!decide (b≤a))=decide (a<b) from by rw[YK];simp];simp⟩
 case leq=>exact⟨_,h,by simp[Gi,Yw,Jc]⟩
 case gtr=>exact⟨_,h,by simp only[Gi,Yw,Jc];rw[show(!decide (a≤b))=decide (a>b) from by rw[YK];simp];simp⟩
 case geq=>exact⟨_,h,by simp[Gi,Yw,Jc]⟩
def eqB (a:List UInt8):List UInt8→Bool:=
 @List.rec UInt8 (λ_=>List UInt8→Bool) (λb=>@List.rec UInt8 (λ_=>Bool) true (λ_ _ _=>false) b)
  (λx _ ih b=>@List.rec UInt8 (λ_=>Bool) false (λy l _=>@Bool.rec (λ_=>Bool) false (ih l) (Nat.beq x.toNat y.toNat)) b) a
theorem OR (a:List UInt8):∀b,eqB a b=(a==b):=by
 induction a with
 |nil=>intro b;cases b<;>rfl
 |cons x a ih=>
  intro b
  cases b with
  |nil=>rfl
  |cons y b=>
   have e:eqB (x::a) (y::b)=@Bool.rec (λ_=>Bool) false (eqB a b) (Nat.beq x.toNat y.toNat):=rfl
   rw[e,ih]
   cases h:Nat.beq x.toNat y.toNat
   ·have:x≠y:= λe=>by rw[e,l29] at h;cases h
    simp[this]
   ·have:x=y:=UInt8.toNat_inj.1 (Uq h)
    simp[this]
def ltB (a:List UInt8):List UInt8→Bool:=
 @List.rec UInt8 (λ_=>List UInt8→Bool) (λb=>@List.rec UInt8 (λ_=>Bool) false (λ_ _ _=>true) b)
  (λx _ ih b=>@List.rec UInt8 (λ_=>Bool) false (λy l _=>@Bool.rec (λ_=>Bool) (@Bool.rec (λ_=>Bool) false (ih l) (Nat.beq x.toNat y.toNat)) true (Nat.blt x.toNat y.toNat)) b) a
theorem A7x (a:List UInt8):∀b,ltB a b=Op.bytesLess a b:=by
 induction a with
 |nil=>intro b;cases b<;>rfl
 |cons x a ih=>
  intro b
  cases b with
  |nil=>rfl
  |cons y b=>
   have e:ltB (x::a) (y::b)=@Bool.rec (λ_=>Bool) (@Bool.rec (λ_=>Bool) false (ltB a b) (Nat.beq x.toNat y.toNat)) true (Nat.blt x.toNat y.toNat):=rfl
   rw[e,ih,Op.bytesLess]
   have h1:(Nat.blt x.toNat y.toNat)=decide (x<y):=by
    rw[YK];simp[TS,UInt8.lt_iff_toNat_lt]
   have h2:(Nat.beq x.toNat y.toNat)=(x==y):=by
    rw[YK];simp[Zb,UInt8.toNat_inj]
   rw[h1,h2]
   cases decide (x<y)
   ·cases (x==y)<;>rfl
   ·rfl
def C1j (op:BinOp) (a b:ByteArray) (K:AV→Am):Am:=
 match op with
 | .add=>UZ a.data.toList b.data.toList λl=>ck (Nat.blt l.length 9223372036854775808) (K (.v (.string ⟨⟨l⟩⟩)))
 | .eql=>bB (eqB a.data.toList b.data.toList) K
 | .neq=>bB (!eqB a.data.toList b.data.toList) K
 | .lss=>bB (ltB a.data.toList b.data.toList) K
 | .leq=>bB (ltB a.data.toList b.data.toList||eqB a.data.toList b.data.toList) K
 | .gtr=>bB (!(ltB a.data.toList b.data.toList||eqB a.data.toList b.data.toList)) K
 | .geq=>bB (!ltB a.data.toList b.data.toList) K
 |_=>none
theorem SS (a:ByteArray):a.toList=a.data.toList:=ByteArray.toList_eq a
theorem B0G {op:BinOp} {a b:ByteArray} {K:AV→Am} (h:C1j op a b K=some r):∃v,K (.v v)=some r∧B0b op a b=some v:=by
 cases op<;>simp only[C1j,Lz,Ll,OR,A7x] at h<;>try (cases h;done)
 case add=>
  obtain⟨h1,h2⟩:=Bm h
  refine⟨_,h2,?_⟩
  rw[TS] at h1
  have hmax:IntKind.i64.max=9223372036854775807:=by decide
  have hs:a.size+b.size=(a.data.toList++b.data.toList).length:=by rw[F5];rfl
  simp only[B0b]
  rw[if_neg (by rw[hmax];omega)]
  congr 2
 all_goals exact⟨_,h,by simp[B0b,SS]⟩
def Aj (i:TI) (op:BinOp) (a b:AV) (K:AV→Am):Am:=
 match a,b with
 | .v (.int k m),.v (.int k' n)=>@Bool.rec (λ_=>Am) (ck (decide (k=k')) (A7Y op k m n K)) (A7Y op k m n K) (Gi op)
 | .v (.string s),.v (.string u)=>C1j op s u K
 | .v (.bool p),.v (.bool q)=>match i.d,op with
  | .bool,.eql=>bB (p==q) K
  | .bool,.neq=>bB (!(p==q)) K
  |_,_=>none
 |a,b=>match A5g i.d a b,op with
  |some q,.eql=>bB q K
  |some q,.neq=>bB (!q) K
  |_,_=>none
theorem A2Y {ty:TypeId} {i:TI} {op:BinOp} {a b:AV} {K:AV→Am} (hT:T ty=some i) (h:Aj i op a b K=some r):∃v,K v=some r∧Zz T op ty a b (λv'=>v'=v):=by
 unfold Aj at h
 split at h
 ·rename_i k m k' n
  cases hs:Gi op
  ·rw[hs] at h
   obtain⟨h1,h2⟩:=Bm h
   obtain⟨v,h3,h4⟩:=A2U h2
   rw[hs] at h4
   exact⟨_,h3,by simp only[Zz,hs,l0z,if_false];exact⟨by simpa using h1,by simp only[l0z,if_false] at h4;rw[h4];rfl⟩⟩
  ·rw[hs] at h
   obtain⟨v,h3,h4⟩:=A2U h
   rw[hs] at h4
   exact⟨_,h3,by simp only[Zz,hs,if_true];simp only[if_true] at h4;rw[h4];rfl⟩
 ·obtain⟨v,h3,h4⟩:=B0G h
  exact⟨_,h3,by simp only[Zz];rw[h4];rfl⟩
 ·rename_i p q
  split at h
  ·rename_i hd
   rw[Lz] at h
   exact⟨_,h,by simp only[Zz];exact⟨⟨i,hT,hd⟩,trivial⟩⟩
  ·rename_i hd
   rw[Lz] at h
   exact⟨_,h,by simp only[Zz];exact⟨⟨i,hT,hd⟩,trivial⟩⟩
  ·cases h
 ·rename_i h1 h2 h3
  have hx:∀Kp:AV→Prop,(∃q,A5g i.d a b=some q∧((op= .eql∧Kp (.v (.bool q)))∨(op= .neq∧Kp (.v (.bool (!q))))))→Zz T op ty a b Kp:= λKp hk=>by
   obtain⟨q,hq,hk⟩:=hk
   unfold Zz
   split
   ·exact(h1 _ _ _ _ rfl rfl).elim
   ·exact(h2 _ _ rfl rfl).elim
   ·exact(h3 _ _ rfl rfl).elim
   ·rw[hT]
    simp only[hq]
    rcases hk with⟨rfl,hk⟩|⟨rfl,hk⟩<;>exact hk
  cases hq:A5g i.d a b with
  |none=>rw[hq] at h;cases h
  |some q=>
   rw[hq] at h
   cases op<;>first|(cases h;done)|skip
   ·simp only[Lz] at h;exact⟨_,h,hx _ ⟨q,hq,.inl ⟨rfl,rfl⟩⟩⟩
   ·simp only[Lz] at h;exact⟨_,h,hx _ ⟨q,hq,.inr ⟨rfl,rfl⟩⟩⟩
def EP (op:UnOp) (a:AV) (K:AV→Am):Am:=
 match op,a with
 | .neg,.v (.int k n)=>Lg k (Int.sub 0 n) λz=>K (.v (.int k z))
 | .xor,.v (.int k n)=>fI (k.wrap ((BitVec.ofInt k.bits (if k.signed then-1 else k.max)^^^BitVec.ofInt k.bits n).toNat)) λz=>K (.v (.int k z))
 | .not,.v (.bool b)=>bB (!b) K
 |_,_=>none
theorem B3F {op:UnOp} {a:AV} {K:AV→Am} (h:EP op a K=some r):∃v,K v=some r∧xun op a (λv'=>v'=v):=by
 unfold EP at h
 split at h
 ·rw[Ga] at h;exact⟨_,h,rfl⟩
 ·rw[QT] at h;exact⟨_,h,rfl⟩
 ·rw[Lz] at h;exact⟨_,h,rfl⟩
 ·cases h
def EO (i j:TI) (a:AV) (K:AV→Am):Am:=
 match j.d,a with
 | .int k,.v (.int _ n)=>Lg k n λz=>K (.v (.int k z))
 | .string,.v (.string s)=>match i.d with| .string=>K (.v (.string s))|_=>none
 |_,_=>none
theorem A84 {s d:TypeId} {i j:TI} {a:AV} {K:AV→Am} (hi:T s=some i) (hj:T d=some j) (h:EO i j a K=some r):∃v,K v=some r∧A2j T s d a (λv'=>v'=v):=by
 unfold EO at h
 split at h
 ·rename_i hd
  rw[Ga] at h
  exact⟨_,h,by simp only[A2j,hi,hj,hd]⟩
 ·rename_i hd
  split at h
  ·rename_i hs
   exact⟨_,h,by simp only[A2j,hi,hj,hd,hs];exact⟨trivial,trivial⟩⟩
  ·cases h
 ·cases h
end
section
variable {T:Ty} {H:Hp} {r:AV×Hp}
def AH (off:Nat) (v:AV) (K:AV→Am):Am:=
 match v with
 | .ptr s p k=>fN (Nat.add (Nat.add p k) off) λo=>K (.ptr s o 0)
 | .iptr cs=>K (.iptr (Da off cs))
 |_=>none
theorem B3O {ty:TypeId} {i:TI} {v:AV} {f off sz ft:Nat} {fs:List (Nat×Nat×TypeId)} {K:AV→Am} (hT:T ty=some i) (hd:i.d= .struct fs) (hf:fs[f]?=some (off,sz,ft)) (hz:sz≠0) (h:AH off v K=some r):∃u,K u=some r∧WI T ty v f (λv'=>v'=u):=by
 unfold AH at h
 split at h
 ·rw[DX] at h
  refine⟨_,h,?_⟩
  simp only[WI,hT,hd,hf]
  exact⟨hz,_,0,by simp[WC],rfl⟩
 ·rw[Ct] at h
  refine⟨_,h,?_⟩
  simp only[WI,hT,hd,hf]
  exact⟨hz,trivial⟩
 ·cases h
def A7Z (off:Nat) (j:TI) (v:AV) (K:AV→Am):Am:=
 match v with
 | .agg cs=>XW j (Da off cs) K
 |_=>none
theorem B0Q {ty:TypeId} {i j:TI} {v:AV} {f off sz ft:Nat} {fs:List (Nat×Nat×TypeId)} {K:AV→Am} (hT:T ty=some i) (hd:i.d= .struct fs) (hf:fs[f]?=some (off,sz,ft)) (hj:T ft=some j) (h:A7Z off j v K=some r):∃u,K u=some r∧Zw T ty v f (λv'=>v'=u):=by
 unfold A7Z at h
 split at h
 ·rw[Ct] at h
  obtain⟨u,h1,h2⟩:=Sf (T:=T) (ty:=ft) hj h
  exact⟨u,h1,by simp only[Zw,hT,hd,hf];exact h2⟩
 ·cases h
def A3V (a:AV) (K:Int→Am):Am:=match a with| .v (.int _ n)=>K n|_=>none
theorem Mi {a:AV} {K:Int→Am} (h:A3V a K=some r):∃k n,a= .v (.int k n)∧K n=some r:=by
 unfold A3V at h
 split at h
 ·exact⟨_,_,rfl,h⟩
 ·cases h
def B1 (i:TI) (x ix:AV) (K:AV→Am):Am:=
 A3V ix λz=>iN z λn=>match i.d,x with
  | .slice _ esz,.list m cs=>ck (Nat.blt n m) (QQ esz (Da (Nat.mul n esz) cs) λc=>K (.iptr c))
  | .slice _ esz,.sl _ s o m=>ck (Nat.blt n m) (fN (Nat.add o (Nat.mul n esz)) λp=>K (.ptr s p 0))
  | .array m _ esz,.ptr s p k=>ck (Nat.blt n m) (fN (Nat.add (Nat.add p k) (Nat.mul n esz)) λq=>K (.ptr s q 0))
  | .array m _ esz,.iptr cs=>ck (Nat.blt n m) (QQ esz (Da (Nat.mul n esz) cs) λc=>K (.iptr c))
  |_,_=>none
theorem B3M {ty:TypeId} {i:TI} {x ix:AV} {K:AV→Am} (hT:T ty=some i) (h:B1 i x ix K=some r):∃u,K u=some r∧Zv T ty x ix (λv'=>v'=u):=by
 unfold B1 at h
 obtain⟨k,z,rfl,h'⟩:=Mi h
 clear h
 obtain⟨n,rfl,h⟩:=RW h'
 clear h'
 unfold Zv
 rw[hT]
 simp only
 split at h
 ·rename_i hd
  obtain⟨h1,h⟩:=Bm h
  rw[Lh,Ct] at h
  rw[TS] at h1
  exact⟨_,h,by simp only[hd,WB];exact⟨⟨by omega,by omega⟩,rfl⟩⟩
 ·rename_i hd
  obtain⟨h1,h⟩:=Bm h
  rw[DX] at h
  rw[TS] at h1
  exact⟨_,h,by simp only[hd,WB];exact⟨⟨by omega,by omega⟩,rfl⟩⟩
 ·rename_i hd
  obtain⟨h1,h⟩:=Bm h
  rw[DX] at h
  rw[TS] at h1
  exact⟨_,h,by simp only[hd,WB];exact⟨⟨by omega,by omega⟩,_,0,by simp[WC],rfl⟩⟩
 ·rename_i hd
  obtain⟨h1,h⟩:=Bm h
  rw[Lh,Ct] at h
  rw[TS] at h1
  exact⟨_,h,by simp only[hd,WB];exact⟨⟨by omega,by omega⟩,rfl⟩⟩
 ·cases h
def B7P (l:List UInt8) (K:AV→Am):Am:=@List.rec UInt8 (λ_=>Am) none (λb _ _=>fN b.toNat λn=>K (.v (.int .u8 (.ofNat n)))) l
def Sh (i j:TI) (x ix:AV) (K:AV→Am):Am:=
 A3V ix λz=>iN z λn=>match i.d,x with
  | .string,.v (.string s)=>B7P (Da n s.data.toList) K
  | .array m _ esz,.agg cs=>ck (Nat.blt n m) (XW j (Da (Nat.mul n esz) cs) K)
  |_,_=>none
def Wn (i:TI):Option TypeId:=match i.d with| .array _ e _=>some e| .slice e _=>some e|_=>none
theorem B0P {ty:TypeId} {i j:TI} {x ix:AV} {K:AV→Am} (hT:T ty=some i) (hj:∀e,Wn i=some e→T e=some j) (h:Sh i j x ix K=some r):∃u,K u=some r∧Zu T ty x ix (λv'=>v'=u):=by
 unfold Sh at h
 obtain⟨k,z,rfl,h'⟩:=Mi h
 clear h
 obtain⟨n,rfl,h⟩:=RW h'
 clear h'
 unfold Zu
 rw[hT]
 simp only
 split at h
 ·rename_i s hd
  rw[Ct] at h
  cases hl:s.data.toList.drop n with
  |nil=>rw[hl] at h;cases h
  |cons b l=>
   rw[hl] at h
   have h:(fN b.toNat λn=>K (.v (.int .u8 (.ofNat n))))=some r:=h
   rw[DX] at h
   have hlt:n<s.data.toList.length:=by
    have:=congrArg List.length hl
    simp at this
    simp
    omega
   have hb:s.data.toList[n]?=some b:=by
    have:=congrArg (λl=>l[0]?) hl
    simpa using this
   refine⟨_,h,?_⟩
   simp only[hd,WB]
   refine⟨⟨by omega,?_⟩,?_⟩
   ·have:s.size=s.data.toList.length:=rfl
    omega
   ·rw[Tw,hb];rfl
 ·rename_i m e esz cs hd
  obtain⟨h1,h⟩:=Bm h
  rw[Ct] at h
  rw[TS] at h1
  obtain⟨u,h2,h3⟩:=Sf (T:=T) (ty:=e) (hj e (by simp[Wn,hd])) h
  exact⟨u,h2,by simp only[hd,WB];exact⟨⟨by omega,by omega⟩,h3⟩⟩
 ·cases h
def QW (x:Option AV) (d:Nat) (K:Nat→Am):Am:=
 match x with
 |none=>fN d K
 |some a=>A3V a λz=>iN z K
theorem Gy {x:Option AV} {d:Nat} {K:Nat→Am} (h:QW x d K=some r):∃n:Nat,TW x d=some (n:Int)∧K n=some r:=by
 unfold QW at h
 split at h
 ·rw[DX] at h;exact⟨d,rfl,h⟩
 ·obtain⟨k,z,rfl,h1⟩:=Mi h
  obtain⟨n,rfl,h2⟩:=RW h1
  exact⟨n,rfl,h2⟩
def Ei (i:TI) (x:AV) (lo hi mx:Option AV) (K:AV→Am):Am:=
 match i.d,x with
 | .string,.v (.string s)=>ck mx.isNone (QW lo 0 λl=>Hw s.data.toList 0 λm=>QW hi m λh=>ck (Nat.ble l h&&Nat.ble h m) (QQ (Nat.sub h l) (Da l s.data.toList) λb=>K (.v (.string ⟨⟨b⟩⟩))))
 | .slice _ esz,.list m cs=>QW lo 0 λl=>QW hi m λh=>QW mx m λx=>ck ((mx.isNone||hi.isSome)&&(Nat.ble l h&&(Nat.ble h x&&Nat.ble x m))) (fN (Nat.sub h l) λn=>QQ (Nat.mul n esz) (Da (Nat.mul l esz) cs) λc=>K (.list n c))
 | .slice _ esz,.sl sz s o m=>ck (Nat.beq esz sz) (QW lo 0 λl=>QW hi m λh=>QW mx m λx=>ck ((mx.isNone||hi.isSome)&&(Nat.ble l h&&(Nat.ble h x&&Nat.ble x m))) (fN (Nat.add o (Nat.mul l esz)) λo'=>fN (Nat.sub h l) λn=>K (.sl sz s o' n)))
 | .slice _ _,.v (.slice none 0 0)=>ck mx.isNone (QW lo 0 λl=>QW hi 0 λh=>ck (Nat.beq l 0&&Nat.beq h 0) (K (.v (.slice none 0 0))))
 |_,_=>none
theorem A5N {ty:TypeId} {i:TI} {x:AV} {lo hi mx:Option AV} {K:AV→Am} (hT:T ty=some i) (h:Ei i x lo hi mx K=some r):∃u,K u=some r∧Zs T ty x lo hi mx (λv'=>v'=u):=by
 unfold Ei at h
 unfold Zs
 rw[hT]
 simp only
 split at h
 ·rename_i s hd
  obtain⟨h0,h⟩:=Bm h
  obtain⟨l,hl,h⟩:=Gy h
  rw[C4] at h
  obtain⟨n,hn,h⟩:=Gy h
  obtain⟨h1,h⟩:=Bm h
  rw[Lh,Ct] at h
  simp only[Iv,Xu] at h1
  have hz:0+s.data.toList.length=s.size:=Le _
  rw[hz] at hn h1
  refine⟨_,h,?_⟩
  simp only[hd,hl,hn,Jt,WB]
  refine⟨h0,⟨by omega,by omega,by omega⟩,?_⟩
  congr 2
  apply ByteArray.ext
  apply Zc
  simp only[ByteArray.data_extract,Array.toList_extract,List.extract]
  rfl
 ·rename_i e esz m cs hd
  obtain⟨l,hl,h⟩:=Gy h
  obtain⟨n,hn,h⟩:=Gy h
  obtain⟨y,hy,h⟩:=Gy h
  obtain⟨h1,h⟩:=Bm h
  rw[DX,Lh,Ct] at h
  simp only[Iv,Xu] at h1
  refine⟨_,h,?_⟩
  have e1:((n:Int)-l).toNat=n-l:=by omega
  simp only[hd,hl,hn,hy,Jt,WB,e1]
  refine⟨⟨by omega,by omega,by omega,by omega⟩,λhm=> ?_,rfl⟩
  cases mx with
  |none=>simp at hm
  |some _=>simpa using h1.1
 ·rename_i e esz sz s o m hd
  obtain⟨h0,h⟩:=Bm h
  obtain⟨l,hl,h⟩:=Gy h
  obtain⟨n,hn,h⟩:=Gy h
  obtain⟨y,hy,h⟩:=Gy h
  obtain⟨h1,h⟩:=Bm h
  rw[DX,DX] at h
  simp only[Iv,Xu] at h1
  refine⟨_,h,?_⟩
  have e1:((n:Int)-l).toNat=n-l:=by omega
  simp only[hd,hl,hn,hy,Jt,WB,e1]
  refine⟨Uq h0,⟨by omega,by omega,by omega,by omega⟩,λhm=> ?_,rfl⟩
  cases mx with
  |none=>simp at hm
  |some _=>simpa using h1.1
 ·rename_i e esz hd
  obtain⟨h0,h⟩:=Bm h
  obtain⟨l,hl,h⟩:=Gy h
  obtain⟨n,hn,h⟩:=Gy h
  obtain⟨h1,h⟩:=Bm h
  simp only[Iv,Zb] at h1
  refine⟨_,h,?_⟩
  simp only[hd,hl,hn,Jt]
  exact⟨h0,⟨by omega,by omega⟩,trivial⟩
 ·cases h
def A9 (v:AV) (k:Nat) (K:AV→Am):Am:=match v with| .tup vs=>hdK (Da k vs) K|_=>none
theorem B0R {v:AV} {k:Nat} {K:AV→Am} (h:A9 v k K=some r):∃vs u,v= .tup vs∧vs[k]?=some u∧K u=some r:=by
 unfold A9 at h
 split at h
 ·rename_i vs
  rw[Ct] at h
  obtain⟨a,l,hl,h⟩:=A5C h
  refine⟨vs,a,rfl,?_,h⟩
  have:=congrArg (λl=>l[0]?) hl
  simpa using this
 ·cases h
def AM (i:TI) (x:AV) (K:AV→Am):Am:=
 match i.d,x with
 | .string,.v (.string s)=>Hw s.data.toList 0 λn=>K (.v (.int .i64 (.ofNat n)))
 | .slice _ _,.list n _=>K (.v (.int .i64 (.ofNat n)))
 | .slice _ _,.sl _ _ _ n=>K (.v (.int .i64 (.ofNat n)))
 | .slice _ _,.v (.slice none 0 0)=>K (.v (.int .i64 (.ofNat 0)))
 | .array n _ _,_=>K (.v (.int .i64 (.ofNat n)))
 |_,_=>none
theorem B0O {ty:TypeId} {i:TI} {x:AV} {K:AV→Am} (hT:T ty=some i) (h:AM i x K=some r):∃u,K u=some r∧B1r T ty x (λv'=>v'=u):=by
 unfold AM at h
 unfold B1r
 rw[hT]
 simp only
 split at h
 ·rename_i s hd
  rw[C4] at h
  refine⟨_,h,?_⟩
  simp only[hd]
  rw[Le];rfl
 ·rename_i hd;exact⟨_,h,by simp only[hd];rfl⟩
 ·rename_i hd;exact⟨_,h,by simp only[hd];rfl⟩
 ·rename_i hd;exact⟨_,h,by simp only[hd];rfl⟩
 ·rename_i hd;exact⟨_,h,by simp only[hd];rfl⟩
 ·cases h
def eMM (isMin:Bool) (a b:AV) (K:AV→Am):Am:=
 match a,b with
 | .v (.int k x),.v (.int k' y)=>ck (decide (k=k')) (@Bool.rec (λ_=>Am) (@Bool.rec (λ_=>Am) (K (.v (.int k y))) (K (.v (.int k x))) (YL y x)) (@Bool.rec (λ_=>Am) (K (.v (.int k y))) (K (.v (.int k x))) (YL x y)) isMin)
 | .v (.string s),.v (.string u)=>@Bool.rec (λ_=>Am) (K (.v (.string u))) (K (.v (.string s))) (@Bool.rec (λ_=>Bool) (!ltB s.data.toList u.data.toList) (ltB s.data.toList u.data.toList||eqB s.data.toList u.data.toList) isMin)
 |_,_=>none
theorem A5S {isMin:Bool} {a b:AV} {K:AV→Am} (h:eMM isMin a b K=some r):∃u,K u=some r∧xmm isMin a b (λv'=>v'=u):=by
 unfold eMM at h
 split at h
 ·rename_i k x k' y
  obtain⟨h1,h⟩:=Bm h
  simp only[xmm]
  have hk:k=k':=by simpa using h1
  cases isMin
  ·rw[Jc] at h
   by_cases hxy:y≤x
   ·rw[decide_eq_true hxy] at h
    exact⟨_,h,hk,by rw[if_neg (by simp),if_neg (by omega)]⟩
   ·rw[decide_eq_false hxy] at h
    exact⟨_,h,hk,by rw[if_neg (by simp),if_pos (by omega)]⟩
  ·rw[Jc x y] at h
   by_cases hxy:x≤y
   ·rw[decide_eq_true hxy] at h
    exact⟨_,h,hk,by rw[if_pos rfl,if_neg (by omega)]⟩
   ·rw[decide_eq_false hxy] at h
    exact⟨_,h,hk,by rw[if_pos rfl,if_pos (by omega)]⟩
 ·rename_i s u
  simp only[xmm]
  cases isMin
  ·simp only[A7x,SS] at h⊢
   cases hb:(!Op.bytesLess s.data.toList u.data.toList)<;>(rw[hb] at h;exact⟨_,h,rfl⟩)
  ·simp only[A7x,OR,SS] at h⊢
   cases hb:(Op.bytesLess s.data.toList u.data.toList||s.data.toList==u.data.toList)<;>(rw[hb] at h;exact⟨_,h,rfl⟩)
 ·cases h
end
def Ctx.delB (C:Ctx) (b:Nat):Ctx:={C with B:= λk=>C.B k∧k≠b}
section
variable {P:Program} {G:Gl} {w0:Base} {C:Ctx} {H:Hp} {w w':World} {b:Nat} {o o':Obj}
theorem A48 (hb:w.heap[b]?=some o) (ho:∀arr T fz,o≠.cells arr T fz) {k i:Nat} {v:Value} (h:w.cell? ⟨k,i,none⟩=some v):k≠b:=by
 intro e
 subst e
 simp only[World.cell?,hb] at h
 cases o<;>simp at h
 exact ho _ _ _ rfl
theorem SameObj.cell (hs:SameObj w w' b o') {k i:Nat} (hk:k≠b):w'.cell? ⟨k,i,none⟩=w.cell? ⟨k,i,none⟩:=l0s (hs.others k hk)
theorem VRel.shut (hb:w.heap[b]?=some (.deferred (some []))) (hs:SameObj w w' b o') {a:AV} {y:Value} (h:VRel C w a y):VRel (C.delB b) w' a y:=by
 have hno:∀arr T fz,(Obj.deferred (some []):Obj)≠.cells arr T fz:= λ_ _ _ h=>by cases h
 induction h with
 |v x=>exact .v x
 |ptr h=>exact .ptr h
 |iptr vs hF hc _ ih=>exact .iptr vs hF (λi hi=>(hs.cell (A48 hb hno (hc i hi))).trans (hc i hi)) (λi hi=>ih i hi hb hs)
 |list0=>exact .list0
 |list h vs hF hc _ ih=>exact .list h vs hF (λi hi=>(hs.cell (A48 hb hno (hc i hi))).trans (hc i hi)) (λi hi=>ih i hi hb hs)
 |sl h hcap hbk hsz=>exact .sl h hcap ((hs.others _ (λe=>by subst e;rw[hb] at hbk;cases hbk)).trans hbk) hsz
 |slz hr=>exact .slz hr
 |fn ys zs hl hl' _ _ ihy ihz=>exact .fn ys zs hl hl' (λi hi=>ihy i hi hb hs) (λi hi=>ihz i hi hb hs)
 |agg ys hl _ ih=>exact .agg ys hl (λi hi=>ih i hi hb hs)
 |tup ys hl _ ih=>exact .tup ys hl (λi hi=>ih i hi hb hs)
 |mp h=>exact .mp h
 |@imap C w es b2 clock ms hB hbk hl hk hn hc _ ih=>
  have hne:b2≠b:= λe=>by subst e;rw[hb] at hbk;cases hbk
  exact .imap ms ⟨hB,hne⟩ ((hs.others _ hne).trans hbk) hl hk hn hc (λi hi=>ih i hi hb hs)
 |yl h=>exact .yl h
 |it h=>exact .it h
 |dk y=>exact .dk y
theorem BV.shut (hb:w.heap[b]?=some (.deferred (some []))) (hs:SameObj w w' b o') {aZ:List AV} {ys:List Value} (h:BV C w aZ ys):BV (C.delB b) w' aZ ys:=
 ⟨h.1,λi a ha=>let⟨y,hy,hv⟩:=h.2 i a ha;⟨y,hy,hv.shut hb hs⟩⟩
theorem Jj.shut (hb:w.heap[b]?=some (.deferred (some []))) (hs:SameObj w w' b o') {es:List (Value×AV)} {ms:List MapEntry} (h:Jj C w es ms):Jj (C.delB b) w' es ms:=
 ⟨h.1,λi p hp=>let⟨m,hm,hk,hv⟩:=h.2 i p hp;⟨m,hm,hk,hv.shut hb hs⟩⟩
theorem Vg.shut (hb:w.heap[b]?=some (.deferred (some []))) (hs:SameObj w w' b o') {ms:Array MapEntry} {seen:Array Nat}:∀{x:Option (Value×AV)},Vg C w ms seen x→Vg (C.delB b) w' ms seen x
 |none,_=>trivial
 |some _,⟨m,h1,h2,h3,h4⟩=>⟨m,h1,h2,h3,h4.shut hb hs⟩
theorem Sn.shut (hb:w.heap[b]?=some (.deferred (some []))) (hs:SameObj w w' b o') {t:Tm} {tmps:Array Value} (h:Sn C w t tmps):Sn (C.delB b) w' t tmps:= λi=>(h i).shut hb hs
theorem A4Q (q:Bool):(C.delB b).sel q=(C.sel q).delB b:=by cases q<;>rfl
theorem OY.shut (hb:w.heap[b]?=some (.deferred (some []))) (hs:SameObj w w' b o') {r:Nat} {x:Row} (h:OY C w r x):OY (C.delB b) w' r x:=by
 have ne:∀{k:Nat} {q:Obj},w.heap[k]?=some q→(∀l,q≠.deferred l)→k≠b:= λhk hq e=>by
  subst e;rw[hb] at hk;injection hk with hk;exact hq _ hk.symm
 cases x with
 |cells q T cs=>
  rcases h with⟨h1,h2⟩|⟨k,base,arr,fz,h⟩
  ·exact .inl ⟨h1,h2⟩
  ·refine .inr ⟨k,base,arr,fz,h.at_,(hs.others k (ne h.block (λ_ e=>by cases e))).trans h.block,h.free,h.fits,?_,h.exact⟩
   rw[A4Q];exact h.vals.shut hb hs
 |map q es bo=>
  obtain⟨k,ms,clock,h1,h3,h4,h5,h6⟩:=h
  refine⟨k,ms,clock,h1,(hs.others k (ne h3 (λ_ e=>by cases e))).trans h3,h4,?_,h6⟩
  rw[A4Q];exact h5.shut hb hs
 |loop N t ps aZ bd pend=>
  obtain⟨k,l,h1,h2,h3,h4,h5,h6,h7,h8,h9⟩:=h
  exact⟨k,l,h1,(hs.others k (ne h2 (λ_ e=>by cases e))).trans h2,h3,h4,h5,h6,h7,h8,h9.shut hb hs⟩
 |iter left lst=>
  obtain⟨k,mo,since,seen,last,h1,h2,h3⟩:=h
  refine⟨k,mo,since,seen,last,h1,(hs.others k (ne h2 (λ_ e=>by cases e))).trans h2,?_⟩
  rcases h3 with h3|⟨m,ms,clock,e1,e2,e3,h4,h5,h6,h7,h8⟩
  ·exact .inl h3
  ·have hm:=ne h5 (λ_ e=>by cases e)
   exact .inr ⟨m,ms,clock,e1,e2,e3,⟨h4,hm⟩,(hs.others m hm).trans h5,h6,h7.shut (C:=C.bare) hb hs,h8.shut (C:=C.bare) hb hs⟩
 |gone=>trivial
theorem Rel.shut (h:Rel G w0 C H w) (hb:w.heap[b]?=some (.deferred (some []))) (ho:w0.own b) (hs:SameObj w w' b o'):Rel G w0 (C.delB b) H w':=by
 have hno:∀arr T fz,(Obj.deferred (some []):Obj)≠.cells arr T fz:= λ_ _ _ h=>by cases h
 refine⟨λg cs hg i v hv=> ?_,h.below.same_obj hs ho,h.lt,λr x hx=>(h.rows r x hx).shut hb hs,λr x k o hx hp=> ?_,h.sep,λk i hF=>hs.size▸h.fin k i hF,λk hB=>hs.size▸h.finB k hB.1,h.nx⟩
 ·have:=h.glob g cs hg i v hv
  exact⟨this.1,(hs.cell (A48 hb hno this.2)).trans this.2⟩
 ·have:=h.own r x k o hx hp
  exact⟨this.1,this.2.1,λhB=>this.2.2 hB.1⟩
def A9y (E:XE) (t:Tm) (H:Hp) (rs:List ResultVar):(List AV→Am)→Am:=
 @List.rec ResultVar (λ_=>(List AV→Am)→Am) (λK=>K [])
  (λr _ ih K=>match r with
   | .tmp i=>gtm t i λv=>ih λvs=>K (v::vs)
   | .cell a ty=>gtm t a λp=>E.ty.getK ty λi=>Ap i p H λv=>ih λvs=>K (v::vs)) rs
def YV (vs:List AV) (K:AV→Am):Am:=
 @List.rec AV (λ_=>Am) (K (.tup [])) (λv l _=>@List.rec AV (λ_=>Am) (K v) (λu l' _=>K (.tup (v::u::l'))) l) vs
def B1W:List AV→AV
 |[v]=>v
 |vs=> .tup vs
theorem A6r (vs:List AV) (K:AV→Am):YV vs K=K (B1W vs):=by
 match vs with
 |[]=>rfl
 |[v]=>rfl
 |v::u::l=>rfl
def XE.T (E:XE):Ty:= λty=>E.ty.get ty
theorem AT {α:Type} {b:BT α} {i:Nat} {K:α→Am} {r:AV×Hp} (h:b.getK i K=some r):∃v,b.get i=some v∧K v=some r:=by
 rw[BT.getK_eq] at h
 split at h
 ·exact⟨_,by assumption,h⟩
 ·cases h
def B26 (tmps:Array Value):ResultVar→Sem Value
 | .tmp t=>pure (tmps.getD t undef)
 | .cell x t=>do loadVar t (←asAddr (tmps.getD x undef))
theorem A9x {E:XE} {T:Ty} (hT:WD P T) (hE:∀ty i,E.ty.get ty=some i→T ty=some i) {t:Tm} {tmps:Array Value} (hr:Rel G w0 C H w) (ht:Sn C w t tmps) {r:AV×Hp}:∀(rs:List ResultVar) (K:List AV→Am),A9y E t H rs K=some r→
 ∃vs ys,(rs.mapM (B26 tmps)).run P w= .ok ys w∧BV C w vs ys∧K vs=some r:=by
 intro rs
 induction rs with
 |nil=>intro K h;exact⟨[],[],rfl,.nil,h⟩
 |cons x rs ih=>
  intro K h
  cases x with
  |tmp i=>
   have h:(gtm t i λv=>A9y E t H rs λvs=>K (v::vs))=some r:=h
   rw[RX] at h
   obtain⟨vs,ys,h1,h2,h3⟩:=ih _ h
   refine⟨_,_::ys,?_,.cons (ht i) h2,h3⟩
   rw[List.mapM_cons]
   simp only[B26,Cp,Xv,Ek,h1]
  |cell x ty=>
   have h:(gtm t x λp=>E.ty.getK ty λi=>Ap i p H λv=>A9y E t H rs λvs=>K (v::vs))=some r:=h
   rw[RX] at h
   obtain⟨i,hi,h⟩:=AT h
   obtain⟨u,h,hx⟩:=A5W (T:=T) (hE _ _ hi) h
   obtain⟨v,z,h1,h2,h3⟩:=XJ hT hr (ht x) hx
   subst h3
   obtain⟨vs,ys,h4,h5,h6⟩:=ih _ h
   refine⟨v::vs,z::ys,?_,.cons h2 h5,h6⟩
   rw[List.mapM_cons]
   have h1':(do loadVar ty (←asAddr (tmps.getD x undef)):Sem Value).run P w= .ok z w:=by
    generalize tmps.getD x undef=q at*
    cases q<;>simp only[Instr.loadAt,Instr.sureAddr,Cp,run_stuck,Result.andThen_halt] at h1<;>try (cases h1;done)
    rename_i ad
    cases ad with
    |none=>simp at h1
    |some ad=>simpa [asAddr] using h1
   have h1'':(B26 tmps (.cell x ty)).run P w= .ok z w:=h1'
   rw[Cp,h1'']
   simp only[Ek,Cp,h4,Xv]
def A3o:List Value→Value
 |[y]=>y
 |ys=> .tuple ys.toArray
theorem A4X {fn:Func} {tmps:Array Value} {ys:List Value} (h:(fn.results.toList.mapM (B26 tmps)).run P w= .ok ys w):
 (results fn tmps).run P w= .ok (A3o ys) w:=by
 have e:results fn tmps=(do
  let vs←fn.results.mapM (B26 tmps)
  pure (if h:vs.size=1 then vs[0] else .tuple vs)):=by
  unfold results
  congr 1
 rw[e,Cp,Array.mapM_eq_mapM_toList,Sem.run_map,h]
 simp only[Ek,Xv]
 congr 1
 match ys with
 |[]=>rfl
 |[y]=>rfl
 |y::z::ys=>simp[A3o]
theorem A73 {vs:List AV} {ys:List Value} (h:BV C w vs ys):VRel C w (B1W vs) (A3o ys):=by
 match vs,ys,h with
 |[],[],h=>exact Dh.2 ⟨[],rfl,h⟩
 |[v],[y],h=>exact h.get 0 (by simp)
 |v::u::vs,y::z::ys,h=>exact Dh.2 ⟨_,rfl,h⟩
 |[],_::_,h=>exact absurd h.1 (by simp)
 |[v],[],h=>exact absurd h.1 (by simp)
 |[v],_::_::_,h=>exact absurd h.1 (by simp)
 |_::_::_,[],h=>exact absurd h.1 (by simp)
 |_::_::_,[_],h=>exact absurd h.1 (by simp)
def numbered:Nat→List AV→Tm
 |_,[]=>[]
 |k,a::aZ=>(k,a)::numbered (k+1) aZ
theorem A1B:∀(aZ:List AV) (k i:Nat),Fy (numbered k aZ) i=if k≤i∧i<k+aZ.length then aZ.getD (i-k) .dk else .dk:=by
 intro aZ
 induction aZ with
 |nil=>intro k i;simp[numbered,Fy]
 |cons a aZ ih=>
  intro k i
  simp only[numbered,Fy]
  by_cases hi:i=k
  ·subst hi;simp
  ·rw[if_neg hi,ih]
   by_cases h:k≤i∧i<k+(a::aZ).length
   ·simp only[L0] at h
    rw[if_pos (by omega),if_pos (by simp only[L0];omega)]
    have:i-k=(i-(k+1))+1:=by omega
    rw[this];simp
   ·simp only[L0] at h
    rw[if_neg (by omega),if_neg (by simp only[L0];omega)]
def B6H (aZ:List AV):Nat→(Tm→Am)→Am:=
 (λ(_:Unit)=>@List.rec AV (λ_=>Nat→(Tm→Am)→Am) (λ_ K=>K []) (λa _ ih k K=>fNS (Nat.succ k) λk'=>ih k' λt=>K ((k,a)::t)) aZ) FV
theorem B6G (aZ:List AV):∀(k:Nat) (K:Tm→Am),B6H aZ k K=K (numbered k aZ):=by
 induction aZ with
 |nil=>intro k K;rfl
 |cons a aZ ih=>
  intro k K
  have:B6H (a::aZ) k K=fNS (Nat.succ k) λk'=>B6H aZ k' λt=>K ((k,a)::t):=rfl
  rw[this,B3x,ih];rfl
theorem Sn.numbered {args:List AV} {ys:List Value} {n:Nat} (ha:BV C w args ys):Sn C w (numbered 0 args) (ys.toArray++Array.replicate n undef):=by
 intro i
 rw[A1B]
 have hlen:=ha.1
 split
 ·rename_i hi
  have hi':i<args.length:=by omega
  have:=ha.get i hi'
  simp only[Nat.sub_zero,Tw,Jw hi',l1l,l1j]
  rw[Array.getElem?_append_left (by simp;omega)]
  simp[hlen,hi']
  exact this
 ·exact .dk _
theorem Frm.delB {m:Nat} {O:Nat→Prop} {C0:Ctx} {wa:World} (h:Frm m O C0 wa C w) (hfin:∀k,C0.B k→k<wa.heap.size) (hfF:∀k i,C0.F k i→k<wa.heap.size) (hb:wa.heap.size≤b) (hob:w.heap[b]?=some (.deferred (some []))) (hs:SameObj w w' b o'):Frm m O C0 wa (C.delB b) w':=
 ⟨h.π,h.F,λk i hF=>(hs.cell (by have:=hfF k i hF;omega)).trans (h.keep k i hF),λk hB=>⟨h.B k hB,by have:=hfin k hB;omega⟩,λk hB=>(hs.others k (by have:=hfin k hB;omega)).trans (h.keepB k hB),
  λk arr T fz hk=>by
   obtain⟨a1,f1,h1,h2⟩:=h.size k arr T fz hk
   exact⟨a1,f1,(hs.others k (λe=>by subst e;rw[hob] at h1;cases h1)).trans h1,h2⟩,
  h.new,λk hB=>h.newB k hB.1,by rw[hs.size];exact h.grow⟩
theorem A3O {fn:Func} {tmps:Array Value} {R:Ending→World→Prop} {m s0:Nat} {C0:Ctx} {wa:World} {t:Tm} (hfin:∀k,C0.B k→k<wa.heap.size) (hfF:∀k i,C0.F k i→k<wa.heap.size) (hs0:wa.heap.size≤s0)
 (hres:∀C w,Rel G w0 C H w→Sn C w t tmps→Frm m w0.own C0 wa C w→∃v,(results fn tmps).run P w= .ok v w∧R (.returned v) w):
 ∀(bs:List Nat) (C:Ctx) (w:World),bs.Nodup→(∀b∈bs,s0≤b∧w0.own b∧C.B b∧w.heap[b]?=some (.deferred (some [])))→Rel G w0 C H w→Sn C w t tmps→Frm m w0.own C0 wa C w→
  LeavesInM (Fe none) 0 P fn tmps R (bs.map A3K) .returning w:=by
 intro bs
 induction bs with
 |nil=>
  intro C w _ _ hr ht hf
  exact hres C w hr ht hf
 |cons b bs ih=>
  intro C w hn hb hr ht hf
  obtain⟨h1,h2,h3,h4⟩:=hb b (by simp)
  obtain⟨hn1,hn2⟩:=List.nodup_cons.1 hn
  have hlt:=(l1q.1 h4).1
  have hs:SameObj w (w.putObj b (.deferred none)) b (.deferred none):=SameObj.putObj hlt _
  refine⟨by simp,.inl ⟨b,_,rfl,run_takeDeferred h4,ih (C.delB b) _ hn2 (λk hk=> ?_) (hr.shut h4 h2 hs) (ht.shut h4 hs) (hf.delB hfin hfF (by omega) h4 hs)⟩⟩
  obtain⟨g1,g2,g3,g4⟩:=hb k (by simp[hk])
  have hne:k≠b:= λe=>hn1 (e▸hk)
  exact⟨g1,g2,⟨g3,hne⟩,(hs.others k hne).trans g4⟩
def C21 (E:XE) (rs:List ResultVar) (K:KV):Exit→Tm→Hp→Am:= λe t H=>
 match e with
 | .normal=>A9y E t H rs λvs=>YV vs λv=>K v H
 | .ret=>A9y E t H rs λvs=>YV vs λv=>K v H
 |_=>none
theorem B1c {E:XE} {T:Ty} (hT:WD P T) (hE:∀ty i,E.ty.get ty=some i→T ty=some i) {f:FuncId} {fn:Func} {c:Code} {args:List AV} {r:AV×Hp} {K:KV} (hf:P.funcs[f]?=some fn) (hb:fn.body=some c)
 (h:Pj P G none (A7 H) (args.length+(fn.ntmps-args.length)) c (λe t H'=>C21 E fn.results.toList K e t H'=some r) (numbered 0 args) H):Qt P G f args H (λv H'=>K v H'=some r):=by
 intro w0 C w ys hR ha
 refine callsIn_wide.1 (callsIn_of_wp_marks (n:=0) hf hb trivial ?_)
 have hlen:=ha.1
 have hS:St G w0 w.heap.size C (args.length+(fn.ntmps-args.length)) (numbered 0 args) H {tmps:=ys.toArray++Array.replicate (fn.ntmps-ys.toArray.size) undef,defers:=[]} w:=⟨hR,by simp[hlen],.numbered ha,.nil,NV _⟩
 have hw:=h w0 w.heap.size C _ w hS
 have hFe:Fe none=Fence.wide:=rfl
 rw[←hFe]
 refine wpIn_mono hw λe a' w' ⟨C',t',H',s',x',q⟩=> ?_
 have fin:(A9y E t' H' fn.results.toList λvs=>YV vs λv=>K v H')=some r→LeavesInM (Fe none) 0 P fn a'.tmps (λe w'=>∃v y C' H',e= .returned y∧Rel G w0 C' H' w'∧VRel C' w' v y∧Frm (A7 H) w0.own C w C' w'∧K v H'=some r) a'.defers .returning w':=by
  intro q
  obtain⟨bs,d1,d2,d3⟩:=s'.defers
  rw[d2]
  refine A3O (H:=H') (t:=t') (C0:=C) (wa:=w) (m:=A7 H) (s0:=w.heap.size) hR.finB hR.fin (NV _) (λC1 w1 r1 t1 f1=> ?_) bs C' w' d1 d3 s'.rel s'.tmps x'
  obtain⟨vs,zs,h1,h2,h3⟩:=A9x hT hE r1 t1 _ _ q
  rw[A6r] at h3
  exact⟨_,A4X h1,_,_,C1,H',rfl,r1,A73 h2,f1,h3⟩
 cases e with
 |normal=>exact fin q
 |ret=>exact fin q
 |_=>cases q
end
def Hf (f:AV→(Bool→AV→Am)→Am) (l:List AV):(Bool→List AV→Am)→Am:=
 @List.rec AV (λ_=>(Bool→List AV→Am)→Am) (λK=>K false [])
  (λa _ ih K=>f a λq a'=>ih λq' l'=>K (@Bool.rec (λ_=>Bool) q' true q) (a'::l')) l
def XP (f:AV→(Bool→AV→Am)→Am) (l:List (Value×AV)):(Bool→List (Value×AV)→Am)→Am:=
 @List.rec (Value×AV) (λ_=>(Bool→List (Value×AV)→Am)→Am) (λK=>K false [])
  (λp _ ih K=>f p.2 λq a'=>ih λq' l'=>K (@Bool.rec (λ_=>Bool) q' true q) ((p.1,a')::l')) l
def B6f (x:Row) (K:List (Value×AV)→Am):Am:=match x with| .map false es _=>K es|_=>none
def A5t (b:Bool) (a:AV) (K:Bool→AV→Am):Am:=
 match a with
 | .v x=>K false (.v x)
 | .list n cs=>ck b (K false (.list n cs))
 | .iptr cs=>ck b (K false (.iptr cs))
 | .imap es=>ck b (K false (.imap es))
 |_=>none
def A5s (b:Bool) (H:Hp) (ih:AV→(Bool→AV→Am)→Am) (a:AV) (K:Bool→AV→Am):Am:=
 match a with
 | .v x=>K false (.v x)
 | .list n cs=>ck b (K false (.list n cs))
 | .iptr cs=>ck b (K false (.iptr cs))
 | .imap es=>ck b (K false (.imap es))
 | .agg cs=>Hf ih cs λq cs'=>K q (.agg cs')
 | .tup cs=>Hf ih cs λq cs'=>K q (.tup cs')
 | .fn f fs cs=>Hf ih fs λq fs'=>Hf ih cs λq' cs'=>K (@Bool.rec (λ_=>Bool) q' true q) (.fn f fs' cs')
 | .sl sz r o n=>Lf H r λx=>L2 x λ_ cs=>F2 (Nat.mul n sz) (Da o cs) λc=>Hf ih c λ_ c'=>K true (.list n c')
 | .ptr r p k=>Lf H r λx=>L2 x λ_ cs=>Hf ih (Da (Nat.add p k) cs) λ_ c'=>K true (.iptr c')
 | .mp r=>Lf H r λx=>B6f x λes=>XP ih es λ_ es'=>K true (.imap es')
 |_=>none
def I8 (b:Bool) (H:Hp) (D:Nat):AV→(Bool→AV→Am)→Am:=@Nat.rec (λ_=>AV→(Bool→AV→Am)→Am) (A5t b) (λ_ ih=>A5s b H ih) D
def QR (b q:Bool) (C:Ctx) (H:Hp):Ctx:=
 {π:= λ_=>none
  F:= λk i=>(b=true∧C.F k i)∨(q=true∧∃r x o,Aw H r=some x∧C.π r=some (some (k,o)))
  B:= λk=>(b=true∧C.B k)∨(q=true∧∃r x o,Aw H r=some x∧C.π r=some (some (k,o)))}
theorem A2L (b q:Bool) (C:Ctx) (H:Hp):(QR b q C H).bare=QR b q C H:=rfl
theorem Lj {b q q':Bool} {C:Ctx} {H:Hp} {w:World} (h:q=true→q'=true):Ext (λ_=>True) (QR b q C H) w (QR b q' C H) w:=
 ⟨λ_ _=>rfl,λ_ _ h'=>h'.imp id (λ⟨h1,h2⟩=>⟨h h1,h2⟩),λ_ _ _=>rfl,λ_ h'=>h'.imp id (λ⟨h1,h2⟩=>⟨h h1,h2⟩),λ_ _=>rfl,λ_ a _ f h=>⟨a,f,h,rfl⟩,λ_ _ _=> .inr trivial,λ_ _=> .inr trivial,NV _⟩
theorem XG {q q':Bool}:q=true→(@Bool.rec (λ_=>Bool) q' true q)=true:= λh=>by subst h;rfl
theorem Vc {q q':Bool}:q'=true→(@Bool.rec (λ_=>Bool) q' true q)=true:= λh=>by subst h;cases q<;>rfl
section
variable {G:Gl} {w0:Base} {C:Ctx} {H:Hp} {w:World} {b:Bool} {r:AV×Hp}
theorem XO {f:AV→(Bool→AV→Am)→Am} (hf:∀a y K,VRel C w a y→f a K=some r→∃q a',VRel (QR b q C H) w a' y∧K q a'=some r):
 ∀(l:List AV) (ys:List Value) (K:Bool→List AV→Am),BV C w l ys→Hf f l K=some r→∃q l',BV (QR b q C H) w l' ys∧K q l'=some r:=by
 intro l
 induction l with
 |nil=>intro ys K hl h;exact⟨false,[],by rw[hl.nil_inv];exact .nil,h⟩
 |cons a l ih=>
  intro ys K hl h
  obtain⟨y,ys',rfl,h1,h2⟩:=hl.cons_inv
  have h:(f a λq a'=>Hf f l λq' l'=>K (@Bool.rec (λ_=>Bool) q' true q) (a'::l'))=some r:=h
  obtain⟨q,a',h3,h4⟩:=hf a y _ h1 h
  obtain⟨q',l',h5,h6⟩:=ih ys' _ h2 h4
  exact⟨_,_,.cons (h3.mono (Lj XG)) (h5.mono (Lj Vc)),h6⟩
theorem A5r {f:AV→(Bool→AV→Am)→Am} (hf:∀a y K,VRel C w a y→f a K=some r→∃q a',VRel (QR b q C H) w a' y∧K q a'=some r):
 ∀(l:List (Value×AV)) (ms:List MapEntry) (K:Bool→List (Value×AV)→Am),Jj C w l ms→XP f l K=some r→∃q l',Jj (QR b q C H) w l' ms∧K q l'=some r:=by
 intro l
 induction l with
 |nil=>intro ms K hl h;exact⟨false,[],⟨hl.1,λi p hp=>by simp at hp⟩,h⟩
 |cons p l ih=>
  intro ms K hl h
  cases ms with
  |nil=>exact absurd hl.1 (by simp)
  |cons m ms=>
   obtain⟨m',hm,hk,hv⟩:=hl.2 0 p rfl
   simp at hm
   subst hm
   have h:(f p.2 λq a'=>XP f l λq' l'=>K (@Bool.rec (λ_=>Bool) q' true q) ((p.1,a')::l'))=some r:=h
   obtain⟨q,a',h3,h4⟩:=hf _ _ _ hv h
   obtain⟨q',l',h5,h6⟩:=ih ms _ ⟨by simpa using hl.1,λi x hx=>by simpa using hl.2 (i+1) x (by simpa using hx)⟩ h4
   refine⟨_,_,⟨by simpa using h5.1,λi x hx=> ?_⟩,h6⟩
   cases i with
   |zero=>simp at hx;subst hx;exact⟨m,rfl,hk,h3.mono (Lj XG)⟩
   |succ i=>
    obtain⟨m2,g1,g2,g3⟩:=h5.2 i x (by simpa using hx)
    exact⟨m2,by simpa using g1,g2,g3.mono (Lj Vc)⟩
theorem QP {a:AV} {y:Value} (hb:b=true) (hc:cl0 0 a=true) (h:VRel C w a y):VRel (QR b false C H) w a y:=
 VRel.down (by subst hb;funext k i;simp[QR]) (by subst hb;funext k;simp[QR]) 0 a y hc h
theorem A0B (hr:Rel G w0 C H w):∀(D:Nat) (a:AV) (y:Value) (K:Bool→AV→Am),VRel C w a y→I8 b H D a K=some r→∃q a',VRel (QR b q C H) w a' y∧K q a'=some r:=by
 intro D
 induction D with
 |zero=>
  intro a y K hv h
  change A5t b a K=some r at h
  unfold A5t at h
  split at h
  ·exact⟨false,_,by rw[AK.1 hv];exact .v _,h⟩
  ·obtain⟨h1,h⟩:=Bm h;exact⟨false,_,QP h1 rfl hv,h⟩
  ·obtain⟨h1,h⟩:=Bm h;exact⟨false,_,QP h1 rfl hv,h⟩
  ·obtain⟨h1,h⟩:=Bm h;exact⟨false,_,QP h1 rfl hv,h⟩
  ·cases h
 |succ D ih=>
  intro a y K hv h
  have hL:= λl ys K=>XO (f:=I8 b H D) (b:=b) (H:=H) (C:=C) (w:=w) (r:=r) ih l ys K
  have hX:= λl ys K=>A5r (f:=I8 b H D) (b:=b) (H:=H) (C:=C) (w:=w) (r:=r) ih l ys K
  change A5s b H (I8 b H D) a K=some r at h
  unfold A5s at h
  split at h
  ·exact⟨false,_,by rw[AK.1 hv];exact .v _,h⟩
  ·obtain⟨h1,h⟩:=Bm h;exact⟨false,_,QP h1 rfl hv,h⟩
  ·obtain⟨h1,h⟩:=Bm h;exact⟨false,_,QP h1 rfl hv,h⟩
  ·obtain⟨h1,h⟩:=Bm h;exact⟨false,_,QP h1 rfl hv,h⟩
  ·obtain⟨ys,rfl,hl⟩:=Eo.1 hv
   obtain⟨q,l',h1,h2⟩:=hL _ _ _ hl h
   exact⟨q,_,Eo.2 ⟨ys,rfl,h1⟩,h2⟩
  ·obtain⟨ys,rfl,hl⟩:=Dh.1 hv
   obtain⟨q,l',h1,h2⟩:=hL _ _ _ hl h
   exact⟨q,_,Dh.2 ⟨ys,rfl,h1⟩,h2⟩
  ·obtain⟨ys,zs,rfl,hl,hl'⟩:=Gz.1 hv
   obtain⟨q,l',h1,h2⟩:=hL _ _ _ hl h
   obtain⟨q',l'',h3,h4⟩:=hL _ _ _ hl' h2
   exact⟨_,_,Gz.2 ⟨ys,zs,rfl,h1.mono (Lj XG),h3.mono (Lj Vc)⟩,h4⟩
  ·rename_i sz s o n
   obtain⟨q0,e,cs,hlk,h1⟩:=IW h
   obtain⟨hlen,h2⟩:=MV _ _ _ _ h1
   rw[Ct] at hlen h2
   cases hv with
   |slz hrn=>
    have h2:Hf (I8 b H D) ((cs.drop o).take (0*sz)) (λ_ c'=>K true (.list 0 c'))=some r:=h2
    rw[Nat.zero_mul,List.take_zero] at h2
    exact⟨true,_,.list0,h2⟩
   |@sl _ _ _ _ _ _ bk base cap arr T fz hp hcap hbk hfit=>
    rcases hr.rows s _ hlk with⟨_,h6⟩|⟨b',base',arr',fz',hd⟩
    ·rw[h6] at hp;cases hp
    ·have e':=hd.at_.symm.trans hp
     injection e' with e';injection e' with e';injection e' with e1 e2;subst e1 e2
     have hvals:BV C w ((cs.drop o).take (n*sz)) ((((arr'.toList.drop base').take cs.length).drop o).take (n*sz)):=(hd.vals.unsel.drop o).take _
     obtain⟨q,l',h3,h4⟩:=hL _ _ _ hvals h2
     have h3:=h3.mono (Lj (q':=true) (λ_=>rfl))
     have hll:l'.length=n*sz:=by
      rw[←h3.1,hvals.1,l0g]
      have:n*sz≤(cs.drop o).length:=hlen
      omega
     refine⟨true,_,.list hcap (λi=>((((arr'.toList.drop base').take cs.length).drop o).take (n*sz)).getD i undef) (λi hi=> .inr ⟨rfl,s,_,_,hlk,hp⟩) (λi hi=> ?_) (λi hi=> ?_),h4⟩
     ·have hi2:i<n*sz:=by omega
      have hi3:o+i<cs.length:=by have:n*sz≤(cs.drop o).length:=hlen;simp at this;omega
      rw[WC,hd.cell]
      rw[Tw,l0m,if_pos hi2,l0d,l0m,if_pos hi3,l0d,l21]
      have hf:=hd.fits
      rw[l1k (by omega)];rfl
     ·have:=h3.get i hi
      rw[A2L,Tw,Jw (by rw[h3.1];exact hi)]
      exact this
  ·rename_i s p k
   obtain⟨q0,e,cs,hlk,h2⟩:=IW h
   rw[Ct] at h2
   cases hv with
   |@ptr _ _ _ _ _ bk base hp=>
    rcases hr.rows s _ hlk with⟨_,h6⟩|⟨b',base',arr',fz',hd⟩
    ·rw[h6] at hp;cases hp
    ·have e':=hd.at_.symm.trans hp
     injection e' with e';injection e' with e';injection e' with e1 e2;subst e1 e2
     have hvals:BV C w (cs.drop (p+k)) (((arr'.toList.drop base').take cs.length).drop (p+k)):=hd.vals.unsel.drop _
     obtain⟨q,l',h3,h4⟩:=hL _ _ _ hvals h2
     have h3:=h3.mono (Lj (q':=true) (λ_=>rfl))
     have hll:l'.length=cs.length-(p+k):=by rw[←h3.1,hvals.1,l0t]
     refine⟨true,_,.iptr (λi=>(((arr'.toList.drop base').take cs.length).drop (p+k)).getD i undef) (λi hi=> .inr ⟨rfl,s,_,_,hlk,hp⟩) (λi hi=> ?_) (λi hi=> ?_),h4⟩
     ·have hi3:p+k+i<cs.length:=by omega
      rw[WC,hd.cell]
      rw[Tw,l0d,l0m,if_pos hi3,l0d,l21]
      have hf:=hd.fits
      rw[l1k (by omega)];rfl
     ·have:=h3.get i hi
      rw[A2L,Tw,Jw (by rw[h3.1];exact hi)]
      exact this
  ·rename_i s
   obtain⟨x,hlk,h2⟩:=GC rfl h
   unfold B6f at h2
   split at h2
   ·rename_i es _bo
    cases hv with
    |@mp _ _ _ bk base hp=>
     obtain⟨bk',ms,clock,g1,g2,g3,g4,_⟩:=hr.rows s _ hlk
     have e':=g1.symm.trans hp
     injection e' with e';injection e' with e';injection e' with e1 e2;subst e1 e2
     obtain⟨q,l',h3,h4⟩:=hX _ _ _ g4 h2
     have h3:=h3.mono (Lj (q':=true) (λ_=>rfl))
     have hlen:ms.size=l'.length:=by have:=h3.1;simpa using this
     have get:∀i (hi:i<l'.length),(ms.getD i default).key=l'[i].1∧VRel (QR b true C H) w l'[i].2 (ms.getD i default).val:= λi hi=>by
      obtain⟨m,k1,k2,k3⟩:=h3.2 i _ (Jw hi)
      have:ms.getD i default=m:=by
       rw[l21] at k1
       simp[l1j,k1]
      rw[this];exact⟨k2,k3⟩
     refine⟨true,_,.imap ms (.inr ⟨rfl,s,_,_,hlk,hp⟩) g2 hlen (λi hi=>(get i hi).1) (λi j hij hj=> ?_) (λi hi=> ?_) (λi hi=>(get i hi).2),h4⟩
     ·have:=l20.1 g3.born i j (by simpa using Nat.lt_trans hij hj) (by simpa using hj) hij
      simpa [l1j,hj,Nat.lt_trans hij hj] using this
     ·have:=g3.lt ms[i] (by simp)
      simpa [l1j,hi] using this
   ·cases h2
  ·cases h
end
end Go.Abs
end
