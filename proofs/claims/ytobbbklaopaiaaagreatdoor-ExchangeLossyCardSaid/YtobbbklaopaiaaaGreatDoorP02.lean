import Derived.ChangeKeysEq
import Derived.Laws.StructEq
import Derived.Laws.BytesString
import Derived.Laws.MakeOwn
import Derived.Test.YtobbbklaopaiaaaGreatDoorP01
set_option linter.all false
set_option maxHeartbeats 100000000
noncomputable section
namespace Go.Abs
open Go.RowKit
section
variable{v:AV}{K:K2}{i:TI}{α:Type}
def Ek(n:Nat):List α->(List α->Af)->Af:=
 @Nat.rec (λ_=>List α->(List α->Af)->Af) (λ_ K=>K []) (λ_ ih l K=>@List.rec α (λ_=>Af) none (λa l _=>ih l λb=>K (a::b)) l) n
def Ns(n:Nat):∀(l:List α)(K:List α->Af)(r:AV×Hp),Ek n l K=some r->n<=l.length/\K (l.take n)=some r:=by
 induction n with
 |zero=>intro l K r h;exact⟨Y_ _,h⟩
 |succ n ih=>
  intro l K r h;cases l with
  |nil=>cases h
  |cons a l=>
   obtain⟨h1,h2⟩:=ih l _ r h;exact⟨by simpa using h1,h2⟩
def JU(n:Nat):∀(l:List α)(K:List α->Af),n<=l.length->Ek n l K=K (l.take n):=by
 induction n with
 |zero=>intro l K _;rfl
 |succ n ih=>
  intro l K h;cases l with
  |nil=>simp at h
  |cons a l=>exact ih l _ (by simpa using h)
def hdK(l:Is)(K:K2):Af:=@List.rec AV (λ_=>Af) none (λa _ _=>K a) l
def A1m{l:Is}{r:AV×Hp}(h:hdK l K=some r):∃a b,l=a::b/\K a=some r:=by
 cases l with
 |nil=>cases h
 |cons a l=>exact⟨a,l,rfl,h⟩
def J6(x:Row)(K:TypeId->Is->Af):Af:=match x with|.cells _ e cs=>K e cs|_=>none
def fD(x:Row)(K:Bool->TypeId->Is->Af):Af:=match x with|.cells q e cs=>K q e cs|_=>none
def A5T(v:AV)(H:Hp)(K:Is->Af):Af:=
 match v with
 |.ptr r p k=>I6 H r λx=>J6 x λ_ cs=>K (Dg (Nat.add p k) cs)
 |.iptr cs=>K cs
 |_=>none
section
variable{T:Ty}{H:Hp}{r:AV×Hp}
def K3{i:Nat}{K:TypeId->Is->Af}(h:(I6 H i λx=>J6 x K)=some r):∃q e cs,Aj H i=some (.cells q e cs)/\K e cs=some r:=by
 obtain⟨x,h1,h2⟩:=Iy rfl h;unfold J6 at h2;split at h2
 ·exact⟨_,_,_,h1,h2⟩
 ·cases h2
def UQ{i:Nat}{K:Bool->TypeId->Is->Af}(h:(I6 H i λx=>fD x K)=some r):∃q e cs,Aj H i=some (.cells q e cs)/\K q e cs=some r:=by
 obtain⟨x,h1,h2⟩:=Iy rfl h;unfold fD at h2;split at h2
 ·exact⟨_,_,_,h1,h2⟩
 ·cases h2
def nI(i:TI)(cs:Is)(K:K2):Af:=@Bool.rec (λ_=>Af) (hdK cs K) (Ek i.size cs λc=>K (.agg c)) i.d.isAgg
def WL{ty:TypeId}{cs:Is}(c:T ty=some i)(h:nI i cs K=some r):∃v,K v=some r/\Yk T ty cs (λe=>e=v):=by
 unfold nI at h;cases b:i.d.isAgg
 ·rw[b]at h;obtain⟨a,l,rfl,h2⟩:=A1m h;exact⟨a,h2,by simp[Yk,c,b]⟩
 ·rw[b]at h;obtain⟨h1,h2⟩:=Ns _ _ _ _ h;exact⟨_,h2,by simp[Yk,c,b,h1]⟩
def AD(i:TI)(v:AV)(H:Hp)(K:K2):Af:=A5T v H λcs=>nI i cs K
def A1R{ty:TypeId}(c:T ty=some i)(h:AD i v H K=some r):∃u,K u=some r/\A0f T ty v H (λd=>d=u):=by
 unfold AD A5T at h;split at h
 ·obtain⟨q,e,cs,h1,h2⟩:=K3 h;rw[Cy]at h2;obtain⟨u,a,b⟩:=WL (T:=T) (ty:=ty) c h2;exact⟨u,a,by simp only[A0f,h1];exact b⟩
 ·obtain⟨u,a,b⟩:=WL (T:=T) (ty:=ty) c h;exact⟨u,a,b⟩
 ·cases h
def N0(l:Is):Bool:=@List.rec AV (λ_=>Bool) true (λa _ ih=>@Bool.rec (λ_=>Bool) false ih (AV.one a)) l
def FK(l:Is):N0 l=l.all AV.one:=by
 induction l with
 |nil=>rfl
 |cons a l ih=>
  have e:N0 (a::l)=@Bool.rec (λ_=>Bool) false (N0 l) (AV.one a):=rfl;rw[e,pY,<-ih];cases AV.one a<;>rfl
def GX(a:AV)(K:Is->Af):Af:=match a with|.agg cs=>K cs|a=>K [a]
def CK(a:AV)(K:Is->Af):GX a K=K (Bw a):=by cases a<;>rfl
def E4(i:TI)(p v:AV)(H:Hp)(K:Ru):Af:=
 match p with
 |.ptr s p k=>I6 H s λx=>fD x λq e cs=>GX v λvs=>G6 vs 0 λn=>ck (Nat.beq n i.size) (ck (N0 vs) (Er (Nat.add p k) vs cs λa=>Ll H s (.cells q e a) K))
 |_=>none
def B1a{ty:TypeId}{p v:AV}{K:Ru}(g:T ty=some i)(h:E4 i p v H K=some r):∃b,K b=some r/\qS T ty p v H (λa=>a=b):=by
 unfold E4 at h;split at h
 ·obtain⟨q,e,cs,h1,h2⟩:=UQ h;rw[CK,Cl]at h2;obtain⟨d,h2⟩:=B5 h2;obtain⟨c,h2⟩:=B5 h2;obtain⟨f,h2⟩:=Oq _ _ _ _ _ h2;rw[Dh]at h2;rw[FK]at c;refine⟨_,h2,?_⟩;simp only[qS,h1,g];exact⟨by have:=Yo d;omega,c,f,rfl⟩
 ·cases h
def Bz(ty:TypeId)(i:TI)(H:Hp)(K:KV):Af:=GX i.zero λcs=>Ik H λs=>K (.ptr s 0 0) ((s,.cells true ty cs)::H)
def A1W{ty:TypeId}{K:KV}(c:T ty=some i)(h:Bz ty i H K=some r):∃v b,K v b=some r/\rC T ty H (As H) (λd a=>d=v/\a=b):=by
 rw[Bz,CK,BW]at h;exact⟨_,_,h,by simp[rC,c]⟩
def Hr(ty:TypeId)(v:AV)(H:Hp)(K:KV):Af:=GX v λcs=>ck (N0 cs) (Ik H λs=>K (.ptr s 0 0) ((s,.cells true ty cs)::H))
def A7s{ty:TypeId}{K:KV}(h:Hr ty v H K=some r):∃u b,K u b=some r/\B6h ty v H (As H) (λc a=>c=u/\a=b):=by
 rw[Hr,CK]at h;obtain⟨h1,h⟩:=B5 h;rw[BW]at h;rw[FK]at h1;exact⟨_,_,h,h1,rfl,rfl⟩
def dT(l:List (Nat×Nat×AV)):Is->(Is->Af)->Af:=
 @List.rec (Nat×Nat×AV) (λ_=>Is->(Is->Af)->Af) (λcs K=>K cs)
  (λp _ ih cs K=>GX p.2.2 λvs=>G6 vs 0 λn=>ck (Nat.beq n p.2.1) (ck (N0 vs) (Er p.1 vs cs λa=>ih a K))) l
def Yu{place:Nat->Option (Nat×Nat)}:∀(l:List (Nat×Nat×AV))(ps:List (Nat×AV))(cs:Is)(K:Is->Af),(ps.map λp=>(place p.1).map λq=>(q.1,q.2,p.2))=l.map some->dT l cs K=some r->∃b,K b=some r/\Ta place ps cs=some b:=by
 intro l
 induction l with
 |nil=>
  intro ps cs K he h;cases ps with
  |nil=>exact⟨cs,h,rfl⟩
  |cons p ps=>simp at he
 |cons x l ih=>
  intro ps cs K he h;cases ps with
  |nil=>simp at he
  |cons p ps=>
   simp only[Xa,List.cons.injEq]at he;obtain⟨c,e⟩:=he;cases hq:place p.1 with
   |none=>rw[hq]at c;simp at c
   |some q=>
    rw[hq]at c;simp only[yN,l0z]at c;have m:dT (x::l) cs K=GX x.2.2 λvs=>G6 vs 0 λn=>ck (Nat.beq n x.2.1) (ck (N0 vs) (Er x.1 vs cs λb=>dT l b K)):=rfl;rw[m,CK,Cl]at h;obtain⟨d,h⟩:=B5 h;obtain⟨f,h⟩:=B5 h;obtain⟨g,h⟩:=Oq _ _ _ _ _ h;rw[FK]at f;obtain⟨b,j,k⟩:=ih ps _ K e h;refine⟨b,j,?_⟩;obtain⟨i,a⟩:=p;subst c;have d:=Yo d;simp only[Ta,hq];rw[Dl ⟨by simpa using d,g,f⟩];exact k
def Ca(i:TI)(l:List (Nat×Nat×AV))(K:K2):Af:=GX i.zero λz=>dT l z λcs=>K (.agg cs)
def QY(i:TI)(j:Nat):Option (Nat×Nat):=
 match i.d with
 |.struct b=>(b[j]?).map λf=>(f.1,f.2.1)
 |.array _ _ a=>some (j*a,a)
 |.slice _ a=>some (j*a,a)
 |_=>none
def V'(i:TI):Bool:=
 match i.d with
 |.struct b=>b.all λf=>f.2.1 !=0
 |.array _ _ a=>a !=0
 |_=>false
def A1U{ty:TypeId}{l:List (Nat×Nat×AV)}{ps:List (Nat×AV)}(k:T ty=some i)(hb:V' i=true)(he:(ps.map λp=>(QY i p.1).map λq=>(q.1,q.2,p.2))=l.map some)(h:Ca i l K=some r):
 ∃v,K v=some r/\qY T ty ps (λm=>m=v):=by
 rw[Ca,CK]at h;obtain⟨c,h1,h2⟩:=Yu l ps _ _ he h;refine⟨_,h1,?_⟩;unfold qY;rw[k];simp only;unfold V' at hb;cases b:i.d with
 |struct g=>
  rw[b]at hb;simp only;refine⟨hb,?_⟩;have:QY i= λj=>(g[j]?).map λf=>(f.1,f.2.1):=by funext j;simp[QY,b]
  rw[this]at h2;rw[h2];rfl
 |array n e a=>
  rw[b]at hb;simp only;refine⟨by simpa using hb,?_⟩;have:QY i= λj=>some (j*a,a):=by funext j;simp[QY,b]
  rw[this]at h2;rw[h2];rfl
 |_=>rw[b]at hb;cases hb
end
end
section
variable{a:AV}{K:K2}{op:BinOp}{i:TI}
section
variable{T:Ty}{H:Hp}{r:AV×Hp}
def B4E(z:Int)(K:Int->Af):Af:=
 @Int.rec (λ_=>Af) (λn=>fN n λn=>@Bool.rec (λ_=>Af) (fI (IntKind.i64.wrap (.ofNat n)) K) (K (.ofNat n)) (Nat.blt n 9223372036854775808))
  (λn=>fN n λn=>@Bool.rec (λ_=>Af) (fI (IntKind.i64.wrap (.negSucc n)) K) (K (.negSucc n)) (Nat.blt n 9223372036854775808)) z
def B4D(z:Int)(K:Int->Af):B4E z K=K (IntKind.i64.wrap z):=by
 have key:∀x:Int, -9223372036854775808<=x->x<9223372036854775808->IntKind.i64.wrap x=x:=λx h1 h2=>by
  simp only[IntKind.wrap,IntKind.bits,IntKind.signed];have b:(2^64:Int)=18446744073709551616:=by decide
  have c:(2^(64-1):Int)=9223372036854775808:=by decide
  simp only[b,c,Z!,decide_eq_true_eq];split<;>omega
 cases z with
 |ofNat n=>
  simp only[B4E,Dy];cases h:Nat.blt n 9223372036854775808
  ·simp only[Vl]
  ·rw[Wr]at h;rw[key _ (by simp only[Int.ofNat_eq_natCast];omega) (by simp only[Int.ofNat_eq_natCast];omega)]
 |negSucc n=>
  simp only[B4E,Dy];cases h:Nat.blt n 9223372036854775808
  ·simp only[Vl]
  ·rw[Wr]at h;rw[key _ (by omega) (by omega)]
def Oo(k:IntKind)(z:Int)(K:Int->Af):Af:=match k with|.i64=>B4E z K|k=>fI (k.wrap z) K
def IQ(k:IntKind)(z:Int)(K:Int->Af):Oo k z K=K (k.wrap z):=by
 cases k<;>first|exact B4D _ _|exact Vl _ _
abbrev IT:=IntKind->Int->Int->K2->Af
def B4x:IT:=λk a b K=>Oo k (Int.add a b) λz=>K (.v (.int k z))
def C2w:IT:=λk a b K=>Oo k (Int.sub a b) λz=>K (.v (.int k z))
def C2C:IT:=λk a b K=>Oo k (Int.mul a b) λz=>K (.v (.int k z))
def C2A:IT:=λk a b K=>ck (!ieq b 0) (Oo k (Int.tdiv a b) λz=>K (.v (.int k z)))
def C2z:IT:=λk a b K=>ck (!ieq b 0) (fI (Int.tmod a b) λz=>K (.v (.int k z)))
def B4w:IT:=λk a b K=>fI (k.wrap ((BitVec.ofInt k.bits a&&&BitVec.ofInt k.bits b).toNat)) λz=>K (.v (.int k z))
def iOr:IT:=λk a b K=>fI (k.wrap ((BitVec.ofInt k.bits a|||BitVec.ofInt k.bits b).toNat)) λz=>K (.v (.int k z))
def B4v:IT:=λk a b K=>fI (k.wrap ((BitVec.ofInt k.bits a^^^BitVec.ofInt k.bits b).toNat)) λz=>K (.v (.int k z))
def C2I:IT:=λk a b K=>fI (k.wrap ((BitVec.ofInt k.bits a&&& ~~~BitVec.ofInt k.bits b).toNat)) λz=>K (.v (.int k z))
def C2H:IT:=λ_ a b K=>bB (ieq a b) K
def C2B:IT:=λ_ a b K=>bB (!ieq a b) K
def C2D:IT:=λ_ a b K=>bB (!pG b a) K
def C2E:IT:=λ_ a b K=>bB (pG a b) K
def C2F:IT:=λ_ a b K=>bB (!pG a b) K
def C2G:IT:=λ_ a b K=>bB (pG b a) K
def C2y:IT:=λk a b K=>ck (pG 0 b) (Oo k (a*2^(min b.toNat k.bits)) λz=>K (.v (.int k z)))
def C2x:IT:=λk a b K=>ck (pG 0 b) (fI (a.fdiv (2^(min b.toNat k.bits))) λz=>K (.v (.int k z)))
def A48(op:BinOp):IT:=match op with
 |.add=>B4x|.sub=>C2w|.mul=>C2C|.quo=>C2A|.rem=>C2z|.and=>B4w|.or=>iOr|.xor=>B4v|.andNot=>C2I
 |.eql=>C2H|.neq=>C2B|.lss=>C2D|.leq=>C2E|.gtr=>C2F|.geq=>C2G|.shl=>C2y|.shr=>C2x
def zH{k:IntKind}{a b:Int}(h:A48 op k a b K=some r):∃v,K (.v v)=some r/\(if IV op then kQ op k a b=some v else oF op k a b=some v):=by
 have hq:∀{x:Af},ck (!ieq b 0) x=some r->b≠0/\x=some r:=λh=>by
  obtain⟨h1,h2⟩:=B5 h;refine⟨λe=>?_,h2⟩;subst e;simp[QI]at h1
 have c:∀{x:Af},ck (pG 0 b) x=some r->0<=b/\x=some r:=λh=>by
  obtain⟨h1,h2⟩:=B5 h;rw[L1]at h1;exact⟨by simpa using h1,h2⟩
 cases op<;>simp only[A48,B4x,C2w,C2C,C2A,C2z,B4w,iOr,B4v,C2I,C2H,C2B,C2D,C2E,C2F,C2G,C2y,C2x,IQ,Vl,OH]at h<;>try (cases h;done)
 case add=>exact⟨_,h,rfl⟩
 case sub=>exact⟨_,h,rfl⟩
 case mul=>exact⟨_,h,rfl⟩
 case quo=>
  obtain⟨h1,h2⟩:=hq h;exact⟨_,h2,by simp[IV,oF,h1]⟩
 case rem=>
  obtain⟨h1,h2⟩:=hq h;exact⟨_,h2,by simp[IV,oF,h1]⟩
 case and=>exact⟨_,h,rfl⟩
 case or=>exact⟨_,h,rfl⟩
 case xor=>exact⟨_,h,rfl⟩
 case andNot=>exact⟨_,h,rfl⟩
 case shl=>
  obtain⟨h1,h2⟩:=c h;exact⟨_,h2,by simp only[IV,if_true,kQ];rw[C5 (by omega)]⟩
 case shr=>
  obtain⟨h1,h2⟩:=c h;exact⟨_,h2,by simp only[IV,if_true,kQ];rw[C5 (by omega)]⟩
 case eql=>exact⟨_,h,by simp only[IV,oF,QI];rw[show(a==b)=decide (a=b) from by by_cases e:a=b<;>simp[e]];simp⟩
 case neq=>exact⟨_,h,by simp only[IV,oF,QI,bne];rw[show(a==b)=decide (a=b) from by by_cases e:a=b<;>simp[e]];simp⟩
 case lss=>exact⟨_,h,by simp only[IV,oF,L1];rw[show(!decide (b<=a))=decide (a<b) from by rw[tS];simp];simp⟩
 case leq=>exact⟨_,h,by simp[IV,oF,L1]⟩
 case gtr=>exact⟨_,h,by simp only[IV,oF,L1];rw[show(!decide (a<=b))=decide (a>b) from by rw[tS];simp];simp⟩
 case geq=>exact⟨_,h,by simp[IV,oF,L1]⟩
def eqB(a:Ha):Ha->Bool:=
 @List.rec UInt8 (λ_=>Ha->Bool) (λb=>@List.rec UInt8 (λ_=>Bool) true (λ_ _ _=>false) b)
  (λx _ ih b=>@List.rec UInt8 (λ_=>Bool) false (λy l _=>@Bool.rec (λ_=>Bool) false (ih l) (Nat.beq x.toNat y.toNat)) b) a
def QK(a:Ha):∀b,eqB a b=(a==b):=by
 induction a with
 |nil=>intro b;cases b<;>rfl
 |cons x a ih=>
  intro b;cases b with
  |nil=>rfl
  |cons y b=>
   have e:eqB (x::a) (y::b)=@Bool.rec (λ_=>Bool) false (eqB a b) (Nat.beq x.toNat y.toNat):=rfl;rw[e,ih];cases h:Nat.beq x.toNat y.toNat
   ·have:x≠y:=λe=>by rw[e,jH]at h;cases h
    simp[this]
   ·have:x=y:=UInt8.toNat_inj.1 (Yo h);simp[this]
def ltB(a:Ha):Ha->Bool:=
 @List.rec UInt8 (λ_=>Ha->Bool) (λb=>@List.rec UInt8 (λ_=>Bool) false (λ_ _ _=>true) b)
  (λx _ ih b=>@List.rec UInt8 (λ_=>Bool) false (λy l _=>@Bool.rec (λ_=>Bool) (@Bool.rec (λ_=>Bool) false (ih l) (Nat.beq x.toNat y.toNat)) true (Nat.blt x.toNat y.toNat)) b) a
def M?(a:Ha):∀b,ltB a b=Op.bytesLess a b:=by
 induction a with
 |nil=>intro b;cases b<;>rfl
 |cons x a ih=>
  intro b;cases b with
  |nil=>rfl
  |cons y b=>
   have e:ltB (x::a) (y::b)=@Bool.rec (λ_=>Bool) (@Bool.rec (λ_=>Bool) false (ltB a b) (Nat.beq x.toNat y.toNat)) true (Nat.blt x.toNat y.toNat):=rfl;rw[e,ih,Op.bytesLess];have h1:(Nat.blt x.toNat y.toNat)=decide (x<y):=by
    rw[tS];simp[Wr,UInt8.lt_iff_toNat_lt]
   have h2:(Nat.beq x.toNat y.toNat)=(x==y):=by
    rw[tS];simp[qA,UInt8.toNat_inj]
   rw[h1,h2];cases decide (x<y)
   ·cases (x==y)<;>rfl
   ·rfl
def B9T(op:BinOp)(a b:ByteArray)(K:K2):Af:=
 match op with
 |.add=>Yy a.data.toList b.data.toList λl=>ck (Nat.blt l.length 9223372036854775808) (K (.v (.string ⟨⟨l⟩⟩)))
 |.eql=>bB (eqB a.data.toList b.data.toList) K
 |.neq=>bB (!eqB a.data.toList b.data.toList) K
 |.lss=>bB (ltB a.data.toList b.data.toList) K
 |.leq=>bB (ltB a.data.toList b.data.toList||eqB a.data.toList b.data.toList) K
 |.gtr=>bB (!(ltB a.data.toList b.data.toList||eqB a.data.toList b.data.toList)) K
 |.geq=>bB (!ltB a.data.toList b.data.toList) K
 |_=>none
def XD(a:ByteArray):a.toList=a.data.toList:=ByteArray.toList_eq a
def A7j{a b:ByteArray}(h:B9T op a b K=some r):∃v,K (.v v)=some r/\A6L op a b=some v:=by
 cases op<;>simp only[B9T,OH,MK,QK,M?]at h<;>try (cases h;done)
 case add=>
  obtain⟨h1,h2⟩:=B5 h;refine⟨_,h2,?_⟩;rw[Wr]at h1;have c:IntKind.i64.max=9223372036854775807:=by decide
  have d:a.size+b.size=(a.data.toList++b.data.toList).length:=by rw[EC];rfl
  simp only[A6L];rw[C5 (by rw[c];omega)]
  congr 2
 all_goals exact⟨_,h,by simp[A6L,XD]⟩
def Ap(i:TI)(op:BinOp)(a b:AV)(K:K2):Af:=
 match a,b with
 |.v (.int k m),.v (.int c n)=>@Bool.rec (λ_=>Af) (ck (decide (k=c)) (A48 op k m n K)) (A48 op k m n K) (IV op)
 |.v (.string s),.v (.string u)=>B9T op s u K
 |.v (.bool p),.v (.bool q)=>match i.d,op with
  |.bool,.eql=>bB (p==q) K
  |.bool,.neq=>bB (!(p==q)) K
  |_,_=>none
 |a,b=>match A14 i.d a b,op with
  |some q,.eql=>bB q K
  |some q,.neq=>bB (!q) K
  |_,_=>none
def zN{ty:TypeId}{a b:AV}(j:T ty=some i)(h:Ap i op a b K=some r):∃v,K v=some r/\rB T op ty a b (λu=>u=v):=by
 unfold Ap at h;split at h
 ·rename_i k m w n;cases g:IV op
  ·rw[g]at h;obtain⟨h1,h2⟩:=B5 h;obtain⟨v,e,c⟩:=zH h2;rw[g]at c;exact⟨_,e,by simp only[rB,g,yM,if_false];exact⟨by simpa using h1,by simp only[yM,if_false]at c;rw[c];rfl⟩⟩
  ·rw[g]at h;obtain⟨v,e,c⟩:=zH h;rw[g]at c;exact⟨_,e,by simp only[rB,g,if_true];simp only[if_true]at c;rw[c];rfl⟩
 ·obtain⟨v,e,c⟩:=A7j h;exact⟨_,e,by simp only[rB];rw[c];rfl⟩
 ·rename_i p q;split at h
  ·rename_i s;rw[OH]at h;exact⟨_,h,by simp only[rB];exact⟨⟨i,j,s⟩,trivial⟩⟩
  ·rename_i s;rw[OH]at h;exact⟨_,h,by simp only[rB];exact⟨⟨i,j,s⟩,trivial⟩⟩
  ·cases h
 ·rename_i h1 h2 e;have t:∀Kp:AV->Prop,(∃q,A14 i.d a b=some q/\((op=.eql/\Kp (.v (.bool q)))\/(op=.neq/\Kp (.v (.bool (!q))))))->rB T op ty a b Kp:=λKp f=>by
   obtain⟨q,hq,f⟩:=f;unfold rB;split
   ·exact(h1 _ _ _ _ rfl rfl).elim
   ·exact(h2 _ _ rfl rfl).elim
   ·exact(e _ _ rfl rfl).elim
   ·rw[j];simp only[hq];rcases f with⟨rfl,f⟩|⟨rfl,f⟩<;>exact f
  cases hq:A14 i.d a b with
  |none=>rw[hq]at h;cases h
  |some q=>
   rw[hq]at h;cases op<;>first|(cases h;done)|skip
   ·simp only[OH]at h;exact⟨_,h,t _ ⟨q,hq,.inl ⟨rfl,rfl⟩⟩⟩
   ·simp only[OH]at h;exact⟨_,h,t _ ⟨q,hq,.inr ⟨rfl,rfl⟩⟩⟩
def Mv(op:UnOp)(a:AV)(K:K2):Af:=
 match op,a with
 |.neg,.v (.int k n)=>Oo k (Int.sub 0 n) λz=>K (.v (.int k z))
 |.xor,.v (.int k n)=>fI (k.wrap ((BitVec.ofInt k.bits (if k.signed then-1 else k.max)^^^BitVec.ofInt k.bits n).toNat)) λz=>K (.v (.int k z))
 |.not,.v (.bool b)=>bB (!b) K
 |_,_=>none
def B19{op:UnOp}(h:Mv op a K=some r):∃v,K v=some r/\xun op a (λb=>b=v):=by
 unfold Mv at h;split at h
 ·rw[IQ]at h;exact⟨_,h,rfl⟩
 ·rw[Vl]at h;exact⟨_,h,rfl⟩
 ·rw[OH]at h;exact⟨_,h,rfl⟩
 ·cases h
def Jc(i j:TI)(a:AV)(K:K2):Af:=
 match j.d,a with
 |.int k,.v (.int _ n)=>Oo k n λz=>K (.v (.int k z))
 |.string,.v (.string s)=>match i.d with|.string=>K (.v (.string s))|_=>none
 |_,_=>none
def A4d{s d:TypeId}{i j:TI}(c:T s=some i)(e:T d=some j)(h:Jc i j a K=some r):∃v,K v=some r/\xR T s d a (λg=>g=v):=by
 unfold Jc at h;split at h
 ·rename_i b;rw[IQ]at h;exact⟨_,h,by simp only[xR,c,e,b]⟩
 ·rename_i b;split at h
  ·rename_i f;exact⟨_,h,by simp only[xR,c,e,b,f];exact⟨trivial,trivial⟩⟩
  ·cases h
 ·cases h
end
end
section
variable{a ix v x:AV}{K:K2}{fs:List (Nat×Nat×TypeId)}{f ft off sz:Nat}{i j:TI}
section
variable{T:Ty}{H:Hp}{r:AV×Hp}
def CY(off:Nat)(v:AV)(K:K2):Af:=
 match v with
 |.ptr s p k=>fN (Nat.add (Nat.add p k) off) λo=>K (.ptr s o 0)
 |.iptr cs=>K (.iptr (Dg off cs))
 |_=>none
def B1q{ty:TypeId}(b:T ty=some i)(c:i.d=.struct fs)(e:fs[f]?=some (off,sz,ft))(hz:sz≠0)(h:CY off v K=some r):∃u,K u=some r/\jQ T ty v f (λg=>g=u):=by
 unfold CY at h;split at h
 ·rw[Dy]at h;refine⟨_,h,?_⟩;simp only[jQ,b,c,e];exact⟨hz,_,0,by simp[lN],rfl⟩
 ·rw[Cy]at h;refine⟨_,h,?_⟩;simp only[jQ,b,c,e];exact⟨hz,trivial⟩
 ·cases h
def B1p(off:Nat)(j:TI)(v:AV)(K:K2):Af:=
 match v with
 |.agg cs=>nI j (Dg off cs) K
 |_=>none
def A7q{ty:TypeId}(b:T ty=some i)(c:i.d=.struct fs)(e:fs[f]?=some (off,sz,ft))(g:T ft=some j)(h:B1p off j v K=some r):∃u,K u=some r/\qX T ty v f (λk=>k=u):=by
 unfold B1p at h;split at h
 ·rw[Cy]at h;obtain⟨u,h1,h2⟩:=WL (T:=T) (ty:=ft) g h;exact⟨u,h1,by simp only[qX,b,c,e];exact h2⟩
 ·cases h
def O?(a:AV)(K:Int->Af):Af:=match a with|.v (.int _ n)=>K n|_=>none
def PH{K:Int->Af}(h:O? a K=some r):∃k n,a=.v (.int k n)/\K n=some r:=by
 unfold O? at h;split at h
 ·exact⟨_,_,rfl,h⟩
 ·cases h
def Ds(i:TI)(x ix:AV)(K:K2):Af:=
 O? ix λz=>iN z λn=>match i.d,x with
  |.slice _ b,.list m cs=>ck (Nat.blt n m) (OW b (Dg (Nat.mul n b) cs) λc=>K (.iptr c))
  |.slice _ b,.sl _ s o m=>ck (Nat.blt n m) (fN (Nat.add o (Nat.mul n b)) λp=>K (.ptr s p 0))
  |.array m _ b,.ptr s p k=>ck (Nat.blt n m) (fN (Nat.add (Nat.add p k) (Nat.mul n b)) λq=>K (.ptr s q 0))
  |.array m _ b,.iptr cs=>ck (Nat.blt n m) (OW b (Dg (Nat.mul n b) cs) λc=>K (.iptr c))
  |_,_=>none
def B1k{ty:TypeId}(d:T ty=some i)(h:Ds i x ix K=some r):∃u,K u=some r/\qW T ty x ix (λe=>e=u):=by
 unfold Ds at h;obtain⟨k,z,rfl,c⟩:=PH h;clear h;obtain⟨n,rfl,h⟩:=Wt c;clear c;unfold qW;rw[d];simp only;split at h
 ·rename_i b;obtain⟨h1,h⟩:=B5 h;rw[MD,Cy]at h;rw[Wr]at h1;exact⟨_,h,by simp only[b,jI];exact⟨⟨by omega,by omega⟩,rfl⟩⟩
 ·rename_i b;obtain⟨h1,h⟩:=B5 h;rw[Dy]at h;rw[Wr]at h1;exact⟨_,h,by simp only[b,jI];exact⟨⟨by omega,by omega⟩,rfl⟩⟩
 ·rename_i b;obtain⟨h1,h⟩:=B5 h;rw[Dy]at h;rw[Wr]at h1;exact⟨_,h,by simp only[b,jI];exact⟨⟨by omega,by omega⟩,_,0,by simp[lN],rfl⟩⟩
 ·rename_i b;obtain⟨h1,h⟩:=B5 h;rw[MD,Cy]at h;rw[Wr]at h1;exact⟨_,h,by simp only[b,jI];exact⟨⟨by omega,by omega⟩,rfl⟩⟩
 ·cases h
def B6a(l:Ha)(K:K2):Af:=@List.rec UInt8 (λ_=>Af) none (λb _ _=>fN b.toNat λn=>K (.v (.int .u8 (.ofNat n)))) l
def iO(i j:TI)(x ix:AV)(K:K2):Af:=
 O? ix λz=>iN z λn=>match i.d,x with
  |.string,.v (.string s)=>B6a (Dg n s.data.toList) K
  |.array m _ b,.agg cs=>ck (Nat.blt n m) (nI j (Dg (Nat.mul n b) cs) K)
  |_,_=>none
def iI(i:TI):Option TypeId:=match i.d with|.array _ e _=>some e|.slice e _=>some e|_=>none
def A7p{ty:TypeId}(t:T ty=some i)(w:∀e,iI i=some e->T e=some j)(h:iO i j x ix K=some r):∃u,K u=some r/\qV T ty x ix (λA=>A=u):=by
 unfold iO at h;obtain⟨k,z,rfl,g⟩:=PH h;clear h;obtain⟨n,rfl,h⟩:=Wt g;clear g;unfold qV;rw[t];simp only;split at h
 ·rename_i s c;rw[Cy]at h;cases d:s.data.toList.drop n with
  |nil=>rw[d]at h;cases h
  |cons b l=>
   rw[d]at h;have h:(fN b.toNat λn=>K (.v (.int .u8 (.ofNat n))))=some r:=h;rw[Dy]at h;have y:n<s.data.toList.length:=by
    have:=congrArg List.length d;simp at this;simp;omega
   have hb:s.data.toList[n]?=some b:=by
    have:=congrArg (λl=>l[0]?) d;simpa using this
   refine⟨_,h,?_⟩;simp only[c,jI];refine⟨⟨by omega,?_⟩,?_⟩
   ·have:s.size=s.data.toList.length:=rfl;omega
   ·rw[Vf,hb];rfl
 ·rename_i m e p cs c;obtain⟨h1,h⟩:=B5 h;rw[Cy]at h;rw[Wr]at h1;obtain⟨u,h2,q⟩:=WL (T:=T) (ty:=e) (w e (by simp[iI,c])) h;exact⟨u,h2,by simp only[c,jI];exact⟨⟨by omega,by omega⟩,q⟩⟩
 ·cases h
def Xq(x:Option AV)(d:Nat)(K:Nat->Af):Af:=
 match x with
 |none=>fN d K
 |some a=>O? a λz=>iN z K
def Jo{x:Option AV}{d:Nat}{K:Nat->Af}(h:Xq x d K=some r):∃n:Nat,Zn x d=some (n:Int)/\K n=some r:=by
 unfold Xq at h;split at h
 ·rw[Dy]at h;exact⟨d,rfl,h⟩
 ·obtain⟨k,z,rfl,h1⟩:=PH h;obtain⟨n,rfl,h2⟩:=Wt h1;exact⟨n,rfl,h2⟩
def C8(i:TI)(x:AV)(k g mx:Option AV)(K:K2):Af:=
 match i.d,x with
 |.string,.v (.string s)=>ck mx.isNone (Xq k 0 λl=>G6 s.data.toList 0 λm=>Xq g m λh=>ck (Nat.ble l h&&Nat.ble h m) (OW (Nat.sub h l) (Dg l s.data.toList) λb=>K (.v (.string ⟨⟨b⟩⟩))))
 |.slice _ e,.list m cs=>Xq k 0 λl=>Xq g m λh=>Xq mx m λx=>ck ((mx.isNone||g.isSome)&&(Nat.ble l h&&(Nat.ble h x&&Nat.ble x m))) (fN (Nat.sub h l) λn=>OW (Nat.mul n e) (Dg (Nat.mul l e) cs) λc=>K (.list n c))
 |.slice _ e,.sl sz s o m=>ck (Nat.beq e sz) (Xq k 0 λl=>Xq g m λh=>Xq mx m λx=>ck ((mx.isNone||g.isSome)&&(Nat.ble l h&&(Nat.ble h x&&Nat.ble x m))) (fN (Nat.add o (Nat.mul l e)) λp=>fN (Nat.sub h l) λn=>K (.sl sz s p n)))
 |.slice _ _,.v (.slice none 0 0)=>ck mx.isNone (Xq k 0 λl=>Xq g 0 λh=>ck (Nat.beq l 0&&Nat.beq h 0) (K (.v (.slice none 0 0))))
 |_,_=>none
def A1G{ty:TypeId}{t q mx:Option AV}(w:T ty=some i)(h:C8 i x t q mx K=some r):∃u,K u=some r/\qT T ty x t q mx (λA=>A=u):=by
 unfold C8 at h;unfold qT;rw[w];simp only;split at h
 ·rename_i s b;obtain⟨g,h⟩:=B5 h;obtain⟨l,c,h⟩:=Jo h;rw[Cl]at h;obtain⟨n,hn,h⟩:=Jo h;obtain⟨h1,h⟩:=B5 h;rw[MD,Cy]at h;simp only[K0,jJ]at h1;have hz:0+s.data.toList.length=s.size:=Jt _;rw[hz]at hn h1;refine⟨_,h,?_⟩;simp only[b,c,hn,LQ,jI];refine⟨g,⟨by omega,by omega,by omega⟩,?_⟩
  congr 2
  apply ByteArray.ext;apply pF;simp only[ByteArray.data_extract,Array.toList_extract,List.extract];rfl
 ·rename_i e d m cs b;obtain⟨l,c,h⟩:=Jo h;obtain⟨n,hn,h⟩:=Jo h;obtain⟨y,p,h⟩:=Jo h;obtain⟨h1,h⟩:=B5 h;rw[Dy,MD,Cy]at h;simp only[K0,jJ]at h1;refine⟨_,h,?_⟩;have k:((n:Int)-l).toNat=n-l:=by omega
  simp only[b,c,hn,p,LQ,jI,k];refine⟨⟨by omega,by omega,by omega,by omega⟩,λhm=>?_,rfl⟩;cases mx with
  |none=>simp at hm
  |some _=>simpa using h1.1
 ·rename_i e d sz s o m b;obtain⟨g,h⟩:=B5 h;obtain⟨l,c,h⟩:=Jo h;obtain⟨n,hn,h⟩:=Jo h;obtain⟨y,p,h⟩:=Jo h;obtain⟨h1,h⟩:=B5 h;rw[Dy,Dy]at h;simp only[K0,jJ]at h1;refine⟨_,h,?_⟩;have k:((n:Int)-l).toNat=n-l:=by omega
  simp only[b,c,hn,p,LQ,jI,k];refine⟨Yo g,⟨by omega,by omega,by omega,by omega⟩,λhm=>?_,rfl⟩;cases mx with
  |none=>simp at hm
  |some _=>simpa using h1.1
 ·rename_i e d b;obtain⟨g,h⟩:=B5 h;obtain⟨l,c,h⟩:=Jo h;obtain⟨n,hn,h⟩:=Jo h;obtain⟨h1,h⟩:=B5 h;simp only[K0,qA]at h1;refine⟨_,h,?_⟩;simp only[b,c,hn,LQ];exact⟨g,⟨by omega,by omega⟩,trivial⟩
 ·cases h
def C9(v:AV)(k:Nat)(K:K2):Af:=match v with|.tup vs=>hdK (Dg k vs) K|_=>none
def A7r{k:Nat}(h:C9 v k K=some r):∃vs u,v=.tup vs/\vs[k]?=some u/\K u=some r:=by
 unfold C9 at h;split at h
 ·rename_i vs;rw[Cy]at h;obtain⟨a,l,b,h⟩:=A1m h;refine⟨vs,a,rfl,?_,h⟩;have:=congrArg (λl=>l[0]?) b;simpa using this
 ·cases h
def Bm(i:TI)(x:AV)(K:K2):Af:=
 match i.d,x with
 |.string,.v (.string s)=>G6 s.data.toList 0 λn=>K (.v (.int .i64 (.ofNat n)))
 |.slice _ _,.list n _=>K (.v (.int .i64 (.ofNat n)))
 |.slice _ _,.sl _ _ _ n=>K (.v (.int .i64 (.ofNat n)))
 |.slice _ _,.v (.slice none 0 0)=>K (.v (.int .i64 (.ofNat 0)))
 |.array n _ _,_=>K (.v (.int .i64 (.ofNat n)))
 |_,_=>none
def A7o{ty:TypeId}(c:T ty=some i)(h:Bm i x K=some r):∃u,K u=some r/\A8g T ty x (λd=>d=u):=by
 unfold Bm at h;unfold A8g;rw[c];simp only;split at h
 ·rename_i s b;rw[Cl]at h;refine⟨_,h,?_⟩;simp only[b];rw[Jt];rfl
 ·rename_i b;exact⟨_,h,by simp only[b];rfl⟩
 ·rename_i b;exact⟨_,h,by simp only[b];rfl⟩
 ·rename_i b;exact⟨_,h,by simp only[b];rfl⟩
 ·rename_i b;exact⟨_,h,by simp only[b];rfl⟩
 ·cases h
def eMM(c:Bool)(a b:AV)(K:K2):Af:=
 match a,b with
 |.v (.int k x),.v (.int d y)=>ck (decide (k=d)) (@Bool.rec (λ_=>Af) (@Bool.rec (λ_=>Af) (K (.v (.int k y))) (K (.v (.int k x))) (pG y x)) (@Bool.rec (λ_=>Af) (K (.v (.int k y))) (K (.v (.int k x))) (pG x y)) c)
 |.v (.string s),.v (.string u)=>@Bool.rec (λ_=>Af) (K (.v (.string u))) (K (.v (.string s))) (@Bool.rec (λ_=>Bool) (!ltB s.data.toList u.data.toList) (ltB s.data.toList u.data.toList||eqB s.data.toList u.data.toList) c)
 |_,_=>none
def A1M{c:Bool}{a b:AV}(h:eMM c a b K=some r):∃u,K u=some r/\xmm c a b (λm=>m=u):=by
 unfold eMM at h;split at h
 ·rename_i k x g y;obtain⟨h1,h⟩:=B5 h;simp only[xmm];have e:k=g:=by simpa using h1
  cases c
  ·rw[L1]at h;by_cases d:y<=x
   ·rw[Hj d]at h;exact⟨_,h,e,by rw[C5 (by simp),C5 (by omega)]⟩
   ·rw[HX d]at h;exact⟨_,h,e,by rw[C5 (by simp),Dl (by omega)]⟩
  ·rw[L1 x y]at h;by_cases d:x<=y
   ·rw[Hj d]at h;exact⟨_,h,e,by rw[Dl rfl,C5 (by omega)]⟩
   ·rw[HX d]at h;exact⟨_,h,e,by rw[Dl rfl,Dl (by omega)]⟩
 ·rename_i s u;simp only[xmm];cases c
  ·simp only[M?,XD]at h⊢;cases hb:(!Op.bytesLess s.data.toList u.data.toList)<;>(rw[hb]at h;exact⟨_,h,rfl⟩)
  ·simp only[M?,QK,XD]at h⊢;cases hb:(Op.bytesLess s.data.toList u.data.toList||s.data.toList==u.data.toList)<;>(rw[hb]at h;exact⟨_,h,rfl⟩)
 ·cases h
end
end
section
variable{r:AV×Hp}{tmps:Array Value}{fn:Func}{args:Is}{ys:Hx}{i k m:Nat}{t:Tm}{wa:World}
def Ctx.delB(C:Ctx)(b:Nat):Ctx:={C with B:=λk=>C.B k/\k≠b}
section
variable{P:Program}{G:Gl}{w0:Base}{C:Ctx}{H:Hp}{w w':World}{b:Nat}{o o':Obj}
def U!(hb:w.heap[b]?=some o)(a:∀arr T fz,o≠.cells arr T fz){v:Value}(h:w.cell? ⟨k,i,none⟩=some v):k≠b:=by
 intro e;subst e;simp only[World.cell?,hb]at h;cases o<;>simp at h
 exact a _ _ _ rfl
def SameObj.cell(c:SameObj w w' b o')(a:k≠b):w'.cell? ⟨k,i,none⟩=w.cell? ⟨k,i,none⟩:=l0t (c.others k a)
def VRel.shut(hb:w.heap[b]?=some (.deferred (some [])))(f:SameObj w w' b o'){a:AV}{y:Value}(h:VRel C w a y):VRel (C.delB b) w' a y:=by
 have p:∀arr T fz,(Obj.deferred (some []):Obj)≠.cells arr T fz:=λ_ _ _ h=>by cases h
 induction h with
 |v x=>exact .v x
 |ptr h=>exact .ptr h
 |iptr vs q hc _ ih=>exact .iptr vs q (λi c=>(f.cell (U! hb p (hc i c))).trans (hc i c)) (λi c=>ih i c hb f)
 |list0=>exact .list0
 |list h vs q hc _ ih=>exact .list h vs q (λi c=>(f.cell (U! hb p (hc i c))).trans (hc i c)) (λi c=>ih i c hb f)
 |sl h j d hsz=>exact .sl h j ((f.others _ (λe=>by subst e;rw[hb]at d;cases d)).trans d) hsz
 |slz hr=>exact .slz hr
 |fn ys F g s _ _ u A=>exact .fn ys F g s (λi c=>u i c hb f) (λi c=>A i c hb f)
 |agg ys g _ ih=>exact .agg ys g (λi c=>ih i c hb f)
 |tup ys g _ ih=>exact .tup ys g (λi c=>ih i c hb f)
 |mp h=>exact .mp h
 |@imap C w J b2 clock ms B d g D hn hc _ ih=>
  have n:b2≠b:=λe=>by subst e;rw[hb]at d;cases d
  exact .imap ms ⟨B,n⟩ ((f.others _ n).trans d) g D hn hc (λi c=>ih i c hb f)
 |yl h=>exact .yl h
 |it h=>exact .it h
 |dk y=>exact .dk y
theorem CI.shut(hb:w.heap[b]?=some (.deferred (some [])))(e:SameObj w w' b o'){c:Is}(h:CI C w c ys):CI (C.delB b) w' c ys:=
 ⟨h.1,λi a d=>let⟨y,f,hv⟩:=h.2 i a d;⟨y,f,hv.shut hb e⟩⟩
theorem LH.shut(hb:w.heap[b]?=some (.deferred (some [])))(d:SameObj w w' b o'){es:IH}{ms:List MapEntry}(h:LH C w es ms):LH (C.delB b) w' es ms:=
 ⟨h.1,λi p c=>let⟨m,hm,a,hv⟩:=h.2 i p c;⟨m,hm,a,hv.shut hb d⟩⟩
theorem eE.shut(hb:w.heap[b]?=some (.deferred (some [])))(d:SameObj w w' b o'){ms:Array MapEntry}{seen:Array Nat}:∀{x:Option (Value×AV)},eE C w ms seen x->eE (C.delB b) w' ms seen x
 |none,_=>trivial
 |some _,⟨m,h1,h2,a,c⟩=>⟨m,h1,h2,a,c.shut hb d⟩
theorem WU.shut(hb:w.heap[b]?=some (.deferred (some [])))(a:SameObj w w' b o')(h:WU C w t tmps):WU (C.delB b) w' t tmps:=λi=>(h i).shut hb a
def A0E(q:Bool):(C.delB b).sel q=(C.sel q).delB b:=by cases q<;>rfl
theorem Td.shut(hb:w.heap[b]?=some (.deferred (some [])))(a:SameObj w w' b o'){r:Nat}{x:Row}(h:Td C w r x):Td (C.delB b) w' r x:=by
 have ne:∀{k:Nat}{q:Obj},w.heap[k]?=some q->(∀l,q≠.deferred l)->k≠b:=λn hq e=>by
  subst e;rw[hb]at n;injection n with n;exact hq _ n.symm
 cases x with
 |cells q T cs=>
  rcases h with⟨h1,h2⟩|⟨k,f,arr,fz,h⟩
  ·exact .inl ⟨h1,h2⟩
  ·refine .inr ⟨k,f,arr,fz,h.at_,(a.others k (ne h.block (λ_ e=>by cases e))).trans h.block,h.free,h.fits,?_,h.exact⟩;rw[A0E];exact h.vals.shut hb a
 |map q M L=>
  obtain⟨k,ms,clock,h1,c,g,d,j⟩:=h;refine⟨k,ms,clock,h1,(a.others k (ne c (λ_ e=>by cases e))).trans c,g,?_,j⟩;rw[A0E];exact d.shut hb a
 |loop N t ps J K u=>
  obtain⟨k,l,h1,h2,c,g,d,j,p,s,B⟩:=h;exact⟨k,l,h1,(a.others k (ne h2 (λ_ e=>by cases e))).trans h2,c,g,d,j,p,s,B.shut hb a⟩
 |iter left D=>
  obtain⟨k,F,since,seen,last,h1,h2,c⟩:=h;refine⟨k,F,since,seen,last,h1,(a.others k (ne h2 (λ_ e=>by cases e))).trans h2,?_⟩;rcases c with c|⟨m,ms,clock,v,y,A,g,d,j,p,s⟩
  ·exact .inl c
  ·have hm:=ne d (λ_ e=>by cases e);exact .inr ⟨m,ms,clock,v,y,A,⟨g,hm⟩,(a.others m hm).trans d,j,p.shut (C:=C.bare) hb a,s.shut (C:=C.bare) hb a⟩
 |gone=>trivial
theorem Rel.shut(h:Rel G w0 C H w)(hb:w.heap[b]?=some (.deferred (some [])))(n:w0.own b)(a:SameObj w w' b o'):Rel G w0 (C.delB b) H w':=by
 have d:∀arr T fz,(Obj.deferred (some []):Obj)≠.cells arr T fz:=λ_ _ _ h=>by cases h
 refine⟨λg cs j i v hv=>?_,h.below.same_obj a n,h.lt,λr x e=>(h.rows r x e).shut hb a,λr x k o e p=>?_,h.sep,λk i f=>a.size▸h.fin k i f,λk c=>a.size▸h.finB k c.1,h.nx⟩
 ·have:=h.glob g cs j i v hv;exact⟨this.1,(a.cell (U! hb d this.2)).trans this.2⟩
 ·have:=h.own r x k o e p;exact⟨this.1,this.2.1,λc=>this.2.2 c.1⟩
def A65(E:XE)(t:Tm)(H:Hp)(rs:List ResultVar):(Is->Af)->Af:=
 @List.rec ResultVar (λ_=>(Is->Af)->Af) (λK=>K [])
  (λr _ ih K=>match r with
   |.tmp i=>gtm t i λv=>ih λvs=>K (v::vs)
   |.cell a ty=>gtm t a λp=>E.ty.getK ty λi=>AD i p H λv=>ih λvs=>K (v::vs)) rs
def pM(vs:Is)(K:K2):Af:=
 @List.rec AV (λ_=>Af) (K (.tup [])) (λv l _=>@List.rec AV (λ_=>Af) (K v) (λu a _=>K (.tup (v::u::a))) l) vs
def A96:Is->AV
 |[v]=>v
 |vs=>.tup vs
def A2r(vs:Is)(K:K2):pM vs K=K (A96 vs):=by
 match vs with
 |[]=>rfl
 |[v]=>rfl
 |v::u::l=>rfl
def XE.T(E:XE):Ty:=λty=>E.ty.get ty
def Bf{α:Type}{b:BT α}{K:α->Af}(h:b.getK i K=some r):∃v,b.get i=some v/\K v=some r:=by
 rw[BT.getK_eq]at h;split at h
 ·exact⟨_,by assumption,h⟩
 ·cases h
def A9c(tmps:Array Value):ResultVar->Sem Value
 |.tmp t=>pure (tmps.getD t undef)
 |.cell x t=>do loadVar t (<-asAddr (tmps.getD x undef))
def A64{E:XE}{T:Ty}(y:jD P T)(s:∀ty i,E.ty.get ty=some i->T ty=some i)(hr:Rel G w0 C H w)(f:WU C w t tmps):∀(rs:List ResultVar)(K:Is->Af),A65 E t H rs K=some r->
 ∃vs ys,(rs.mapM (A9c tmps)).run P w=.ok ys w/\CI C w vs ys/\K vs=some r:=by
 intro rs
 induction rs with
 |nil=>intro K h;exact⟨[],[],rfl,.nil,h⟩
 |cons x rs ih=>
  intro K h;cases x with
  |tmp i=>
   have h:(gtm t i λv=>A65 E t H rs λvs=>K (v::vs))=some r:=h;rw[Wv]at h;obtain⟨vs,ys,h1,h2,d⟩:=ih _ h;refine⟨_,_::ys,?_,.cons (f i) h2,d⟩;rw[List.mapM_cons];simp only[A9c,Dm,lM,FX,h1]
  |cell x ty=>
   have h:(gtm t x λp=>E.ty.getK ty λi=>AD i p H λv=>A65 E t H rs λvs=>K (v::vs))=some r:=h;rw[Wv]at h;obtain⟨i,A,h⟩:=Bf h;obtain⟨u,h,B⟩:=A1R (T:=T) (s _ _ A) h;obtain⟨v,z,h1,h2,d⟩:=mR y hr (f x) B;subst d;obtain⟨vs,ys,g,j,n⟩:=ih _ h;refine⟨v::vs,z::ys,?_,.cons h2 j,n⟩;rw[List.mapM_cons];have c:(do loadVar ty (<-asAddr (tmps.getD x undef)):Sem Value).run P w=.ok z w:=by
    generalize tmps.getD x undef=q at*;cases q<;>simp only[Instr.loadAt,Instr.sureAddr,Dm,run_stuck,Result.andThen_halt]at h1<;>try (cases h1;done)
    rename_i e;cases e with
    |none=>simp at h1
    |some e=>simpa [asAddr] using h1
   have a:(A9c tmps (.cell x ty)).run P w=.ok z w:=c;rw[Dm,a];simp only[FX,Dm,g,lM]
def G?:Hx->Value
 |[y]=>y
 |ys=>.tuple ys.toArray
def A0J(h:(fn.results.toList.mapM (A9c tmps)).run P w=.ok ys w):
 (results fn tmps).run P w=.ok (G? ys) w:=by
 have e:results fn tmps=(do
  let vs<-fn.results.mapM (A9c tmps)
  pure (if h:vs.size=1 then vs[0] else .tuple vs)):=by
  unfold results
  congr 1
 rw[e,Dm,Array.mapM_eq_mapM_toList,Sem.run_map,h];simp only[FX,lM]
 congr 1
 match ys with
 |[]=>rfl
 |[y]=>rfl
 |y::z::ys=>simp[G?]
def A38{vs:Is}(h:CI C w vs ys):VRel C w (A96 vs) (G? ys):=by
 match vs,ys,h with
 |[],[],h=>exact DG.2 ⟨[],rfl,h⟩
 |[v],[y],h=>exact h.get 0 (by simp)
 |v::u::vs,y::z::ys,h=>exact DG.2 ⟨_,rfl,h⟩
 |[],_::_,h=>exact absurd h.1 (by simp)
 |[v],[],h=>exact absurd h.1 (by simp)
 |[v],_::_::_,h=>exact absurd h.1 (by simp)
 |_::_::_,[],h=>exact absurd h.1 (by simp)
 |_::_::_,[_],h=>exact absurd h.1 (by simp)
def numbered:Nat->Is->Tm
 |_,[]=>[]
 |k,a::c=>(k,a)::numbered (k+1) c
def wC:∀(c:Is)(k i:Nat),XA3 (numbered k c) i=if k<=i/\i<k+c.length then c.getD (i-k) .dk else .dk:=by
 intro c
 induction c with
 |nil=>intro k i;simp[numbered,XA3]
 |cons a c ih=>
  intro k i;simp only[numbered,XA3];by_cases d:i=k
  ·subst d;simp
  ·rw[C5 d,ih];by_cases h:k<=i/\i<k+(a::c).length
   ·simp only[LV]at h;rw[Dl (by omega),Dl (by simp only[LV];omega)];have:i-k=(i-(k+1))+1:=by omega
    rw[this];simp
   ·simp only[LV]at h;rw[C5 (by omega),C5 (by simp only[LV];omega)]
def B4J(c:Is):Nat->(Tm->Af)->Af:=
 (λ(_:Unit)=>@List.rec AV (λ_=>Nat->(Tm->Af)->Af) (λ_ K=>K []) (λa _ ih k K=>fNS (Nat.succ k) λd=>ih d λt=>K ((k,a)::t)) c) Iv
def B4I(c:Is):∀(k:Nat)(K:Tm->Af),B4J c k K=K (numbered k c):=by
 induction c with
 |nil=>intro k K;rfl
 |cons a c ih=>
  intro k K;have:B4J (a::c) k K=fNS (Nat.succ k) λd=>B4J c d λt=>K ((k,a)::t):=rfl;rw[this,B11,ih];rfl
theorem WU.numbered{n:Nat}(d:CI C w args ys):WU C w (numbered 0 args) (ys.toArray++Array.replicate n undef):=by
 intro i;rw[wC];have c:=d.1;split
 ·rename_i e;have a:i<args.length:=by omega
  have:=d.get i a;simp only[Nat.sub_zero,Vf,K8 a,l1q,eH];rw[Array.getElem?_append_left (by simp;omega)];simp[c,a];exact this
 ·exact .dk _
theorem Frm.delB{O:Nat->Prop}{C0:Ctx}(h:Frm m O C0 wa C w)(a:∀k,C0.B k->k<wa.heap.size)(f:∀k i,C0.F k i->k<wa.heap.size)(hb:wa.heap.size<=b)(g:w.heap[b]?=some (.deferred (some [])))(d:SameObj w w' b o'):Frm m O C0 wa (C.delB b) w':=
 ⟨h.π,h.F,λk i j=>(d.cell (by have:=f k i j;omega)).trans (h.keep k i j),λk c=>⟨h.B k c,by have:=a k c;omega⟩,λk c=>(d.others k (by have:=a k c;omega)).trans (h.keepB k c),
  λk arr T fz n=>by
   obtain⟨a1,f1,h1,h2⟩:=h.size k arr T fz n;exact⟨a1,f1,(d.others k (λe=>by subst e;rw[g]at h1;cases h1)).trans h1,h2⟩,
  h.new,λk c=>h.newB k c.1,by rw[d.size];exact h.grow⟩
def N!{R:Ending->World->Prop}{m s0:Nat}{C0:Ctx}(d:∀k,C0.B k->k<wa.heap.size)(n:∀k i,C0.F k i->k<wa.heap.size)(K:wa.heap.size<=s0)(g:∀C w,Rel G w0 C H w->WU C w t tmps->Frm m w0.own C0 wa C w->∃v,(results fn tmps).run P w=.ok v w/\R (.returned v) w):
 ∀(a:Hb)(C:Ctx)(w:World),a.Nodup->(∀b∈a,s0<=b/\w0.own b/\C.B b/\w.heap[b]?=some (.deferred (some [])))->Rel G w0 C H w->WU C w t tmps->Frm m w0.own C0 wa C w->
  LeavesInM (Fe none) 0 P fn tmps R (a.map M') .returning w:=by
 intro a
 induction a with
 |nil=>
  intro C w _ _ hr u j;exact g C w hr u j
 |cons b a ih=>
  intro C w hn hb hr u j;obtain⟨h1,h2,L,c⟩:=hb b (by simp);obtain⟨q,s⟩:=List.nodup_cons.1 hn;have p:=(l1v.1 c).1;have h:SameObj w (w.putObj b (.deferred none)) b (.deferred none):=SameObj.putObj p _;refine⟨by simp,.inl ⟨b,_,rfl,run_takeDeferred c,ih (C.delB b) _ s (λk x=>?_) (hr.shut c h2 h) (u.shut c h) (j.delB d n (by omega) c h)⟩⟩;obtain⟨y,A,D,J⟩:=hb k (by simp[x]);have f:k≠b:=λe=>q (e▸x);exact⟨y,A,⟨D,f⟩,(h.others k f).trans J⟩
def C0P(E:XE)(rs:List ResultVar)(K:KV):Exit->Tm->Ru:=λe t H=>
 match e with
 |.normal=>A65 E t H rs λvs=>pM vs λv=>K v H
 |.ret=>A65 E t H rs λvs=>pM vs λv=>K v H
 |_=>none
def A7M{E:XE}{T:Ty}(N:jD P T)(L:∀ty i,E.ty.get ty=some i->T ty=some i){f:FuncId}{c:Code}{K:KV}(O:P.funcs[f]?=some fn)(hb:fn.body=some c)(h:To P G none (As H) (args.length+(fn.ntmps-args.length)) c (λe t a=>C0P E fn.results.toList K e t a=some r) (numbered 0 args) H):QP P G f args H (λv a=>K v a=some r):=by
 intro w0 C w ys p A;refine callsIn_wide.1 (callsIn_of_wp_marks (n:=0) O hb trivial ?_);have g:=A.1;have M:St G w0 w.heap.size C (args.length+(fn.ntmps-args.length)) (numbered 0 args) H {tmps:=ys.toArray++Array.replicate (fn.ntmps-ys.toArray.size) undef,defers:=[]} w:=⟨p,by simp[g],.numbered A,.nil,Me _⟩
 have Q:=h w0 w.heap.size C _ w M;have j:Fe none=Fence.wide:=rfl;rw[<-j];refine wpIn_mono Q λe u w' ⟨d,B,a,s,V,q⟩=>?_;have fin:(A65 E B a fn.results.toList λvs=>pM vs λv=>K v a)=some r->LeavesInM (Fe none) 0 P fn u.tmps (λe w'=>∃v y d a,e=.returned y/\Rel G w0 d a w'/\VRel d w' v y/\Frm (As H) w0.own C w d w'/\K v a=some r) u.defers .returning w':=by
  intro q;obtain⟨F,d1,d2,J⟩:=s.defers;rw[d2];refine N! (H:=a) (t:=B) (C0:=C) (wa:=w) (m:=As H) (s0:=w.heap.size) p.finB p.fin (Me _) (λD w1 r1 R f1=>?_) F d w' d1 J s.rel s.tmps V;obtain⟨vs,X,h1,h2,x⟩:=A64 N L r1 R _ _ q;rw[A2r]at x;exact⟨_,A0J h1,_,_,D,a,rfl,r1,A38 h2,f1,x⟩
 cases e with
 |normal=>exact fin q
 |ret=>exact fin q
 |_=>cases q
end
end
section
variable{f:AV->(Bool->K2)->Af}{q q':Bool}
def IE(f:AV->(Bool->K2)->Af)(l:Is):(Bool->Is->Af)->Af:=
 @List.rec AV (λ_=>(Bool->Is->Af)->Af) (λK=>K false [])
  (λa _ ih K=>f a λq c=>ih λq' d=>K (@Bool.rec (λ_=>Bool) q' true q) (c::d)) l
def QS(f:AV->(Bool->K2)->Af)(l:IH):(Bool->IH->Af)->Af:=
 @List.rec (Value×AV) (λ_=>(Bool->IH->Af)->Af) (λK=>K false [])
  (λp _ ih K=>f p.2 λq a=>ih λq' c=>K (@Bool.rec (λ_=>Bool) q' true q) ((p.1,a)::c)) l
def oZ(x:Row)(K:IH->Af):Af:=match x with|.map false a _=>K a|_=>none
def A1h(b:Bool)(a:AV)(K:Bool->K2):Af:=
 match a with
 |.v x=>K false (.v x)
 |.list n cs=>ck b (K false (.list n cs))
 |.iptr cs=>ck b (K false (.iptr cs))
 |.imap c=>ck b (K false (.imap c))
 |_=>none
def A1g(b:Bool)(H:Hp)(ih:AV->(Bool->K2)->Af)(a:AV)(K:Bool->K2):Af:=
 match a with
 |.v x=>K false (.v x)
 |.list n cs=>ck b (K false (.list n cs))
 |.iptr cs=>ck b (K false (.iptr cs))
 |.imap g=>ck b (K false (.imap g))
 |.agg cs=>IE ih cs λq d=>K q (.agg d)
 |.tup cs=>IE ih cs λq d=>K q (.tup d)
 |.fn f j cs=>IE ih j λq i=>IE ih cs λq' d=>K (@Bool.rec (λ_=>Bool) q' true q) (.fn f i d)
 |.sl sz r o n=>I6 H r λx=>J6 x λ_ cs=>Ek (Nat.mul n sz) (Dg o cs) λc=>IE ih c λ_ e=>K true (.list n e)
 |.ptr r p k=>I6 H r λx=>J6 x λ_ cs=>IE ih (Dg (Nat.add p k) cs) λ_ e=>K true (.iptr e)
 |.mp r=>I6 H r λx=>oZ x λg=>QS ih g λ_ h=>K true (.imap h)
 |_=>none
def HQ(b:Bool)(H:Hp)(D:Nat):AV->(Bool->K2)->Af:=@Nat.rec (λ_=>AV->(Bool->K2)->Af) (A1h b) (λ_ ih=>A1g b H ih) D
def Vk(b q:Bool)(C:Ctx)(H:Hp):Ctx:=
 {π:=λ_=>none
  F:=λk i=>(b=true/\C.F k i)\/(q=true/\∃r x o,Aj H r=some x/\C.π r=some (some (k,o)))
  B:=λk=>(b=true/\C.B k)\/(q=true/\∃r x o,Aj H r=some x/\C.π r=some (some (k,o)))}
def yY(b q:Bool)(C:Ctx)(H:Hp):(Vk b q C H).bare=Vk b q C H:=rfl
def Ot{b q q':Bool}{C:Ctx}{H:Hp}{w:World}(h:q=true->q'=true):Ext (λ_=>True) (Vk b q C H) w (Vk b q' C H) w:=
 ⟨λ_ _=>rfl,λ_ _ c=>c.imp id (λ⟨h1,h2⟩=>⟨h h1,h2⟩),λ_ _ _=>rfl,λ_ c=>c.imp id (λ⟨h1,h2⟩=>⟨h h1,h2⟩),λ_ _=>rfl,λ_ a _ f h=>⟨a,f,h,rfl⟩,λ_ _ _=>.inr trivial,λ_ _=>.inr trivial,Me _⟩
def mM:q=true->(@Bool.rec (λ_=>Bool) q' true q)=true:=λh=>by subst h;rfl
def dW:q'=true->(@Bool.rec (λ_=>Bool) q' true q)=true:=λh=>by subst h;cases q<;>rfl
section
variable{G:Gl}{w0:Base}{C:Ctx}{H:Hp}{w:World}{b:Bool}{r:AV×Hp}
def mX(n:∀a y K,VRel C w a y->f a K=some r->∃q c,VRel (Vk b q C H) w c y/\K q c=some r):
 ∀(l:Is)(ys:Hx)(K:Bool->Is->Af),CI C w l ys->IE f l K=some r->∃q d,CI (Vk b q C H) w d ys/\K q d=some r:=by
 intro l
 induction l with
 |nil=>intro ys K e h;exact⟨false,[],by rw[e.nil_inv];exact .nil,h⟩
 |cons a l ih=>
  intro ys K e h;obtain⟨y,g,rfl,h1,h2⟩:=e.cons_inv;have h:(f a λq c=>IE f l λq' d=>K (@Bool.rec (λ_=>Bool) q' true q) (c::d))=some r:=h;obtain⟨q,c,i,j⟩:=n a y _ h1 h;obtain⟨q',d,k,m⟩:=ih g _ h2 j;exact⟨_,_,.cons (i.mono (Ot mM)) (k.mono (Ot dW)),m⟩
def A1f(A:∀a y K,VRel C w a y->f a K=some r->∃q d,VRel (Vk b q C H) w d y/\K q d=some r):
 ∀(l:IH)(ms:List MapEntry)(K:Bool->IH->Af),LH C w l ms->QS f l K=some r->∃q g,LH (Vk b q C H) w g ms/\K q g=some r:=by
 intro l
 induction l with
 |nil=>intro ms K c h;exact⟨false,[],⟨c.1,λi p D=>by simp at D⟩,h⟩
 |cons p l ih=>
  intro ms K c h;cases ms with
  |nil=>exact absurd c.1 (by simp)
  |cons m ms=>
   obtain⟨J,hm,B,hv⟩:=c.2 0 p rfl;simp at hm;subst hm;have h:(f p.2 λq d=>QS f l λq' g=>K (@Bool.rec (λ_=>Bool) q' true q) ((p.1,d)::g))=some r:=h;obtain⟨q,d,t,u⟩:=A _ _ _ hv h;obtain⟨q',g,j,v⟩:=ih ms _ ⟨by simpa using c.1,λi x e=>by simpa using c.2 (i+1) x (by simpa using e)⟩ u;refine⟨_,_,⟨by simpa using j.1,λi x e=>?_⟩,v⟩;cases i with
   |zero=>simp at e;subst e;exact⟨m,rfl,B,t.mono (Ot mM)⟩
   |succ i=>
    obtain⟨F,k,n,s⟩:=j.2 i x (by simpa using e);exact⟨F,by simpa using k,n,s.mono (Ot dW)⟩
def Vh{a:AV}{y:Value}(hb:b=true)(hc:iT 0 a=true)(h:VRel C w a y):VRel (Vk b false C H) w a y:=
 VRel.down (by subst hb;funext k i;simp[Vk]) (by subst hb;funext k;simp[Vk]) 0 a y hc h
def tR(hr:Rel G w0 C H w):∀(D:Nat)(a:AV)(y:Value)(K:Bool->K2),VRel C w a y->HQ b H D a K=some r->∃q a',VRel (Vk b q C H) w a' y/\K q a'=some r:=by
 intro D
 induction D with
 |zero=>
  intro a y K hv h;change A1h b a K=some r at h;unfold A1h at h;split at h
  ·exact⟨false,_,by rw[AM.1 hv];exact .v _,h⟩
  ·obtain⟨h1,h⟩:=B5 h;exact⟨false,_,Vh h1 rfl hv,h⟩
  ·obtain⟨h1,h⟩:=B5 h;exact⟨false,_,Vh h1 rfl hv,h⟩
  ·obtain⟨h1,h⟩:=B5 h;exact⟨false,_,Vh h1 rfl hv,h⟩
  ·cases h
 |succ D ih=>
  intro a y K hv h;have V:=λl N K=>mX (f:=HQ b H D) (b:=b) (H:=H) (C:=C) (w:=w) (r:=r) ih l N K;have hX:=λl N K=>A1f (f:=HQ b H D) (b:=b) (H:=H) (C:=C) (w:=w) (r:=r) ih l N K;change A1g b H (HQ b H D) a K=some r at h;unfold A1g at h;split at h
  ·exact⟨false,_,by rw[AM.1 hv];exact .v _,h⟩
  ·obtain⟨h1,h⟩:=B5 h;exact⟨false,_,Vh h1 rfl hv,h⟩
  ·obtain⟨h1,h⟩:=B5 h;exact⟨false,_,Vh h1 rfl hv,h⟩
  ·obtain⟨h1,h⟩:=B5 h;exact⟨false,_,Vh h1 rfl hv,h⟩
  ·obtain⟨N,rfl,hl⟩:=EO.1 hv;obtain⟨q,L,h1,h2⟩:=V _ _ _ hl h;exact⟨q,_,EO.2 ⟨N,rfl,h1⟩,h2⟩
  ·obtain⟨N,rfl,hl⟩:=DG.1 hv;obtain⟨q,L,h1,h2⟩:=V _ _ _ hl h;exact⟨q,_,DG.2 ⟨N,rfl,h1⟩,h2⟩
  ·obtain⟨N,zs,rfl,hl,ac⟩:=Jr.1 hv;obtain⟨q,L,h1,h2⟩:=V _ _ _ hl h;obtain⟨q',ai,g,P⟩:=V _ _ _ ac h2;exact⟨_,_,Jr.2 ⟨N,zs,rfl,h1.mono (Ot mM),g.mono (Ot dW)⟩,P⟩
  ·rename_i sz s o n;obtain⟨q0,e,cs,F,h1⟩:=K3 h;obtain⟨B,h2⟩:=Ns _ _ _ _ h1;rw[Cy]at B h2;cases hv with
   |slz ah=>
    have h2:IE (HQ b H D) ((cs.drop o).take (0*sz)) (λ_ c'=>K true (.list 0 c'))=some r:=h2;rw[Nat.zero_mul,List.take_zero]at h2;exact⟨true,_,.list0,h2⟩
   |@sl _ _ _ _ _ _ bk O cap arr T fz J Z ag ae=>
    rcases hr.rows s _ F with⟨_,h6⟩|⟨b',c,u,aa,M⟩
    ·rw[h6]at J;cases J
    ·have A:=M.at_.symm.trans J;injection A with A;injection A with A;injection A with X Y;subst X Y
     have d:CI C w ((cs.drop o).take (n*sz)) ((((u.toList.drop c).take cs.length).drop o).take (n*sz)):=(M.vals.unsel.drop o).take _;obtain⟨q,L,g,P⟩:=V _ _ _ d h2;have g:=g.mono (Ot (q':=true) (λ_=>rfl));have ad:L.length=n*sz:=by
      rw[<-g.1,d.1,vN];have:n*sz<=(cs.drop o).length:=B;omega
     refine⟨true,_,.list Z (λi=>((((u.toList.drop c).take cs.length).drop o).take (n*sz)).getD i undef) (λi t=>.inr ⟨rfl,s,_,_,F,J⟩) (λi t=>?_) (λi t=>?_),P⟩
     ·have ab:i<n*sz:=by omega
      have Q:o+i<cs.length:=by have:n*sz<=(cs.drop o).length:=B;simp at this;omega
      rw[lN,M.cell];rw[Vf,l0n,Dl ab,tT,l0n,Dl Q,tT,l27];have hf:=M.fits;rw[l1p (by omega)];rfl
     ·have:=g.get i t;rw[yY,Vf,K8 (by rw[g.1];exact t)];exact this
  ·rename_i s p k;obtain⟨q0,e,cs,F,h2⟩:=K3 h;rw[Cy]at h2;cases hv with
   |@ptr _ _ _ _ _ bk O J=>
    rcases hr.rows s _ F with⟨_,h6⟩|⟨b',c,u,aa,M⟩
    ·rw[h6]at J;cases J
    ·have A:=M.at_.symm.trans J;injection A with A;injection A with A;injection A with X Y;subst X Y
     have d:CI C w (cs.drop (p+k)) (((u.toList.drop c).take cs.length).drop (p+k)):=M.vals.unsel.drop _;obtain⟨q,L,g,P⟩:=V _ _ _ d h2;have g:=g.mono (Ot (q':=true) (λ_=>rfl));have ad:L.length=cs.length-(p+k):=by rw[<-g.1,d.1,Z_]
     refine⟨true,_,.iptr (λi=>(((u.toList.drop c).take cs.length).drop (p+k)).getD i undef) (λi t=>.inr ⟨rfl,s,_,_,F,J⟩) (λi t=>?_) (λi t=>?_),P⟩
     ·have Q:p+k+i<cs.length:=by omega
      rw[lN,M.cell];rw[Vf,tT,l0n,Dl Q,tT,l27];have hf:=M.fits;rw[l1p (by omega)];rfl
     ·have:=g.get i t;rw[yY,Vf,K8 (by rw[g.1];exact t)];exact this
  ·rename_i s;obtain⟨x,F,h2⟩:=Iy rfl h;unfold oZ at h2;split at h2
   ·rename_i es _bo;cases hv with
    |@mp _ _ _ bk O J=>
     obtain⟨af,ms,clock,g1,g2,g3,g4,_⟩:=hr.rows s _ F;have A:=g1.symm.trans J;injection A with A;injection A with A;injection A with X Y;subst X Y
     obtain⟨q,L,g,P⟩:=hX _ _ _ g4 h2;have g:=g.mono (Ot (q':=true) (λ_=>rfl));have B:ms.size=L.length:=by have:=g.1;simpa using this
     have get:∀i(t:i<L.length),(ms.getD i default).key=L[i].1/\VRel (Vk b true C H) w L[i].2 (ms.getD i default).val:=λi t=>by
      obtain⟨m,k1,k2,k3⟩:=g.2 i _ (K8 t);have:ms.getD i default=m:=by
       rw[l27]at k1;simp[eH,k1]
      rw[this];exact⟨k2,k3⟩
     refine⟨true,_,.imap ms (.inr ⟨rfl,s,_,_,F,J⟩) g2 B (λi t=>(get i t).1) (λi j R hj=>?_) (λi t=>?_) (λi t=>(get i t).2),P⟩
     ·have:=l26.1 g3.born i j (by simpa using Nat.lt_trans R hj) (by simpa using hj) R;simpa [eH,hj,Nat.lt_trans R hj] using this
     ·have:=g3.lt ms[i] (by simp);simpa [eH,t] using this
   ·cases h2
  ·cases h
end
end
section
variable{ag:Bool}{d:Nat}{t:TypeId}
def LK.fit:LK->Value->Bool
 |.int k,.int a _=>decide (a=k)
 |.str,.string _=>true
 |.bool,.bool _=>true
 |_,_=>false
def fits:List LK->Hx->Bool
 |[],[]=>true
 |k::ks,v::vs=>k.fit v&&fits ks vs
 |_,_=>false
def UG(ag:Bool)(vs:Hx):Value:=match ag with|true=>.agg vs.toArray|false=>vs.headD undef
def MI(P:Program)(rec:TypeId->Option (Bool×List LK)):Nat->List Field->Option (List LK)
 |_,[]=>some []
 |off,f::a=>match rec f.type with
  |some (_,ks)=>if f.name != "_" &&(Nat.beq f.offset off&&(Nat.beq (P.cellsOf f.type) ks.length&& !Nat.beq ks.length 0)) then(MI P rec (off+ks.length) a).map (ks++ ·) else none
  |none=>none
def leaves(P:Program):Nat->TypeId->Option (Bool×List LK)
 |0,_=>none
 |d+1,t=>match P.underlying t with
  |some (.int k)=>some (false,[.int k])
  |some .string=>some (false,[.str])
  |some .bool=>some (false,[.bool])
  |some (.struct a)=>if P.stoodInHeld t then none else(MI P (leaves P d) 0 a.toList).map λks=>(true,ks)
  |some (.array n e)=>match leaves P d e with
   |some (_,ks)=>if Nat.beq (P.cellsOf e) ks.length&& !Nat.beq ks.length 0 then some (true,(List.replicate n ks).flatten) else none
   |none=>none
  |_=>none
def Eu:∀{ks:List LK}{vs:Hx},fits ks vs=true->vs.length=ks.length:=by
 intro ks
 induction ks with
 |nil=>intro vs h;cases vs<;>simp[fits]at h;rfl
 |cons k ks ih=>
  intro vs h;cases vs with
  |nil=>simp[fits]at h
  |cons v vs=>simp only[fits,K0]at h;simp[ih h.2]
def Nt:∀{ks ls:List LK}{vs:Hx},fits (ks++ls) vs=true->fits ks (vs.take ks.length)=true/\fits ls (vs.drop ks.length)=true:=by
 intro ks
 induction ks with
 |nil=>intro ls vs h;exact⟨by simp[fits],by simpa using h⟩
 |cons k ks ih=>
  intro ls vs h;cases vs with
  |nil=>simp[fits]at h
  |cons v vs=>
   simp only[List.cons_append,fits,K0]at h;obtain⟨h1,h2⟩:=ih h.2;exact⟨by simp[fits,h.1,h1],by simpa using h2⟩
def eZ{α:Type}[DecidableEq α](n:Nat)(xs ys:List α):decide (xs=ys)=(decide (xs.take n=ys.take n)&&decide (xs.drop n=ys.drop n)):=by
 rw[tS];simp only[decide_eq_true_eq,K0];constructor
 ·rintro rfl;exact⟨rfl,rfl⟩
 ·rintro⟨h1,h2⟩;rw[<-l3a n xs,<-l3a n ys,h1,h2]
instance:DecidableEq Value:=Classical.typeDecidableEq Value
section
variable{P:Program}
def N?{ks:List LK}(h:leaves P d t=some (ag,ks))(w:World):(isAgg t).run P w=.ok ag w:=by
 cases d with
 |zero=>simp[leaves]at h
 |succ d=>
  unfold leaves at h;split at h
  ·rename_i a;injection h with h;injection h with h1 h2;subst h1;unfold isAgg;rw[Dm,run_underlying a w];rfl
  ·rename_i a;injection h with h;injection h with h1 h2;subst h1;unfold isAgg;rw[Dm,run_underlying a w];rfl
  ·rename_i a;injection h with h;injection h with h1 h2;subst h1;unfold isAgg;rw[Dm,run_underlying a w];rfl
  ·rename_i c a;split at h
   ·cases h
   ·cases b:MI P (leaves P d) 0 c.toList with
    |none=>rw[b]at h;simp at h
    |some l=>
     rw[b]at h;simp only[yN,l0z,Prod.mk.injEq]at h;obtain⟨h1,h2⟩:=h;subst h1;unfold isAgg;rw[Dm,run_underlying a w];rfl
  ·rename_i n e a;split at h
   ·split at h
    ·injection h with h;injection h with h1 h2;subst h1;unfold isAgg;rw[Dm,run_underlying a w];rfl
    ·cases h
   ·cases h
  ·cases h
def Np{ks:List LK}(h:leaves P d t=some (ag,ks))(hc:P.cellsOf t=ks.length)(b:ks.length≠0)(xs:Hx)(off:Nat)(e:off+ks.length<=xs.length)(w:World):
 (part t xs.toArray off).run P w=.ok (UG ag ((xs.drop off).take ks.length)) w:=by
 unfold part;rw[Dm,N? h w];simp only[FX];cases ag with
 |true=>
  simp only[if_true];rw[Dm,BV w (by rw[hc];exact b)];simp only[FX,lM,UG,hc]
  congr 2
  apply pF;simp[List.take_drop]
 |false=>
  simp only[yM,if_false];have a:off<xs.length:=by omega
  rw[l15,K8 a];simp only[lM,UG]
  congr 1
  rw[vM a];cases c:ks.length with
  |zero=>exact absurd c b
  |succ n=>rfl
def B27(P:Program)(d:Nat)(t:TypeId):Prop:=
 ∀ag ks,leaves P d t=some (ag,ks)->∀(m:Nat)(xs a:Hx),fits ks xs=true->fits ks a=true->∀w,(Op.equalIn (m+d) t (UG ag xs) (UG ag a)).run P w=.ok (decide (xs=a)) w
def pH(j:∀t,B27 P d t)(m:Nat):∀(a:List Field)(off:Nat)(ks:List LK),MI P (leaves P d) off a=some ks->∀(xs ys:Hx),fits ks (xs.drop off)=true->fits ks (ys.drop off)=true->
 off<=xs.length->off<=ys.length->∀w,(Op.eqFields (m+d) xs.toArray ys.toArray a).run P w=.ok (decide (xs.drop off=ys.drop off)) w:=by
 intro a
 induction a with
 |nil=>
  intro off ks h xs ys b c _ _ w;simp only[MI,l0z]at h;subst h;have h1:=Eu b;have h2:=Eu c;simp only[QT,List.length_eq_zero_iff]at h1 h2;rw[h1,h2];simp[Op.eqFields]
 |cons f a ih=>
  intro off ks h xs ys b c r s w;unfold MI at h;split at h
  ·rename_i ag k1 g;split at h
   ·rename_i hc;simp only[K0,qA,Z?,bne_iff_ne,ne_eq]at hc;obtain⟨c1,c2,c3,c4⟩:=hc;have c4:k1.length≠0:=λe=>by rw[e]at c4;simp at c4
    cases hr:MI P (leaves P d) (off+k1.length) a with
    |none=>rw[hr]at h;simp at h
    |some q=>
     rw[hr]at h;simp only[yN,l0z]at h;subst h;obtain⟨p,i⟩:=Nt b;obtain⟨y1,y2⟩:=Nt c;rw[l1a]at i y2;have k:=Eu b;have n:=Eu c;simp only[Z_,EC]at k n;simp only[Op.eqFields];rw[Dl c1,Dm,c2,Np g c3 c4 xs off (by omega) w];simp only[FX];rw[Dm,Np g c3 c4 ys off (by omega) w];simp only[FX];rw[Dm,j f.type ag k1 g m _ _ p y1 w];simp only[FX];rw[eZ k1.length (xs.drop off) (ys.drop off),l1a,l1a];cases hq:decide (List.take k1.length (List.drop off xs)=List.take k1.length (List.drop off ys))
     ·simp
     ·simp only[Bool.not_true,yM,if_false,Z!];exact ih _ _ hr xs ys i y2 (by omega) (by omega) w
   ·cases h
  ·cases h
def uJ{e:TypeId}(j:B27 P d e)(m:Nat){ks:List LK}(f:leaves P d e=some (ag,ks))(hc:P.cellsOf e=ks.length)(a:ks.length≠0):∀(n i:Nat)(xs ys:Hx),fits (List.replicate n ks).flatten (xs.drop (i*ks.length))=true->fits (List.replicate n ks).flatten (ys.drop (i*ks.length))=true->
 i*ks.length<=xs.length->i*ks.length<=ys.length->∀w,(Op.eqItems (m+d) e (P.cellsOf e) xs.toArray ys.toArray (List.range' i n)).run P w=.ok (decide (xs.drop (i*ks.length)=ys.drop (i*ks.length))) w:=by
 intro n
 induction n with
 |zero=>
  intro i xs ys b c _ _ w;have h1:=Eu b;have h2:=Eu c;simp only[List.replicate_zero,List.flatten_nil,QT,List.length_eq_zero_iff]at h1 h2;rw[h1,h2];simp[Op.eqItems]
 |succ n ih=>
  intro i xs ys b c r s w;rw[l1c,l1d]at b c;obtain⟨q,g⟩:=Nt b;obtain⟨y1,y2⟩:=Nt c;rw[l1a]at g y2;have k:=Eu b;have p:=Eu c;simp only[Z_,EC]at k p;have h:i*ks.length+ks.length=(i+1)*ks.length:=by rw[Z'];omega
  rw[List.range'_succ];simp only[Op.eqItems];rw[Dm,hc,Np f hc a xs (i*ks.length) (by omega) w];simp only[FX];rw[Dm,Np f hc a ys (i*ks.length) (by omega) w];simp only[FX];rw[Dm,j ag ks f m _ _ q y1 w];simp only[FX];rw[eZ ks.length (xs.drop (i*ks.length)) (ys.drop (i*ks.length)),l1a,l1a,h];rw[h]at g y2;cases hq:decide (List.take ks.length (List.drop (i*ks.length) xs)=List.take ks.length (List.drop (i*ks.length) ys))
  ·simp
  ·simp only[Bool.not_true,yM,if_false,Z!];have:=ih (i+1) xs ys g y2 (by omega) (by omega) w;rw[hc]at this;exact this
def uH:∀(d:Nat)(t:TypeId),B27 P d t:=by
 intro d
 induction d with
 |zero=>intro t ag ks h;simp[leaves]at h
 |succ d r=>
  intro t ag ks h m xs u a b w;rw[<-lN];unfold leaves at h;split at h
  ·rename_i k c;injection h with h;injection h with h1 h2;subst h1 h2
   obtain⟨x,rfl⟩:=l1f.1 (Eu a);obtain⟨y,rfl⟩:=l1f.1 (Eu b)
   ·
    simp only[fits,l1g]at a b;cases x<;>simp[LK.fit]at a
    cases y<;>simp[LK.fit]at b
    subst a b;simp only[UG,List.headD];rw[run_equalIn_int w (m+d) t _ _ _ _ c]
    congr 1
    rw[tS];simp
  ·rename_i c;injection h with h;injection h with h1 h2;subst h1 h2
   obtain⟨x,rfl⟩:=l1f.1 (Eu a);obtain⟨y,rfl⟩:=l1f.1 (Eu b)
   ·
    simp only[fits,l1g]at a b;cases x<;>simp[LK.fit]at a
    cases y<;>simp[LK.fit]at b
    simp only[UG,List.headD];rw[run_equalIn_string w (m+d) t _ _ c]
    congr 1
    rw[<-beq_toListBytes,tS,MapKept.bytes_beq];simp
  ·rename_i c;injection h with h;injection h with h1 h2;subst h1 h2
   obtain⟨x,rfl⟩:=l1f.1 (Eu a);obtain⟨y,rfl⟩:=l1f.1 (Eu b)
   ·
    simp only[fits,l1g]at a b;cases x<;>simp[LK.fit]at a
    cases y<;>simp[LK.fit]at b
    simp only[UG,List.headD];rw[run_equalIn_bool' w (m+d) t _ _ c]
    congr 1
    rw[tS];simp
  ·rename_i j c;split at h
   ·cases h
   ·rename_i q;cases f:MI P (leaves P d) 0 j.toList with
    |none=>rw[f]at h;simp at h
    |some l=>
     rw[f]at h;simp only[yN,l0z,Prod.mk.injEq]at h;obtain⟨h1,h2⟩:=h;subst h1 h2;have s:P.fieldsOf t=j:=by simp[Program.fieldsOf,c]
     simp only[UG];rw[run_equalIn_struct w (m+d) t _ _ (by rw[s];exact c) (by simpa using q),s];exact pH r m j.toList 0 l f xs u a b (Y_ _) (Y_ _) w
  ·rename_i n e c;split at h
   ·rename_i v k1 f;split at h
    ·rename_i hc;simp only[K0,qA,Z?]at hc;have g:k1.length≠0:=λA=>by have:=hc.2;rw[A]at this;simp at this
     injection h with h;injection h with h1 h2;subst h1 h2
     simp only[UG];obtain⟨i,B⟩:∃i,P.info? e=some i:=by
      cases p:P.info? e with
      |none=>exfalso;exact g (by rw[<-hc.1];simp[Program.cellsOf,p])
      |some i=>exact⟨i,rfl⟩
     rw[run_equalIn_array w (m+d) _ _ c B,List.range_eq_range'];have:=uJ (r e) m f hc.1 g n 0 xs u (by simpa using a) (by simpa using b) (by simp) (by simp) w;simpa using this
    ·cases h
   ·cases h
  ·cases h
structure EqFlat(P:Program)(t:TypeId)(ks:List LK):Prop where
 leaves:leaves P 6 t=some (true,ks)
 guard:P.eqGuardType P.depth t=false
theorem EqFlat.equal{ks:List LK}(h:EqFlat P t ks){xs ys:Hx}(a:fits ks xs=true)(b:fits ks ys=true)(w:World):(Op.equal t (.agg xs.toArray) (.agg ys.toArray)).run P w=.ok (decide (xs=ys)) w:=
 uH 6 t true ks h.leaves 9994 xs ys a b w
def pL:∀(d:Nat)(t:TypeId)(ag:Bool)(ks:List LK),leaves P d t=some (ag,ks)->∀(m:Nat)(em:Bool)(xs:Hx),fits ks xs=true->∀w,(Instr.checkKey em (m+d) t (UG ag xs)).run P w=.ok () w:=by
 intro d
 induction d with
 |zero=>intro t ag ks h;simp[leaves]at h
 |succ d A=>
  intro t ag ks h m em xs b w;rw[<-lN];unfold Instr.checkKey;unfold leaves at h;split at h
  ·rename_i k a;rw[Dm,run_underlying a w];rfl
  ·rename_i a;rw[Dm,run_underlying a w];rfl
  ·rename_i a;rw[Dm,run_underlying a w];rfl
  ·rename_i B a;split at h
   ·cases h
   ·rename_i F;cases g:MI P (leaves P d) 0 B.toList with
    |none=>rw[g]at h;simp at h
    |some l=>
     rw[g]at h;simp only[yN,l0z,Prod.mk.injEq]at h;obtain⟨h1,h2⟩:=h;subst h1 h2;rw[Dm,run_underlying a w];simp only[FX,UG];rw[<-Array.forIn_toList];generalize B.toList=c at g;have key:∀(c:List Field)(off:Nat)(l:List LK),MI P (leaves P d) off c=some l->fits l (xs.drop off)=true->off<=xs.length->
      (forIn c PUnit.unit (λf(_:PUnit)=>(if f.name≠ "_" then(do let y<-part f.type xs.toArray f.offset;Instr.checkKey em (m+d) f.type y;pure (ForInStep.yield PUnit.unit)) else pure (ForInStep.yield PUnit.unit):Sem (ForInStep PUnit)))).run P w=.ok PUnit.unit w:=by
      intro c
      induction c with
      |nil=>intro off l _ _ _;simp
      |cons f c ih=>
       intro off l h b H;unfold MI at h;split at h
       ·rename_i ag k1 r;split at h
        ·rename_i hc;simp only[K0,qA,Z?,bne_iff_ne,ne_eq]at hc;obtain⟨c1,c2,c3,c4⟩:=hc;have c4:k1.length≠0:=λe=>by rw[e]at c4;simp at c4
         cases hr:MI P (leaves P d) (off+k1.length) c with
         |none=>rw[hr]at h;simp at h
         |some J=>
          rw[hr]at h;simp only[yN,l0z]at h;subst h;obtain⟨x,p⟩:=Nt b;rw[l1a]at p;have v:=Eu b;simp only[Z_,EC]at v;rw[List.forIn_cons,Dl c1,Dm,Dm,c2,Np r c3 c4 xs off (by omega) w];simp only[FX];rw[Dm,A f.type ag k1 r m em _ x w];simp only[FX,lM];exact ih _ _ hr p (by omega)
        ·cases h
       ·cases h
     have:=key c 0 l g (by simpa using b) (Y_ _);rw[Dm];refine(congrArg (λq=>Result.andThen q _) this).trans ?_;rfl
  ·rename_i n e a;split at h
   ·rename_i u k1 g;split at h
    ·rename_i hc;simp only[K0,qA,Z?]at hc;have s:k1.length≠0:=λC=>by have:=hc.2;rw[C]at this;simp at this
     injection h with h;injection h with h1 h2;subst h1 h2
     have hsz:(sizeOf e).run P w=.ok (P.cellsOf e) w:=BV w (by rw[hc.1];exact s);rw[Dm,run_underlying a w];simp only[FX,UG];simp only[Std.Legacy.Range.forIn_eq_forIn_range',Std.Legacy.Range.size,Nat.sub_zero,Nat.add_one_sub_one,Nat.div_one];have key:∀(n i:Nat),fits (List.replicate n k1).flatten (xs.drop (i*k1.length))=true->i*k1.length<=xs.length->
      (forIn (List.range' i n) PUnit.unit (λj(_:PUnit)=>(do let z<-sizeOf e;let y<-part e xs.toArray (j*z);Instr.checkKey em (m+d) e y;pure (ForInStep.yield PUnit.unit):Sem (ForInStep PUnit)))).run P w=.ok PUnit.unit w:=by
      intro n
      induction n with
      |zero=>intro i _ _;simp
      |succ n ih=>
       intro i b H;rw[l1c,l1d]at b;obtain⟨x,p⟩:=Nt b;rw[l1a]at p;have v:=Eu b;simp only[Z_,EC]at v;have D:i*k1.length+k1.length=(i+1)*k1.length:=by rw[Z'];omega
       rw[D]at p;rw[List.range'_succ,List.forIn_cons,Dm,Dm,hsz];simp only[FX];rw[Dm,hc.1,Np g hc.1 s xs (i*k1.length) (by omega) w];simp only[FX];rw[Dm,A e u k1 g m em _ x w];simp only[FX,lM];exact ih (i+1) p (by omega)
     have:=key n 0 (by simpa using b) (by simp);rw[Dm];refine(congrArg (λq=>Result.andThen q _) this).trans ?_;rfl
    ·cases h
   ·cases h
  ·cases h
def jG(P:Program)(f:FuncId):Prop:=∀(x:Value)(w:World),(callFunc f #[x]).run P w=.ok (.value x) w
def EqFlat.check{ks:List LK}(h:EqFlat P t ks){xs:Hx}(a:fits ks xs=true)(em:Bool)(w:World):(Instr.checkKey em 10000 t (.agg xs.toArray)).run P w=.ok () w:=
 pL 6 t true ks h.leaves 9994 em xs a w
end
end
section
variable{K:K2}{w0:Base}{b:Bool}{C:Ctx}{w:World}{x:XFn}
abbrev KQ:=Exit->Tm->Ru
abbrev X! :=Cf->Code->Tm->Hp->KQ->Af
structure Rt where
 call:B28
 run:X!
def unV:AV->Value
 |.v x=>x
 |_=>undef
def isV:AV->Bool
 |.v _=>true
 |_=>false
def XE.G(E:XE):Gl:=λg=>(E.gl.get g).map λcs=>cs.map unV
def SU(D:Nat->List Oper->Bool):Code->Bool
 |.region id a true=>D id a.toList
 |.seq x y=>SU D x&&SU D y
 |.cond _ x y=>SU D x&&SU D y
 |.block _ x=>SU D x
 |.loop x=>SU D x
 |.scope x=>SU D x
 |_=>true
structure XE.Ok(D:XE->Cf->Nat->List Oper->Bool)(E:XE)(P:Program):Prop where
 ty:jD P E.T
 pos:∀t i e esz,E.T t=some i->(i.d=.slice e esz\/∃n,i.d=.array n e esz)->esz≠0
 mix:P.follows .mixedOrders=true
 gl:∀g cs,E.gl.get g=some cs->cs.all isV=true
 fn:∀f x,E.ft.get f=some x->∃fn,P.funcs[f]?=some fn/\fn.body=some x.c/\fn.ntmps=x.n/\fn.results.toList=x.rs/\(fn.name== "runtime.NumGoroutine")=false/\SU (D E ⟨false,x.lv,x.fz,x.n,x.rc⟩) x.c=true
 eq:∀t ks,E.eqt.get t=some ks->EqFlat P t ks
 lie:∀e n o u,(e,n,o,u)∈E.lie->liesAt P P.depth e (n/P.cellsOf e) o u 1=true/\(P.info? u).isSome=true
 up:E.lie.isEmpty=false->P.underlying E.up=some .unsafePointer
 ne:∀f,E.ne f=true->jG P f
def XE.env(E:XE)(P:Program):Env:={P:=P,G:=E.G,T:=E.T}
theorem XE.Ok.env{D:XE->Cf->Nat->List Oper->Bool}{E:XE}{P:Program}(h:XE.Ok D E P):(E.env P).Ok:=⟨h.ty,h.pos,h.mix⟩
def ZF(P:Program)(f:Nat):Prop:=∃fn,P.funcs[f]?=some fn/\fn.body.isNone=false/\(fn.name== "runtime.NumGoroutine")=false
def jE(D:XE->Cf->Nat->List Oper->Bool)(E:XE)(P:Program)(R:X!):Prop:=
 ∀(ro:Option Nat)(a:Cf)(c:Code)(t:Tm)(H:Hp)(K:KQ)(r:AV×Hp)(m:Nat),(ro≠none->a.b=true)->(a.b=false->SU (D E a) c=true)->R a c t H K=some r->To P E.G ro m a.n c (λe g d=>K e g d=some r) t H
structure RSound(D:XE->Cf->Nat->List Oper->Bool)(E:XE)(P:Program)(R:Rt):Prop where
 run:jE D E P R.run
 call:∀(f:Nat)(args:Is)(H:Hp)(K:KV)(r:AV×Hp),R.call f args H K=some r->ZF P f/\QP P E.G f args H (λv H'=>K v H'=some r)
def zgo(E:XE)(R:X!)(x:XFn)(args:Is)(H:Hp)(K:KV):Af:=
 A5C args 0 λk=>ckS (Nat.ble k x.n) (B4J args 0 λt=>R ⟨false,x.lv,x.fz,x.n,x.rc⟩ x.c t H (C0P E x.rs K))
def zfn(E:XE)(R:X!)(f:Nat)(args:Is)(H:Hp)(K:KV):Af:=E.ft.getK f λx=>zgo E R x args H K
def depth:Nat:=12
def Ar(a:Af)(K:K2):Af:=match a with|some (v,_)=>K v|none=>none
def Ao(R:Rt)(f:Nat)(args:Is)(H:Hp)(K:K2):Af:=
 IE (HQ true H depth) args λq a=>Ar (R.call f a [] λv c=>HQ (!q) c depth v λ_ d=>some (d,[])) K
section
variable{D:XE->Cf->Nat->List Oper->Bool}{E:XE}{P:Program}{R:Rt}{f:Nat}{args:Is}{H:Hp}{r:AV×Hp}
def C2Y(c:XE.Ok D E P)(d:E.ft.get f=some x):ZF P f:=by
 obtain⟨fn,h1,h2,e,g,a,h⟩:=c.fn f x d;exact⟨fn,h1,by rw[h2];rfl,a⟩
def A67(d:XE.Ok D E P){a:X!}(q:jE D E P a)(s:E.ft.get f=some x){K:KV}(h:zgo E a x args H K=some r):QP P E.G f args H (λv g=>K v g=some r):=by
 unfold zgo at h;rw[B0O]at h;obtain⟨e,h⟩:=LG h;rw[B4I]at h;obtain⟨fn,h1,h2,j,k,t,m⟩:=d.fn f x s;refine A7M (E:=E) (T:=E.T) d.ty (λty i h=>h) h1 h2 ?_;have e:args.length<=x.n:=by rw[jJ]at e;omega
 have p:args.length+(fn.ntmps-args.length)=x.n:=by rw[j];omega
 rw[p,k];exact q none ⟨false,x.lv,x.fz,x.n,x.rc⟩ x.c _ H _ r (As H) (λh=>absurd rfl h) (λ_=>m) h
def xP(c:XE.Ok D E P){a:X!}(g:jE D E P a){K:KV}(h:zfn E a f args H K=some r):ZF P f/\QP P E.G f args H (λv e=>K v e=some r):=by
 obtain⟨x,d,h⟩:=Bf h;exact⟨C2Y c d,A67 c g d h⟩
def Keep.toBelow{w w':World}(h:Keep ⟨w,λ_=>False⟩ w'):Below w.heap.size w w':=⟨h.os,h.tape,h.output,h.size,λb hb=>h.block b hb id⟩
def A1x{G:Gl}{b q:Bool}(h:Rel G w0 C H w):(∀k i,(Vk b q C H).F k i->k<w.heap.size)/\∀k,(Vk b q C H).B k->k<w.heap.size:=by
 refine⟨λk i d=>?_,λk c=>?_⟩
 ·rcases d with⟨_,d⟩|⟨_,s,x,o,a,e⟩
  ·exact h.fin k i d
  ·exact(h.rows s x a).block (E8 a) e
 ·rcases c with⟨_,c⟩|⟨_,s,x,o,a,e⟩
  ·exact h.finB k c
  ·exact(h.rows s x a).block (E8 a) e
def A3F{G:Gl}(hr:Rel G w0 C H w)(args:Is)(ys:Hx)(K:Bool->Is->Af)(d:CI C w args ys)(h:IE (HQ true H depth) args K=some r):∃q c,CI (Vk true q C H) w c ys/\K q c=some r:=
 mX (f:=HQ true H depth) (b:=true) (λa y K hv h=>tR hr depth a y K hv h) args ys K d h
def SE:∀(f:AV->(Bool->K2)->Af)(d:∀a K,f a K=some r->∃q c,K q c=some r)(l:Is)(K:Bool->Is->Af),IE f l K=some r->∃q e,K q e=some r:=by
 intro f d l
 induction l with
 |nil=>intro K h;exact⟨_,_,h⟩
 |cons a l ih=>
  intro K h;obtain⟨q,c,h⟩:=d a _ h;obtain⟨g,e,h⟩:=ih _ h;exact⟨_,_,h⟩
def B0o:∀(f:AV->(Bool->K2)->Af)(d:∀a K,f a K=some r->∃q c,K q c=some r)(l:IH)(K:Bool->IH->Af),QS f l K=some r->∃q e,K q e=some r:=by
 intro f d l
 induction l with
 |nil=>intro K h;exact⟨_,_,h⟩
 |cons a l ih=>
  intro K h;obtain⟨q,c,h⟩:=d a.2 _ h;obtain⟨g,e,h⟩:=ih _ h;exact⟨_,_,h⟩
def B4k:∀(n:Nat)(a:AV)(K:Bool->K2),HQ b H n a K=some r->∃q c,K q c=some r:=by
 intro n
 induction n with
 |zero=>
  intro a K h;change A1h b a K=some r at h;unfold A1h at h;split at h
  ·exact⟨_,_,h⟩
  ·exact⟨_,_,(B5 h).2⟩
  ·exact⟨_,_,(B5 h).2⟩
  ·exact⟨_,_,(B5 h).2⟩
  ·cases h
 |succ n ih=>
  intro a K h;change A1g b H (HQ b H n) a K=some r at h;unfold A1g at h;split at h
  ·exact⟨_,_,h⟩
  ·exact⟨_,_,(B5 h).2⟩
  ·exact⟨_,_,(B5 h).2⟩
  ·exact⟨_,_,(B5 h).2⟩
  ·obtain⟨q,l,h⟩:=SE _ ih _ _ h;exact⟨_,_,h⟩
  ·obtain⟨q,l,h⟩:=SE _ ih _ _ h;exact⟨_,_,h⟩
  ·obtain⟨q,l,h⟩:=SE _ ih _ _ h;obtain⟨q,l,h⟩:=SE _ ih _ _ h;exact⟨_,_,h⟩
  ·obtain⟨q0,e,cs,_,h⟩:=K3 h;obtain⟨_,h⟩:=Ns _ _ _ _ h;obtain⟨q,l,h⟩:=SE _ ih _ _ h;exact⟨_,_,h⟩
  ·obtain⟨q0,e,cs,_,h⟩:=K3 h;obtain⟨q,l,h⟩:=SE _ ih _ _ h;exact⟨_,_,h⟩
  ·obtain⟨x,_,h⟩:=Iy rfl h;unfold oZ at h;split at h
   ·obtain⟨q,l,h⟩:=B0o _ ih _ _ h;exact⟨_,_,h⟩
   ·cases h
  ·cases h
def Rz{a:Af}(h:Ar a K=some r):∃v c,a=some (v,c)/\K v=some r:=by
 unfold Ar at h;split at h
 ·exact⟨_,_,rfl,h⟩
 ·cases h
def YL(hR:RSound D E P R)(h:Ao R f args H K=some r):ZF P f/\QP P E.G f args H (λv L=>L=H/\K v=some r):=by
 unfold Ao at h;refine⟨?_,?_⟩
 ·obtain⟨q,l',h⟩:=SE _ (λa K h=>B4k depth a K h) _ _ h;obtain⟨v,L,h1,_⟩:=Rz h;exact(hR.call _ _ _ _ _ h1).1
 intro w0 C w ys hr ha;obtain⟨q,X,aa,u⟩:=A3F hr args ys _ ha h;obtain⟨v0,H0,u,Y⟩:=Rz u;have hc:=(hR.call _ _ _ _ _ u).2;have J:=A1x (b:=true) (q:=q) hr;have Z:Rel E.G ⟨w,λ_=>False⟩ (Vk true q C H) [] w:=
  ⟨λg cs hg i v hv=>⟨.inl ⟨rfl,(hr.glob g cs hg i v hv).1⟩,(hr.glob g cs hg i v hv).2⟩,.refl _ _,λ_ _ h=>by simp[Aj]at h,λ_ _ h=>by simp[Aj]at h,λ_ _ _ _ h=>by simp[Aj]at h,λ_ _ _ _ _ _ _ h=>by simp[Aj]at h,J.1,J.2,λ_ _=>rfl⟩
 refine(hc _ _ w ys Z aa).mono ?_;rintro e O ⟨v,y,V,L,rfl,t,hv,hx,j⟩;obtain⟨q2,v',ab,M⟩:=tR t depth v y _ hv j;injection M with M
 injection M with M ad
 subst M;have hb:Below w.heap.size w O:=t.below.toBelow;have m:∀k,Base.own ⟨w,λ_=>False⟩ k->w.heap.size<=k:=λk h=>h.elim id (λh=>h.elim)
 let Q:Ctx:={π:=C.π,F:=λk i=>C.F k i\/(w.heap.size<=k/\(Vk (!q) q2 V L).F k i),B:=λk=>C.B k\/(w.heap.size<=k/\(Vk (!q) q2 V L).B k)}
 have n:=A1x (b:=!q) (q:=q2) t;have e:Ext w0.own C w Q O:=⟨λ_ _=>rfl,λ_ _ h=>.inl h,λk i h=>hb.cell (p:=⟨k,i,none⟩) (hr.fin k i h),λ_ h=>.inl h,λk h=>hb.block k (hr.finB k h),
  λk arr T fz h=>⟨arr,fz,(hb.block k (l1v.1 h).1).trans h,rfl⟩,λk i h=>h.imp id (λh=>.inl (ZK hr.below.size h.1)),λk h=>h.imp id (λh=>.inl (ZK hr.below.size h.1)),hb.size⟩
 have N:Rel E.G w0 Q H O:=by
  refine⟨hr.glob.mono e,hr.below.below hb,hr.lt,λs x j=>(hr.rows s x j).mono e (λk ac A=>hb.block k ((hr.rows s x j).block (E8 j) A)),λs x k o j A=>?_,hr.sep,λk i d=>?_,λk c=>?_,hr.nx⟩
  ·have h1:=hr.own s x k o j A;have h2:=(hr.rows s x j).block (E8 j) A;refine⟨h1.1,λi d=>?_,λc=>?_⟩
   ·rcases d with d|d
    ·exact h1.2.1 i d
    ·have:=d.1;omega
   ·rcases c with c|c
    ·exact h1.2.2 c
    ·have:=c.1;omega
  ·rcases d with d|d
   ·exact l2s (hr.fin k i d) hb.size
   ·exact n.1 k i d.2
  ·rcases c with c|c
   ·exact l2s (hr.finB k c) hb.size
   ·exact n.2 k c.2
 have e2:Ext (λ_=>True) (Vk (!q) q2 V L) O Q O:=by
  refine⟨λs h=>absurd rfl h,λk i d=>?_,λ_ _ _=>rfl,λk c=>?_,λ_ _=>rfl,λ_ a _ f h=>⟨a,f,h,rfl⟩,λ_ _ _=>.inr trivial,λ_ _=>.inr trivial,Me _⟩
  ·rcases d with⟨hq,d⟩|⟨hq,s,x,o,j,A⟩
   ·rcases hx.new k i d with h1|h1
    ·rcases h1 with⟨_,h1⟩|⟨h1,_⟩
     ·exact .inl h1
     ·rw[h1]at hq;cases hq
    ·exact .inr ⟨m k h1,.inl ⟨hq,d⟩⟩
   ·exact .inr ⟨m k (t.own s x k o j A).1,.inr ⟨hq,s,x,o,j,A⟩⟩
  ·rcases c with⟨hq,c⟩|⟨hq,s,x,o,j,A⟩
   ·rcases hx.newB k c with h1|h1
    ·rcases h1 with⟨_,h1⟩|⟨h1,_⟩
     ·exact .inl h1
     ·rw[h1]at hq;cases hq
    ·exact .inr ⟨m k h1,.inl ⟨hq,c⟩⟩
   ·exact .inr ⟨m k (t.own s x k o j A).1,.inr ⟨hq,s,x,o,j,A⟩⟩
 exact⟨v',y,Q,H,rfl,N,ab.mono e2,e.frm,rfl,Y⟩
end
end
section
variable{x:AV}{esz n:Nat}{i ie:TI}
def Yt(n:Nat)(cs:Is):(Is->Af)->Af:=
 @Nat.rec (λ_=>(Is->Af)->Af) (λK=>K []) (λ_ ih K=>ih λl=>Yy cs l K) n
def Ys(n:Nat)(cs:Is):∀K,Yt n cs K=K (XJ n cs):=by
 induction n with
 |zero=>intro K;rfl
 |succ n ih=>
  intro K;have e:Yt (n+1) cs K=Yt n cs λl=>Yy cs l K:=rfl;rw[e,ih,MK];rfl
def GM(e:TypeId)(esz:Nat)(ie:TI)(n:Nat)(l:List (Nat×Nat×AV))(H:Hp)(K:KV):Af:=
 GX ie.zero λz=>G6 z 0 λk=>ck (Nat.beq k esz&&(!Nat.beq esz 0&&Nat.ble (Nat.mul n esz) 16777216)) (Yt n z λcs=>dT l cs λa=>Ik H λs=>K (.sl esz s 0 n) ((s,.cells false e a)::H))
def YE(esz:Nat)(ie:TI)(n:Nat)(l:List (Nat×Nat×AV))(K:K2):Af:=
 GX ie.zero λz=>G6 z 0 λk=>ck (Nat.beq k esz&&(!Nat.beq esz 0&&Nat.ble (Nat.mul n esz) 16777216)) (Yt n z λcs=>dT l cs λa=>ck (a.all (iT 2)) (K (.list n a)))
def dU(l:Ha):(Is->Af)->Af:=@List.rec UInt8 (λ_=>(Is->Af)->Af) (λK=>K []) (λb _ ih K=>fN b.toNat λn=>ih λl=>K (.v (.int .u8 (.ofNat n))::l)) l
def Zd(l:Ha):∀K:Is->Af,dU l K=K (l.map λb=>.v (.int .u8 b.toNat)):=by
 induction l with
 |nil=>intro K;rfl
 |cons b l ih=>
  intro K;have e:dU (b::l) K=fN b.toNat λn=>dU l λl=>K (.v (.int .u8 (.ofNat n))::l):=rfl;rw[e,Dy,ih];rfl
def XG:TD->Bool
 |.slice .. =>true
 |.string=>true
 |_=>false
def RH(esz:Nat):AV->Bool
 |.v (.string _)=>Nat.beq esz 1
 |_=>true
def A34(h:RH esz x=true):(match(generalizing:=false) x with|.v (.string _)=>esz=1|_=>True):=by
 split
 ·exact Yo h
 ·trivial
def SS(H:Hp)(x:AV)(K:Nat->Is->Af):Af:=
 match x with
 |.list m cs=>K m cs
 |.sl sz r o m=>I6 H r λx=>J6 x λ_ cs=>Ek (Nat.mul m sz) (Dg o cs) λc=>K m c
 |.v (.slice none 0 0)=>K 0 []
 |.v (.string s)=>G6 s.data.toList 0 λm=>dU s.data.toList λl=>K m l
 |_=>none
def fu8(cs:Is):(Ha->Af)->Af:=
 @List.rec AV (λ_=>(Ha->Af)->Af) (λK=>K []) (λa _ ih K=>match a with|.v (.int .u8 z)=>iN z λn=>ih λl=>K (UInt8.ofNat n::l)|_=>none) cs
def A1s{r:AV×Hp}:∀(cs:Is)(K:Ha->Af),fu8 cs K=some r->∃b:Hb,cs=b.map (λn=>.v (.int .u8 (n:Int)))/\K (b.map UInt8.ofNat)=some r:=by
 intro cs
 induction cs with
 |nil=>intro K h;exact⟨[],rfl,h⟩
 |cons a cs ih=>
  intro K h;have h:(match(generalizing:=false) a with|.v (.int .u8 z)=>iN z λn=>fu8 cs λl=>K (UInt8.ofNat n::l)|_=>none)=some r:=h;split at h
  ·obtain⟨n,c,h2⟩:=Wt h;obtain⟨b,d,e⟩:=ih _ h2;exact⟨n::b,by rw[c,d];rfl,e⟩
  ·cases h
def xL(a:AV)(H:Hp)(K:K2):Af:=
 match a with
 |.v (.string _)=>none
 |a=>SS H a λm cs=>G6 cs 0 λk=>ck (Nat.beq k m) (fu8 cs λl=>K (.v (.string ⟨⟨l⟩⟩)))
section
variable{T:Ty}{H:Hp}{r:AV×Hp}
def B1v{ty e:TypeId}{l:List (Nat×Nat×AV)}{ps:List (Nat×AV)}{K:KV}(m:T ty=some i)(s:i.d=.slice e esz)(b:T e=some ie)(he:(ps.map λp=>(some (p.1*esz,esz)).map λq=>(q.1,q.2,p.2))=l.map some)(h:GM e esz ie n l H K=some r):
 ∃v c,K v c=some r/\eP T ty n ps H (As H) (λt a=>t=v/\a=c):=by
 rw[GM,CK,Cl]at h;obtain⟨h1,h⟩:=B5 h;rw[Ys]at h;obtain⟨f,h2,k⟩:=Yu (place:=λj=>some (j*esz,esz)) l ps _ _ he h;rw[BW]at h2;simp only[K0,qA,Z?,jJ]at h1;refine⟨_,_,h2,?_⟩;unfold eP;simp only[m,s,b];refine⟨λg=>?_,by omega,?_,by rw[k];simp[LQ]⟩
 ·have:=h1.2.1;rw[g]at this;simp at this
 ·have:=h1.2.2;exact this
def Zf{K:Nat->Is->Af}(h:SS H x K=some r):∃m cs q,A25 H x=some (m,cs,q)/\K m cs=some r:=by
 unfold SS at h;split at h
 ·exact⟨_,_,_,rfl,h⟩
 ·obtain⟨q0,e,cs,h1,h2⟩:=K3 h;obtain⟨b,a⟩:=Ns _ _ _ _ h2;rw[Cy]at a;exact⟨_,_,_,by simp only[A25,h1];rfl,a⟩
 ·exact⟨_,_,_,rfl,h⟩
 ·rename_i s;rw[Cl]at h;rw[Zd]at h;exact⟨_,_,_,rfl,by rw[Jt]at h;exact h⟩
 ·cases h
def A3m:∀(a:Hb)(acc:Ha),(a.map λn:Nat=>(n:Int)).foldl (λ(r:ByteArray)n=>r.push (UInt8.ofNat n.toNat)) ⟨⟨acc⟩⟩=⟨⟨acc++a.map UInt8.ofNat⟩⟩:=by
 intro a
 induction a with
 |nil=>intro acc;simp
 |cons n a ih=>
  intro acc;simp only[Xa,List.foldl_cons,jI];have:(⟨⟨acc⟩⟩:ByteArray).push (UInt8.ofNat n)=⟨⟨acc++[UInt8.ofNat n]⟩⟩:=by simp[ByteArray.push]
  rw[this,ih];simp
def A4h{P:Program}{G:Gl}{w0:Base}{C:Ctx}{w:World}{a:AV}{y:Value}{K:K2}(hr:Rel G w0 C H w)(hv:VRel C w a y)(h:xL a H K=some r):(∀s,y≠.string s)/\∃l:Ha,K (.v (.string ⟨⟨l⟩⟩))=some r/\(Conv.bytesToString y).run P w=.ok (.string ⟨⟨l⟩⟩) w:=by
 unfold xL at h;split at h
 ·cases h
 ·rename_i u;obtain⟨m,cs,q,j,h⟩:=Zf h;rw[Cl]at h;obtain⟨J,h⟩:=B5 h;have J:cs.length=m:=by have:=Yo J;omega
  obtain⟨p,D,B⟩:=A1s _ _ h;subst D;obtain⟨d,vs,A,b⟩:=WT (P:=P) (esz:=1) hr hv j (by omega) (λs L=>absurd L (u s));have b:=b w (λ_ _=>rfl);have k:vs=p.map λn:Nat=>Value.int .u8 (n:Int):=by
   apply l0p;intro i;cases f:(p.map λn:Nat=>AV.v (.int .u8 (n:Int)))[i]? with
   |none=>
    have h1:p.length<=i:=by simpa using List.getElem?_eq_none_iff.1 f
    rw[l1j (by rw[A.1];simpa using h1),l1j (by simpa using h1)]
   |some c=>
    obtain⟨N,M,F⟩:=A.2 i c f;rw[M];rw[xE]at f⊢;cases hn:p[i]? with
    |none=>rw[hn]at f;cases f
    |some n=>
     rw[hn]at f;injection f with f
     subst f;have:=AM.1 F.unsel;rw[this];rfl
  have g:∀s,y≠.string s:=by
   intro s e;subst e;cases hv with
   |v=>exact u s rfl
   |dk=>simp[A25]at j
  refine⟨g,_,B,?_⟩;cases y with
  |slice t n cap=>
   have hn:n=m:=by
    simp only[Builtin.lenOf,lM]at d;injection d
   subst hn;cases t with
   |none=>
    simp only[Builtin.firstCells,lM]at b;injection b with b
    have:vs=[]:=by
     have:=congrArg Array.toList b;simpa using this.symm
    rw[k]at this;have:p=[]:=by simpa using this
    subst this;rfl
   |some t=>
    have e:(Builtin.firstCells 1 n (.slice (some t) n cap))=loadCells t (n*1):=rfl;rw[e,pZ,k]at b;have:=run_bytesToString w t n cap (p.map λn:Nat=>(n:Int)) (by rw[b];simp[l1y]);rw[this];have:=A3m p [];rw[show(ByteArray.empty:ByteArray)=⟨⟨[]⟩⟩ from rfl,this];rfl
  |string s=>exact absurd rfl (g s)
  |_=>simp[Builtin.lenOf]at d
def Qw(e:TypeId)(esz:Nat)(ie i2:TI)(s x:AV)(H:Hp)(K:KV):Af:=
 SS H x λm a=>G6 a 0 λk=>GX ie.zero λz=>G6 z 0 λf=>
  ck (Nat.beq k (Nat.mul m esz)&&(N0 a&&(!Nat.beq esz 0&&(Nat.beq f esz&&(XG i2.d&&RH esz x)))))
   (match s with
   |.v (.slice none 0 0)=>ck (Nat.ble (Nat.mul m ie.bytes) 70368744177664&&Nat.ble m 70368744177664) (@Bool.rec (λ_=>Af) (Ik H λr=>K (.sl esz r 0 m) ((r,.cells false e a)::H)) (K (.v (.slice none 0 0)) H) (Nat.beq m 0))
   |.sl sz r1 o n=>I6 H r1 λx=>J6 x λE cs=>G6 cs 0 λcl=>
    ck (Nat.beq E e&&(Nat.beq sz esz&&(Nat.beq (Nat.add o (Nat.mul n esz)) cl&&(Nat.ble (Nat.mul (Nat.add n m) ie.bytes) 70368744177664&&Nat.ble (Nat.add n m) 70368744177664))))
     (Yy (Dg o cs) a λb=>Ll H r1 .gone λc=>Ik H λr=>fN (Nat.add n m) λnm=>K (.sl esz r 0 nm) ((r,.cells false e b)::c))
   |_=>none)
def zP{t1 t2 e:TypeId}{i1 i2 ie:TI}{s x:AV}{K:KV}(h1:T t1=some i1)(h2:T t2=some i2)(t:i1.d=.slice e esz)(g:T e=some ie)(h:Qw e esz ie i2 s x H K=some r):
 ∃v j,K v j=some r/\YO T t1 t2 s x H (As H) (λy b=>y=v/\b=j):=by
 unfold Qw at h;obtain⟨m,A,q,a,h⟩:=Zf h;rw[Cl,CK,Cl]at h;obtain⟨hc,h⟩:=B5 h;simp only[K0,qA,FK,Z?]at hc;obtain⟨c1,c2,c3,c4,c5,c6⟩:=hc;have p1:esz≠0:=λc=>by rw[c]at c3;simp at c3
 have p2:(Bw ie.zero).length=esz:=by omega
 unfold YO;simp only[h1,h2,t,g,a,LQ];have pre:=And.intro p1 (And.intro p2 (And.intro (show(match i2.d with|.slice .. =>True|.string=>True|_=>False) from by cases f:i2.d<;>rw[f]at c5<;>first|trivial|cases c5) (A34 c6)));split at h
 ·obtain⟨hb,h⟩:=B5 h;simp only[K0,jJ]at hb;by_cases hm:m=0
  ·subst hm;exact⟨_,_,h,pre,⟨by simpa using c1,c2⟩,by simpa using hb,rfl,rfl⟩
  ·have c:Nat.beq m 0=false:=by
    cases m with
    |zero=>exact absurd rfl hm
    |succ m=>rfl
   rw[c]at h;simp only[BW]at h;simp only[C5 hm];exact⟨_,_,h,pre,⟨by simpa using c1,c2⟩,by simpa using hb,rfl,rfl⟩
 ·rename_i sz r1 o n;obtain⟨q0,E,cs,u,h⟩:=K3 h;rw[Cl]at h;obtain⟨hb,h⟩:=B5 h;rw[MK,Dh,BW,Dy,Cy]at h;simp only[K0,qA,jJ]at hb;obtain⟨b1,b2,k,b4,p⟩:=hb;refine⟨_,_,h,pre,⟨by simpa using c1,c2⟩,?_⟩;simp only[u];exact⟨⟨b1,b2,by simpa using k,b4,p⟩,rfl,rfl⟩
 ·cases h
variable{P:Program}{G:Gl}{w0:Base}{C:Ctx}{w w':World}
def Ctx.addF(C:Ctx)(b:Nat):Ctx:={C with F:=λk i=>C.F k i\/k=b}
def Rel.new_fixed(h:Rel G w0 C H w)(hb:Below w.heap.size w w')(j:w.heap.size<w'.heap.size):Rel G w0 (C.addF w.heap.size) H w'/\Ext w0.own C w (C.addF w.heap.size) w':=by
 have e:Ext w0.own C w (C.addF w.heap.size) w':=⟨λ_ _=>rfl,λ_ _ h=>.inl h,λk i a=>hb.cell (p:=⟨k,i,none⟩) (h.fin k i a),λ_ h=>h,λk a=>hb.block k (h.finB k a),
  λk arr T fz a=>⟨arr,fz,(hb.block k (l1v.1 a).1).trans a,rfl⟩,λk i a=>a.imp id (λe=>.inl (by rw[e];exact h.below.size)),λk a=>.inl a,hb.size⟩
 refine⟨⟨h.glob.mono e,h.below.below hb,h.lt,λs x c=>(h.rows s x c).mono e (λk f d=>hb.block k ((h.rows s x c).block (E8 c) d)),λs x k o c d=>?_,h.sep,λk i b=>?_,λk g=>l2s (h.finB k g) hb.size,h.nx⟩,e⟩
 ·have h1:=h.own s x k o c d;have h2:=(h.rows s x c).block (E8 c) d;refine⟨h1.1,λi b=>?_,h1.2.2⟩;rcases b with b|b
  ·exact h1.2.1 i b
  ·omega
 ·rcases b with b|b
  ·exact l2s (h.fin k i b) hb.size
  ·omega
def A7t(Z:jD P T){ty e:TypeId}{l:List (Nat×Nat×AV)}{ps:List (Nat×AV)}{D:List (Nat×Value)}{K:K2}(f:T ty=some i)(hd:i.d=.slice e esz)(O:T e=some ie)(he:(ps.map λp=>(some (p.1*esz,esz)).map λq=>(q.1,q.2,p.2))=l.map some)(h:YE esz ie n l K=some r)(m:ps.length=D.length)(hq:∀(j:Nat)(p:Nat×AV),ps[j]?=some p->∃z,D[j]?=some (p.1,z)/\VRel C w p.2 z)(hr:Rel G w0 C H w):
 ∃v y F w',K v=some r/\(Instr.buildSlice ty n D.toArray).run P w=.ok y w'/\VRel F w' v y/\Rel G w0 F H w'/\Ext w0.own C w F w':=by
 rw[YE,CK,Cl]at h;obtain⟨h1,h⟩:=B5 h;rw[Ys]at h;obtain⟨k,h2,hf⟩:=Yu (place:=λj=>some (j*esz,esz)) l ps _ _ he h;obtain⟨N,hK⟩:=B5 h2;simp only[K0,qA,Z?,jJ]at h1;have s:esz≠0:=λe0=>by have:=h1.2.1;rw[e0]at this;simp at this
 have R:(Bw ie.zero).length=esz:=by omega
 have aa:n*esz<=2^24:=h1.2.2;have ok:=Z ty i f;obtain⟨hu,hc⟩:=ok.elem_slice hd;have Y:=Z e ie O;obtain⟨z,hz,ez⟩:=Y.run_zero (P:=P) w;have hsz:(sizeOf e).run P w=.ok esz w:=by rw[<-hc];exact BV w (by rw[hc];exact s)
 have A:CI C w (Bw ie.zero) z.cells.toList:=OZ (t:=e) ez;have V:z.cells.size=esz:=by have:=A.1;simp at this;omega
 have X:CI C w (XJ n (Bw ie.zero)) ((List.range n).flatMap λ_=>z.cells.toList):=by rw[fE];exact YZ A n
 obtain⟨b,J,B⟩:=iF (C:=C) (w:=w) ps D _ _ k m hq X hf;have c:¬(n*esz>2^24):=by omega
 have ab:b.length=n*esz:=by rw[B.1,jA _ _ _ hf,XI,R]
 have M:=dY w (.cells b.toArray e);obtain⟨u,a⟩:=hr.new_fixed M (by simp);refine⟨_,.slice (some ⟨w.heap.size,0,none⟩) n n,_,_,hK,?_,?_,u,a⟩
 ·unfold Instr.buildSlice;rw[Dm,run_underlying hu w];simp only[FX];rw[Dm,hsz];simp only[FX,C5 c,pure_bind];by_cases L:n*esz=0
  ·have Q:n=0:=by rcases Nat.mul_eq_zero.1 L with h|h;exact h;exact absurd h s
   subst Q;rw[Dl L];simp only[List.range_zero,List.flatMap_nil]at J;rw[show(Array.map (λx=>(#[]:Array Value)[x%(#[]:Array Value).size]!) (Array.range (0*esz)))= #[] from by rw[Nat.zero_mul];apply pF;simp,J];simp[newRow]
  ·rw[C5 L,Dm,hz];simp only[FX];have:=eJ z.cells n;rw[V]at this⊢;rw[this,J];simp[newRow]
 ·have g3:CI (C.addF w.heap.size).bare {w with heap:=w.heap.push (.cells b.toArray e)} k b:=CI.mono (C:=C.bare) (CI.down 2 N B rfl rfl) a.bare;refine .list (Me _) (λi=>b.getD i undef) (λi f=>.inr rfl) (λi f=>?_) (λi f=>?_)
  ·have g:i<b.length:=by rw[B.1];exact f
   rw[cell_of_row _ w.heap.size (0+i) b.toArray e (0,0) (by simp)];simp[Vf,g]
  ·have g:i<b.length:=by rw[B.1];exact f
   rw[Vf,K8 g];exact g3.get i f
end
end
def eMk(e:TypeId)(esz:Nat)(ie:TI)(len cap:AV)(H:Hp)(K:KV):Af:=
 O? len λl=>iN l λn=>O? cap λc=>iN c λm=>GX ie.zero λz=>G6 z 0 λk=>
  ck (Nat.beq k esz&&(!Nat.beq esz 0&&(Nat.beq ie.size esz&&(Nat.ble n m&&(Nat.ble (Nat.mul ie.bytes m) 281474976710656&&Nat.ble m 281474976710656)))))
   (Yt n z λcs=>Ik H λs=>K (.sl esz s 0 n) ((s,.cells false e cs)::H))
section
variable{T:Ty}{H:Hp}{r:AV×Hp}{P:Program}{G:Gl}{w0:Base}{C:Ctx}{w:World}
def A7m(N:jD P T){ty e:TypeId}{esz:Nat}{i ie:TI}{len cap:AV}{y1 y2:Value}{K:KV}(hi:T ty=some i)(hd:i.d=.slice e esz)(u:T e=some ie)(h1:VRel C w len y1)(h2:VRel C w cap y2)(hr:Rel G w0 C H w)(h:eMk e esz ie len cap H K=some r):
 ∃v J y Q O,K v J=some r/\(Instr.makeSlice ty y1 y2).run P w=.ok y O/\Kz G w0 C w v J y Q O:=by
 unfold eMk at h;obtain⟨k1,l,d1,Y⟩:=PH h;obtain⟨n,b,Z⟩:=Wt Y;obtain⟨k2,c,d2,g3⟩:=PH Z;obtain⟨m,X,L⟩:=Wt g3;rw[CK,Cl]at L;obtain⟨hb,M⟩:=B5 L;rw[Ys,BW]at M;simp only[K0,qA,Z?,jJ]at hb;obtain⟨b1,b2,R,b4,V,b6⟩:=hb;subst b X d1 d2;have D:=AM.1 h1;have F:=AM.1 h2;subst D F;obtain⟨hu,hc⟩:=(N ty i hi).elem_slice hd;obtain⟨inf,z,g,x,A,hz,s⟩:=(N e ie u).info;have k:CI C w (Bw ie.zero) z.cells.toList:=OZ (t:=e) s;have p:z.cells.size=esz:=by have:=k.1;simp at this;omega
 have aa:ie.bytes*m<=281474976710656:=V;have q:(inf.bytes:Int)*(m:Int)<=281474976710656:=by
  have:((ie.bytes*m:Nat):Int)<=281474976710656:=by omega
  rw[Int.natCast_mul]at this;rw[A];exact this
 have j:=run_make (P:=P) w ty e inf z hu g hz k1 k2 n m (by omega) (by omega) q (by omega);have B:CI C w (XJ n (Bw ie.zero)) ((List.range n).flatMap λ_=>z.cells.toList):=by rw[fE];exact YZ k n
 have a:(XJ n (Bw ie.zero)).length=n*esz:=by rw[XI];congr 1;omega
 have f:(madeCells z.cells (m*esz)).toList.take (n*esz)=(List.range n).flatMap λ_=>z.cells.toList:=by
  have b:=congrArg Array.toList (eJ z.cells n);rw[p]at b;simp only[Array.toList_map,Array.toList_range]at b;rw[<-b];simp only[madeCells,Array.toList_map,Array.toList_range,p];rw[<-List.map_take]
  congr 1
  rw[List.take_range,l22 (l28 _ b4)]
 have key:=YW hr (Nw w (.cells (madeCells z.cells (m*esz)) e)) e (cs:=XJ n (Bw ie.zero)) (arr:=madeCells z.cells (m*esz)) (fz:=(0,0)) (World.alloc_heap_new w _) (λi _=>by omega) esz n m b4 (by rw[size_madeCells];exact Me _) (by rw[size_madeCells,a];exact l28 _ b4) (by rw[a,f];exact B);refine⟨_,_,_,_,_,M,?_,key⟩;rw[j];simp only[jI,x,R]
end
def A1I(e:TypeId)(a:AV)(H:Hp)(K:KV):Af:=
 match a with
 |.v (.string s)=>G6 s.data.toList 0 λn=>dU s.data.toList λcs=>Ik H λr=>K (.sl 1 r 0 n) ((r,.cells false e cs)::H)
 |_=>none
section
variable{H:Hp}{r:AV×Hp}{P:Program}{G:Gl}{w0:Base}{C:Ctx}{w:World}
def B3u(w:World)(e:TypeId)(s:ByteArray):∃(cap:Nat)(arr:Array Value)(w':World),s.size<=cap/\(Conv.stringToBytes e s).run P w=.ok (.slice (some ⟨w.heap.size,0,none⟩) s.size cap) w'/\Below w.heap.size w w'/\
 w'.heap[w.heap.size]?=some (.cells arr e (cap,cap+1))/\arr.size=cap/\arr.toList.take s.size=s.data.toList.map λb=>Value.int .u8 b.toNat:=by
 let q:Question:=.appendCap s.size 0 e
 let c:=q.cut (w.tape w.drawn q)
 have hc:s.size<=c:=by show s.size<=s.size+_;omega
 have hsz:(s.data.map λb=>Value.int .u8 b.toNat).size=s.size:=by rw[Array.size_map];rfl
 have f:(s.data.map λb=>Value.int .u8 b.toNat).toList.length=s.size:=by rw[Array.length_toList];exact hsz
 let arr:Array Value:=(s.data.map λb=>Value.int .u8 b.toNat)++Array.replicate (c-s.size) (.int .u8 0)
 have a:arr.size=c:=by
  show((s.data.map λb=>Value.int .u8 b.toNat)++Array.replicate (c-s.size) (Value.int .u8 0)).size=c;rw[Array.size_append,hsz,Array.size_replicate];omega
 refine⟨c,arr,{w with drawn:=w.drawn+1,heap:=w.heap.push (.cells arr e (c,c+1))},hc,?_,?_,by simp,a,?_⟩
 ·unfold Conv.stringToBytes;rw[Dm,run_choose,C5 (by simp[Question.forced])];simp only[FX];simp only[newRow,Dm,run_newObj,FX,lM,markStringish];have d:World.shape? {heap:=w.heap.push (Obj.cells arr e),tape:=w.tape,drawn:=w.drawn+1,os:=w.os,output:=w.output} w.heap.size=some (e,c):=by
   simp only[World.shape?,Array.getElem?_push_size];rw[a]
  have i:World.freeze {heap:=w.heap.push (Obj.cells arr e),tape:=w.tape,drawn:=w.drawn+1,os:=w.os,output:=w.output} {block:=w.heap.size,off:=c} 1={heap:=w.heap.push (Obj.cells arr e (c,c+1)),tape:=w.tape,drawn:=w.drawn+1,os:=w.os,output:=w.output}:=by
   unfold World.freeze;rw[C5 (by omega)]
   congr 1
   apply Array.ext_getElem?;intro j;rw[l0s];by_cases g:w.heap.size=j
   ·subst g;rw[Dl rfl,Array.getElem?_push_size,Array.getElem?_push_size];rfl
   ·rw[C5 g,l2d,l2d,C5 (λh=>g h.symm),C5 (λh=>g h.symm)]
  rw[run_shape];have m:=d;show(((Result.ok (World.shape? {heap:=w.heap.push (Obj.cells arr e),tape:=w.tape,drawn:=w.drawn+1,os:=w.os,output:=w.output} w.heap.size) _).andThen _).andThen _)=_;rw[d];simp only[FX,run_freeze];exact congrArg (Result.ok _) i
 ·exact⟨rfl,rfl,rfl,by simp,λk n=>by simp[l2d,Nat.ne_of_lt n]⟩
 ·show((s.data.map λb=>Value.int .u8 b.toNat)++Array.replicate (c-s.size) (Value.int .u8 0)).toList.take s.size=_;rw[Array.toList_append,l34 (Nat.le_of_eq f.symm)];rw[Y? (Nat.le_of_eq f),Array.toList_map]
def A42{e:TypeId}{a:AV}{y:Value}{K:KV}(hr:Rel G w0 C H w)(hv:VRel C w a y)(h:A1I e a H K=some r):
 ∃s,y=.string s/\∃v d g j c,K v d=some r/\(Conv.stringToBytes e s).run P w=.ok g c/\Kz G w0 C w v d g j c:=by
 unfold A1I at h;split at h
 ·rename_i s;have p:=AM.1 hv;refine⟨s,p,?_⟩;rw[Cl,Zd,BW,Jt]at h;obtain⟨cap,arr,c,h1,h2,k,m,q,n⟩:=B3u (P:=P) w e s;have f:(s.data.toList.map λb=>AV.v (.int .u8 b.toNat)).length=s.size:=by rw[Qa];rfl
  have key:=YW hr k e (cs:=s.data.toList.map λb=>AV.v (.int .u8 b.toNat)) m (λi t=>by omega) 1 s.size cap h1 (by omega) (by rw[f];omega) (by
   rw[f,n];have:=Wq (C:=C.sel false) (w:=w) (s.data.toList.map λb=>Value.int .u8 b.toNat);simpa [l1y] using this)
  exact⟨_,_,_,_,_,h,h2,key⟩
 ·cases h
end
end Go.Abs
end
