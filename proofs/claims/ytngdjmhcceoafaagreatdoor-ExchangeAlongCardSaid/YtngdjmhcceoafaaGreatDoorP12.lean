import Derived.Test.YtngdjmhcceoafaaGreatDoorP11
set_option linter.all false
set_option maxHeartbeats 100000000
noncomputable section
namespace Go.Abs
open Go.RowKit Go.Proofs
set_option maxRecDepth 100000
section
variable {K:AV->Af} {s:List UInt8}
def F3 {a b:AV}:Cx (.tup [a,b]) 0 K=K a:=id rfl
def F2 {a b:AV}:Cx (.tup [a,b]) 1 K=K b:=id rfl
def B5 {i:TI} {a b:List UInt8} (d:a.length+b.length<9223372036854775808):Ap i .add (S a) (S b) K=K (S (a++b)):=by
 have e:Ap i .add (S a) (S b) K=Ym a b λl=>ck (Nat.blt l.length 9223372036854775808) (K (.v (.string ⟨⟨l⟩⟩))):=rfl;have c:Nat.blt (a++b).length 9223372036854775808=true:=by rw[Wj,EY];exact d
 rw[e,MD,c];rfl
def B0Q (f:Nat):∀z,(B0R f z).length<=f:=by
 induction f with
 |zero=>intro z;exact Mb _
 |succ f ih=>
  intro z;unfold B0R;split
  ·simp
  ·have:=ih (z/128);simp;omega
def Tt (z:Int):(enc z).length<=9:=B0Q 9 _
def O? (s:List UInt8):List UInt8:=enc s.length++s
def A0E (L n:Nat) (h:s.length<390):PS (r! L (n+5)) Oo [S s] (.tup [S (O? s),I 0]):=by
 refine CS.ps (λK a=> ?_) (λH=>fx1);rw[Zh];unfold NQ Ip;rw[PG rfl,E5,F8,C4 (by simp;omega),PG rfl,A0F L n (by omega) (by omega),F3,F2,B5 (by have:=Tt (s.length:Int);omega)];exact a _ _ (λb=>⟨false,dG (Am (q:=false) (q':=false) C7 (Am (q:=false) (q':=false) C7 AJ))⟩)
def A0a (L n:Nat) (h:s.length<390):PS (r! L (n+9)) PB [S s] (.tup [S (O? s),I 0]):=by
 refine CS.ps (λK a=> ?_) (λH=>fx1);rw[ZR];unfold Ph Ip;rw[PG rfl,E5,F8,C4 (by simp;omega),PG rfl,A0b L n (by omega) (by omega),F3,F2,B5 (by have:=Tt (s.length:Int);omega)];exact a _ _ (λb=>⟨false,dG (Am (q:=false) (q':=false) C7 (Am (q:=false) (q':=false) C7 AJ))⟩)
end
section
variable {k:AV->Hp->Af} {H:Hp} {i:Nat}
def Gz (l:List Int):List AV:=l.map λz=> .v (.int .i64 z)
def AG (l:List (List UInt8)):List AV:=l.map λs=>S s
def Jk (l:List Int):List UInt8:=(l.map enc).flatten
def Ix (l:List (List UInt8)):List UInt8:=(l.map O?).flatten
def Wl {l:List Int} {k:Nat} (h:k<l.length):(Gz l).getD k .dk=I l[k]:=by
 simp[Gz,Vl,h]
def OX {l:List (List UInt8)} {k:Nat} (h:k<l.length):(AG l).getD k .dk=S l[k]:=by
 simp[AG,Vl,h]
def F1 (l:List Int):(Jk l).length<=9*l.length:=by
 induction l with
 |nil=>simp[Jk]
 |cons z l ih=>
  have:=Tt z;simp[Jk] at ih⊢;omega
def F0 (l:List (List UInt8)) (h:∀s∈l,s.length<390):(Ix l).length<=400*l.length:=by
 induction l with
 |nil=>simp[Ix]
 |cons s l ih=>
  have h1:=Tt (s.length:Int);have h2:=h s (by simp);have a:=ih (λs b=>h s (by simp[b]));simp only[Ix,WR,l1d,EY,LP,O?] at a⊢;omega
def yS (l:List Int) (h:i<l.length):Jk (l.take (i+1))=Jk (l.take i)++enc l[i]:=by
 unfold Jk;rw[kY h,YN,List.flatten_append];simp only[WR,List.map_nil,l1d,List.flatten_nil,Wi]
def yR (l:List (List UInt8)) (h:i<l.length):Ix (l.take (i+1))=Ix (l.take i)++O? l[i]:=by
 unfold Ix;rw[kY h,YN,List.flatten_append];simp only[WR,List.map_nil,l1d,List.flatten_nil,Wi]
variable {L n:Nat} {K:KV} {x:Af}
def B8V {l:List Int} (m:l.length<100) (hz:∀z∈l, -10<=z/\z<1090) (d:k (S (Jk l)) H=x):
 ∀(f i:Nat),i<=l.length->l.length-i<f->Pc (L+20) (r! L (n+4)) K k f (.list l.length (Gz l)) (S (Jk (l.take i))) (I i) H=x:=by
 intro f
 induction f with
 |zero=>intro i _ h;omega
 |succ f ih=>
  intro i j g;rw[ZO];unfold Pd Iv A0;have c:∀K,Bq B4 (.list l.length (Gz l)) K=K (I l.length):= λK=>id rfl;rw[c,Ej,F8];by_cases h:i<l.length
  ·rw[Dj (by simp;omega)];have a:=hz l[i] (Qe h);have b:(Jk (l.take i)).length<=9*l.length:=by
    have:=F1 (l.take i);have e:(l.take i).length<=l.length:=by simp;omega
    omega
   rw[dL rfl (by simp[Gz]) (by omega) (by omega),kV,O0 rfl,Wl h,A0F L n a.1 a.2,F3,F2,B5 (by have:=Tt l[i];omega),<-yS l h,Dm,CW (by omega) (by omega),R6];exact ih (i+1) (by omega) (by omega)
  ·rw[C4 (by simp;omega)];have:i=l.length:=by omega
   subst this;rw[vB];exact d
def xP {l:List Int} (c:l.length<100) (d:l.length<L) (hz:∀z∈l, -10<=z/\z<1090):CS (r! L (n+5)) EL [.list l.length (Gz l)] (S (Jk l)):=by
 intro K a;rw[fF];unfold Qs A0;simp only[BK];refine B8V c hz ?_ (L+20) 0 (by omega) (by omega);exact a _ _ (λb=>⟨false,C7⟩)
def B6E {l:List (List UInt8)} (q:l.length<100) (hz:∀s∈l,s.length<390) (g:k (S (Ix l)) H=x):
 ∀(f i:Nat),i<=l.length->l.length-i<f->R8 (L+20) (r! L (n+5)) K k f (.list l.length (AG l)) (S (Ix (l.take i))) (I i) H=x:=by
 intro f
 induction f with
 |zero=>intro i _ h;omega
 |succ f ih=>
  intro i p m;rw[UF];unfold NB Iv A0;have d:∀K,Bq Ac (.list l.length (AG l)) K=K (I l.length):= λK=>id rfl;rw[d,Ej,F8];by_cases h:i<l.length
  ·rw[Dj (by simp;omega)];have b:=hz l[i] (Qe h);have c:(Ix (l.take i)).length<=400*l.length:=by
    have:=F0 (l.take i) (λs e=>hz s (l2a e));have j:(l.take i).length<=l.length:=by simp;omega
    omega
   have a:(O? l[i]).length<=400:=by unfold O?;rw[EY];have:=Tt (l[i].length:Int);omega
   rw[dL rfl (by simp[AG]) (by omega) (by omega),kV,O0 rfl,OX h,A0E L n b,F3,F2,B5 (by omega),<-yR l h,Dm,CW (by omega) (by omega),R6];exact ih (i+1) (by omega) (by omega)
  ·rw[C4 (by simp;omega)];have:i=l.length:=by omega
   subst this;rw[vB];exact g
def A4O {l:List (List UInt8)} (c:l.length<100) (d:l.length<L) (hz:∀s∈l,s.length<390):CS (r! L (n+6)) Hj [.list l.length (AG l)] (S (Ix l)):=by
 intro K a;rw[WQ];unfold PM A0;simp only[BK];refine B6E c hz ?_ (L+20) 0 (by omega) (by omega);exact a _ _ (λb=>⟨false,C7⟩)
end
section
variable {m:Nat} {p:Nat->Bool}
structure UD where
 (p0 q0 p1 q1 p2 q2 p3 q3 p4 q4 p5 q5 p6 q6:Int)
 (fn fd on od:List UInt8)
 (kd sc:Int)
abbrev UD.cs (u:UD):List AV:=[I u.p0,I u.q0,I u.p1,I u.q1,I u.p2,I u.q2,I u.p3,I u.q3,I u.p4,I u.q4,I u.p5,I u.q5,I u.p6,I u.q6,S u.fn,S u.fd,S u.on,S u.od,I u.kd,I u.sc]
def u0:UD:=⟨0,0,0,0,0,0,0,0,0,0,0,0,0,0,[],[],[],[],0,0⟩
def nA:List UInt8:=[49]
def nB:List UInt8:=[49,48,48,48]
def nC:List UInt8:=[49,48,48,48,48,48,48]
def nD:List UInt8:=[49,48,48,48,48,48,48,48,48,48]
def uD (a b c:Int) (f d:List UInt8) (s:Int):UD:=⟨a,1,0,1,b,1,0,1,c,1,0,1,0,1,f,d,[48],[49],0,s⟩
def C0Y:List UD:=[
 uD 1 0 0 nA nA 1,
 uD 0 1 0 nA nA 1,
 uD 1 0 0 nA nB 1,
 uD 0 0 0 nA nA 2,
 ⟨0,1,0,1,0,1,0,1,1,1,0,1,0,1,[49],[49],[53,52,54,51],[50,48],0,0⟩,
 uD 0 0 1 nA nA 1,
 uD 2 0 0 nA nA 1,
 uD 1 1 0 nA nA 1,
 uD 1 (-1) 0 nA nA 1,
 uD 2 0 0 nA nB 1,
 uD 0 0 0 nB nA 2,
 uD 1 0 1 nA nA 1,
 uD 1 0 (-1) nA nA 1,
 uD 3 0 0 nA nA 1,
 uD (-1) 0 0 nA nA 1,
 uD (-2) 0 0 nA nA 1,
 uD (-1) 1 0 nA nA 1,
 uD 0 2 0 nA nA 1,
 uD 1 1 0 nA nB 1,
 uD (-1) 1 0 nB nA 1,
 uD 0 1 1 nA nA 1,
 uD 0 1 (-1) nA nA 1,
 uD 2 1 0 nA nA 1,
 uD (-2) 1 0 nA nA 1,
 uD 0 (-1) 0 nA nA 1,
 uD 0 3 0 nA nA 1,
 uD 0 (-2) 0 nA nA 1,
 uD 0 0 0 nA nB 2,
 uD 1 (-1) 0 nA nB 1,
 uD 2 0 0 nA nC 1,
 uD 1 0 1 nA nB 1,
 uD 1 0 (-1) nA nB 1,
 uD 3 0 0 nA nB 1,
 uD (-1) 0 0 nA nB 1,
 uD (-1) 0 0 nB nA 1,
 uD 3 0 0 nA nD 1,
 uD (-2) 0 0 nC nA 1,
 uD 0 0 (-1) nA nA 1,
 uD (-1) 0 1 nA nA 1,
 uD 0 (-1) 1 nA nA 1,
 uD (-1) 0 1 nB nA 1,
 uD 0 0 2 nA nA 1,
 uD 2 0 1 nA nA 1,
 uD (-2) 0 1 nA nA 1,
 uD 0 0 3 nA nA 1,
 uD 0 0 (-2) nA nA 1,
 uD 2 (-1) 0 nA nA 1,
 uD 1 0 0 nB nA 1,
 uD 2 0 (-1) nA nA 1,
 uD 4 0 0 nA nA 1,
 uD 6 0 0 nA nA 1,
 uD (-4) 0 0 nA nA 1]
def uu (k:Nat):UD:=C0Y.getD k u0
def nE:List UInt8:=[49,47,49,48,48,48]
def nF:List UInt8:=[49,47,49,48,48,48,48,48,48]
def nG:List UInt8:=[49,47,49,48,48,48,48,48,48,48,48,48]
def nK:List UInt8:=[32,107,105,110,100,32,48,32,102,97,99,116,111,114,32]
def nO:List UInt8:=[32,111,102,102,115,101,116,32,48]
def nR:List UInt8:=[114,97,116,105,111]
def nU (f t:List UInt8):List UInt8:=[100,105,102,102,101,114,101,110,99,101]++(nK++(f++(nO++(32::t))))
def B6D:List (List UInt8):=[
 nU nA [109,94,49],
 nU nA [115,94,49],
 nU nE [109,94,49],
 nR++(nK++(nA++nO)),
 [97,98,115,111,108,117,116,101,32,107,105,110,100,32,48,32,102,97,99,116,111,114,32,49,32,111,102,102,115,101,116,32,53,52,54,51,47,50,48,32,75,94,49],
 nU nA [75,94,49],
 nU nA [109,94,50],
 nU nA [109,94,49,32,115,94,49],
 nU nA [109,94,49,32,115,94,45,49],
 nU nE [109,94,50],
 nR++(nK++(nB++nO)),
 nU nA [109,94,49,32,75,94,49],
 nU nA [109,94,49,32,75,94,45,49],
 nU nA [109,94,51],
 nU nA [109,94,45,49],
 nU nA [109,94,45,50],
 nU nA [109,94,45,49,32,115,94,49],
 nU nA [115,94,50],
 nU nE [109,94,49,32,115,94,49],
 nU nB [109,94,45,49,32,115,94,49],
 nU nA [115,94,49,32,75,94,49],
 nU nA [115,94,49,32,75,94,45,49],
 nU nA [109,94,50,32,115,94,49],
 nU nA [109,94,45,50,32,115,94,49],
 nU nA [115,94,45,49],
 nU nA [115,94,51],
 nU nA [115,94,45,50],
 nR++(nK++(nE++nO)),
 nU nE [109,94,49,32,115,94,45,49],
 nU nF [109,94,50],
 nU nE [109,94,49,32,75,94,49],
 nU nE [109,94,49,32,75,94,45,49],
 nU nE [109,94,51],
 nU nE [109,94,45,49],
 nU nB [109,94,45,49],
 nU nG [109,94,51],
 nU nC [109,94,45,50],
 nU nA [75,94,45,49],
 nU nA [109,94,45,49,32,75,94,49],
 nU nA [115,94,45,49,32,75,94,49],
 nU nB [109,94,45,49,32,75,94,49],
 nU nA [75,94,50],
 nU nA [109,94,50,32,75,94,49],
 nU nA [109,94,45,50,32,75,94,49],
 nU nA [75,94,51],
 nU nA [75,94,45,50],
 nU nA [109,94,50,32,115,94,45,49],
 nU nB [109,94,49],
 nU nA [109,94,50,32,75,94,45,49],
 nU nA [109,94,52],
 nU nA [109,94,54],
 nU nA [109,94,45,52]]
def Ll (k:Nat):List UInt8:=B6D.getD k []
def C3T:List (List (List (Option Nat))):=[
 [[some 0,none,none,none,none,none,none],
  [none,some 1,none,none,none,none,none],
  [none,none,some 2,none,none,none,none],
  [none,none,none,some 3,none,none,none],
  [none,none,none,none,none,some 4,none],
  [none,none,none,none,some 4,some 5,none],
  [none,none,none,none,none,none,some 6]],
 [[some 0,none,none,none,none,none,none],
  [none,some 1,none,none,none,none,none],
  [none,none,some 2,none,none,none,none],
  [none,none,none,some 3,none,none,none],
  [none,none,none,none,some 5,some 4,none],
  [none,none,none,none,none,some 5,none],
  [none,none,none,none,none,none,some 6]],
 [[some 6,some 7,some 9,some 0,none,some 11,some 13],
  [some 7,some 17,some 18,some 1,none,some 20,some 22],
  [some 9,some 18,some 29,some 2,none,some 30,some 32],
  [some 0,some 1,some 2,some 3,none,some 5,some 6],
  [none,none,none,none,none,none,none],
  [some 11,some 20,some 30,some 5,none,some 41,some 42],
  [some 13,some 22,some 32,some 6,none,some 42,some 49]],
 [[some 3,some 8,some 10,some 0,none,some 12,some 14],
  [some 16,some 3,some 19,some 1,none,some 21,some 23],
  [some 27,some 28,some 3,some 2,none,some 31,some 33],
  [some 14,some 24,some 34,some 3,none,some 37,some 15],
  [none,none,none,none,none,none,none],
  [some 38,some 39,some 40,some 5,none,some 3,some 43],
  [some 0,some 46,some 47,some 6,none,some 48,some 3]]]
def Vi (o i j:Nat):Option Nat:=((C3T.getD o []).getD i []).getD j none
def lM (k:Nat):Int:=([2, -1,3, -2,1]:List Int).getD k 0
def C0X:List (List (Option Nat)):=[[some 6,some 14,some 13,some 15,some 0],
 [some 17,some 24,some 25,some 26,some 1],
 [some 29,some 34,some 35,some 36,some 2],
 [some 3,some 3,some 3,some 3,some 3],
 [none,none,none,none,none],
 [some 41,some 37,some 44,some 45,some 5],
 [some 49,some 15,some 50,some 51,some 6]]
def Xt (i k:Nat):Option Nat:=(C0X.getD i []).getD k none
def JU:Option Nat->AV
 |some k=> .tup [.agg (uu k).cs,I 0]
 |none=> .tup [.agg u0.cs,I 70]
def isU:Option Nat->Bool
 |some _=>true
 |none=>false
def B1T (p:Nat->Bool) (m:Nat):Nat->Prop
 |0=>True
 |c+1=>((List.range m).all λk=>p (c*m+k))=true/\B1T p m c
def ZN:B1T p m 0:=trivial
def ZM {m c:Nat} (h:((List.range m).all λk=>p (c*m+k))=true) (h2:B1T p m c):B1T p m (c+1):=⟨h,h2⟩
def ZL:∀{c:Nat},B1T p m c->∀{i:Nat},i<c*m->p i=true:=by
 intro c
 induction c with
 |zero=>intro _ i a;omega
 |succ c ih=>
  intro h i a;by_cases hc:i<c*m
  ·exact ih h.2 hc
  ·have h1:=GH.1 h.1 (i-c*m) (K8.2 (by rw[W_] at a;omega));have e:c*m+(i-c*m)=i:=by omega
   rw[e] at h1;exact h1
end
section
variable {v:AV} {x y:Af} {f:Nat} {R:Rt}
def mS:Rt->Nat->List AV->Hp->(AV->Af)->Af:=Classical.choose (⟨An,rfl⟩:∃z:Rt->Nat->List AV->Hp->(AV->Af)->Af,An=z)
def zO:An=mS:=Classical.choose_spec (⟨An,rfl⟩:∃z:Rt->Nat->List AV->Hp->(AV->Af)->Af,An=z)
def eBi:TI->BinOp->AV->AV->(AV->Af)->Af:=Classical.choose (⟨Go.Abs.Ap,rfl⟩:∃z:TI->BinOp->AV->AV->(AV->Af)->Af,Go.Abs.Ap=z)
def bO:Go.Abs.Ap=eBi:=Classical.choose_spec (⟨Go.Abs.Ap,rfl⟩:∃z:TI->BinOp->AV->AV->(AV->Af)->Af,Go.Abs.Ap=z)
def eEq:List LK->BinOp->AV->AV->(AV->Af)->Af:=Classical.choose (⟨Go.Abs.Xg,rfl⟩:∃z:List LK->BinOp->AV->AV->(AV->Af)->Af,Go.Abs.Xg=z)
def qO:Go.Abs.Xg=eEq:=Classical.choose_spec (⟨Go.Abs.Xg,rfl⟩:∃z:List LK->BinOp->AV->AV->(AV->Af)->Af,Go.Abs.Xg=z)
def cnd:AV->Af->Af->Af:=Classical.choose (⟨Az,rfl⟩:∃z:AV->Af->Af->Af,Az=z)
def cO:Az=cnd:=Classical.choose_spec (⟨Az,rfl⟩:∃z:AV->Af->Af->Af,Az=z)
def PU:cnd (.v (.bool true)) x y=x:=by rw[<-cO];rfl
def GD:cnd (.v (.bool false)) x y=y:=by rw[<-cO];rfl
section
variable {K:AV->Af} {i:TI} {k:IntKind} {a b:Int} {s u:List UInt8}
def Qj (h:a=b):eBi i .eql (.v (.int k a)) (.v (.int k b)) K=K (Bo true):=by rw[<-bO,CP,Iu h]
def WW (h:a≠b):eBi i .eql (.v (.int k a)) (.v (.int k b)) K=K (Bo false):=by rw[<-bO,CP,IG h]
def A9Y (h:a=b):eBi i .neq (.v (.int k a)) (.v (.int k b)) K=K (Bo false):=by rw[<-bO,IS,Iu h];rfl
def A57 (h:a<=b):eBi i .leq (.v (.int k a)) (.v (.int k b)) K=K (Bo true):=by rw[<-bO,iD,Iu h]
def A5h (h:b<=a):eBi i .geq (.v (.int k a)) (.v (.int k b)) K=K (Bo true):=by rw[<-bO,L7,Iu h]
end
def A7s:∀{ks:List LK} {xs:List Value},fits ks xs=true->Yx xs xs=some true:=by
 intro ks
 induction ks with
 |nil=>intro xs h;cases xs with|nil=>rfl|cons a l=>simp[fits] at h
 |cons k ks ih=>
  intro xs h;cases xs with
  |nil=>rfl
  |cons a l=>
   simp only[fits,Kw] at h;have h2:=ih h.2;have e:Yx (a::l) (a::l)=(match gD a a with|some b=>(match Yx l l with|some c=>some (b&&c)|none=>none)|none=>none):=rfl;rw[e,h2];have h1:gD a a=some true:=by
    have h1:=h.1;cases k<;>cases a<;>simp[LK.fit] at h1<;>simp[gD,Q8,QA]
   rw[h1];rfl
def A5i (xs:List Value):∀K:List Value->Af,mM (xs.map AV.v) K=K xs:=by
 induction xs with
 |nil=>intro K;rfl
 |cons a l ih=>intro K;exact ih _
def B1c {ks:List LK} (xs:List Value) (h:fits ks xs=true) (K:AV->Af):eEq ks .eql (.agg (xs.map AV.v)) (.agg (xs.map AV.v)) K=K (Bo true):=by
 rw[<-qO];have e:Go.Abs.Xg ks .eql (.agg (xs.map AV.v)) (.agg (xs.map AV.v)) K=mM (xs.map AV.v) λc=>mM (xs.map AV.v) λd=>ck (fits ks c) (match Yx c d,BinOp.eql with
  |some q,.eql=>bB q K
  |some q,.neq=>bB (!q) K
  |_,_=>none):=rfl
 rw[e,A5i,A5i,A7s h,h];show bB true K=_;rw[OC]
def tZ (u:UD) (K:AV->Af):eEq L2 .eql (.agg u.cs) (.agg u.cs) K=K (Bo true):=
 B1c (ks:=L2) [.int .i64 u.p0,.int .i64 u.q0,.int .i64 u.p1,.int .i64 u.q1,.int .i64 u.p2,.int .i64 u.q2,.int .i64 u.p3,.int .i64 u.q3,.int .i64 u.p4,.int .i64 u.q4,.int .i64 u.p5,.int .i64 u.q5,.int .i64 u.p6,.int .i64 u.q6,.string ⟨⟨u.fn⟩⟩,.string ⟨⟨u.fd⟩⟩,.string ⟨⟨u.on⟩⟩,.string ⟨⟨u.od⟩⟩,.int .i64 u.kd,.int .i64 u.sc] rfl K
def LS (R:Rt) (f:Nat) (args':List AV) (v:AV):Prop:=∀(q:Bool) (args:List AV) (H:Hp),Rr true depth args args' H q->∀K,mS R f args H K=K v
def CS.ls {args':List AV} (h:CS R f args' v):LS R f args' v:= λ_ _ _ c _=>by rw[<-zO];exact AQ h c
def PO (R:Rt) (f:Nat) (args:List AV) (v:AV):Prop:=∀H K,mS R f args H K=K v
def PS.o {args:List AV} (h:PS R f args v):PO R f args v:= λH K=>by rw[<-zO];exact h H K
end
section
variable {L n:Nat}
attribute [local irreducible] An rt mS eBi eEq cnd Go.Abs.Ap Go.Abs.Xg Az
def eH {z c a:Int} (h1:c<=z) (h2:z<=a):PS (rt (L+20) (n+1)) FF [I z,I c,I a] (Bo true):=by
 refine CS.ps (λK d=> ?_) (λH=> λK=>by kernel_rfl);rewrite [Wb];unfold Lu q3N
 try rewrite [zO]
 try rewrite [bO]
 try rewrite [qO]
 try rewrite [cO]
 conv=>lhs;whnf
 rewrite [A5h h1]
 conv=>lhs;whnf
 rewrite [A57 h2]
 conv=>lhs;whnf
 exact d _ _ (λb=>⟨false,λK=>by kernel_rfl⟩)
def X0 {z c a:Int} (h1:c<=z) (h2:z<=a):PS (rt (L+20) (n+1)) IR [I z,I c,I a] (Bo true):=by
 refine CS.ps (λK d=> ?_) (λH=> λK=>by kernel_rfl);rewrite [kH];unfold RZ q3N
 try rewrite [zO]
 try rewrite [bO]
 try rewrite [qO]
 try rewrite [cO]
 conv=>lhs;whnf
 rewrite [A5h h1]
 conv=>lhs;whnf
 rewrite [A57 h2]
 conv=>lhs;whnf
 exact d _ _ (λb=>⟨false,λK=>by kernel_rfl⟩)
def Sl (T:AV):Prop:=T= .v (.slice none 0 0)\/∃n cs,T= .list n cs
abbrev As:AV:= .v (.slice none 0 0)
abbrev CJ (u:UD):List AV:=[I u.p0,I u.q0,I u.p1,I u.q1,I u.p2,I u.q2,I u.p3,I u.q3,I u.p4,I u.q4,I u.p5,I u.q5,I u.p6,I u.q6,S u.fn,S u.fd,S u.on,S u.od,I u.kd,I u.sc]
abbrev Z8 (ca cb:List UInt8) (T:AV) (ra rb:List UInt8):List AV:=[S ca,S cb,T,S ra,S rb]
abbrev BI (id:Int) (ins nds:AV) (u:UD):List AV:=[I id,ins,nds,
 I u.p0,I u.q0,I u.p1,I u.q1,I u.p2,I u.q2,I u.p3,I u.q3,I u.p4,I u.q4,I u.p5,I u.q5,I u.p6,I u.q6,S u.fn,S u.fd,S u.on,S u.od,I u.kd,I u.sc]
structure RD where
 k:Int
 (a1 a2 b1 b2 c1 c2 d1 d2:List UInt8)
abbrev RD.cs (r:RD):List AV:=[I r.k,S r.a1,S r.a2,S r.b1,S r.b2,S r.c1,S r.c2,S r.d1,S r.d2]
def r0:RD:=⟨0,[],[],[],[],[],[],[],[]⟩
structure ND where
 (lab num itm tim day:Int)
def rr (k:Nat):RD:=⟨k,[45,53],[49],[50,53],[50],if k=2 then[49] else[48],if k=2 then[50] else[49],[49],[50,48]⟩
abbrev Et (kd:Int) (m:ND) (u:UD) (ca cb:List UInt8) (T:AV) (ra rb:List UInt8) (P:AV) (id:Int) (ins nds:AV) (o:UD) (r:RD) (vd:Int):List AV:=[I kd,I m.lab,I m.num,I m.itm,I m.tim,I m.day,
 I u.p0,I u.q0,I u.p1,I u.q1,I u.p2,I u.q2,I u.p3,I u.q3,I u.p4,I u.q4,I u.p5,I u.q5,I u.p6,I u.q6,S u.fn,S u.fd,S u.on,S u.od,I u.kd,I u.sc,
 S ca,S cb,T,S ra,S rb,P,I id,ins,nds,
 I o.p0,I o.q0,I o.p1,I o.q1,I o.p2,I o.q2,I o.p3,I o.q3,I o.p4,I o.q4,I o.p5,I o.q5,I o.p6,I o.q6,S o.fn,S o.fd,S o.on,S o.od,I o.kd,I o.sc,
 I r.k,S r.a1,S r.a2,S r.b1,S r.b2,S r.c1,S r.c2,S r.d1,S r.d2,I vd,I 0,As,As]
def ND.ok (m:ND):Prop:=1<=m.lab/\m.lab<=9/\1<=m.num/\m.num<=9/\1<=m.itm/\m.itm<=9/\0<=m.tim/\m.tim<=100/\0<=m.day/\m.day<=100
abbrev A4v:List AV:=[zI,zL,zL,zI,zI,zI,zI,zI,zI,zI,zI,zI,zI,zI,zI,zI,zI,zS,zS,zS,zS,zI,zI]
def A8e:PS (rt (L+20) (n+40)) PF [.agg (BI 0 As As u0),.agg A4v] (Bo true):=BJ (λH K=>by kernel_rfl) (by kernel_rfl)
def A9k:PS (rt (L+20) (n+40)) gR [.agg (BI 0 As As u0),.agg A4v] (Bo true):=BJ (λH K=>by kernel_rfl) (by kernel_rfl)
section
variable {m:ND} {u o:UD} {ca cb ra rb:List UInt8} {T P ins nds:AV} {id vd:Int} {r:RD}
def A61 (hm:m.ok) (t:Sl T) (s:∃n cs,P= .list n cs) (j:∃n cs,ins= .list n cs) (q:∃n cs,nds= .list n cs)
 (hc:LS (rt (L+20) (n+60)) Hn [.agg (Et 2 m u ca cb T ra rb P id ins nds o r0 0)] (Bo true))
 (w:PO (rt (L+20) (n+60)) LR [.agg (CJ u)] (Bo true)) (v:LS (rt (L+20) (n+60)) L1 [.agg (Z8 ca cb T ra rb)] (Bo true)):
 CS (rt (L+20) (n+61)) Ec [.agg (Et 2 m u ca cb T ra rb P id ins nds o r0 0)] (Bo true):=by
 intro K p;obtain⟨h1,h2,f,x,g,y,h,A,i,e⟩:=hm;obtain⟨n1,c1,rfl⟩:=s;obtain⟨n2,c2,rfl⟩:=j;obtain⟨B,c3,rfl⟩:=q;have hb:∀{z d c:Int},d<=z->z<=c->PO (rt (L+20) (n+60)) FF [I z,I d,I c] (Bo true):= λa b=>(eH a b).o;rcases t with rfl|⟨C,c4,rfl⟩
 all_goals
  rewrite [J7];unfold Gg Ip
  try rewrite [zO]
  try rewrite [bO]
  try rewrite [qO]
  try rewrite [cO]
  generalize rt (L+20) (n+60)=R at*
  conv=>lhs;whnf
  rewrite [hb h1 (by omega)]
  conv=>lhs;whnf
  rewrite [hb f (by omega)]
  conv=>lhs;whnf
  rewrite [hb g (by omega)]
  conv=>lhs;whnf
  rewrite [hb h (by omega)]
  conv=>lhs;whnf
  rewrite [hb i (by omega)]
  conv=>lhs;whnf
  rewrite [w]
  conv=>lhs;whnf
  rewrite [(v) false _ _ ?hq]
  case hq=>exact λK=>by kernel_rfl
  conv=>lhs;whnf
  rewrite [GD]
  conv=>lhs;whnf
  rewrite [show∀K,eEq J0 BinOp.eql (AV.agg [I r0.k,S r0.a1,S r0.a2,S r0.b1,S r0.b2,S r0.c1,S r0.c2,S r0.d1,S r0.d2]) (AV.agg [zI,zS,zS,zS,zS,zS,zS,zS,zS]) K=K (Bo true) from λK=>by rw[<-qO];kernel_rfl]
  conv=>lhs;whnf
  rewrite [Qj ?hc]
  case hc=>decide
  conv=>lhs;whnf
  rewrite [WW ?hc]
  case hc=>decide
  conv=>lhs;whnf
  rewrite [GD]
  conv=>lhs;whnf
  rewrite [Qj ?hc]
  case hc=>decide
  conv=>lhs;whnf
  rewrite [PU]
  conv=>lhs;whnf
  rewrite [(hc) false _ _ ?hq]
  case hq=>exact λK=>by kernel_rfl
  conv=>lhs;whnf
  exact p _ _ (λb=>⟨false,λK=>by kernel_rfl⟩)
def A62 (hm:m.ok) (p:Sl T) (s:PO (rt (L+20) (n+60)) PF [.agg (BI 0 As As o),.agg A4v] (Bo true))
 (t:PO (rt (L+20) (n+60)) LR [.agg (CJ u)] (Bo true)) (q:LS (rt (L+20) (n+60)) L1 [.agg (Z8 ca cb T ra rb)] (Bo true)):
 CS (rt (L+20) (n+61)) Ec [.agg (Et 1 m u ca cb T ra rb As 0 As As o r0 0)] (Bo true):=by
 intro K j;obtain⟨h1,h2,f,v,g,w,h,x,i,e⟩:=hm;have hb:∀{z d c:Int},d<=z->z<=c->PO (rt (L+20) (n+60)) FF [I z,I d,I c] (Bo true):= λa b=>(eH a b).o;rcases p with rfl|⟨y,c4,rfl⟩
 all_goals
  rewrite [J7];unfold Gg Ip
  try rewrite [zO]
  try rewrite [bO]
  try rewrite [qO]
  try rewrite [cO]
  generalize rt (L+20) (n+60)=R at*
  conv=>lhs;whnf
  rewrite [hb h1 (by omega)]
  conv=>lhs;whnf
  rewrite [hb f (by omega)]
  conv=>lhs;whnf
  rewrite [hb g (by omega)]
  conv=>lhs;whnf
  rewrite [hb h (by omega)]
  conv=>lhs;whnf
  rewrite [hb i (by omega)]
  conv=>lhs;whnf
  rewrite [t]
  conv=>lhs;whnf
  rewrite [(q) false _ _ ?hq]
  case hq=>exact λK=>by kernel_rfl
  conv=>lhs;whnf
  rewrite [GD]
  conv=>lhs;whnf
  rewrite [show∀K,eEq J0 BinOp.eql (AV.agg [I r0.k,S r0.a1,S r0.a2,S r0.b1,S r0.b2,S r0.c1,S r0.c2,S r0.d1,S r0.d2]) (AV.agg [zI,zS,zS,zS,zS,zS,zS,zS,zS]) K=K (Bo true) from λK=>by rw[<-qO];kernel_rfl]
  conv=>lhs;whnf
  rewrite [Qj ?hc]
  case hc=>decide
  conv=>lhs;whnf
  rewrite [Qj ?hc]
  case hc=>decide
  conv=>lhs;whnf
  rewrite [PU]
  conv=>lhs;whnf
  rewrite [Qj ?hc]
  case hc=>decide
  conv=>lhs;whnf
  rewrite [s]
  conv=>lhs;whnf
  exact j _ _ (λb=>⟨false,λK=>by kernel_rfl⟩)
def A60 (hm:m.ok) (w:Sl T) (v:∃n cs,P= .list n cs) (q:∃n cs,ins= .list n cs) (t:∃n cs,nds= .list n cs) (c:∀K,eEq J0 BinOp.eql (AV.agg r.cs) (AV.agg [zI,zS,zS,zS,zS,zS,zS,zS,zS]) K=K (Bo false)) (hr:PO (rt (L+20) (n+60)) Yo [.agg r.cs] (Bo true)) (d:1<=vd) (e:vd<=3)
 (y:PO (rt (L+20) (n+60)) LR [.agg (CJ u)] (Bo true)) (x:LS (rt (L+20) (n+60)) L1 [.agg (Z8 ca cb T ra rb)] (Bo true))
 (hc:LS (rt (L+20) (n+60)) Hn [.agg (Et 3 m u ca cb T ra rb P id ins nds o r vd)] (Bo true)):
 CS (rt (L+20) (n+61)) Ec [.agg (Et 3 m u ca cb T ra rb P id ins nds o r vd)] (Bo true):=by
 intro K s;obtain⟨h1,h2,i,A,j,B,k,C,p,h⟩:=hm;obtain⟨n1,c1,rfl⟩:=v;obtain⟨n2,c2,rfl⟩:=q;obtain⟨D,c3,rfl⟩:=t;have hb:∀{z g f:Int},g<=z->z<=f->PO (rt (L+20) (n+60)) FF [I z,I g,I f] (Bo true):= λa b=>(eH a b).o;rcases w with rfl|⟨F,c4,rfl⟩
 all_goals
  rewrite [J7];unfold Gg Ip
  try rewrite [zO]
  try rewrite [bO]
  try rewrite [qO]
  try rewrite [cO]
  generalize rt (L+20) (n+60)=R at*
  conv=>lhs;whnf
  rewrite [hb h1 (by omega)]
  conv=>lhs;whnf
  rewrite [hb i (by omega)]
  conv=>lhs;whnf
  rewrite [hb j (by omega)]
  conv=>lhs;whnf
  rewrite [hb k (by omega)]
  conv=>lhs;whnf
  rewrite [hb p (by omega)]
  conv=>lhs;whnf
  rewrite [y]
  conv=>lhs;whnf
  rewrite [(x) false _ _ ?hq]
  case hq=>exact λK=>by kernel_rfl
  conv=>lhs;whnf
  rewrite [GD]
  conv=>lhs;whnf
  rewrite [c]
  conv=>lhs;whnf
  rewrite [WW ?hc]
  case hc=>decide
  conv=>lhs;whnf
  rewrite [GD]
  conv=>lhs;whnf
  rewrite [WW ?hc]
  case hc=>decide
  conv=>lhs;whnf
  rewrite [GD]
  conv=>lhs;whnf
  rewrite [Qj ?hc]
  case hc=>decide
  conv=>lhs;whnf
  rewrite [PU]
  conv=>lhs;whnf
  rewrite [(hc) false _ _ ?hq]
  case hq=>exact λK=>by kernel_rfl
  conv=>lhs;whnf
  rewrite [hr]
  conv=>lhs;whnf
  rewrite [hb d e]
  conv=>lhs;whnf
  exact s _ _ (λb=>⟨false,λK=>by kernel_rfl⟩)
end
end
section
variable {c2:List AV} {n2:Nat}
variable {L n:Nat}
attribute [local irreducible] An rt mS eBi eEq cnd Go.Abs.Ap Go.Abs.Xg Az
section
variable {m:ND} {u o:UD} {ca cb ra rb:List UInt8} {T P ins nds:AV} {id vd:Int} {r:RD}
def A6q (hm:m.ok) (p:Sl T) (hr:PO (rt (L+20) (n+60)) JA [.agg r0.cs] (Bo false))
 (s:PO (rt (L+20) (n+60)) gR [.agg (BI 0 As As o),.agg A4v] (Bo true))
 (t:PO (rt (L+20) (n+60)) Fw [.agg (CJ u)] (Bo true)) (q:LS (rt (L+20) (n+60)) JC [.agg (Z8 ca cb T ra rb)] (Bo true)):
 CS (rt (L+20) (n+61)) Ft [.agg (Et 1 m u ca cb T ra rb As 0 As As o r0 0)] (.tup [Bo true,Bo false]):=by
 intro K j;obtain⟨h1,h2,f,v,g,w,h,x,i,e⟩:=hm;have hb:∀{z d c:Int},d<=z->z<=c->PO (rt (L+20) (n+60)) IR [I z,I d,I c] (Bo true):= λa b=>(X0 a b).o;rcases p with rfl|⟨y,c4,rfl⟩
 all_goals
  rewrite [JM];unfold IL Ip
  try rewrite [zO]
  try rewrite [bO]
  try rewrite [qO]
  try rewrite [cO]
  generalize rt (L+20) (n+60)=R at*
  conv=>lhs;whnf
  rewrite [WW ?hc]
  case hc=>decide
  conv=>lhs;whnf
  rewrite [t]
  conv=>lhs;whnf
  rewrite [(q) false _ _ ?hq]
  case hq=>exact λK=>by kernel_rfl
  conv=>lhs;whnf
  rewrite [hb h1 (by omega)]
  conv=>lhs;whnf
  rewrite [hb f (by omega)]
  conv=>lhs;whnf
  rewrite [hb g (by omega)]
  conv=>lhs;whnf
  rewrite [hb h (by omega)]
  conv=>lhs;whnf
  rewrite [hb i (by omega)]
  conv=>lhs;whnf
  rewrite [GD]
  conv=>lhs;whnf
  rewrite [hr]
  conv=>lhs;whnf
  rewrite [show∀K,eEq J0 BinOp.neq (AV.agg [I r0.k,S r0.a1,S r0.a2,S r0.b1,S r0.b2,S r0.c1,S r0.c2,S r0.d1,S r0.d2]) (AV.agg [zI,zS,zS,zS,zS,zS,zS,zS,zS]) K=K (Bo false) from λK=>by rw[<-qO];kernel_rfl]
  conv=>lhs;whnf
  rewrite [A9Y ?hc]
  case hc=>decide
  conv=>lhs;whnf
  rewrite [GD]
  conv=>lhs;whnf
  rewrite [Qj ?hc]
  case hc=>decide
  conv=>lhs;whnf
  rewrite [PU]
  conv=>lhs;whnf
  rewrite [s]
  conv=>lhs;whnf
  rewrite [Qj ?hc]
  case hc=>decide
  conv=>lhs;whnf
  exact j _ _ (λb=>⟨false,λK=>by kernel_rfl⟩)
def A6p (hm:m.ok) (s:Sl T) (hr:PO (rt (L+20) (n+60)) JA [.agg r0.cs] (Bo false)) (q:∃n cs,P= .list n cs) (p:∃n cs,nds= .list n cs)
 (v:LS (rt (L+20) (n+60)) Im [P] (.tup [Bo true,I n2])) (hv:LS (rt (L+20) (n+60)) FV [.agg (BI id (.list n2 c2) nds u)] (Bo true))
 (w:PO (rt (L+20) (n+60)) Fw [.agg (CJ u)] (Bo true)) (t:LS (rt (L+20) (n+60)) JC [.agg (Z8 ca cb T ra rb)] (Bo true)):
 CS (rt (L+20) (n+61)) Ft [.agg (Et 2 m u ca cb T ra rb P id (.list n2 c2) nds u r0 0)] (.tup [Bo true,Bo false]):=by
 intro K j;obtain⟨h1,h2,f,x,g,y,h,A,i,e⟩:=hm;obtain⟨n1,c1,rfl⟩:=q;obtain⟨B,c3,rfl⟩:=p;have hb:∀{z d c:Int},d<=z->z<=c->PO (rt (L+20) (n+60)) IR [I z,I d,I c] (Bo true):= λa b=>(X0 a b).o;rcases s with rfl|⟨C,c4,rfl⟩
 all_goals
  rewrite [JM];unfold IL Ip
  try rewrite [zO]
  try rewrite [bO]
  try rewrite [qO]
  try rewrite [cO]
  generalize rt (L+20) (n+60)=R at*
  conv=>lhs;whnf
  rewrite [WW ?hc]
  case hc=>decide
  conv=>lhs;whnf
  rewrite [w]
  conv=>lhs;whnf
  rewrite [(t) false _ _ ?hq]
  case hq=>exact λK=>by kernel_rfl
  conv=>lhs;whnf
  rewrite [hb h1 (by omega)]
  conv=>lhs;whnf
  rewrite [hb f (by omega)]
  conv=>lhs;whnf
  rewrite [hb g (by omega)]
  conv=>lhs;whnf
  rewrite [hb h (by omega)]
  conv=>lhs;whnf
  rewrite [hb i (by omega)]
  conv=>lhs;whnf
  rewrite [GD]
  conv=>lhs;whnf
  rewrite [hr]
  conv=>lhs;whnf
  rewrite [show∀K,eEq J0 BinOp.neq (AV.agg [I r0.k,S r0.a1,S r0.a2,S r0.b1,S r0.b2,S r0.c1,S r0.c2,S r0.d1,S r0.d2]) (AV.agg [zI,zS,zS,zS,zS,zS,zS,zS,zS]) K=K (Bo false) from λK=>by rw[<-qO];kernel_rfl]
  conv=>lhs;whnf
  rewrite [A9Y ?hc]
  case hc=>decide
  conv=>lhs;whnf
  rewrite [GD]
  conv=>lhs;whnf
  rewrite [WW ?hc]
  case hc=>decide
  conv=>lhs;whnf
  rewrite [GD]
  conv=>lhs;whnf
  rewrite [Qj ?hc]
  case hc=>decide
  conv=>lhs;whnf
  rewrite [PU]
  conv=>lhs;whnf
  rewrite [PU]
  conv=>lhs;whnf
  rewrite [(v) false _ _ ?hq]
  case hq=>exact λK=>by kernel_rfl
  conv=>lhs;whnf
  rewrite [(hv) false _ _ ?hq]
  case hq=>exact λK=>by kernel_rfl
  conv=>lhs;whnf
  rewrite [Qj ?hc]
  case hc=>rfl
  conv=>lhs;whnf
  rewrite [tZ u]
  conv=>lhs;whnf
  exact j _ _ (λb=>⟨false,λK=>by kernel_rfl⟩)
def A6o (hm:m.ok) (t:Sl T) (hr:PO (rt (L+20) (n+60)) JA [.agg r.cs] (Bo true)) (c:1<=vd) (d:vd<=3) (s:∃n cs,P= .list n cs) (q:∃n cs,nds= .list n cs)
 (w:LS (rt (L+20) (n+60)) Im [P] (.tup [Bo true,I n2])) (hv:LS (rt (L+20) (n+60)) FV [.agg (BI id (.list n2 c2) nds u)] (Bo true))
 (x:PO (rt (L+20) (n+60)) Fw [.agg (CJ u)] (Bo true)) (v:LS (rt (L+20) (n+60)) JC [.agg (Z8 ca cb T ra rb)] (Bo true)):
 CS (rt (L+20) (n+61)) Ft [.agg (Et 3 m u ca cb T ra rb P id (.list n2 c2) nds u r vd)] (.tup [Bo true,Bo true]):=by
 intro K p;obtain⟨h1,h2,h,y,i,A,j,B,k,g⟩:=hm;obtain⟨n1,c1,rfl⟩:=s;obtain⟨C,c3,rfl⟩:=q;have hb:∀{z f e:Int},f<=z->z<=e->PO (rt (L+20) (n+60)) IR [I z,I f,I e] (Bo true):= λa b=>(X0 a b).o;rcases t with rfl|⟨D,c4,rfl⟩
 all_goals
  rewrite [JM];unfold IL Ip
  try rewrite [zO]
  try rewrite [bO]
  try rewrite [qO]
  try rewrite [cO]
  generalize rt (L+20) (n+60)=R at*
  conv=>lhs;whnf
  rewrite [Qj ?hc]
  case hc=>decide
  conv=>lhs;whnf
  rewrite [x]
  conv=>lhs;whnf
  rewrite [(v) false _ _ ?hq]
  case hq=>exact λK=>by kernel_rfl
  conv=>lhs;whnf
  rewrite [hb h1 (by omega)]
  conv=>lhs;whnf
  rewrite [hb h (by omega)]
  conv=>lhs;whnf
  rewrite [hb i (by omega)]
  conv=>lhs;whnf
  rewrite [hb j (by omega)]
  conv=>lhs;whnf
  rewrite [hb k (by omega)]
  conv=>lhs;whnf
  rewrite [GD]
  conv=>lhs;whnf
  rewrite [hr]
  conv=>lhs;whnf
  rewrite [hb c d]
  conv=>lhs;whnf
  rewrite [GD]
  conv=>lhs;whnf
  rewrite [WW ?hc]
  case hc=>decide
  conv=>lhs;whnf
  rewrite [GD]
  conv=>lhs;whnf
  rewrite [WW ?hc]
  case hc=>decide
  conv=>lhs;whnf
  rewrite [GD]
  conv=>lhs;whnf
  rewrite [Qj ?hc]
  case hc=>decide
  conv=>lhs;whnf
  rewrite [PU]
  conv=>lhs;whnf
  rewrite [(w) false _ _ ?hq]
  case hq=>exact λK=>by kernel_rfl
  conv=>lhs;whnf
  rewrite [(hv) false _ _ ?hq]
  case hq=>exact λK=>by kernel_rfl
  conv=>lhs;whnf
  rewrite [Qj ?hc]
  case hc=>rfl
  conv=>lhs;whnf
  rewrite [tZ u]
  conv=>lhs;whnf
  exact p _ _ (λb=>⟨false,λK=>by kernel_rfl⟩)
end
end
section
variable {L n:Nat}
attribute [local irreducible] An rt mS eBi eEq cnd Go.Abs.Ap Go.Abs.Xg Az
section
variable {m:ND} {u:UD} {ca cb ra rb:List UInt8} {T nds:AV} {kd id vd:Int} {r:RD}
def qV {n2:Nat} {c1 c2:List AV} (d:Sl T) (c:∃n cs,nds= .list n cs)
 (e:LS (rt (L+20) (n+59)) JE [.list n2 c1] (Bo true)) (hv:LS (rt (L+20) (n+59)) Gs [.agg (BI id (.list n2 c2) nds u)] (Bo true)):
 CS (rt (L+20) (n+60)) Hn [.agg (Et kd m u ca cb T ra rb (.list n2 c1) id (.list n2 c2) nds u r vd)] (Bo true):=by
 intro K a;obtain⟨f,c3,rfl⟩:=c;rcases d with rfl|⟨g,c4,rfl⟩
 all_goals
  rewrite [Sp];unfold J8 Ip
  try rewrite [zO]
  try rewrite [bO]
  try rewrite [qO]
  try rewrite [cO]
  generalize rt (L+20) (n+59)=R at*
  conv=>lhs;whnf
  rewrite [(e) false _ _ ?hq]
  case hq=>exact λK=>by kernel_rfl
  conv=>lhs;whnf
  rewrite [(hv) false _ _ ?hq]
  case hq=>exact λK=>by kernel_rfl
  conv=>lhs;whnf
  rewrite [Qj ?hc]
  case hc=>rfl
  conv=>lhs;whnf
  rewrite [tZ u]
  conv=>lhs;whnf
  exact a _ _ (λb=>⟨false,λK=>by kernel_rfl⟩)
end
end
section
variable {x y:Af} {a b:Int} {i:Nat}
variable {L n:Nat}
abbrev Ls (l:List (List UInt8)):AV:= .list l.length (AG l)
def MG {l:List (List UInt8)} {K:AV->Af}:Bq Ac (Ls l) K=K (I l.length):=id rfl
def SI {l:List (List UInt8)} {K:AV->Af} (h:i<l.length):Dw Ac (Ls l) (I i) K=K (.iptr [S l[i]]):=by
 rw[dL rfl (by simp[AG]) (by omega) (by omega),kV,OX h]
def L5 {s:List UInt8} {H:Hp} {K:AV->Af}:AF Ai (.iptr [S s]) H K=K (S s):=O0 rfl
def Dg {ty:TI} {K:AV->Af} (h:i<1000000000):Go.Abs.Ap ty .add (I i) (.v (.int .i64 1)) K=K (I ((i+1:Nat):Int)):=by
 rw[Dm,CW (by omega) (by omega),R6]
def FR {ty:TI} {K:AV->Af} (h:a<b):Go.Abs.Ap ty .lss (I a) (I b) K=K (Bo true):=by rw[Ej,Iu h]
def FP {ty:TI} {K:AV->Af} (h:¬a<b):Go.Abs.Ap ty .lss (I a) (I b) K=K (Bo false):=by rw[Ej,IG h]
def Cy:Az (.v (.bool true)) x y=x:=id rfl
def Bj:Az (.v (.bool false)) x y=y:=id rfl
def B7 {v:AV} {H:Hp} {K:AV->Af}:Aq (some (v,H)) K=K v:=id rfl
section
variable {R:Rt} {K:KV} {ps:List (List UInt8)} {H:Hp}
def B8Q {c:AV->AV->AV->Hp->Af} (g:i<ps.length) (hn:ps.Nodup) (hb:ps.length<100):∀(f j:Nat),j<=i->i-j<f->
 LF (L+20) R K c f (Ls ps) (I i) (I j) H=c (Ls ps) (I i) (I i) H:=by
 intro f
 induction f with
 |zero=>intro j _ h;omega
 |succ f ih=>
  intro j m k;rw[R9];unfold LH OB A0 HQ;by_cases h:j<i
  ·rw[FR (by omega),Cy,SI (by omega),B7,L5,B7,SI g,B7,L5,B7,LV];have d:ps[j]≠ps[i]:= λe=>by
    have:=(List.getElem_inj (h₀:=by omega) (h₁:=g) hn).1 e;omega
   rw[IG d,B7,Bj,Dg (by omega)];exact ih (j+1) (by omega) (by omega)
  ·rw[FP (by omega),Bj];have:j=i:=by omega
   rw[this]
def B8R {c:AV->Hp->Af} (hn:ps.Nodup) (hb:ps.length<100) (g:ps.length<L+20) (e:∀s∈ps,s.length=32):∀(f i:Nat) (v:AV),i<=ps.length->ps.length-i<f->
 LG (L+20) R K c f (Ls ps) (I i) v H=c (Ls ps) H:=by
 intro f
 induction f with
 |zero=>intro i v _ h;omega
 |succ f ih=>
  intro i v k j;rw[RA];unfold LI Iv A0 HQ;rw[MG];by_cases h:i<ps.length
  ·rw[FR (by omega),Cy];simp only[BK];rw[SI h,L5,PG rfl,e _ (Qe h),IS];rw[show(!decide (((32:Nat):Int)=32))=false from rfl,Bj];have d:(AV.v (.int .i64 0))=I ((0:Nat):Int):=rfl;rw[d,B8Q h hn hb _ 0 (by omega) (by omega),Dg (by omega)];exact ih (i+1) _ (by omega) (by omega)
  ·rw[FP (by omega),Bj]
end
def xR {ps:List (List UInt8)} (hn:ps.Nodup) (h:1<=ps.length) (hb:ps.length<=6) (f:∀s∈ps,s.length=32):
 CS (r! L (n+1)) Im [Ls ps] (.tup [Bo true,I ps.length]):=by
 intro K e;rw[Tj];unfold MA Df A0 HQ;simp only[BK];have d:(AV.v (.int .i64 0))=I ((0:Nat):Int):=rfl;rw[d,B8R hn (by omega) (by omega) f _ 0 _ (by omega) (by omega),MG,L7,Iu (by omega)];have g:∀(x:Bool->Af),gdV true (Bo true) x=x true:= λx=>id rfl;have c:∀{v:AV} {H:Hp} {K:KV},Ef (some (v,H)) K=K v H:=id rfl;simp only[g,c,MG];rw[iD,Iu (by omega)];exact e _ _ (λb=>⟨false,λK=>by kernel_rfl⟩)
end
section
variable {v:AV} {q0:Bool} {H H0:Hp}
variable {L n:Nat}
def AX (l:List (List UInt8)):(AG l).length=l.length:=by simp[AG]
def jH (a b:List (List UInt8)):AG a++AG b=AG (a++b):=by simp[AG]
def A5H {l:List (List UInt8)} (b:List UInt8) (h:B2 H Ar 1 v l.length (AG l)) (w:Wf H) (hn:l.length<1000000000):
 ∃d a,(∀K:KV,(Hf Ar 1 Ai 1 [(0,1,S b)] H λv1 j=>E9 Ar 1 Ai Ac v v1 j K)=K d a)/\B2 a Ar 1 d (l++[b]).length (AG (l++[b]))/\Wf a/\Ao H<=Ao a/\(∀s x,Aj H s=some x->¬A8 v s->Aj a s=some x)/\(∀s,A8 d s->Ao H<=s):=by
 have i:B2 ((Ao H,.cells false Ar [S b])::H) Ar 1 v l.length (AG l):=h.lat w (Lat.cons H _ (λ_=>False)) (λ_ _ h=>h);have c:=N9 (H:=H) (e:=Ar) (n:=1) (cs:=[S b]) rfl;obtain⟨d,a,h1,h2,k,m⟩:=apt (ie:=Ai) (i2:=Ac) i (λK=>Rg (K:=K) c) rfl rfl (by decide) rfl rfl (by show(l.length+1)*16<=_;omega) (by omega);have f:=(Lat.cons H (.cells false Ar [S b]) (A8 v)).trans m (R:=A8 v) (λ_ _ h=>h) (λ_ _ h=>h);refine⟨d,a,λK=> ?_,by rw[EY,<-jH];exact h2,f.wf w,f.nx,λs x g hn=>f.keep w s x g hn,λs g=> ?_⟩
 ·rw[uL (z:=S []) (λ_=>rfl) (λ_=>rfl) rfl];exact h1 K
 ·rw[k s g];exact l1u _
def Ny (c2 c6:AV) (p:Option (Option Code)):Row:= .loop 13 [(2,c2),(4,As),(5,AV.dk),(6,c6),(7,AV.dk),(8,AV.dk),(9,AV.dk),(10,AV.dk),(11,AV.dk)] (Bl).2.1 (Bl).2.2.1 (Bl).2.2.2 p
structure Coll (H0:Hp) (r0 s:Nat) (q0:Bool) (e0:Nat) (c6:AV) (l:List (List UInt8)) (v:AV) (H:Hp):Prop where
 at_:Aj H r0=some (.cells q0 e0 [v])
 sl:B2 H Ar 1 v l.length (AG l)
 lp:Aj H s=some (Ny (.ptr r0 0 0) c6 (some none))
 new:∀u,A8 v u->u≠r0/\u≠s/\Ao H0<=u
 wf:Wf H
 keep:∀u y,Aj H0 u=some y->Aj H u=some y
 ne:r0≠s
 r0n:Ao H0<=r0
 sn:Ao H0<=s
 w0:Wf H0
variable {K:KV} {x:Af}
def B3q {r0 s e0:Nat} {c6 v:AV} {l:List (List UInt8)} {b:List UInt8} (h:Coll H0 r0 s q0 e0 c6 l v H) (hn:l.length<1000000000)
 (Z:∀d j,Coll H0 r0 s q0 e0 c6 (l++[b]) d j->K (Bo true) j=x):Cr (E (L+20)) (r! L (n+1)) (.yl s) [S b] H K=x:=by
 show Nz (r! L (n+1)) s [S b] H K=x;rw[OT h.lp (by kernel_rfl)];have t:(r! L (n+1)).run= λR=>OG (E (L+20)) (r! L n) R:=rfl;rw[t,Hu,Pb h.lp];have O:=Bn (r:=s) (y:=Ny (.ptr r0 0 0) c6 none) h.wf;have k:Aj (upd H s (Ny (.ptr r0 0 0) c6 none)) r0=some (.cells q0 e0 [v]):=by rw[Ag h.ne];exact h.at_
 have J:Aj (upd H s (Ny (.ptr r0 0 0) c6 none)) s=some (Ny (.ptr r0 0 0) c6 none):=XA1 h.lp;have N:B2 (upd H s (Ny (.ptr r0 0 0) c6 none)) Ar 1 v l.length (AG l):=h.sl.lat h.wf (Lat.upd H s _ (P:= λu=>u=s) rfl) (λu c=>(h.new u c).2.1);have D:∀u y,Aj H0 u=some y->Aj (upd H s (Ny (.ptr r0 0 0) c6 none)) u=some y:= λu y c=>by
  have:=h.w0.lt c;rw[Ag (by have:=h.sn;omega)];exact h.keep u y c
 show AF Ac (.ptr r0 0 0) (upd H s (Ny (.ptr r0 0 0) c6 none)) _=_;rw[AP (p:=0) rfl k (by simp)];show Hf Ar 1 Ai 1 [(0,1,S b)] (upd H s (Ny (.ptr r0 0 0) c6 none)) (λQ A=>E9 Ar 1 Ai Ac v Q A _)=_;obtain⟨d,j,h1,h2,B,h4,C,V⟩:=A5H b N O hn;rw[h1];have n0:¬A8 v r0:= λc=>(h.new r0 c).1 rfl;have ns:¬A8 v s:= λc=>(h.new s c).2.1 rfl;have m:=C r0 _ k n0;have M:=C s _ J ns;have f:Bv d=[d]/\AV.one d=true:=by
  rcases h2 with⟨rfl,_⟩|⟨a,b,rfl,_⟩<;>exact⟨rfl,rfl⟩
 rw[Ed (q:=q0) (e:=e0) (cs:=[v]) m (by simp) rfl f.1 f.2];have Y:Ao H0<=Ao H:=by have:=h.wf.lt h.at_;have:=h.r0n;omega
 have F:Ao (upd H s (Ny (.ptr r0 0 0) c6 none))=Ao H:=BC _ _ _;have i:∀u,A8 d u->u≠r0/\u≠s/\Ao H0<=u:= λu c=>by
  have a1:=V u c;rw[F] at a1;have a2:=h.wf.lt h.at_;have a3:=h.wf.lt h.lp;exact⟨by omega,by omega,by omega⟩
 have w:Aj (upd j r0 (.cells q0 e0 [d])) s=some (Ny (.ptr r0 0 0) c6 none):=by rw[Ag h.ne.symm];exact M
 show E2 (upd j r0 (.cells q0 e0 [d])) s false (some none) _=_;have g:=w;unfold Ny at g;rw[OZ g];refine Z d _ ⟨?_,?_,?_,i,Bn (Bn B),λu y c=> ?_,h.ne,h.r0n,h.sn,h.w0⟩
 ·rw[Ag h.ne];exact AC m
 ·have a:=h2.lat B (Lat.upd j r0 (.cells q0 e0 [d]) (P:= λu=>u=r0) rfl) (λu c=>(i u c).1);exact a.lat (Bn B) (Lat.upd _ s _ (P:= λu=>u=s) rfl) (λu c=>(i u c).2.1)
 ·exact XA1 w
 ·have X:=h.w0.lt c;have b1:=h.r0n;have b2:=h.sn;rw[Ag (by omega),Ag (by omega)];refine C u y (D u y c) (λhv=> ?_);have:=(h.new u hv).2.2;omega
def C0W {r0 s e0:Nat} {c6:AV} {k3:Hp->Af} {ps:List (List UInt8)} (hn:ps.length<1000000000) (c:∀v H,Coll H0 r0 s q0 e0 c6 ps v H->k3 H=x):
 ∀(f i:Nat) (v:AV) (H:Hp),i<=ps.length->ps.length-i<f->Coll H0 r0 s q0 e0 c6 (ps.take i) v H->
  EE (L+20) (r! L (n+1)) K k3 f (.yl s) (Ls ps) (I ps.length) (I i) H=x:=by
 intro f
 induction f with
 |zero=>intro i v H _ h;omega
 |succ f ih=>
  intro i v H g e hc;rw[KE];unfold EF Iv A0;by_cases h:i<ps.length
  ·rw[FR (by omega),Cy,SI h,L5];refine B3q hc (by simp;omega) λd b a=> ?_;rw[En];show Az (.v (.bool false)) _ _=_;rw[Bj,Dg (by omega)];rw[<-kY h] at a;exact ih (i+1) d b (by omega) (by omega) a
  ·rw[FP (by omega),Bj];have:i=ps.length:=by omega
   rw[this,vB] at hc;exact c v H hc
structure NewSl (H0:Hp) (l:List (List UInt8)) (v:AV) (H:Hp):Prop where
 sl:B2 H Ar 1 v l.length (AG l)
 new:∀u,A8 v u->Ao H0<=u
 wf:Wf H
 keep:∀u y,Aj H0 u=some y->Aj H u=some y
 nx:Ao H0<=Ao H
abbrev A8G (ps:List (List UInt8)):AV:= .fn (.func HU) [] [.iptr [Ls ps]]
def A6e {ps:List (List UInt8)} (hn:ps.length<1000000000) (f:ps.length<L) (w:Wf H0) (e:∀v H,NewSl H0 ps v H->K v H=x):
 (r! L (n+4)).call EC [A8G ps] H0 K=x:=by
 rw[GB];unfold EB;rw[D5];unfold Cz;simp only[BK];rw[lQ (by rfl),A4Q,Lh];unfold ES A0;simp only[BK];have d:∀H K,AF Ac (.iptr [Ls ps]) H K=K (Ls ps):= λH K=>O0 rfl;rw[d,MG];have e0:(AV.v (.int .i64 0))=I ((0:Nat):Int):=rfl;rw[e0];have w1:=AI (x:= .cells true A2 [As]) w;have b:=Aw (H:=H0) (x:= .cells true A2 [As]) (by simp);have c:Ao ((Ao H0,c_ A2 [As])::H0)=Ao H0+1:=rfl;refine C0W (n:=n) (H0:=H0) (r0:=Ao H0) (s:=Ao H0+1) (q0:=true) (e0:=A2) (c6:=A8G ps) hn ?_ (L+20) 0 As _ (by omega) (by omega) ⟨A4 (w1.lt b) b,.inl ⟨rfl,rfl,rfl⟩,Aw (H:=((Ao H0,c_ A2 [As])::H0)) (x:=Ny (.ptr (Ao H0) 0 0) (A8G ps) (some none)) (by simp[Ny]),λu ⟨_,_,_,h⟩=>(by cases h),AI w1,λu y a=> ?_,by omega,by omega,by omega,w⟩
 ·intro v H hc;rw[c,Bf hc.lp];show LC H (Ao H0+1) .gone _=x;rw[Dh];have hr:Aj (upd H (Ao H0+1) .gone) (Ao H0)=some (c_ A2 [v]):=by rw[Ag (by omega)];exact hc.at_
  show AF Ac (.ptr (Ao H0) 0 0) (upd H (Ao H0+1) .gone) _=x;rw[AP (p:=0) rfl hr (by simp)];refine e _ _ ⟨?_,λu a=>(hc.new u a).2.2,Bn hc.wf,λu y a=> ?_,?_⟩
  ·exact hc.sl.lat hc.wf (Lat.upd H _ _ (P:= λu=>u=Ao H0+1) rfl) (λu a=>(hc.new u a).2.1)
  ·have:=w.lt a;rw[Ag (by omega)];exact hc.keep u y a
  ·rw[BC];have:=hc.wf.lt hc.at_;omega
 ·have a1:=A4 (x:= .cells true A2 [As]) (w.lt a) a;exact A4 (w1.lt a1) a1
def A8d {ps:List (List UInt8)} (A:0<ps.length) (hn:ps.length<1000000000) (s:ps.length<L) (w:Wf H0) (t:∀v H,NewSl H0 (DQ ps) v H->K v H=x):
 (r! L (n+5)).call Ea [A8G ps] H0 K=x:=by
 rw[Hh];unfold ET;refine A6e hn s w λv H b=> ?_;have i:=(Be ps).length_eq;rcases b.sl with⟨_,h,_⟩|⟨r,q,rfl,f,hc⟩
 ·omega
 ·have m:∀K,(r! L (n+4)).call AH [.sl 1 r 0 ps.length] H K=Tg [.sl 1 r 0 ps.length] H K (Yv (E (L+20)) (nT (L+20)) (r! L (n+3)) AH [.sl 1 r 0 ps.length] H K):= λK=>rfl;rw[m];have e:∀(l:List (List UInt8)),UB (AG l)=some l:= λl=>by
   induction l with
   |nil=>rfl
   |cons a l ih=>show(UB (AG l)).map _=_;rw[ih];rfl
  have p:∀alt K,Tg [.sl 1 r 0 ps.length] H K alt=El 0 (AG (DQ ps)) (AG ps) λc=>LC H r (.cells q Ar c) λk=>K (.tup []) k:= λalt K=>by
   unfold Tg;simp only[f,pM];rw[W! (by rw[AX];omega),e];have g:(Nat.beq ps.length ps.length&&(Nat.blt ps.length 4611686018427387904&&Nat.blt 0 ps.length))=true:=by simp;omega
   simp only[g];rfl
  rw[p,Il _ _ _ _ (by rw[AX,AX];omega),Vu _ _ (by rw[AX,AX];exact i),Dh];refine t _ _ ⟨.inr ⟨r,q,by rw[i],AC f,by rw[AX];omega⟩,λu ⟨_,_,_,d⟩=> ?_,Bn b.wf,λu y j=> ?_,by rw[BC];exact b.nx⟩
  ·injection d with _ d
   subst d;exact b.new r ⟨1,0,ps.length,rfl⟩
  ·have a1:=w.lt j;have a2:=b.new r ⟨1,0,ps.length,rfl⟩;rw[Ag (by omega)];exact b.keep u y j
end
section
variable {a:AV} {H:Hp} {es:List (Value×AV)} {m s:Nat}
variable {L n:Nat}
def Vw {R:Rt} {m g:Nat} {cap:List AV} {t:Tm} {ps:Array Tmp} {f d:Code} {K:Option (Option Code)->Hp->Af}:
 mV R m (.fn (.func g) [] cap) t ps f d H K=R.call g (.yl (Ao H)::cap) ((Ao H,.loop m t ps f d (some none))::H) λ_ c=>IJ c (Ao H) λx=>Z6 x λ_ _ _ _ _ b=>LC c (Ao H) .gone λh=>K b h:=by
 have e:mV R m (.fn (.func g) [] cap) t ps f d H K=Ig H λs=>Ym [] (.yl s::cap) λall=>R.call g all ((s,.loop m t ps f d (some none))::H) λ_ c=>IJ c s λx=>Z6 x λ_ _ _ _ _ b=>LC c s .gone λh=>K b h:=rfl;rw[e,BV,MD];rfl
def Wy {K:KV}:Wz (.imap es) H K=K (.it (Ao H)) ((Ao H,.iter es none)::H):=by
 have e:Wz (.imap es) H K=Ig H λs=>K (.it s) ((s,.iter es none)::H):=rfl;rw[e,BV]
def A76 {e:Value×AV} {o:Option (Value×AV)} {K:KV} (h:Aj H s=some (.iter (e::es) o)):
 Yp (.it s) H K=TM (λe rest=>LC H s (.iter rest (some e)) λb=>K (.tup [.v (.bool true),sF e.1,e.2]) b) (e::es) []:=by
 have c:Yp (.it s) H K=IJ H s λx=>A5c x λl=>@List.rec (Value×AV) (λ_=>Af) (K (.tup [.v (.bool false)]) H)
  (λ_ _ _=>TM (λe rest=>LC H s (.iter rest (some e)) λb=>K (.tup [.v (.bool true),sF e.1,e.2]) b) l []) l:=rfl
 rw[c,Bf h];rfl
def B0Y {o:Option (Value×AV)} {K:KV} (h:Aj H s=some (.iter [] o)):Yp (.it s) H K=K (.tup [.v (.bool false)]) H:=by
 have c:Yp (.it s) H K=IJ H s λx=>A5c x λl=>@List.rec (Value×AV) (λ_=>Af) (K (.tup [.v (.bool false)]) H)
  (λ_ _ _=>TM (λe rest=>LC H s (.iter rest (some e)) λb=>K (.tup [.v (.bool true),sF e.1,e.2]) b) l []) l:=rfl
 rw[c,Bf h];rfl
def No {p:Value×AV} {K:AV->Af} (h:Aj H s=some (.iter es (some p))):Zv (.it s) H K=K (.tup [sF p.1,p.2]):=by
 have b:Zv (.it s) H K=IJ H s λx=>B0a x λp=>K (.tup [sF p.1,p.2]):=rfl;rw[b,Bf h];rfl
def EX {l:List AV} {K:AV->Af}:Cx (.tup (a::l)) 0 K=K a:=id rfl
def Na {a b:AV} {l:List AV} {K:AV->Af}:Cx (.tup (a::b::l)) 1 K=K b:=id rfl
def A5t {c:Option (List Nat×Nat)} {K:KV} (d:Aj H m=some (.map false es c)) (hc:es.all (λp=>iF 3 p.2)=true):Wz (.mp m) H K=K (.it (Ao H)) ((Ao H,.iter es none)::upd H m .gone):=by
 have e:Wz (.mp m) H K=IJ H m λx=>kU x λes _=>ck (es.all λp=>iF 3 p.2) (LC H m .gone λb=>Ig b λt=>K (.it t) ((t,.iter es none)::b)):=rfl;rw[e,Bf d];show ck (es.all λp=>iF 3 p.2) _=_;rw[hc];show LC H m .gone _=_;rw[Dh,BV,BC]
def A6y {F:Value×AV->List (Value×AV)->Af} {v:AV} (hv:Vn 6 v v=true):∀(l pre:List (Value×AV)),l≠[]->(∀l1 e l2,l=l1++e::l2->F e (pre++(l1++l2))=some (v,[]))->TM F l pre=some (v,[]):=by
 intro l
 induction l with
 |nil=>intro _ h;exact absurd rfl h
 |cons e l ih=>
  intro pre _ h;have b:=h [] e l rfl;rw[l3d] at b;cases l with
  |nil=>rw[sC];rw[Wi] at b;exact b
  |cons f l=>
   rw[mH,b,ih (pre++[e]) (by simp) λl1 c l2 d=> ?_]
   ·show(match Vn 6 v v with|true=>some (v,[])|false=>none)=_;rw[hv]
   ·have:=h (e::l1) c l2 (by rw[d];rfl);rw[dW];exact this
def XM {α:Type} {f:α->AV} {es:List (List UInt8×α)} {it:Nat} {o:Option (Value×AV)} {w:AV} {K:KV} (u:Vn 6 w w=true)
 (d:Aj H it=some (.iter (es.map λe=>(.string ⟨⟨e.1⟩⟩,f e.2)) o)) (i:es=[]->K (.tup [.v (.bool false)]) H=some (w,[]))
 (h1:∀a e b,es=a++e::b->K (.tup [.v (.bool true),S e.1,f e.2]) (upd H it (.iter ((a++b).map λe=>(.string ⟨⟨e.1⟩⟩,f e.2)) (some (.string ⟨⟨e.1⟩⟩,f e.2))))=some (w,[])):Yp (.it it) H K=some (w,[]):=by
 cases es with
 |nil=>rw[B0Y d];exact i rfl
 |cons e es=>
  rw[WR] at d;rw[A76 d];refine A6y u _ [] (by simp) λx p y h=> ?_;rw[<-WR (f:= λe:List UInt8×α=>((Value.string ⟨⟨e.1⟩⟩:Value),f e.2))] at h;obtain⟨a,c,h2,j,k⟩:=List.map_eq_append_iff.1 h;obtain⟨g,b,q,r,t⟩:=List.map_eq_cons_iff.1 k;subst q j r t;rw[Dh,l3d,<-YN];exact h1 a g b h2
end
section
variable {α:Type}
structure Ce (κ:Type) where
 real:Bool
 ps:List κ
section
variable {κ:Type} [DecidableEq κ] {g:List (κ×Ce κ)}
def Mn:List (κ×α)->κ->Option α
 |[],_=>none
 |e::g,x=>if e.1=x then some e.2 else Mn g x
def yN {p q:α->Bool} {l:List α} (h:∀a∈l,p a=true->q a=true) {a:α} (d:a∈l) (h1:q a=true) (h2:p a=false):(l.filter p).length<(l.filter q).length:=by
 induction l with
 |nil=>cases d
 |cons b l ih=>
  have mono:∀l:List α,(∀a∈l,p a=true->q a=true)->(l.filter p).length<=(l.filter q).length:=by
   intro l
   induction l with
   |nil=>intro _;simp
   |cons c l ih=>
    intro h;have:=ih λa d=>h a (by simp[d]);rw[l2n,l2n];have e:=h c (by simp);cases f:p c<;>cases hq:q c<;>simp_all<;>omega
  have i:=mono l λa d=>h a (by simp[d]);rw[l2n,l2n];rcases Uf.1 d with rfl|d
  ·rw[h1,h2];simp;omega
  ·have:=ih (λa d=>h a (by simp[d])) d;have e:=h b (by simp);cases f:p b<;>cases hq:q b<;>simp_all<;>omega
def LJ (b:List (κ×α)) (x:κ) (v:α):List (κ×α):=match b with
 |[]=>[(x,v)]
 |e::b=>if e.1=x then(e.1,v)::b else e::LJ b x v
def gO {b:List (κ×α)} {x y:κ} {v:α}:Mn (LJ b x v) y=if x=y then some v else Mn b y:=by
 induction b with
 |nil=>rfl
 |cons e b ih=>
  unfold LJ;by_cases h:e.1=x
  ·rw[Dj h];simp only[Mn];subst h;by_cases h1:e.1=y<;>simp[h1]
  ·rw[C4 h];simp only[Mn,ih];by_cases h1:x=y
   ·subst h1;simp[h]
   ·simp[h1]
end
end
section
variable {m:AV} {r:Nat} {ie:TI}
abbrev SV (s:List UInt8):Value:= .string ⟨⟨s⟩⟩
section
variable {α:Type} {f:α->AV} {b:List (List UInt8×α)} {x:List UInt8} {H:Hp}
abbrev Dc (f:α->AV) (b:List (List UInt8×α)):List (Value×AV):=b.map λe=>(SV e.1,f e.2)
def Yl (x:List UInt8):List (List UInt8×α)->Nat->Option (Nat×α)
 |[],_=>none
 |e::b,i=>if e.1=x then some (i,e.2) else Yl x b (i+1)
def YP {e:List UInt8×α} {i:Nat}:Yl x (e::b) i=if e.1=x then some (i,e.2) else Yl x b (i+1):=rfl
def C2e {s u:List UInt8}:keq (SV s) (SV u)=some (decide (u=s)):=by
 show some (Go.Abs.Y? s u)=_;rw[QA];by_cases h:s=u
 ·subst h;simp
 ·simp[h,Ne.symm h]
def B0f:∀(b:List (List UInt8×α)) (i:Nat),fX (SV x) (Dc f b) i=some ((Yl x b i).map λp=>(p.1,f p.2)):=by
 intro b
 induction b with
 |nil=>intro i;rfl
 |cons e b ih=>
  intro i;show fX (SV x) ((SV e.1,f e.2)::Dc f b) i=_;rw[dB,C2e,ih,YP];by_cases h:e.1=x
  ·simp[h]
  ·simp[h]
def A1m:∀(b:List (List UInt8×α)) (i:Nat),(Yl x b i).map (·.2)=Mn b x:=by
 intro b
 induction b with
 |nil=>intro i;rfl
 |cons e b ih=>
  intro i;rw[YP];unfold Mn;by_cases h:e.1=x
  ·simp[h]
  ·simp[h,ih]
def A1l (v:α):∀(b:List (List UInt8×α)) (i:Nat),(match Yl x b i with|none=>b++[(x,v)]|some (j,_)=>b.set (j-i) (x,v))=LJ b x v/\(∀j w,Yl x b i=some (j,w)->i<=j):=by
 intro b
 induction b with
 |nil=>intro i;exact⟨rfl,λj w h=>by cases h⟩
 |cons e b ih=>
  intro i;rw[YP];unfold LJ;by_cases h:e.1=x
  ·refine⟨?_,λj w a=> ?_⟩
   ·simp[h]
   ·simp[h] at a;omega
  ·obtain⟨h1,h2⟩:=ih (i+1);refine⟨?_,λj w a=> ?_⟩
   ·rw[C4 h,C4 h,<-h1];cases d:Yl x b (i+1) with
    |none=>rfl
    |some p=>
     obtain⟨j,w⟩:=p;have:=h2 j w d;have c:j-i=(j-(i+1))+1:=by omega
     simp only[c,List.set_cons_succ]
   ·rw[C4 h] at a;have:=h2 j w a;omega
def YR {es:List (Value×AV)} {a:Option (List Nat×Nat)} {K:List (Value×AV)->Af} (h:Aj H r=some (.map false es a)):wW (.mp r) H K=K es:=by
 show IJ H r _=_;rw[Bf h];rfl
def kfK {K:Option (Nat×AV)->Af}:I3 (SV x) (Dc f b) K=K ((Yl x b 0).map λp=>(p.1,f p.2)):=by
 unfold I3;rw[B0f]
theorem A3R {K:AV->Af} (h:∀K,wW m H K=K (Dc f b)):YV ie true m (SV x) H K=match Mn b x with
 |some v=>K (.tup [f v,Bo true])
 |none=>K (.tup [ie.zero,Bo false]):=by
 unfold YV;rw[h,kfK,<-A1m b 0];cases Yl x b 0<;>rfl
theorem pU {K:AV->Af} (h:∀K,wW m H K=K (Dc f b)):YV ie false m (SV x) H K=match Mn b x with
 |some v=>K (f v)
 |none=>K ie.zero:=by
 unfold YV;rw[h,kfK,<-A1m b 0];cases Yl x b 0<;>rfl
def gZ {v:α} {K:Hp->Af} (h:Aj H r=some (.map false (Dc f b) none)):Mh (.mp r) (SV x) (f v) H K=K (upd H r (.map false (Dc f (LJ b x v)) none)):=by
 have e:Mh (.mp r) (SV x) (f v) H K=IJ H r λy=>kU y λa c=>I3 (SV x) a λq=>match q with
  |none=>LC H r (.map false (a++[(SV x,f v)]) (uM c)) K
  |some (i,_)=>LC H r (.map false (a.set i (SV x,f v)) c) K:=rfl
 rw[e,Bf h];show I3 (SV x) (Dc f b) _=_;rw[kfK];obtain⟨h1,h2⟩:=A1l (x:=x) v b 0;cases d:Yl x b 0 with
 |none=>
  rw[d] at h1;show LC H r (.map false (Dc f b++[(SV x,f v)]) none) K=_;rw[Dh,<-h1,Dc,Dc,YN];rfl
 |some p=>
  obtain⟨j,w⟩:=p;rw[d] at h1;show LC H r (.map false ((Dc f b).set j (SV x,f v)) none) K=_;rw[Dh,<-h1,Dc,Dc,List.map_set,Nat.sub_zero]
end
end
section
variable {v:AV} {q0:Bool} {H:Hp} {ks:List (List UInt8)}
variable {L n:Nat}
abbrev uS:Unit->AV:= λ_=> .agg []
section
variable {K:KV} {x:Af}
def E' {H0 H:Hp} {r0 s e0:Nat} {c6 v:AV} {l:List (List UInt8)} {b:List UInt8} (h:Coll H0 r0 s q0 e0 c6 l v H) (hn:l.length<1000000000)
 (hx:∀d f,Coll H0 r0 s q0 e0 c6 (l++[b]) d f->(∀u y,u≠r0->u≠s->¬A8 v u->Aj H u=some y->Aj f u=some y)->(∀u,A8 d u->Ao H<=u)->K (Bo true) f=x):Cr (E (L+20)) (r! L (n+1)) (.yl s) [S b] H K=x:=by
 show Nz (r! L (n+1)) s [S b] H K=x;rw[OT h.lp (by kernel_rfl)];have C:(r! L (n+1)).run= λV=>OG (E (L+20)) (r! L n) V:=rfl;rw[C,Hu,Pb h.lp];have Q:=Bn (r:=s) (y:=Ny (.ptr r0 0 0) c6 none) h.wf;have A:Aj (upd H s (Ny (.ptr r0 0 0) c6 none)) r0=some (.cells q0 e0 [v]):=by rw[Ag h.ne];exact h.at_
 have M:Aj (upd H s (Ny (.ptr r0 0 0) c6 none)) s=some (Ny (.ptr r0 0 0) c6 none):=XA1 h.lp;have O:B2 (upd H s (Ny (.ptr r0 0 0) c6 none)) Ar 1 v l.length (AG l):=h.sl.lat h.wf (Lat.upd H s _ (P:= λu=>u=s) rfl) (λu c=>(h.new u c).2.1);show AF Ac (.ptr r0 0 0) (upd H s (Ny (.ptr r0 0 0) c6 none)) _=_;rw[AP (p:=0) rfl A (by simp)];show Hf Ar 1 Ai 1 [(0,1,S b)] (upd H s (Ny (.ptr r0 0 0) c6 none)) (λR F=>E9 Ar 1 Ai Ac v R F _)=_;obtain⟨d,f,h1,h2,t,h4,J,X⟩:=A5H b O Q hn;rw[h1];have n0:¬A8 v r0:= λc=>(h.new r0 c).1 rfl;have ns:¬A8 v s:= λc=>(h.new s c).2.1 rfl;have B:=J r0 _ A n0;have N:=J s _ M ns;have i:Bv d=[d]/\AV.one d=true:=by
  rcases h2 with⟨rfl,_⟩|⟨a,b,rfl,_⟩<;>exact⟨rfl,rfl⟩
 rw[Ed (q:=q0) (e:=e0) (cs:=[v]) B (by simp) rfl i.1 i.2];have aa:Ao H0<=Ao H:=by have:=h.wf.lt h.at_;have:=h.r0n;omega
 have Z:Ao (upd H s (Ny (.ptr r0 0 0) c6 none))=Ao H:=BC _ _ _;have g:∀u,A8 d u->Ao H<=u:= λu c=>by have:=X u c;omega
 have k:∀u,A8 d u->u≠r0/\u≠s/\Ao H0<=u:= λu c=>by
  have a1:=g u c;have a2:=h.wf.lt h.at_;have a3:=h.wf.lt h.lp;exact⟨by omega,by omega,by omega⟩
 have D:Aj (upd f r0 (.cells q0 e0 [d])) s=some (Ny (.ptr r0 0 0) c6 none):=by rw[Ag h.ne.symm];exact N
 show E2 (upd f r0 (.cells q0 e0 [d])) s false (some none) _=_;have j:=D;unfold Ny at j;rw[OZ j];have kp:∀u y,u≠r0->u≠s->¬A8 v u->Aj H u=some y->Aj (upd (upd f r0 (.cells q0 e0 [d])) s (Ny (.ptr r0 0 0) c6 (some none))) u=some y:= λu y h1 h2 t c=>by
  rw[Ag h2,Ag h1];exact J u y (by rw[Ag h2];exact c) t
 refine hx d _ ⟨?_,?_,?_,k,Bn (Bn t),λu y c=> ?_,h.ne,h.r0n,h.sn,h.w0⟩ kp g
 ·rw[Ag h.ne];exact AC B
 ·have a:=h2.lat t (Lat.upd f r0 (.cells q0 e0 [d]) (P:= λu=>u=r0) rfl) (λu c=>(k u c).1);exact a.lat (Bn t) (Lat.upd _ s _ (P:= λu=>u=s) rfl) (λu c=>(k u c).2.1)
 ·exact XA1 D
 ·have Y:=h.w0.lt c;have b1:=h.r0n;have b2:=h.sn;exact kp u y (by omega) (by omega) (λhv=>by have:=(h.new u hv).2.2;omega) (h.keep u y c)
theorem Coll.it {H0 H:Hp} {r0 s e0 it:Nat} {q0:Bool} {c6 v:AV} {l:List (List UInt8)} (h:Coll H0 r0 s q0 e0 c6 l v H) (y:Row) (h1:it≠r0/\it≠s/\Ao H0<=it) (h2:¬A8 v it):Coll H0 r0 s q0 e0 c6 l v (upd H it y):=
 ⟨by rw[Ag h1.1.symm];exact h.at_,h.sl.lat h.wf (Lat.upd H it y (P:= λu=>u=it) rfl) (λu a e=>h2 (e▸a)),by rw[Ag h1.2.1.symm];exact h.lp,h.new,Bn h.wf,λu z a=>by rw[Ag (by have:=h.w0.lt a;omega)];exact h.keep u z a,h.ne,h.r0n,h.sn,h.w0⟩
def Lv {r:Nat} {x:Row} {es:List (Value×AV)} {o:Option (Value×AV)} (h:Aj H r=some x):Aj (upd H r (.iter es o)) r=some (.iter es o):=(BB h).trans rfl
def B4g {H0:Hp} {r0 s e0 it:Nat} {c6 w:AV} {t:Hp->Af} (M:Vn 6 w w=true) (r:ks.length<1000000)
 (i:∀l v H,l.Perm ks->(l=[]->v=As)->Coll H0 r0 s q0 e0 c6 l v H->t H=some (w,[])) (c:it≠r0/\it≠s/\Ao H0<=it):
 ∀(f:Nat) (es:List (List UInt8×Unit)) (l:List (List UInt8)) (v:AV) (H:Hp) (o:Option (Value×AV)),es.length<f->(l++es.map Prod.fst).Perm ks->(l=[]->v=As)->Coll H0 r0 s q0 e0 c6 l v H->¬A8 v it->Aj H it=some (.iter (Dc uS es) o)->
 D2 (L+20) (r! L (n+1)) K t f (.yl s) (.it it) H=some (w,[]):=by
 intro f
 induction f with
 |zero=>intro es l v H o h;omega
 |succ f ih=>
  intro es l v H o D p C hc hv q;rw[Ji];unfold D3;refine XM (f:=uS) M q (λe=> ?_) (λa e b he=> ?_)
  ·subst e;rw[EX,Bj];exact i l v H (by simpa using p) C hc
  ·subst he;have g:=hc.it (.iter (Dc uS (a++b)) (some (.string ⟨⟨e.1⟩⟩,uS e.2))) c hv;have d:=Lv (es:=Dc uS (a++b)) (o:=some (.string ⟨⟨e.1⟩⟩,uS e.2)) q;have k:(l++(a++e::b).map Prod.fst).length=ks.length:=p.length_eq;simp at k;have y:sF (.string ⟨⟨e.1⟩⟩)=S e.1:=rfl;rw[EX,Cy,No d,EX,y];refine E' g (by omega) λN u j F hr=> ?_;rw[En];show Az (.v (.bool false)) _ _=_;rw[Bj];refine ih (a++b) (l++[e.1]) N u _ (by simp at D⊢;omega) ?_ (by simp) j (λJ=> ?_) (F it _ c.1 c.2.1 hv d)
   ·refine List.Perm.trans ?_ p;simp only[YN,WR,dW];refine List.Perm.append_left l ?_;show(e.1::(a.map Prod.fst++b.map Prod.fst)).Perm _;exact List.perm_middle.symm
   ·have A:=hr it J;have B:=g.wf.lt d;rw[BC] at A B;omega
end
abbrev kZ (c:AV):AV:= .fn (.func F9) [] [c]
section
variable {K:KV} {w:AV} {H0:Hp} {m rb:Nat} {es:List (List UInt8×Unit)}
def C0Z (es:List (List UInt8×Unit)):(Dc uS es).all (λp=>iF 3 p.2)=true:=by
 rw[GH];intro p a;obtain⟨e,_,rfl⟩:=Ma.1 a;rfl
def A2E (N:Vn 6 w w=true) (hn:es.length<1000000) (R:es.length<L) (wf:Wf H0) (hb:Aj H0 rb=some (c_ CL [.mp m])) (hm:Aj H0 m=some (.map false (Dc uS es) none))
 (O:∀l v H,l.Perm (es.map Prod.fst)->(l=[]->v=As)->NewSl (upd H0 m .gone) l v H->K v H=some (w,[])):
 (r! L (n+4)).call EC [kZ (.ptr rb 0 0)] H0 K=some (w,[]):=by
 rw[GB];unfold EB;rw[D5];unfold Cz;simp only[BK];rw[lQ (by rfl),Vw,Js];unfold DB;simp only[BK];have w1:=AI (x:= .cells true A2 [As]) wf;have g:=Aw (H:=H0) (x:= .cells true A2 [As]) (by simp);have J:Ao ((Ao H0,c_ A2 [As])::H0)=Ao H0+1:=rfl;have A:Wf ((Ao H0+1,Ny (.ptr (Ao H0) 0 0) (kZ (.ptr rb 0 0)) (some none))::(Ao H0,c_ A2 [As])::H0):=AI (x:=Ny (.ptr (Ao H0) 0 0) (kZ (.ptr rb 0 0)) (some none)) w1;have k:Aj ((Ao H0+1,Ny (.ptr (Ao H0) 0 0) (kZ (.ptr rb 0 0)) (some none))::(Ao H0,c_ A2 [As])::H0) (Ao H0+1)=some (Ny (.ptr (Ao H0) 0 0) (kZ (.ptr rb 0 0)) (some none)):=Aw (H:=((Ao H0,c_ A2 [As])::H0)) (x:=Ny (.ptr (Ao H0) 0 0) (kZ (.ptr rb 0 0)) (some none)) (by simp[Ny]);have ol:∀u y,Aj H0 u=some y->Aj ((Ao H0+1,Ny (.ptr (Ao H0) 0 0) (kZ (.ptr rb 0 0)) (some none))::(Ao H0,c_ A2 [As])::H0) u=some y:= λu y c=>by
  have a1:=A4 (x:= .cells true A2 [As]) (wf.lt c) c;exact A4 (w1.lt a1) a1
 show AF CA (.ptr rb 0 0) ((Ao H0+1,Ny (.ptr (Ao H0) 0 0) (kZ (.ptr rb 0 0)) (some none))::(Ao H0,c_ A2 [As])::H0) _=_;rw[AP (p:=0) rfl (ol _ _ hb) (by simp)];show Wz (.mp m) ((Ao H0+1,Ny (.ptr (Ao H0) 0 0) (kZ (.ptr rb 0 0)) (some none))::(Ao H0,c_ A2 [As])::H0) _=_;rw[A5t (ol _ _ hm) (C0Z es)];have mlt:=wf.lt hm;have D:Wf (upd H0 m .gone):=Bn wf;have j:Aj ((Ao H0+1,Ny (.ptr (Ao H0) 0 0) (kZ (.ptr rb 0 0)) (some none))::(Ao H0,c_ A2 [As])::H0) (Ao H0)=some (c_ A2 [As]):=A4 (w1.lt g) g;generalize q:((Ao H0+1,Ny (.ptr (Ao H0) 0 0) (kZ (.ptr rb 0 0)) (some none))::(Ao H0,c_ A2 [As])::H0:Hp)=d at A k ol j;have i:Ao d=Ao H0+2:=by rw[<-q];rfl
 have B:Wf (upd d m .gone):=Bn A;have r:Ao (upd d m .gone)=Ao H0+2:=by rw[BC,i]
 have C:=AI (x:= .iter (Dc uS es) none) B;have up:∀u y,u≠m->Aj d u=some y->Aj ((Ao d,Row.iter (Dc uS es) none)::upd d m .gone) u=some y:= λu y c Q=>by
  have a:Aj (upd d m .gone) u=some y:=by rw[Ag c];exact Q
  have b:=A4 (x:= .iter (Dc uS es) none) (B.lt a) a;rw[r,<-i] at b;exact b
 have t:Aj ((Ao d,Row.iter (Dc uS es) none)::upd d m .gone) (Ao d)=some (.iter (Dc uS es) none):=by
  have:=Aw (H:=upd d m .gone) (x:= .iter (Dc uS es) none) (by simp);rw[BC] at this;exact this
 rw[BC] at C;refine B4g (n:=n) (H0:=upd H0 m .gone) (r0:=Ao H0) (s:=Ao H0+1) (it:=Ao d) (q0:=true) (e0:=A2) (c6:=kZ (.ptr rb 0 0)) (ks:=es.map Prod.fst) N (by simpa using hn) ?_ (by rw[BC];omega) (L+20) es [] As _ none (by omega) (by simp) (λ_=>rfl)
  ⟨up _ _ (by omega) j,.inl ⟨rfl,rfl,rfl⟩,up _ _ (by omega) k,λu ⟨_,_,_,h⟩=>(by cases h),C,λu y c=> ?_,by omega,by rw[BC];omega,by rw[BC];omega,D⟩ (λ⟨_,_,_,h⟩=>(by cases h)) t
 ·intro l v H M F hc;show IJ H (Ao H0+1) _=_;rw[Bf hc.lp];show LC H (Ao H0+1) .gone _=_;rw[Dh];have hr:Aj (upd H (Ao H0+1) .gone) (Ao H0)=some (c_ A2 [v]):=by rw[Ag (by omega)];exact hc.at_
  show AF Ac (.ptr (Ao H0) 0 0) (upd H (Ao H0+1) .gone) _=_;rw[AP (p:=0) rfl hr (by simp)];refine O _ _ _ M F ⟨?_,λu c=>(hc.new u c).2.2,Bn hc.wf,λu y c=> ?_,?_⟩
  ·exact hc.sl.lat hc.wf (Lat.upd H _ _ (P:= λu=>u=Ao H0+1) rfl) (λu c=>(hc.new u c).2.1)
  ·have:=D.lt c;rw[BC] at this;rw[Ag (by omega)];exact hc.keep u y c
  ·rw[BC,BC];have:=hc.wf.lt hc.at_;omega
 ·have f:u≠m:= λe=>by
   subst e;rw[BB hm] at c;cases c
  rw[Ag f] at c;exact up u y f (ol u y c)
def A2u {x:Af} {ps:List (List UInt8)} (wf:Wf H0) (hn:ps.length<1000000000) (C:ps=[]->v=As) (c:NewSl H0 ps v H) (t:∀d,NewSl H0 (DQ ps) v d->K (.tup []) d=x):
 (r! L (n+4)).call AH [v] H K=x:=by
 by_cases b:ps=[]
 ·subst b;obtain rfl:=C rfl;have e:(r! L (n+4)).call AH [As] H K=K (.tup []) H:=by kernel_rfl
  rw[e];exact t H c
 have p:=(Be ps).length_eq;rcases c.sl with⟨_,h,_⟩|⟨r,q,rfl,k,hc⟩
 ·exact absurd (mL h) b
 ·have A:∀K,(r! L (n+4)).call AH [.sl 1 r 0 ps.length] H K=Tg [.sl 1 r 0 ps.length] H K (Yv (E (L+20)) (nT (L+20)) (r! L (n+3)) AH [.sl 1 r 0 ps.length] H K):= λK=>rfl;rw[A];have j:∀(l:List (List UInt8)),UB (AG l)=some l:= λl=>by
   induction l with
   |nil=>rfl
   |cons a l ih=>show(UB (AG l)).map _=_;rw[ih];rfl
  have s:0<ps.length:=List.length_pos_iff.2 b;have B:∀alt K,Tg [.sl 1 r 0 ps.length] H K alt=El 0 (AG (DQ ps)) (AG ps) λi=>LC H r (.cells q Ar i) λd=>K (.tup []) d:= λalt K=>by
   unfold Tg;simp only[k,pM];rw[W! (by rw[AX];omega),j];have g:(Nat.beq ps.length ps.length&&(Nat.blt ps.length 4611686018427387904&&Nat.blt 0 ps.length))=true:=by simp;omega
   simp only[g];rfl
  rw[B,Il _ _ _ _ (by rw[AX,AX];omega),Vu _ _ (by rw[AX,AX];exact p),Dh];refine t _ ⟨.inr ⟨r,q,by rw[p],AC k,by rw[AX];omega⟩,λu f=>c.new u f,Bn c.wf,λu y f=> ?_,by rw[BC];exact c.nx⟩;have a1:=wf.lt f;have a2:=c.new r ⟨1,0,ps.length,rfl⟩;rw[Ag (by omega)];exact c.keep u y f
def B1i {ty m:Nat}:Ho ty (.mp m) H K=K (.ptr (Ao H) 0 0) ((Ao H,c_ ty [.mp m])::H):=by
 unfold Ho;rw[CI,FI,BV];rfl
def mE (q:Vn 6 w w=true) (hn:es.length<1000000) (j:es.length<L) (wf:Wf H0) (hm:Aj H0 m=some (.map false (Dc uS es) none)) (f:(es.map Prod.fst).Perm ks) (p:ks.Pairwise (· <= ·))
 (r:∀v H,B2 H Ar 1 v ks.length (AG ks)->(ks=[]->v=As)->K v H=some (w,[])):(r! L (n+6)).call Ko [.mp m] H0 K=some (w,[]):=by
 rw[XW];unfold MW;rw[Kl];unfold Ez Ip;have i:∀{K:KV},Ho CL (.mp m) H0 K=K (.ptr (Ao H0) 0 0) ((Ao H0,c_ CL [.mp m])::H0):= λ{K}=>B1i;rw[i];show(r! L (n+5)).call Ea [kZ (.ptr (Ao H0) 0 0)] ((Ao H0,c_ CL [.mp m])::H0) _=_;rw[Hh];unfold ET;have w1:=AI (x:= .cells true CL [.mp m]) wf;have hb:=Aw (H:=H0) (x:= .cells true CL [.mp m]) (by simp);have b:=A4 (x:= .cells true CL [.mp m]) (wf.lt hm) hm;refine A2E (n:=n) q hn j w1 hb b λl v H c d hc=> ?_;have e:DQ l=ks:=I8 ((Be l).trans (c.trans f)) (Dy l) p;have k:l.length=es.length:=by rw[c.length_eq,QI]
 refine A2u (n:=n) (Bn w1) (by omega) d hc λg a=> ?_;rw[e] at a;refine r v g a.sl λh=>d ?_;have:=(c.trans f).length_eq;rw[h] at this;exact mL this
end
end
section
variable {q:Bool} {H:Hp} {e i r:Nat} {R:Rt}
variable {L n:Nat} {K:KV} {x:Af}
def eP {ty:TI} {K:AV->Af} (a:0<i) (h:i<1000000000):Go.Abs.Ap ty .sub (I i) (.v (.int .i64 1)) K=K (I ((i-1:Nat):Int)):=by
 rw[K7,CW (by omega) (by omega)];have:(i:Int)-1=((i-1:Nat):Int):=by omega
 rw[this]
def P? {l:List (List UInt8)} {K:AV->Af} (a:Aj H r=some (.cells q e (AG l))) (h:i<l.length):AF Ai (.ptr r i 0) H K=K (S l[i]):=by
 rw[AP (p:=i) rfl a (by rw[AX];exact h),OX h]
def Rh {r i m:Nat} {K:AV->Af} (h:i<m):Dw Ac (.sl 1 r 0 m) (I i) K=K (.ptr r i 0):=by
 rw[P_ rfl (by omega) (by omega),kV]
def C00 {c:AV->Hp->Af} {l:List (List UInt8)} (b:Aj H r=some (.cells q e (AG l))) (hn:l.Nodup) (hb:l.length<1000000000):∀(f i:Nat) (v w:AV),1<=i->i<=l.length->l.length-i<f->
 DV (L+20) R K c f (.sl 1 r 0 l.length) (I i) v w H=c (.sl 1 r 0 l.length) H:=by
 intro f
 induction f with
 |zero=>intro i v w _ _ h;omega
 |succ f ih=>
  intro i v w h1 j g;rw[Ir];unfold DW OB A0;have d:∀K,Bq Ac (.sl 1 r 0 l.length) K=K (I l.length):= λK=>id rfl;rw[d];by_cases h:i<l.length
  ·rw[FR (by omega),Cy,Rh h,B7,P? b h,B7,eP (by omega) (by omega),B7,Rh (by omega),B7,P? b (by omega),B7,LV];have a:l[i]≠l[i-1]:= λe=>by
    have:=(List.getElem_inj (h₀:=h) (h₁:=by omega) hn).1 e;omega
   rw[IG a,B7,Bj,Dg (by omega)];exact ih (i+1) _ _ (by omega) (by omega) (by omega)
  ·rw[FP (by omega),Bj]
def A6d {l:List (List UInt8)} (c:Aj H r=some (.cells q e (AG l))) (hn:l.Nodup) (hb:l.length<1000000000) (d:l.length<L):
 (r! L (n+1)).call Cm [.sl 1 r 0 l.length] H K=K (.sl 1 r 0 l.length) H:=by
 rw[I9];unfold Ek A0;simp only[BK];have b:∀K,Bq Ac (.sl 1 r 0 l.length) K=K (I l.length):= λK=>id rfl;rw[b];by_cases h:l.length<2
 ·rw[FR (by omega),Cy]
 ·rw[FP (by omega),Bj];have a:(AV.v (.int .i64 1))=I ((1:Nat):Int):=rfl;rw[a,C00 c hn hb _ 1 _ _ (by omega) (by omega) (by omega)]
def C0T {s:List UInt8} (h:s.length=32):PS (r! L (n+1)) Eg [S s] (Bo false):=by
 refine CS.ps (λK a=> ?_) (λH=> λK=>by kernel_rfl);rw[Pp];unfold Ij Ip;rw[PG rfl,h,IS];exact a _ _ (λb=>⟨false,λK=>by kernel_rfl⟩)
abbrev B1F:AV:= .fn (.func Eg) [] []
def B9e {a:Hp->Af} {ps:List (List UInt8)} (hb:ps.length<1000000000) (c:∀s∈ps,s.length=32):∀(f i:Nat),i<=ps.length->ps.length-i<f->
 DD (L+20) (r! L (n+1)) K a f (Ls ps) B1F (I ps.length) (I i) H=a H:=by
 intro f
 induction f with
 |zero=>intro i _ h;omega
 |succ f ih=>
  intro i g d;rw[Ht];unfold DE Iv A0;by_cases h:i<ps.length
  ·rw[FR (by omega),Cy,SI h,L5];have b:∀K,Cr (E (L+20)) (r! L (n+1)) B1F [S ps[i]] H K=An (r! L (n+1)) Eg [S ps[i]] H λv=>K v H:= λK=>by kernel_rfl
   rw[b,C0T (c _ (Qe h)),Bj,Dg (by omega)];exact ih (i+1) (by omega) (by omega)
  ·rw[FP (by omega),Bj]
def A8A {ps:List (List UInt8)} (hb:ps.length<1000000000) (g:ps.length<L) (f:∀s∈ps,s.length=32):CS (r! L (n+3)) B0 [Ls ps,B1F] (Bo false):=by
 intro K a;rw[GG];unfold Dx Lo;have d:CS (r! L (n+2)) DM [Ls ps,B1F] (I (-1)):=by
  intro K a;rw[HT];unfold DL A0;simp only[BK];have c:(AV.v (.int .i64 0))=I ((0:Nat):Int):=rfl;rw[MG,c,B9e hb f _ 0 (by omega) (by omega)];exact a _ _ (λb=>⟨false,λK=>by kernel_rfl⟩)
 rw[AQ (q:=false) d (λK=>by kernel_rfl),L7];exact a _ _ (λb=>⟨false,λK=>by kernel_rfl⟩)
def Ky {f:Nat} {args args':List AV} {v:AV} {K:AV->Af} (hc:∀K:KV,(∀a b,(∃q,Fx true depth a v b q)->K a b=some (v,[]))->R.call f args' [] K=some (v,[])) (g:Rr true depth args args' H false):An R f args H K=K v:=by
 unfold An;rw[g];have:=hc (λa c=>HP (!false) c depth a λ_ j=>some (j,[])) (λa b h=>by
  obtain⟨k,d⟩:=h;exact d _)
 rw[this];rfl
def xG {ps:List (List UInt8)} (hn:ps.Nodup) (y:1<=ps.length) (hb:ps.length<=6) (A:10<L) (t:∀s∈ps,s.length=32):
 CS (r! L (n+6)) JE [Ls ps] (Bo true):=by
 intro K d;rw[Sq];unfold J9 Df A0 HQ;have hv:∀K,An (r! L (n+5)) Gn [Ls ps] [] K=K (A8G ps):= λK=>by
  refine Ky (args':=[Ls ps]) (λK d=> ?_) (λK=>by kernel_rfl);rw[MR];unfold FZ Ip;rw[B9O];exact d _ _ ⟨true,λK=>by kernel_rfl⟩
 rw[hv];refine A8d (n:=n) (by omega) (by omega) (by omega) Fk λv H u=> ?_;have k:=(Be ps).length_eq;rcases u.sl with⟨_,h,_⟩|⟨r,q,rfl,hr,hc⟩
 ·omega
 rw[MG,eH (n:=n+4) (by omega) (by omega)];have g:∀(x:Bool->Af),gdV true (Bo true) x=x true:= λx=>id rfl;have c:∀{v:AV} {H:Hp} {K:KV},Ef (some (v,H)) K=K v H:=id rfl;have pk:∀{a b:AV} {K:AV->Af},Ch (Bo true) a b K=K a:=id rfl;have w:∀{K:AV->Af},Mg .not (Bo false) K=K (Bo true):=id rfl;simp only[g,c];have f:∀K,An (r! L (n+5)) B0 [Ls ps,B1F] H K=K (Bo false):= λK=>AQ (q:=false) (A8A (n:=n+2) (by omega) (by omega) t) (λK=>by kernel_rfl);have p:∀m K,Bq Ac (.sl 1 r 0 m) K=K (I m):= λm K=>id rfl;have j:∀K,(r! L (n+5)).call Cm [.sl 1 r 0 ps.length] H K=K (.sl 1 r 0 ps.length) H:= λK=>by
  have:=A6d (K:=K) (L:=L) (n:=n+4) hr ((Be ps).nodup_iff.2 hn) (by omega) (by omega);rw[k] at this;exact this
 simp only[f,w,c,pk,g,j,p,MG,CP,k,decide_true];exact d _ _ (λb=>⟨false,λK=>by cases b<;>kernel_rfl⟩)
end
section
variable {a b:Int}
def dig (k:Nat):List UInt8:=if k<10 then[UInt8.ofNat (48+k)] else[UInt8.ofNat (48+k/10),UInt8.ofNat (48+k%10)]
def dec (z:Int):List UInt8:=if z<0 then 45::dig z.natAbs else dig z.natAbs
def qn (z:Int):List UInt8:=dec (if z%4=0 then z/4 else if z%2=0 then z/2 else z)
def qd (z:Int):List UInt8:=if z%4=0 then[49] else if z%2=0 then[50] else[52]
abbrev qa (z:Int):List AV:=[S (qn z),S (qd z)]
def B0C {p:Int->Bool} (h:((List.range (b-a).toNat).all λk=>p ((k:Int)+a))=true) {z:Int} (h1:a<=z) (h2:z<b):p z=true:=by
 have:=GH.1 h (z-a).toNat (K8.2 (by omega));have e:(((z-a).toNat:Nat):Int)+a=z:=by omega
 simp only[e] at this;exact this
def A6v {L m f:Nat} {args:Int->List AV} {val:Int->AV} (c:∀z H,Rr true depth (args z) (args z) H false) (h:((List.range (b-a).toNat).all λk=>JI (Ba (Dq (rt L m) f (args ((k:Int)+a))) (val ((k:Int)+a))))=true) {z:Int} (h1:a<=z) (h2:z<b):PS (rt L m) f (args z) (val z):=
 BJ (c z) (B0C (p:= λz=>JI (Ba (Dq (rt L m) f (args z)) (val z))) h h1 h2)
def XB {z:Int} (h1: -80<=z) (h2:z<81):(qn z).length<4:=by
 have:=B0C (p:= λz=>decide ((qn z).length<4)) (a:= -80) (b:=81) (by kernel_rfl) h1 h2;simpa using this
def XC (z:Int):(qd z).length=1:=by unfold qd;split<;>(try split)<;>rfl
def C1A {z:Int} (h1: -80<=z) (h2:z<81) (h:z≠0):qn z≠[48]:=by
 have:=B0C (p:= λz=>decide (z=0\/qn z≠[48])) (a:= -80) (b:=81) (by kernel_rfl) h1 h2;simpa [h] using this
end
section
variable {L n:Nat}
def A9p {z:Int} (h1: -80<=z) (h2:z<81):PS (r! L (n+40)) Gr [I z,I 4] (.tup [.agg (qa z),I 0]):=
 A6v (args:= λz=>[I z,I 4]) (val:= λz=> .tup [.agg (qa z),I 0]) (a:= -80) (b:=81) (λz H K=>by kernel_rfl) (by kernel_rfl) h1 h2
def rU {z:Int} (h1: -80<=z) (h2:z<81):PS (r! L (n+40)) Fy [.agg (qa z)] (Bo true):=
 A6v (args:= λz=>[.agg (qa z)]) (val:= λz=>Bo true) (a:= -80) (b:=81) (λz H K=>by kernel_rfl) (by kernel_rfl) h1 h2
def B8u {z:Int} (h1:0<=z) (h2:z<9):PS (r! L (n+40)) Q9 [.agg (qa z),.agg [S [48],S [49]]] (I (if z=0 then 0 else 1)):=
 A6v (args:= λz=>[.agg (qa z),.agg [S [48],S [49]]]) (val:= λz=>I (if z=0 then 0 else 1)) (a:=0) (b:=9) (λz H K=>by kernel_rfl) (by kernel_rfl) h1 h2
def A0B {z:Int} (h1:0<=z) (h2:z<1):PS (r! L (n+40)) My [I z] (.agg [S [48],S [49]]):=
 A6v (args:= λz=>[I z]) (val:= λz=> .agg [S [48],S [49]]) (a:=0) (b:=1) (λz H K=>by kernel_rfl) (by kernel_rfl) h1 h2
end
section
variable {q:Bool} {y:Bool->Af} {H:Hp} {i:Nat} {t:TI} {α:Type}
variable {L n:Nat}
def gP (f:α->List AV) (w:Nat) (b:∀x,(f x).length=w):∀l:List α,(l.flatMap f).length=l.length*w:=by
 intro l
 induction l with
 |nil=>simp
 |cons a l ih=>simp[ih,b,W_,Nat.add_comm]
def tO (f:α->List AV) (w:Nat) (b:∀x,(f x).length=w):∀(l:List α) (i:Nat) (h:i<l.length),((l.flatMap f).drop (i*w)).take w=f l[i]:=by
 intro l
 induction l with
 |nil=>intro i h;simp at h
 |cons a l ih=>
  intro i h;cases i with
  |zero=>
   simp only[pP,Nat.zero_mul,pM,List.getElem_cons_zero];rw[l34 (by rw[b];omega),W! (by rw[b];omega)]
  |succ i=>
   simp only[pP,List.getElem_cons_succ];have:(i+1)*w=(f a).length+i*w:=by rw[b,W_];omega
   rw[this,List.drop_append,List.drop_of_length_le (by omega),l3d,Nat.add_sub_cancel_left];exact ih i (by simpa using h)
def WH {e w:Nat} {f:α->List AV} {l:List α} {K:AV->Af} (g:t.d= .slice e w) (p:∀x,(f x).length=w) (h:i<l.length):Dw t (.list l.length (l.flatMap f)) (I i) K=K (.iptr (f l[i])):=by
 have j:Dw t (.list l.length (l.flatMap f)) (I (i:Int)) K=iN (i:Int) λm=>ck (Nat.blt m l.length) (SB w (Di (Nat.mul m w) (l.flatMap f)) λc=>K (.iptr c)):=by
  obtain⟨a,b,d,z⟩:=t;simp only at g;subst g;rfl
 rw[j,JW,C6,Oh];have k:Nat.blt i l.length=true:=by rw[Wj];exact h
 rw[k];show K (.iptr (((l.flatMap f).drop (i*w)).take w))=_;rw[tO f w p l i h]
def GA {r p e:Nat} {cs:List AV} {K:AV->Af} (h:t.d.isAgg=true) (a:Aj H r=some (.cells q e cs)) (b:p+t.size<=cs.length):AF t (.ptr r p 0) H K=K (.agg ((cs.drop p).take t.size)):=by
 have:AF t (.ptr r p 0) H K=IJ H r λx=>JV x λ_ cs=>@Bool.rec (λ_=>Af) (hdK (Di (Nat.add p 0) cs) K) (E8 t.size (Di (Nat.add p 0) cs) λc=>K (.agg c)) t.d.isAgg:=rfl;rw[this,h,Bf a];show E8 t.size (Di p cs) _=_;rw[C6,KA _ _ _ (by simp;omega)]
abbrev iU:=List (Int×Int)
def OD (t:Int×Int):List AV:=[I t.1,S (qn t.2),S (qd t.2)]
def FD (ts:iU):AV:=match ts with
 |[]=>As
 |t::ts=> .list (t::ts).length ((t::ts).flatMap OD)
structure TmsOk (ts:iU):Prop where
 len:ts.length<=6
 rng:∀t∈ts,1<=t.1/\t.1<=100/\ -8<=t.2/\t.2<=8/\t.2≠0
 asc:ts.Pairwise λa b=>a.1<b.1
def Hq (ts:iU):Sl (FD ts):=by
 cases ts with
 |nil=>exact .inl rfl
 |cons t ts=>exact .inr ⟨_,_,rfl⟩
def Qk {ts:iU} {K:AV->Af}:Bq AA (FD ts) K=K (I ts.length):=by cases ts<;>exact id rfl
def B2S {ts:iU} (h:i<ts.length):FD ts= .list ts.length (ts.flatMap OD):=by
 cases ts with
 |nil=>simp at h
 |cons t ts=>rfl
def W0 {ts:iU} {K:AV->Af} (h:i<ts.length):Dw AA (FD ts) (I i) K=K (.iptr (OD ts[i])):=by
 rw[B2S h];exact WH (f:=OD) rfl (λ_=>rfl) h
def C4t {a b c d:List UInt8} {K:AV->Af}:Go.Abs.Xg Re .eql (.agg [S a,S b]) (.agg [S c,S d]) K=K (Bo (decide (a=c)&&decide (b=d))):=by
 have e:Go.Abs.Xg Re .eql (.agg [S a,S b]) (.agg [S c,S d]) K=(match(generalizing:=false) (some (Y? a c&&(Y? b d&&true)):Option Bool),BinOp.eql with
  |some q,.eql=>bB q K
  |some q,.neq=>bB (!q) K
  |_,_=>none):=rfl
 rw[e];show bB _ K=_;rw[OC,QA,QA,l1g];have h1:∀(x y:List UInt8),(x==y)=decide (x=y):= λx y=>by by_cases h:x=y<;>simp[h]
 rw[h1,h1]
section
variable {K:KV} {x:Af} {ca cb ra rb:List UInt8} {ts:iU}
def gT:gdV q (.v (.bool q)) y=y true:=by cases q<;>exact id rfl
def dF:gdV true (.v (.bool false)) y=y false:=id rfl
def wT:gdV false (.v (.bool true)) y=y false:=id rfl
def Cn {v:AV}:Ef (some (v,H)) K=K v H:=id rfl
def UH {a b:AV} {K:AV->Af}:Ch (.v (.bool true)) a b K=K a:=id rfl
def SS {a b:AV} {K:AV->Af}:Ch (.v (.bool false)) a b K=K b:=id rfl
def ntT {K:AV->Af}:Mg .not (.v (.bool true)) K=K (Bo false):=id rfl
def ntF {K:AV->Af}:Mg .not (.v (.bool false)) K=K (Bo true):=id rfl
abbrev A1k (ca cb ra rb:List UInt8) (ts:iU):Row:= .cells true ED [S ca,S cb,FD ts,S ra,S rb]
def C1q {j:Hp->Af} {r0:Nat} (u:TmsOk ts) (M:∀H,j H=x):∀(f i:Nat) (H:Hp),i<=ts.length->ts.length-i<f->Aj H r0=some (A1k ca cb ra rb ts)->Wf H->
 RJ (L+20) (r! L (n+41)) K j f (.ptr r0 0 0) (I i) H=x:=by
 intro f
 induction f with
 |zero=>intro i H _ h;omega
 |succ f ih=>
  intro i H V R m w;have hb:=u.len;rw[jS];unfold RK Eh Iv Df GT A0 LW HQ;have f2:∀K:AV->Af,CV 2 (.ptr r0 0 0) K=K (.ptr r0 2 0):= λK=>id rfl;have F:∀K,AF AA (.ptr r0 2 0) H K=K (FD ts):= λK=>AP (p:=2) rfl m (by simp);rw[f2,F,Qk];by_cases h:i<ts.length
  ·rw[FR (by omega),Cy,f2,F,W0 h];have hr:=u.rng _ (Qe h);have lt:∀H K,AF BS (.iptr (OD ts[i])) H K=K (.agg (OD ts[i])):= λH K=>id rfl;rw[lt,B1 (cs:=[zI,zS,zS]) rfl];have g:=Aw (H:=H) (x:= .cells true AY [zI,zS,zS]) (by simp);rw[Cc (vs:=OD ts[i]) g rfl rfl rfl];have b:=AC (q:=true) (e:=AY) (cs:=OD ts[i]) g;have s:=w.lt m;have a:Aj (upd ((Ao H,c_ AY [zI,zS,zS])::H) (Ao H) (c_ AY (OD ts[i]))) r0=some (A1k ca cb ra rb ts):=by
    rw[Ag (by omega)];exact A4 s m
   have w1:=Bn (r:=Ao H) (y:= .cells true AY (OD ts[i])) (AI (x:= .cells true AY [zI,zS,zS]) w);generalize upd ((Ao H,c_ AY [zI,zS,zS])::H) (Ao H) (c_ AY (OD ts[i]))=c at b a w1;generalize Ao H=r at b;have C:∀K:AV->Af,CV 1 (.ptr r 0 0) K=K (.ptr r 1 0):= λK=>id rfl;have B:∀K:AV->Af,CV 0 (.ptr r 0 0) K=K (.ptr r 0 0):= λK=>id rfl;have m1:∀K,AF A3 (.ptr r 1 0) c K=K (.agg (qa ts[i].2)):= λK=>GA (p:=1) rfl b (show 3<=3 from Mb _);have m0:∀K,AF Ab (.ptr r 0 0) c K=K (I ts[i].1):= λK=>AP (p:=0) rfl b (show 0<3 by decide);have Q:∀K,AF AA (.ptr r0 2 0) c K=K (FD ts):= λK=>AP (p:=2) rfl a (by simp);rw[C,m1,rU (n:=n+1) (by omega) (by omega)];have hq:=C1A (by omega) (by omega) hr.2.2.2.2;have J:∀H K,An (r! L (n+41)) My [.v (.int .i64 0)] H K=K (.agg [S [48],S [49]]):= λH K=>A0B (z:=0) (n:=n+1) (by decide) (by decide) H K;have i1:∀K,Go.Abs.Ap Ab .lss (I ts[i].1) (.v (.int .i64 1)) K=K (Bo false):= λK=>FP (by omega);have i2:∀K,Go.Abs.Ap Ab .gtr (I ts[i].1) (.v (.int .i64 1000000)) K=K (Bo false):= λK=>by rw[E5,IG (by omega)]
   simp only[ntT,B7,gT,C,m1,Cn,J,C4t,hq,decide_false,Bool.false_and,SS,B,m0,i1,i2];by_cases k:0<i
   ·have A:∀K,Go.Abs.Ap Ab .gtr (I (i:Int)) (.v (.int .i64 0)) K=K (Bo true):= λK=>by rw[E5,Iu (by omega)]
    have d:i-1<ts.length:=by omega
    have N:∀K:AV->Af,CV 0 (.iptr (OD ts[i-1])) K=K (.iptr (OD ts[i-1])):= λK=>id rfl;have O:∀K,AF Ab (.iptr (OD ts[i-1])) c K=K (I ts[i-1].1):= λK=>id rfl;have D:ts[i-1].1<ts[i].1:=(l26.1 u.asc) (i-1) i d h (by omega);have P:∀K,Go.Abs.Ap Ab .geq (I ts[i-1].1) (I ts[i].1) K=K (Bo false):= λK=>by rw[L7,IG (by omega)]
    simp only[A,B7,Cn,gT,f2,Q,eP k (by omega:i<1000000000),W0 d,N,O,B,m0,P,UH,SS];rw[Bj,Dg (by omega)];exact ih (i+1) c (by omega) (by omega) a w1
   ·have A:∀K,Go.Abs.Ap Ab .gtr (I (i:Int)) (.v (.int .i64 0)) K=K (Bo false):= λK=>by rw[E5,IG (by omega)]
    simp only[A,B7,Cn,gT,dF,UH,SS];rw[Bj,Dg (by omega)];exact ih (i+1) c (by omega) (by omega) a w1
  ·rw[FP (by omega),Bj];exact M H
def rY {c r:Int} (j: -80<=c) (k:c<=80) (m:0<=r) (s:r<=8) (A:10<L) (d:TmsOk ts):CS (r! L (n+42)) JC [.agg (Z8 (qn c) (qd c) (FD ts) (qn r) (qd r))] (Bo true):=by
 intro K h;have hb:=d.len;rw[nZ];unfold TR Eh GT A0 LW HQ;rw[Ei (by cases ts<;>rfl)];have a:=Aw (H:=[]) (x:=A1k (qn c) (qd c) (qn r) (qd r) ts) (by simp);have w0:Wf [(Ao [],A1k (qn c) (qd c) (qn r) (qd r) ts)]:=AI Fk;generalize [(Ao [],A1k (qn c) (qd c) (qn r) (qd r) ts)]=H at a w0;generalize Ao []=r0 at a;have f:∀K:AV->Af,CV 0 (.ptr r0 0 0) K=K (.ptr r0 0 0):= λK=>id rfl;have f2:∀K:AV->Af,CV 2 (.ptr r0 0 0) K=K (.ptr r0 2 0):= λK=>id rfl;have f3:∀K:AV->Af,CV 3 (.ptr r0 0 0) K=K (.ptr r0 3 0):= λK=>id rfl;have m0:∀K,AF A3 (.ptr r0 0 0) H K=K (.agg (qa c)):= λK=>GA (p:=0) rfl a (show 2<=5 by decide);have m3:∀K,AF A3 (.ptr r0 3 0) H K=K (.agg (qa r)):= λK=>GA (p:=3) rfl a (show 5<=5 by decide);have w:∀K,AF AA (.ptr r0 2 0) H K=K (FD ts):= λK=>AP (p:=2) rfl a (show 2<5 by decide);have u:∀H K,An (r! L (n+41)) My [.v (.int .i64 0)] H K=K (.agg [S [48],S [49]]):= λH K=>A0B (z:=0) (n:=n+1) (by decide) (by decide) H K;rw[f,m0,rU (n:=n+1) (by omega) (by omega),f3,m3,rU (n:=n+1) (by omega) (by omega)];have h1:∀K,An (r! L (n+41)) Q9 [.agg (qa r),.agg [S [48],S [49]]] H K=K (I (if r=0 then 0 else 1)):= λK=>B8u (n:=n+1) (by omega) (by omega) H K;have h2:∀K,Go.Abs.Ap Ab .lss (I (if r=0 then 0 else 1)) (.v (.int .i64 0)) K=K (Bo false):= λK=>FP (by split<;>omega);have g:∀K,Go.Abs.Ap Ab .gtr (I (ts.length:Int)) (.v (.int .i64 64)) K=K (Bo false):= λK=>by rw[E5,IG (by omega)]
 simp only[ntT,B7,Cn,gT,SS,f3,m3,u,h1,h2,f2,w,Qk,g,BK];rw[Bj];have e:(AV.v (.int .i64 0))=I ((0:Nat):Int):=rfl;rw[e];exact C1q (n:=n) d (λH=>h _ _ (λb=>⟨false,λK=>by kernel_rfl⟩)) (L+20) 0 H (by omega) (by omega) a w0
end
end
section
variable {L n:Nat}
def B2x {z:Int} (h1:0<=z) (h2:z<9):PS (r! L (n+40)) Qi [.agg (qa z)] (I (if z=0 then 0 else 1)):=
 A6v (args:= λz=>[.agg (qa z)]) (val:= λz=>I (if z=0 then 0 else 1)) (a:=0) (b:=9) (λz H K=>by kernel_rfl) (by kernel_rfl) h1 h2
def B2w {z:Int} (h1: -8<=z) (h2:z<9):PS (r! L (n+40)) Oy [.agg (qa z)] (Bo (decide (z=0))):=
 A6v (args:= λz=>[.agg (qa z)]) (val:= λz=>Bo (decide (z=0))) (a:= -8) (b:=9) (λz H K=>by kernel_rfl) (by kernel_rfl) h1 h2
end
end Go.Abs
end
