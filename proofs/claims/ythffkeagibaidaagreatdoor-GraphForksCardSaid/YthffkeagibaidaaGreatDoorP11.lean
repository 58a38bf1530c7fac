import Derived.Test.YthffkeagibaidaaGreatDoorP10
set_option linter.all false
set_option maxHeartbeats 0
noncomputable section
namespace Go.Abs
open Go.RowKit Go.Proofs
set_option maxRecDepth 100000
section
variable{K:K2}{s:Ha}
def CO{a b:AV}:Cg (.tup [a,b]) 0 K=K a:=id rfl
def CN{a b:AV}:Cg (.tup [a,b]) 1 K=K b:=id rfl
def Bf{i:TI}{a b:Ha}(d:a.length+b.length<9223372036854775808):Al i .add (S a) (S b) K=K (S (a++b)):=by
 have e:Al i .add (S a) (S b) K=WJ a b λl=>ck (Nat.blt l.length 9223372036854775808) (K (.v (.string ⟨⟨l⟩⟩))):=rfl;have c:Nat.blt (a++b).length 9223372036854775808=true:=by rw[Ua,E6];exact d
 rw[e,LB,c];rfl
def A6f(f:Nat):∀z,(Yi f z).length<=f:=by
 induction f with
 |zero=>intro z;exact MZ _
 |succ f ih=>
  intro z;unfold Yi;split
  ·simp
  ·have:=ih (z/128);simp;omega
def Qw(z:Int):(enc z).length<=9:=A6f 9 _
def tR(s:Ha):Ha:=enc s.length++s
def wK(L n:Nat)(h:s.length<390):PS (r! L (n+5)) LG [S s] (.tup [S (tR s),I 0]):=by
 refine CS.ps (λK a=>?_) (λH=>fx1);rw[VH];unfold Ly GO;rw[MR rfl,DE,DA,Co (by simp;omega),MR rfl,wL L n (by omega) (by omega),CO,CN,Bf (by have:=Qw (s.length:Int);omega)];exact a _ _ (λb=>⟨false,Zu (Az (q:=false) (q':=false) Er (Az (q:=false) (q':=false) Er Bq))⟩)
def vK(L n:Nat)(h:s.length<390):PS (r! L (n+9)) MM [S s] (.tup [S (tR s),I 0]):=by
 refine CS.ps (λK a=>?_) (λH=>fx1);rw[Wu];unfold Mw GO;rw[MR rfl,DE,DA,Co (by simp;omega),MR rfl,vL L n (by omega) (by omega),CO,CN,Bf (by have:=Qw (s.length:Int);omega)];exact a _ _ (λb=>⟨false,Zu (Az (q:=false) (q':=false) Er (Az (q:=false) (q':=false) Er Bq))⟩)
end
section
variable{k:KV}{H:Hp}{i:Nat}
def E7(l:List Int):Is:=l.map λz=>.v (.int .i64 z)
def Bj(l:List Ha):Is:=l.map λs=>S s
def GE(l:List Int):Ha:=(l.map enc).flatten
def FU(l:List Ha):Ha:=(l.map tR).flatten
def Te{l:List Int}{k:Nat}(h:k<l.length):(E7 l).getD k .dk=I l[k]:=by
 simp[E7,Tc,h]
def Mm{l:List Ha}{k:Nat}(h:k<l.length):(Bj l).getD k .dk=S l[k]:=by
 simp[Bj,Tc,h]
def DX(l:List Int):(GE l).length<=9*l.length:=by
 induction l with
 |nil=>simp[GE]
 |cons z l ih=>
  have:=Qw z;simp[GE]at ih⊢;omega
def DW(l:List Ha)(h:∀s∈l,s.length<390):(FU l).length<=400*l.length:=by
 induction l with
 |nil=>simp[FU]
 |cons s l ih=>
  have h1:=Qw (s.length:Int);have h2:=h s (by simp);have a:=ih (λs c=>h s (by simp[c]));simp only[FU,Zm,l18,E6,Kg,tR]at a⊢;omega
def qG(l:List Int)(h:i<l.length):GE (l.take (i+1))=GE (l.take i)++enc l[i]:=by
 unfold GE;rw[tE h,UT,List.flatten_append];simp only[Zm,List.map_nil,l18,List.flatten_nil,fV]
def qF(l:List Ha)(h:i<l.length):FU (l.take (i+1))=FU (l.take i)++tR l[i]:=by
 unfold FU;rw[tE h,UT,List.flatten_append];simp only[Zm,List.map_nil,l18,List.flatten_nil,fV]
variable{L n:Nat}{K:KV}{x:Af}
def B47{l:List Int}(p:l.length<100)(hz:∀z∈l, -10<=z/\z<200000)(e:k (S (GE l)) H=x):
 ∀(f i:Nat),i<=l.length->l.length-i<f->Mr (L+20) (r! L (n+4)) K k f (.list l.length (E7 l)) (S (GE (l.take i))) (I i) H=x:=by
 intro f
 induction f with
 |zero=>intro i _ h;omega
 |succ f ih=>
  intro i m j;rw[Wt];unfold Ms GI Aq;have d:∀K,Bi Ba (.list l.length (E7 l)) K=K (I l.length):=λK=>id rfl;rw[d,CA,DA];by_cases h:i<l.length
  ·rw[CJ (by simp;omega)];have a:=hz l[i] (Na h);have c:(GE (l.take i)).length<=9*l.length:=by
    have:=DX (l.take i);have g:(l.take i).length<=l.length:=by simp;omega
    omega
   rw[WL rfl (by simp[E7]) (by omega) (by omega),XV,Rm rfl,Te h,wL L n a.1 a.2,CO,CN,Bf (by have:=Qw l[i];omega),<-qG l h,Ck,BX (by omega) (by omega),OK];exact ih (i+1) (by omega) (by omega)
  ·rw[Co (by simp;omega)];have:i=l.length:=by omega
   subst this;rw[mM];exact e
def pG{l:List Int}(c:l.length<100)(d:l.length<L)(hz:∀z∈l, -10<=z/\z<200000):CS (r! L (n+5)) D4 [.list l.length (E7 l)] (S (GE l)):=by
 intro K a;rw[XD];unfold NP Aq;simp only[Ca];refine B47 c hz ?_ (L+20) 0 (by omega) (by omega);exact a _ _ (λb=>⟨false,Er⟩)
def B1L{l:List Ha}(r:l.length<100)(hz:∀s∈l,s.length<390)(j:k (S (FU l)) H=x):
 ∀(f i:Nat),i<=l.length->l.length-i<f->OM (L+20) (r! L (n+5)) K k f (.list l.length (Bj l)) (S (FU (l.take i))) (I i) H=x:=by
 intro f
 induction f with
 |zero=>intro i _ h;omega
 |succ f ih=>
  intro i q p;rw[RH];unfold Li GI Aq;have e:∀K,Bi Ad (.list l.length (Bj l)) K=K (I l.length):=λK=>id rfl;rw[e,CA,DA];by_cases h:i<l.length
  ·rw[CJ (by simp;omega)];have c:=hz l[i] (Na h);have d:(FU (l.take i)).length<=400*l.length:=by
    have:=DW (l.take i) (λs g=>hz s (l24 g));have m:(l.take i).length<=l.length:=by simp;omega
    omega
   have a:(tR l[i]).length<=400:=by unfold tR;rw[E6];have:=Qw (l[i].length:Int);omega
   rw[WL rfl (by simp[Bj]) (by omega) (by omega),XV,Rm rfl,Mm h,wK L n c,CO,CN,Bf (by omega),<-qF l h,Ck,BX (by omega) (by omega),OK];exact ih (i+1) (by omega) (by omega)
  ·rw[Co (by simp;omega)];have:i=l.length:=by omega
   subst this;rw[mM];exact j
def A0Q{l:List Ha}(c:l.length<100)(d:l.length<L)(hz:∀s∈l,s.length<390):CS (r! L (n+6)) Fm [.list l.length (Bj l)] (S (FU l)):=by
 intro K a;rw[T3];unfold MW Aq;simp only[Ca];refine B1L c hz ?_ (L+20) 0 (by omega) (by omega);exact a _ _ (λb=>⟨false,Er⟩)
end
section
variable{m:Nat}{p:Nat->Bool}
structure UD where
 (p0 q0 p1 q1 p2 q2 p3 q3 p4 q4 p5 q5 p6 q6:Int)
 (fn fd on od:Ha)
 (kd sc:Int)
abbrev UD.cs(u:UD):Is:=[I u.p0,I u.q0,I u.p1,I u.q1,I u.p2,I u.q2,I u.p3,I u.q3,I u.p4,I u.q4,I u.p5,I u.q5,I u.p6,I u.q6,S u.fn,S u.fd,S u.on,S u.od,I u.kd,I u.sc]
def u0:UD:=⟨0,0,0,0,0,0,0,0,0,0,0,0,0,0,[],[],[],[],0,0⟩
def nA:Ha:=[49]
def nB:Ha:=[49,48,48,48]
def nC:Ha:=[49,48,48,48,48,48,48]
def nD:Ha:=[49,48,48,48,48,48,48,48,48,48]
def uD(a b c:Int)(f d:Ha)(s:Int):UD:=⟨a,1,0,1,b,1,0,1,c,1,0,1,0,1,f,d,[48],[49],0,s⟩
def B61:List UD:=[
 uD 1 0 0 nA nA 1,
 uD 0 1 0 nA nA 1,
 uD 1 0 0 nA nB 1,
 uD 0 0 0 nA nA 2,
 ⟨0,1,0,1,0,1,0,1,1,1,0,1,0,1,[49],[49],[53,52,54,51],[50,48],0,0⟩,
 uD 0 0 1 nA nA 1,
 uD 2 0 0 nA nA 1,
 uD 1 1 0 nA nA 1,
 uD 1 (-1) 0 nA nA 1,
 uD 2 0 0 nA nB 1,
 uD 0 0 0 nB nA 2,
 uD 1 0 1 nA nA 1,
 uD 1 0 (-1) nA nA 1,
 uD 3 0 0 nA nA 1,
 uD (-1) 0 0 nA nA 1,
 uD (-2) 0 0 nA nA 1,
 uD (-1) 1 0 nA nA 1,
 uD 0 2 0 nA nA 1,
 uD 1 1 0 nA nB 1,
 uD (-1) 1 0 nB nA 1,
 uD 0 1 1 nA nA 1,
 uD 0 1 (-1) nA nA 1,
 uD 2 1 0 nA nA 1,
 uD (-2) 1 0 nA nA 1,
 uD 0 (-1) 0 nA nA 1,
 uD 0 3 0 nA nA 1,
 uD 0 (-2) 0 nA nA 1,
 uD 0 0 0 nA nB 2,
 uD 1 (-1) 0 nA nB 1,
 uD 2 0 0 nA nC 1,
 uD 1 0 1 nA nB 1,
 uD 1 0 (-1) nA nB 1,
 uD 3 0 0 nA nB 1,
 uD (-1) 0 0 nA nB 1,
 uD (-1) 0 0 nB nA 1,
 uD 3 0 0 nA nD 1,
 uD (-2) 0 0 nC nA 1,
 uD 0 0 (-1) nA nA 1,
 uD (-1) 0 1 nA nA 1,
 uD 0 (-1) 1 nA nA 1,
 uD (-1) 0 1 nB nA 1,
 uD 0 0 2 nA nA 1,
 uD 2 0 1 nA nA 1,
 uD (-2) 0 1 nA nA 1,
 uD 0 0 3 nA nA 1,
 uD 0 0 (-2) nA nA 1,
 uD 2 (-1) 0 nA nA 1,
 uD 1 0 0 nB nA 1,
 uD 2 0 (-1) nA nA 1,
 uD 4 0 0 nA nA 1,
 uD 6 0 0 nA nA 1,
 uD (-4) 0 0 nA nA 1]
def uu(k:Nat):UD:=B61.getD k u0
def nE:Ha:=[49,47,49,48,48,48]
def nF:Ha:=[49,47,49,48,48,48,48,48,48]
def nG:Ha:=[49,47,49,48,48,48,48,48,48,48,48,48]
def nK:Ha:=[32,107,105,110,100,32,48,32,102,97,99,116,111,114,32]
def nO:Ha:=[32,111,102,102,115,101,116,32,48]
def nR:Ha:=[114,97,116,105,111]
def nU(f t:Ha):Ha:=[100,105,102,102,101,114,101,110,99,101]++(nK++(f++(nO++(32::t))))
def B1J:List Ha:=[
 nU nA [109,94,49],
 nU nA [115,94,49],
 nU nE [109,94,49],
 nR++(nK++(nA++nO)),
 [97,98,115,111,108,117,116,101,32,107,105,110,100,32,48,32,102,97,99,116,111,114,32,49,32,111,102,102,115,101,116,32,53,52,54,51,47,50,48,32,75,94,49],
 nU nA [75,94,49],
 nU nA [109,94,50],
 nU nA [109,94,49,32,115,94,49],
 nU nA [109,94,49,32,115,94,45,49],
 nU nE [109,94,50],
 nR++(nK++(nB++nO)),
 nU nA [109,94,49,32,75,94,49],
 nU nA [109,94,49,32,75,94,45,49],
 nU nA [109,94,51],
 nU nA [109,94,45,49],
 nU nA [109,94,45,50],
 nU nA [109,94,45,49,32,115,94,49],
 nU nA [115,94,50],
 nU nE [109,94,49,32,115,94,49],
 nU nB [109,94,45,49,32,115,94,49],
 nU nA [115,94,49,32,75,94,49],
 nU nA [115,94,49,32,75,94,45,49],
 nU nA [109,94,50,32,115,94,49],
 nU nA [109,94,45,50,32,115,94,49],
 nU nA [115,94,45,49],
 nU nA [115,94,51],
 nU nA [115,94,45,50],
 nR++(nK++(nE++nO)),
 nU nE [109,94,49,32,115,94,45,49],
 nU nF [109,94,50],
 nU nE [109,94,49,32,75,94,49],
 nU nE [109,94,49,32,75,94,45,49],
 nU nE [109,94,51],
 nU nE [109,94,45,49],
 nU nB [109,94,45,49],
 nU nG [109,94,51],
 nU nC [109,94,45,50],
 nU nA [75,94,45,49],
 nU nA [109,94,45,49,32,75,94,49],
 nU nA [115,94,45,49,32,75,94,49],
 nU nB [109,94,45,49,32,75,94,49],
 nU nA [75,94,50],
 nU nA [109,94,50,32,75,94,49],
 nU nA [109,94,45,50,32,75,94,49],
 nU nA [75,94,51],
 nU nA [75,94,45,50],
 nU nA [109,94,50,32,115,94,45,49],
 nU nB [109,94,49],
 nU nA [109,94,50,32,75,94,45,49],
 nU nA [109,94,52],
 nU nA [109,94,54],
 nU nA [109,94,45,52]]
def Jc(k:Nat):Ha:=B1J.getD k []
def B98:List (List (List (Option Nat))):=[
 [[some 0,none,none,none,none,none,none],
  [none,some 1,none,none,none,none,none],
  [none,none,some 2,none,none,none,none],
  [none,none,none,some 3,none,none,none],
  [none,none,none,none,none,some 4,none],
  [none,none,none,none,some 4,some 5,none],
  [none,none,none,none,none,none,some 6]],
 [[some 0,none,none,none,none,none,none],
  [none,some 1,none,none,none,none,none],
  [none,none,some 2,none,none,none,none],
  [none,none,none,some 3,none,none,none],
  [none,none,none,none,some 5,some 4,none],
  [none,none,none,none,none,some 5,none],
  [none,none,none,none,none,none,some 6]],
 [[some 6,some 7,some 9,some 0,none,some 11,some 13],
  [some 7,some 17,some 18,some 1,none,some 20,some 22],
  [some 9,some 18,some 29,some 2,none,some 30,some 32],
  [some 0,some 1,some 2,some 3,none,some 5,some 6],
  [none,none,none,none,none,none,none],
  [some 11,some 20,some 30,some 5,none,some 41,some 42],
  [some 13,some 22,some 32,some 6,none,some 42,some 49]],
 [[some 3,some 8,some 10,some 0,none,some 12,some 14],
  [some 16,some 3,some 19,some 1,none,some 21,some 23],
  [some 27,some 28,some 3,some 2,none,some 31,some 33],
  [some 14,some 24,some 34,some 3,none,some 37,some 15],
  [none,none,none,none,none,none,none],
  [some 38,some 39,some 40,some 5,none,some 3,some 43],
  [some 0,some 46,some 47,some 6,none,some 48,some 3]]]
def Sf(o i j:Nat):Option Nat:=((B98.getD o []).getD i []).getD j none
def ZA(k:Nat):Int:=([2, -1,3, -2,1]:List Int).getD k 0
def B60:List (List (Option Nat)):=[[some 6,some 14,some 13,some 15,some 0],
 [some 17,some 24,some 25,some 26,some 1],
 [some 29,some 34,some 35,some 36,some 2],
 [some 3,some 3,some 3,some 3,some 3],
 [none,none,none,none,none],
 [some 41,some 37,some 44,some 45,some 5],
 [some 49,some 15,some 50,some 51,some 6]]
def Ui(i k:Nat):Option Nat:=(B60.getD i []).getD k none
def HS:Option Nat->AV
 |some k=>.tup [.agg (uu k).cs,I 0]
 |none=>.tup [.agg u0.cs,I 70]
def isU:Option Nat->Bool
 |some _=>true
 |none=>false
def A75(p:Nat->Bool)(m:Nat):Nat->Prop
 |0=>True
 |c+1=>((List.range m).all λk=>p (c*m+k))=true/\A75 p m c
def Ws:A75 p m 0:=trivial
def Wr{m c:Nat}(h:((List.range m).all λk=>p (c*m+k))=true)(h2:A75 p m c):A75 p m (c+1):=⟨h,h2⟩
def Wq:∀{c:Nat},A75 p m c->∀{i:Nat},i<c*m->p i=true:=by
 intro c
 induction c with
 |zero=>intro _ i a;omega
 |succ c ih=>
  intro h i a;by_cases hc:i<c*m
  ·exact ih h.2 hc
  ·have h1:=Gb.1 h.1 (i-c*m) (I2.2 (by rw[B!]at a;omega));have e:c*m+(i-c*m)=i:=by omega
   rw[e]at h1;exact h1
end
section
variable{v:AV}{x y:Af}{f:Nat}{R:Rt}
def dK:Rt->Nat->Is->Hp->K2->Af:=Classical.choose (⟨Ak,rfl⟩:∃z:Rt->Nat->Is->Hp->K2->Af,Ak=z)
def zO:Ak=dK:=Classical.choose_spec (⟨Ak,rfl⟩:∃z:Rt->Nat->Is->Hp->K2->Af,Ak=z)
def eBi:TI->BinOp->AV->AV->K2->Af:=Classical.choose (⟨Al,rfl⟩:∃z:TI->BinOp->AV->AV->K2->Af,Al=z)
def bO:Al=eBi:=Classical.choose_spec (⟨Al,rfl⟩:∃z:TI->BinOp->AV->AV->K2->Af,Al=z)
def C?:List LK->BinOp->AV->AV->K2->Af:=Classical.choose (⟨Ts,rfl⟩:∃z:List LK->BinOp->AV->AV->K2->Af,Ts=z)
def qO:Ts=C?:=Classical.choose_spec (⟨Ts,rfl⟩:∃z:List LK->BinOp->AV->AV->K2->Af,Ts=z)
def cnd:AV->Af->Af->Af:=Classical.choose (⟨A1,rfl⟩:∃z:AV->Af->Af->Af,A1=z)
def cO:A1=cnd:=Classical.choose_spec (⟨A1,rfl⟩:∃z:AV->Af->Af->Af,A1=z)
def Nk:cnd (.v (.bool true)) x y=x:=by rw[<-cO];rfl
def EO:cnd (.v (.bool false)) x y=y:=by rw[<-cO];rfl
section
variable{K:K2}{i:TI}{k:IntKind}{a b:Int}{s u:Ha}
def N8(h:a=b):eBi i .eql (.v (.int k a)) (.v (.int k b)) K=K (Bo true):=by rw[<-bO,CP,Iz h]
def T8(h:a≠b):eBi i .eql (.v (.int k a)) (.v (.int k b)) K=K (Bo false):=by rw[<-bO,CP,Iy h]
def A5q(h:a=b):eBi i .neq (.v (.int k a)) (.v (.int k b)) K=K (Bo false):=by rw[<-bO,GY,Iz h];rfl
def A1b(h:a<=b):eBi i .leq (.v (.int k a)) (.v (.int k b)) K=K (Bo true):=by rw[<-bO,Yt,Iz h]
def A1i(h:b<=a):eBi i .geq (.v (.int k a)) (.v (.int k b)) K=K (Bo true):=by rw[<-bO,Kn,Iz h]
end
def A3j:∀{ks:List LK}{xs:Hx},fits ks xs=true->Vk xs xs=some true:=by
 intro ks
 induction ks with
 |nil=>intro xs h;cases xs with|nil=>rfl|cons a l=>simp[fits]at h
 |cons k ks ih=>
  intro xs h;cases xs with
  |nil=>rfl
  |cons a l=>
   simp only[fits,I0]at h;have h2:=ih h.2;have e:Vk (a::l) (a::l)=(match XX a a with|some b=>(match Vk l l with|some c=>some (b&&c)|none=>none)|none=>none):=rfl;rw[e,h2];have h1:XX a a=some true:=by
    have h1:=h.1;cases k<;>cases a<;>simp[LK.fit]at h1<;>simp[XX,JN,LO]
   rw[h1];rfl
def A1n(xs:Hx):∀K:Hx->Af,ZZ (xs.map AV.v) K=K xs:=by
 induction xs with
 |nil=>intro K;rfl
 |cons a l ih=>intro K;exact ih _
def A6v{ks:List LK}(xs:Hx)(h:fits ks xs=true)(K:K2):C? ks .eql (.agg (xs.map AV.v)) (.agg (xs.map AV.v)) K=K (Bo true):=by
 rw[<-qO];have e:Ts ks .eql (.agg (xs.map AV.v)) (.agg (xs.map AV.v)) K=ZZ (xs.map AV.v) λc=>ZZ (xs.map AV.v) λd=>ck (fits ks c) (match Vk c d,BinOp.eql with
  |some q,.eql=>bB q K
  |some q,.neq=>bB (!q) K
  |_,_=>none):=rfl
 rw[e,A1n,A1n,A3j h,h];show bB true K=_;rw[JB]
def lU(u:UD)(K:K2):C? Jq .eql (.agg u.cs) (.agg u.cs) K=K (Bo true):=
 A6v (ks:=Jq) [.int .i64 u.p0,.int .i64 u.q0,.int .i64 u.p1,.int .i64 u.q1,.int .i64 u.p2,.int .i64 u.q2,.int .i64 u.p3,.int .i64 u.q3,.int .i64 u.p4,.int .i64 u.q4,.int .i64 u.p5,.int .i64 u.q5,.int .i64 u.p6,.int .i64 u.q6,.string ⟨⟨u.fn⟩⟩,.string ⟨⟨u.fd⟩⟩,.string ⟨⟨u.on⟩⟩,.string ⟨⟨u.od⟩⟩,.int .i64 u.kd,.int .i64 u.sc] rfl K
def LS(R:Rt)(f:Nat)(args':Is)(v:AV):Prop:=∀(q:Bool)(args:Is)(H:Hp),Qi true depth args args' H q->∀K,dK R f args H K=K v
def CS.ls{args':Is}(h:CS R f args' v):LS R f args' v:=λ_ _ _ c _=>by rw[<-zO];exact AX h c
def PO(R:Rt)(f:Nat)(args:Is)(v:AV):Prop:=∀H K,dK R f args H K=K v
def PS.o{args:Is}(h:PS R f args v):PO R f args v:=λH K=>by rw[<-zO];exact h H K
end
section
variable{L n:Nat}
attribute [local irreducible] Ak rt dK eBi C? cnd Al Ts A1
def Xg{z c a:Int}(h1:c<=z)(h2:z<=a):PS (rt (L+20) (n+1)) Eh [I z,I c,I a] (Bo true):=by
 refine CS.ps (λK d=>?_) (λH=>λK=>by kernel_rfl);rewrite[SY];unfold Jj q3N
 try rewrite[zO]
 try rewrite[bO]
 try rewrite[qO]
 try rewrite[cO]
 conv=>lhs;whnf
 rewrite[A1i h1]
 conv=>lhs;whnf
 rewrite[A1b h2]
 conv=>lhs;whnf
 exact d _ _ (λb=>⟨false,λK=>by kernel_rfl⟩)
def Us{z c a:Int}(h1:c<=z)(h2:z<=a):PS (rt (L+20) (n+1)) Gv [I z,I c,I a] (Bo true):=by
 refine CS.ps (λK d=>?_) (λH=>λK=>by kernel_rfl);rewrite[YZ];unfold Pn q3N
 try rewrite[zO]
 try rewrite[bO]
 try rewrite[qO]
 try rewrite[cO]
 conv=>lhs;whnf
 rewrite[A1i h1]
 conv=>lhs;whnf
 rewrite[A1b h2]
 conv=>lhs;whnf
 exact d _ _ (λb=>⟨false,λK=>by kernel_rfl⟩)
def Sl(T:AV):Prop:=T=.v (.slice none 0 0)\/∃n cs,T=.list n cs
abbrev A7:AV:=.v (.slice none 0 0)
abbrev BY(u:UD):Is:=[I u.p0,I u.q0,I u.p1,I u.q1,I u.p2,I u.q2,I u.p3,I u.q3,I u.p4,I u.q4,I u.p5,I u.q5,I u.p6,I u.q6,S u.fn,S u.fd,S u.on,S u.od,I u.kd,I u.sc]
abbrev Wb(ca cb:Ha)(T:AV)(ra rb:Ha):Is:=[S ca,S cb,T,S ra,S rb]
abbrev Bn(id:Int)(ins nds:AV)(u:UD):Is:=[I id,ins,nds,
 I u.p0,I u.q0,I u.p1,I u.q1,I u.p2,I u.q2,I u.p3,I u.q3,I u.p4,I u.q4,I u.p5,I u.q5,I u.p6,I u.q6,S u.fn,S u.fd,S u.on,S u.od,I u.kd,I u.sc]
structure RD where
 k:Int
 (a1 a2 b1 b2 c1 c2 d1 d2:Ha)
abbrev RD.cs(r:RD):Is:=[I r.k,S r.a1,S r.a2,S r.b1,S r.b2,S r.c1,S r.c2,S r.d1,S r.d2]
def r0:RD:=⟨0,[],[],[],[],[],[],[],[]⟩
structure ND where
 (lab num itm tim day:Int)
def rr(k:Nat):RD:=⟨k,[45,53],[49],[50,53],[50],if k=2 then[49] else[48],if k=2 then[50] else[49],[49],[50,48]⟩
abbrev Dj(kd:Int)(m:ND)(u:UD)(ca cb:Ha)(T:AV)(ra rb:Ha)(P:AV)(id:Int)(ins nds:AV)(o:UD)(r:RD)(vd:Int):Is:=[I kd,I m.lab,I m.num,I m.itm,I m.tim,I m.day,
 I u.p0,I u.q0,I u.p1,I u.q1,I u.p2,I u.q2,I u.p3,I u.q3,I u.p4,I u.q4,I u.p5,I u.q5,I u.p6,I u.q6,S u.fn,S u.fd,S u.on,S u.od,I u.kd,I u.sc,
 S ca,S cb,T,S ra,S rb,P,I id,ins,nds,
 I o.p0,I o.q0,I o.p1,I o.q1,I o.p2,I o.q2,I o.p3,I o.q3,I o.p4,I o.q4,I o.p5,I o.q5,I o.p6,I o.q6,S o.fn,S o.fd,S o.on,S o.od,I o.kd,I o.sc,
 I r.k,S r.a1,S r.a2,S r.b1,S r.b2,S r.c1,S r.c2,S r.d1,S r.d2,I vd,I 0,A7,A7]
def ND.ok(m:ND):Prop:=1<=m.lab/\m.lab<=9/\1<=m.num/\m.num<=9/\1<=m.itm/\m.itm<=9/\0<=m.tim/\m.tim<=100/\0<=m.day/\m.day<=100000
abbrev A0I:Is:=[zI,zL,zL,zI,zI,zI,zI,zI,zI,zI,zI,zI,zI,zI,zI,zI,zI,zS,zS,zS,zS,zI,zI]
def A3Z:PS (rt (L+20) (n+40)) MP [.agg (Bn 0 A7 A7 u0),.agg A0I] (Bo true):=Bp (λH K=>by kernel_rfl) (by kernel_rfl)
def A4N:PS (rt (L+20) (n+40)) Ye [.agg (Bn 0 A7 A7 u0),.agg A0I] (Bo true):=Bp (λH K=>by kernel_rfl) (by kernel_rfl)
section
variable{m:ND}{u o:UD}{ca cb ra rb:Ha}{T P ins nds:AV}{id vd:Int}{r:RD}
def A1W(hm:m.ok)(t:Sl T)(s:∃n cs,P=.list n cs)(j:∃n cs,ins=.list n cs)(q:∃n cs,nds=.list n cs)(hc:LS (rt (L+20) (n+60)) Fp [.agg (Dj 2 m u ca cb T ra rb P id ins nds o r0 0)] (Bo true))(w:PO (rt (L+20) (n+60)) J6 [.agg (BY u)] (Bo true))(v:LS (rt (L+20) (n+60)) Jp [.agg (Wb ca cb T ra rb)] (Bo true)):
 CS (rt (L+20) (n+61)) CZ [.agg (Dj 2 m u ca cb T ra rb P id ins nds o r0 0)] (Bo true):=by
 intro K p;obtain⟨h1,h2,f,x,g,y,h,A,i,e⟩:=hm;obtain⟨n1,c1,rfl⟩:=s;obtain⟨n2,c2,rfl⟩:=j;obtain⟨B,c3,rfl⟩:=q;have hb:∀{z d c:Int},d<=z->z<=c->PO (rt (L+20) (n+60)) Eh [I z,I d,I c] (Bo true):=λa b=>(Xg a b).o;rcases t with rfl|⟨C,c4,rfl⟩
 all_goals
  rewrite[He];unfold E5 GO
  try rewrite[zO]
  try rewrite[bO]
  try rewrite[qO]
  try rewrite[cO]
  generalize rt (L+20) (n+60)=R at*
  conv=>lhs;whnf
  rewrite[hb h1 (by omega)]
  conv=>lhs;whnf
  rewrite[hb f (by omega)]
  conv=>lhs;whnf
  rewrite[hb g (by omega)]
  conv=>lhs;whnf
  rewrite[hb h (by omega)]
  conv=>lhs;whnf
  rewrite[hb i (by omega)]
  conv=>lhs;whnf
  rewrite[w]
  conv=>lhs;whnf
  rewrite[(v) false _ _ ?hq]
  case hq=>exact λK=>by kernel_rfl
  conv=>lhs;whnf
  rewrite[EO]
  conv=>lhs;whnf
  rewrite[show∀K,C? GW BinOp.eql (AV.agg [I r0.k,S r0.a1,S r0.a2,S r0.b1,S r0.b2,S r0.c1,S r0.c2,S r0.d1,S r0.d2]) (AV.agg [zI,zS,zS,zS,zS,zS,zS,zS,zS]) K=K (Bo true) from λK=>by rw[<-qO];kernel_rfl]
  conv=>lhs;whnf
  rewrite[N8 ?hc]
  case hc=>decide
  conv=>lhs;whnf
  rewrite[T8 ?hc]
  case hc=>decide
  conv=>lhs;whnf
  rewrite[EO]
  conv=>lhs;whnf
  rewrite[N8 ?hc]
  case hc=>decide
  conv=>lhs;whnf
  rewrite[Nk]
  conv=>lhs;whnf
  rewrite[(hc) false _ _ ?hq]
  case hq=>exact λK=>by kernel_rfl
  conv=>lhs;whnf
  exact p _ _ (λb=>⟨false,λK=>by kernel_rfl⟩)
def A1X(hm:m.ok)(p:Sl T)(s:PO (rt (L+20) (n+60)) MP [.agg (Bn 0 A7 A7 o),.agg A0I] (Bo true))(t:PO (rt (L+20) (n+60)) J6 [.agg (BY u)] (Bo true))(q:LS (rt (L+20) (n+60)) Jp [.agg (Wb ca cb T ra rb)] (Bo true)):
 CS (rt (L+20) (n+61)) CZ [.agg (Dj 1 m u ca cb T ra rb A7 0 A7 A7 o r0 0)] (Bo true):=by
 intro K j;obtain⟨h1,h2,f,v,g,w,h,x,i,e⟩:=hm;have hb:∀{z d c:Int},d<=z->z<=c->PO (rt (L+20) (n+60)) Eh [I z,I d,I c] (Bo true):=λa b=>(Xg a b).o;rcases p with rfl|⟨y,c4,rfl⟩
 all_goals
  rewrite[He];unfold E5 GO
  try rewrite[zO]
  try rewrite[bO]
  try rewrite[qO]
  try rewrite[cO]
  generalize rt (L+20) (n+60)=R at*
  conv=>lhs;whnf
  rewrite[hb h1 (by omega)]
  conv=>lhs;whnf
  rewrite[hb f (by omega)]
  conv=>lhs;whnf
  rewrite[hb g (by omega)]
  conv=>lhs;whnf
  rewrite[hb h (by omega)]
  conv=>lhs;whnf
  rewrite[hb i (by omega)]
  conv=>lhs;whnf
  rewrite[t]
  conv=>lhs;whnf
  rewrite[(q) false _ _ ?hq]
  case hq=>exact λK=>by kernel_rfl
  conv=>lhs;whnf
  rewrite[EO]
  conv=>lhs;whnf
  rewrite[show∀K,C? GW BinOp.eql (AV.agg [I r0.k,S r0.a1,S r0.a2,S r0.b1,S r0.b2,S r0.c1,S r0.c2,S r0.d1,S r0.d2]) (AV.agg [zI,zS,zS,zS,zS,zS,zS,zS,zS]) K=K (Bo true) from λK=>by rw[<-qO];kernel_rfl]
  conv=>lhs;whnf
  rewrite[N8 ?hc]
  case hc=>decide
  conv=>lhs;whnf
  rewrite[N8 ?hc]
  case hc=>decide
  conv=>lhs;whnf
  rewrite[Nk]
  conv=>lhs;whnf
  rewrite[N8 ?hc]
  case hc=>decide
  conv=>lhs;whnf
  rewrite[s]
  conv=>lhs;whnf
  exact j _ _ (λb=>⟨false,λK=>by kernel_rfl⟩)
def A1V(hm:m.ok)(w:Sl T)(v:∃n cs,P=.list n cs)(q:∃n cs,ins=.list n cs)(t:∃n cs,nds=.list n cs)(c:∀K,C? GW BinOp.eql (AV.agg r.cs) (AV.agg [zI,zS,zS,zS,zS,zS,zS,zS,zS]) K=K (Bo false))(hr:PO (rt (L+20) (n+60)) Vd [.agg r.cs] (Bo true))(d:1<=vd)(e:vd<=3)(y:PO (rt (L+20) (n+60)) J6 [.agg (BY u)] (Bo true))(x:LS (rt (L+20) (n+60)) Jp [.agg (Wb ca cb T ra rb)] (Bo true))(hc:LS (rt (L+20) (n+60)) Fp [.agg (Dj 3 m u ca cb T ra rb P id ins nds o r vd)] (Bo true)):
 CS (rt (L+20) (n+61)) CZ [.agg (Dj 3 m u ca cb T ra rb P id ins nds o r vd)] (Bo true):=by
 intro K s;obtain⟨h1,h2,i,A,j,B,k,C,p,h⟩:=hm;obtain⟨n1,c1,rfl⟩:=v;obtain⟨n2,c2,rfl⟩:=q;obtain⟨D,c3,rfl⟩:=t;have hb:∀{z g f:Int},g<=z->z<=f->PO (rt (L+20) (n+60)) Eh [I z,I g,I f] (Bo true):=λa b=>(Xg a b).o;rcases w with rfl|⟨F,c4,rfl⟩
 all_goals
  rewrite[He];unfold E5 GO
  try rewrite[zO]
  try rewrite[bO]
  try rewrite[qO]
  try rewrite[cO]
  generalize rt (L+20) (n+60)=R at*
  conv=>lhs;whnf
  rewrite[hb h1 (by omega)]
  conv=>lhs;whnf
  rewrite[hb i (by omega)]
  conv=>lhs;whnf
  rewrite[hb j (by omega)]
  conv=>lhs;whnf
  rewrite[hb k (by omega)]
  conv=>lhs;whnf
  rewrite[hb p (by omega)]
  conv=>lhs;whnf
  rewrite[y]
  conv=>lhs;whnf
  rewrite[(x) false _ _ ?hq]
  case hq=>exact λK=>by kernel_rfl
  conv=>lhs;whnf
  rewrite[EO]
  conv=>lhs;whnf
  rewrite[c]
  conv=>lhs;whnf
  rewrite[T8 ?hc]
  case hc=>decide
  conv=>lhs;whnf
  rewrite[EO]
  conv=>lhs;whnf
  rewrite[T8 ?hc]
  case hc=>decide
  conv=>lhs;whnf
  rewrite[EO]
  conv=>lhs;whnf
  rewrite[N8 ?hc]
  case hc=>decide
  conv=>lhs;whnf
  rewrite[Nk]
  conv=>lhs;whnf
  rewrite[(hc) false _ _ ?hq]
  case hq=>exact λK=>by kernel_rfl
  conv=>lhs;whnf
  rewrite[hr]
  conv=>lhs;whnf
  rewrite[hb d e]
  conv=>lhs;whnf
  exact s _ _ (λb=>⟨false,λK=>by kernel_rfl⟩)
end
end
section
variable{c2:Is}{n2:Nat}
variable{L n:Nat}
attribute [local irreducible] Ak rt dK eBi C? cnd Al Ts A1
section
variable{m:ND}{u o:UD}{ca cb ra rb:Ha}{T P ins nds:AV}{id vd:Int}{r:RD}
def A2l(hm:m.ok)(p:Sl T)(hr:PO (rt (L+20) (n+60)) Hl [.agg r0.cs] (Bo false))(s:PO (rt (L+20) (n+60)) Ye [.agg (Bn 0 A7 A7 o),.agg A0I] (Bo true))(t:PO (rt (L+20) (n+60)) DT [.agg (BY u)] (Bo true))(q:LS (rt (L+20) (n+60)) Ho [.agg (Wb ca cb T ra rb)] (Bo true)):
 CS (rt (L+20) (n+61)) DQ [.agg (Dj 1 m u ca cb T ra rb A7 0 A7 A7 o r0 0)] (.tup [Bo true,Bo false]):=by
 intro K j;obtain⟨h1,h2,f,v,g,w,h,x,i,e⟩:=hm;have hb:∀{z d c:Int},d<=z->z<=c->PO (rt (L+20) (n+60)) Gv [I z,I d,I c] (Bo true):=λa b=>(Us a b).o;rcases p with rfl|⟨y,c4,rfl⟩
 all_goals
  rewrite[HL];unfold Gq GO
  try rewrite[zO]
  try rewrite[bO]
  try rewrite[qO]
  try rewrite[cO]
  generalize rt (L+20) (n+60)=R at*
  conv=>lhs;whnf
  rewrite[T8 ?hc]
  case hc=>decide
  conv=>lhs;whnf
  rewrite[t]
  conv=>lhs;whnf
  rewrite[(q) false _ _ ?hq]
  case hq=>exact λK=>by kernel_rfl
  conv=>lhs;whnf
  rewrite[hb h1 (by omega)]
  conv=>lhs;whnf
  rewrite[hb f (by omega)]
  conv=>lhs;whnf
  rewrite[hb g (by omega)]
  conv=>lhs;whnf
  rewrite[hb h (by omega)]
  conv=>lhs;whnf
  rewrite[hb i (by omega)]
  conv=>lhs;whnf
  rewrite[EO]
  conv=>lhs;whnf
  rewrite[hr]
  conv=>lhs;whnf
  rewrite[show∀K,C? GW BinOp.neq (AV.agg [I r0.k,S r0.a1,S r0.a2,S r0.b1,S r0.b2,S r0.c1,S r0.c2,S r0.d1,S r0.d2]) (AV.agg [zI,zS,zS,zS,zS,zS,zS,zS,zS]) K=K (Bo false) from λK=>by rw[<-qO];kernel_rfl]
  conv=>lhs;whnf
  rewrite[A5q ?hc]
  case hc=>decide
  conv=>lhs;whnf
  rewrite[EO]
  conv=>lhs;whnf
  rewrite[N8 ?hc]
  case hc=>decide
  conv=>lhs;whnf
  rewrite[Nk]
  conv=>lhs;whnf
  rewrite[s]
  conv=>lhs;whnf
  rewrite[N8 ?hc]
  case hc=>decide
  conv=>lhs;whnf
  exact j _ _ (λb=>⟨false,λK=>by kernel_rfl⟩)
def A2k(hm:m.ok)(s:Sl T)(hr:PO (rt (L+20) (n+60)) Hl [.agg r0.cs] (Bo false))(q:∃n cs,P=.list n cs)(p:∃n cs,nds=.list n cs)(v:LS (rt (L+20) (n+60)) FO [P] (.tup [Bo true,I n2]))(hv:LS (rt (L+20) (n+60)) Ev [.agg (Bn id (.list n2 c2) nds u)] (Bo true))(w:PO (rt (L+20) (n+60)) DT [.agg (BY u)] (Bo true))(t:LS (rt (L+20) (n+60)) Ho [.agg (Wb ca cb T ra rb)] (Bo true)):
 CS (rt (L+20) (n+61)) DQ [.agg (Dj 2 m u ca cb T ra rb P id (.list n2 c2) nds u r0 0)] (.tup [Bo true,Bo false]):=by
 intro K j;obtain⟨h1,h2,f,x,g,y,h,A,i,e⟩:=hm;obtain⟨n1,c1,rfl⟩:=q;obtain⟨B,c3,rfl⟩:=p;have hb:∀{z d c:Int},d<=z->z<=c->PO (rt (L+20) (n+60)) Gv [I z,I d,I c] (Bo true):=λa b=>(Us a b).o;rcases s with rfl|⟨C,c4,rfl⟩
 all_goals
  rewrite[HL];unfold Gq GO
  try rewrite[zO]
  try rewrite[bO]
  try rewrite[qO]
  try rewrite[cO]
  generalize rt (L+20) (n+60)=R at*
  conv=>lhs;whnf
  rewrite[T8 ?hc]
  case hc=>decide
  conv=>lhs;whnf
  rewrite[w]
  conv=>lhs;whnf
  rewrite[(t) false _ _ ?hq]
  case hq=>exact λK=>by kernel_rfl
  conv=>lhs;whnf
  rewrite[hb h1 (by omega)]
  conv=>lhs;whnf
  rewrite[hb f (by omega)]
  conv=>lhs;whnf
  rewrite[hb g (by omega)]
  conv=>lhs;whnf
  rewrite[hb h (by omega)]
  conv=>lhs;whnf
  rewrite[hb i (by omega)]
  conv=>lhs;whnf
  rewrite[EO]
  conv=>lhs;whnf
  rewrite[hr]
  conv=>lhs;whnf
  rewrite[show∀K,C? GW BinOp.neq (AV.agg [I r0.k,S r0.a1,S r0.a2,S r0.b1,S r0.b2,S r0.c1,S r0.c2,S r0.d1,S r0.d2]) (AV.agg [zI,zS,zS,zS,zS,zS,zS,zS,zS]) K=K (Bo false) from λK=>by rw[<-qO];kernel_rfl]
  conv=>lhs;whnf
  rewrite[A5q ?hc]
  case hc=>decide
  conv=>lhs;whnf
  rewrite[EO]
  conv=>lhs;whnf
  rewrite[T8 ?hc]
  case hc=>decide
  conv=>lhs;whnf
  rewrite[EO]
  conv=>lhs;whnf
  rewrite[N8 ?hc]
  case hc=>decide
  conv=>lhs;whnf
  rewrite[Nk]
  conv=>lhs;whnf
  rewrite[Nk]
  conv=>lhs;whnf
  rewrite[(v) false _ _ ?hq]
  case hq=>exact λK=>by kernel_rfl
  conv=>lhs;whnf
  rewrite[(hv) false _ _ ?hq]
  case hq=>exact λK=>by kernel_rfl
  conv=>lhs;whnf
  rewrite[N8 ?hc]
  case hc=>rfl
  conv=>lhs;whnf
  rewrite[lU u]
  conv=>lhs;whnf
  exact j _ _ (λb=>⟨false,λK=>by kernel_rfl⟩)
def A2j(hm:m.ok)(t:Sl T)(hr:PO (rt (L+20) (n+60)) Hl [.agg r.cs] (Bo true))(c:1<=vd)(d:vd<=3)(s:∃n cs,P=.list n cs)(q:∃n cs,nds=.list n cs)(w:LS (rt (L+20) (n+60)) FO [P] (.tup [Bo true,I n2]))(hv:LS (rt (L+20) (n+60)) Ev [.agg (Bn id (.list n2 c2) nds u)] (Bo true))(x:PO (rt (L+20) (n+60)) DT [.agg (BY u)] (Bo true))(v:LS (rt (L+20) (n+60)) Ho [.agg (Wb ca cb T ra rb)] (Bo true)):
 CS (rt (L+20) (n+61)) DQ [.agg (Dj 3 m u ca cb T ra rb P id (.list n2 c2) nds u r vd)] (.tup [Bo true,Bo true]):=by
 intro K p;obtain⟨h1,h2,h,y,i,A,j,B,k,g⟩:=hm;obtain⟨n1,c1,rfl⟩:=s;obtain⟨C,c3,rfl⟩:=q;have hb:∀{z f e:Int},f<=z->z<=e->PO (rt (L+20) (n+60)) Gv [I z,I f,I e] (Bo true):=λa b=>(Us a b).o;rcases t with rfl|⟨D,c4,rfl⟩
 all_goals
  rewrite[HL];unfold Gq GO
  try rewrite[zO]
  try rewrite[bO]
  try rewrite[qO]
  try rewrite[cO]
  generalize rt (L+20) (n+60)=R at*
  conv=>lhs;whnf
  rewrite[N8 ?hc]
  case hc=>decide
  conv=>lhs;whnf
  rewrite[x]
  conv=>lhs;whnf
  rewrite[(v) false _ _ ?hq]
  case hq=>exact λK=>by kernel_rfl
  conv=>lhs;whnf
  rewrite[hb h1 (by omega)]
  conv=>lhs;whnf
  rewrite[hb h (by omega)]
  conv=>lhs;whnf
  rewrite[hb i (by omega)]
  conv=>lhs;whnf
  rewrite[hb j (by omega)]
  conv=>lhs;whnf
  rewrite[hb k (by omega)]
  conv=>lhs;whnf
  rewrite[EO]
  conv=>lhs;whnf
  rewrite[hr]
  conv=>lhs;whnf
  rewrite[hb c d]
  conv=>lhs;whnf
  rewrite[EO]
  conv=>lhs;whnf
  rewrite[T8 ?hc]
  case hc=>decide
  conv=>lhs;whnf
  rewrite[EO]
  conv=>lhs;whnf
  rewrite[T8 ?hc]
  case hc=>decide
  conv=>lhs;whnf
  rewrite[EO]
  conv=>lhs;whnf
  rewrite[N8 ?hc]
  case hc=>decide
  conv=>lhs;whnf
  rewrite[Nk]
  conv=>lhs;whnf
  rewrite[(w) false _ _ ?hq]
  case hq=>exact λK=>by kernel_rfl
  conv=>lhs;whnf
  rewrite[(hv) false _ _ ?hq]
  case hq=>exact λK=>by kernel_rfl
  conv=>lhs;whnf
  rewrite[N8 ?hc]
  case hc=>rfl
  conv=>lhs;whnf
  rewrite[lU u]
  conv=>lhs;whnf
  exact p _ _ (λb=>⟨false,λK=>by kernel_rfl⟩)
end
end
section
variable{L n:Nat}
attribute [local irreducible] Ak rt dK eBi C? cnd Al Ts A1
section
variable{m:ND}{u:UD}{ca cb ra rb:Ha}{T nds:AV}{kd id vd:Int}{r:RD}
def iD{n2:Nat}{c1 c2:Is}(d:Sl T)(c:∃n cs,nds=.list n cs)(e:LS (rt (L+20) (n+59)) Ht [.list n2 c1] (Bo true))(hv:LS (rt (L+20) (n+59)) EB [.agg (Bn id (.list n2 c2) nds u)] (Bo true)):
 CS (rt (L+20) (n+60)) Fp [.agg (Dj kd m u ca cb T ra rb (.list n2 c1) id (.list n2 c2) nds u r vd)] (Bo true):=by
 intro K a;obtain⟨f,c3,rfl⟩:=c;rcases d with rfl|⟨g,c4,rfl⟩
 all_goals
  rewrite[Pz];unfold Hf GO
  try rewrite[zO]
  try rewrite[bO]
  try rewrite[qO]
  try rewrite[cO]
  generalize rt (L+20) (n+59)=R at*
  conv=>lhs;whnf
  rewrite[(e) false _ _ ?hq]
  case hq=>exact λK=>by kernel_rfl
  conv=>lhs;whnf
  rewrite[(hv) false _ _ ?hq]
  case hq=>exact λK=>by kernel_rfl
  conv=>lhs;whnf
  rewrite[N8 ?hc]
  case hc=>rfl
  conv=>lhs;whnf
  rewrite[lU u]
  conv=>lhs;whnf
  exact a _ _ (λb=>⟨false,λK=>by kernel_rfl⟩)
end
end
section
variable{i:Nat}
variable{L n:Nat}
abbrev Ls(l:List Ha):AV:=.list l.length (Bj l)
def Ni{l:List Ha}{K:K2}:Bi Ad (Ls l) K=K (I l.length):=id rfl
def PR{l:List Ha}{K:K2}(h:i<l.length):Cy Ad (Ls l) (I i) K=K (.iptr [S l[i]]):=by
 rw[WL rfl (by simp[Bj]) (by omega) (by omega),XV,Mm h]
def IK{s:Ha}{H:Hp}{K:K2}:A9 Ag (.iptr [S s]) H K=K (S s):=Rm rfl
def Dc{ty:TI}{K:K2}(h:i<1000000000):Al ty .add (I i) (.v (.int .i64 1)) K=K (I ((i+1:Nat):Int)):=by
 rw[Ck,BX (by omega) (by omega),OK]
def FZ{ty:TI}{a b:Int}{K:K2}(h:a<b):Al ty .lss (I a) (I b) K=K (Bo true):=by rw[CA,Iz h]
def Ga{ty:TI}{a b:Int}{K:K2}(h:¬a<b):Al ty .lss (I a) (I b) K=K (Bo false):=by rw[CA,Iy h]
def B4{v:AV}{H:Hp}{K:K2}:Ai (some (v,H)) K=K v:=id rfl
section
variable{R:Rt}{K:KV}{ps:List Ha}{H:Hp}
def B40{a:AV->AV->KV}(d:i<ps.length)(hn:ps.Nodup)(hb:ps.length<100):∀(f j:Nat),j<=i->i-j<f->
 Jz (L+20) R K a f (Ls ps) (I i) (I j) H=a (Ls ps) (I i) (I i) H:=by
 intro f
 induction f with
 |zero=>intro j _ h;omega
 |succ f ih=>
  intro j k g;rw[ON];unfold J1 Mf Aq EV;by_cases h:j<i
  ·rw[FZ (by omega),Dg,PR (by omega),B4,IK,B4,PR d,B4,IK,B4,GK];have c:ps[j]≠ps[i]:=λe=>by
    have:=(List.getElem_inj (h₀:=by omega) (h₁:=d) hn).1 e;omega
   rw[Iy c,B4,B6,Dc (by omega)];exact ih (j+1) (by omega) (by omega)
  ·rw[Ga (by omega),B6];have:j=i:=by omega
   rw[this]
def B41{a:KV}(hn:ps.Nodup)(hb:ps.length<100)(e:ps.length<L+20)(d:∀s∈ps,s.length=32):∀(f i:Nat)(v:AV),i<=ps.length->ps.length-i<f->
 J0 (L+20) R K a f (Ls ps) (I i) v H=a (Ls ps) H:=by
 intro f
 induction f with
 |zero=>intro i v _ h;omega
 |succ f ih=>
  intro i v j g;rw[OO];unfold J2 GI Aq EV;rw[Ni];by_cases h:i<ps.length
  ·rw[FZ (by omega),Dg];simp only[Ca];rw[PR h,IK,MR rfl,d _ (Na h),GY];rw[show(!decide (((32:Nat):Int)=32))=false from rfl,B6];have c:(AV.v (.int .i64 0))=I ((0:Nat):Int):=rfl;rw[c,B40 h hn hb _ 0 (by omega) (by omega),Dc (by omega)];exact ih (i+1) _ (by omega) (by omega)
  ·rw[Ga (by omega),B6]
end
def pI{ps:List Ha}(hn:ps.Nodup)(f:1<=ps.length)(hb:ps.length<=6)(e:∀s∈ps,s.length=32):
 CS (r! L (n+1)) FO [Ls ps] (.tup [Bo true,I ps.length]):=by
 intro K d;rw[Qn];unfold Kq B3 Aq EV;simp only[Ca];have a:(AV.v (.int .i64 0))=I ((0:Nat):Int):=rfl;rw[a,B41 hn (by omega) (by omega) e _ 0 _ (by omega) (by omega),Ni,Kn,Iz (by omega)];have g:∀(x:Bool->Af),gdV true (Bo true) x=x true:=λx=>id rfl;have c:∀{v:AV}{H:Hp}{K:KV},DF (some (v,H)) K=K v H:=id rfl;simp only[g,c,Ni];rw[Yt,Iz (by omega)];exact d _ _ (λb=>⟨false,λK=>by kernel_rfl⟩)
end
section
variable{v:AV}{q0:Bool}{H H0:Hp}
variable{L n:Nat}
def Ef(l:List Ha):(Bj l).length=l.length:=by simp[Bj]
def pE(a b:List Ha):Bj a++Bj b=Bj (a++b):=by simp[Bj]
def A6W{l:List Ha}(b:Ha)(h:AT H A0 1 v l.length (Bj l))(w:Wf H)(hn:l.length<1000000000):
 ∃d a,(∀K:KV,(F4 A0 1 Ag 1 [(0,1,S b)] H λv1 j=>DJ A0 1 Ag Ad v v1 j K)=K d a)/\AT a A0 1 d (l++[b]).length (Bj (l++[b]))/\Wf a/\Ay H<=Ay a/\(∀s x,Ao H s=some x->¬AD v s->Ao a s=some x)/\(∀s,AD d s->Ay H<=s):=by
 have i:AT ((Ay H,.cells false A0 [S b])::H) A0 1 v l.length (Bj l):=h.lat w (Lat.cons H _ (λ_=>False)) (λ_ _ h=>h);have c:=Nn (H:=H) (e:=A0) (n:=1) (cs:=[S b]) rfl;obtain⟨d,a,h1,h2,k,m⟩:=apt (ie:=Ag) (i2:=Ad) i (λK=>Oz (K:=K) c) rfl rfl (by decide) rfl rfl (by show(l.length+1)*16<=_;omega) (by omega);have f:=(Lat.cons H (.cells false A0 [S b]) (AD v)).trans m (R:=AD v) (λ_ _ h=>h) (λ_ _ h=>h);refine⟨d,a,λK=>?_,by rw[E6,<-pE];exact h2,f.wf w,f.nx,λs x g hn=>f.keep w s x g hn,λs g=>?_⟩
 ·rw[ZI (z:=S []) (λ_=>rfl) (λ_=>rfl) rfl];exact h1 K
 ·rw[k s g];exact l1p _
def TO(c2 c6:AV)(p:Option (Option Code)):Row:=.loop 13 [(2,c2),(4,A7),(5,AV.dk),(6,c6),(7,AV.dk),(8,AV.dk),(9,AV.dk),(10,AV.dk),(11,AV.dk)] (AP).2.1 (AP).2.2.1 (AP).2.2.2 p
structure Coll(H0:Hp)(r0 s:Nat)(q0:Bool)(e0:Nat)(c6:AV)(l:List Ha)(v:AV)(H:Hp):Prop where
 at_:Ao H r0=some (.cells q0 e0 [v])
 sl:AT H A0 1 v l.length (Bj l)
 lp:Ao H s=some (TO (.ptr r0 0 0) c6 (some none))
 new:∀u,AD v u->u≠r0/\u≠s/\Ay H0<=u
 wf:Wf H
 keep:∀u y,Ao H0 u=some y->Ao H u=some y
 ne:r0≠s
 r0n:Ay H0<=r0
 sn:Ay H0<=s
 w0:Wf H0
variable{K:KV}{x:Af}
def A8H{r0 s e0:Nat}{c6 v:AV}{l:List Ha}{b:Ha}(h:Coll H0 r0 s q0 e0 c6 l v H)(hn:l.length<1000000000)(Z:∀d j,Coll H0 r0 s q0 e0 c6 (l++[b]) d j->K (Bo true) j=x):Dk (E (L+20)) (r! L (n+1)) (.yl s) [S b] H K=x:=by
 show OB (r! L (n+1)) s [S b] H K=x;rw[Vm h.lp (by kernel_rfl)];have t:(r! L (n+1)).run= λR=>Qy (E (L+20)) (r! L n) R:=rfl;rw[t,Fs,Vt h.lp];have O:=BF (r:=s) (y:=TO (.ptr r0 0 0) c6 none) h.wf;have k:Ao (upd H s (TO (.ptr r0 0 0) c6 none)) r0=some (.cells q0 e0 [v]):=by rw[Aj h.ne];exact h.at_
 have J:Ao (upd H s (TO (.ptr r0 0 0) c6 none)) s=some (TO (.ptr r0 0 0) c6 none):=Jk h.lp;have N:AT (upd H s (TO (.ptr r0 0 0) c6 none)) A0 1 v l.length (Bj l):=h.sl.lat h.wf (Lat.upd H s _ (P:=λu=>u=s) rfl) (λu c=>(h.new u c).2.1);have D:∀u y,Ao H0 u=some y->Ao (upd H s (TO (.ptr r0 0 0) c6 none)) u=some y:=λu y c=>by
  have:=h.w0.lt c;rw[Aj (by have:=h.sn;omega)];exact h.keep u y c
 show A9 Ad (.ptr r0 0 0) (upd H s (TO (.ptr r0 0 0) c6 none)) _=_;rw[AH (p:=0) rfl k (by simp)];show F4 A0 1 Ag 1 [(0,1,S b)] (upd H s (TO (.ptr r0 0 0) c6 none)) (λQ A=>DJ A0 1 Ag Ad v Q A _)=_;obtain⟨d,j,h1,h2,B,h4,C,V⟩:=A6W b N O hn;rw[h1];have n0:¬AD v r0:=λc=>(h.new r0 c).1 rfl;have ns:¬AD v s:=λc=>(h.new s c).2.1 rfl;have m:=C r0 _ k n0;have M:=C s _ J ns;have f:Br d=[d]/\AV.one d=true:=by
  rcases h2 with⟨rfl,_⟩|⟨a,b,rfl,_⟩<;>exact⟨rfl,rfl⟩
 rw[D9 (q:=q0) (e:=e0) (cs:=[v]) m (by simp) rfl f.1 f.2];have Y:Ay H0<=Ay H:=by have:=h.wf.lt h.at_;have:=h.r0n;omega
 have F:Ay (upd H s (TO (.ptr r0 0 0) c6 none))=Ay H:=CU _ _ _;have i:∀u,AD d u->u≠r0/\u≠s/\Ay H0<=u:=λu c=>by
  have a1:=V u c;rw[F]at a1;have a2:=h.wf.lt h.at_;have a3:=h.wf.lt h.lp;exact⟨by omega,by omega,by omega⟩
 have w:Ao (upd j r0 (.cells q0 e0 [d])) s=some (TO (.ptr r0 0 0) c6 none):=by rw[Aj h.ne.symm];exact M
 show FC (upd j r0 (.cells q0 e0 [d])) s false (some none) _=_;have g:=w;unfold TO at g;rw[Vs g];refine Z d _ ⟨?_,?_,?_,i,BF (BF B),λu y c=>?_,h.ne,h.r0n,h.sn,h.w0⟩
 ·rw[Aj h.ne];exact A4 m
 ·have a:=h2.lat B (Lat.upd j r0 (.cells q0 e0 [d]) (P:=λu=>u=r0) rfl) (λu c=>(i u c).1);exact a.lat (BF B) (Lat.upd _ s _ (P:=λu=>u=s) rfl) (λu c=>(i u c).2.1)
 ·exact Jk w
 ·have X:=h.w0.lt c;have b1:=h.r0n;have b2:=h.sn;rw[Aj (by omega),Aj (by omega)];refine C u y (D u y c) (λhv=>?_);have:=(h.new u hv).2.2;omega
def B5Z{r0 s e0:Nat}{c6:AV}{k3:Ru}{ps:List Ha}(hn:ps.length<1000000000)(d:∀v H,Coll H0 r0 s q0 e0 c6 ps v H->k3 H=x):
 ∀(f i:Nat)(v:AV)(H:Hp),i<=ps.length->ps.length-i<f->Coll H0 r0 s q0 e0 c6 (ps.take i) v H->
  Dx (L+20) (r! L (n+1)) K k3 f (.yl s) (Ls ps) (I ps.length) (I i) H=x:=by
 intro f
 induction f with
 |zero=>intro i v H _ h;omega
 |succ f ih=>
  intro i v H j g hc;rw[I6];unfold Dy GI Aq;by_cases h:i<ps.length
  ·rw[FZ (by omega),Dg,PR h,IK];refine A8H hc (by simp;omega) λe c a=>?_;rw[MQ];show A1 (.v (.bool false)) _ _=_;rw[B6,Dc (by omega)];rw[<-tE h]at a;exact ih (i+1) e c (by omega) (by omega) a
  ·rw[Ga (by omega),B6];have:i=ps.length:=by omega
   rw[this,mM]at hc;exact d v H hc
structure NewSl(H0:Hp)(l:List Ha)(v:AV)(H:Hp):Prop where
 sl:AT H A0 1 v l.length (Bj l)
 new:∀u,AD v u->Ay H0<=u
 wf:Wf H
 keep:∀u y,Ao H0 u=some y->Ao H u=some y
 nx:Ay H0<=Ay H
abbrev A4a(ps:List Ha):AV:=.fn (.func FG) [] [.iptr [Ls ps]]
def A28{ps:List Ha}(hn:ps.length<1000000000)(g:ps.length<L)(w:Wf H0)(f:∀v H,NewSl H0 ps v H->K v H=x):
 (r! L (n+4)).call FH [A4a ps] H0 K=x:=by
 rw[J9];unfold FD;rw[FE];unfold CI;simp only[Ca];rw[tW (by rfl),A0U,IY];unfold D7 Aq;simp only[Ca];have e:∀H K,A9 Ad (.iptr [Ls ps]) H K=K (Ls ps):=λH K=>Rm rfl;rw[e,Ni];have e0:(AV.v (.int .i64 0))=I ((0:Nat):Int):=rfl;rw[e0];have w1:=Bw (x:=.cells true BP [A7]) w;have c:=Av (H:=H0) (x:=.cells true BP [A7]) (by simp);have d:Ay ((Ay H0,c_ BP [A7])::H0)=Ay H0+1:=rfl;refine B5Z (n:=n) (H0:=H0) (r0:=Ay H0) (s:=Ay H0+1) (q0:=true) (e0:=BP) (c6:=A4a ps) hn ?_ (L+20) 0 A7 _ (by omega) (by omega) ⟨AQ (w1.lt c) c,.inl ⟨rfl,rfl,rfl⟩,Av (H:=((Ay H0,c_ BP [A7])::H0)) (x:=TO (.ptr (Ay H0) 0 0) (A4a ps) (some none)) (by simp[TO]),λu ⟨_,_,_,h⟩=>(by cases h),Bw w1,λu y a=>?_,by omega,by omega,by omega,w⟩
 ·intro v H hc;rw[d,BO hc.lp];show XA5 H (Ay H0+1) .gone _=x;rw[CX];have hr:Ao (upd H (Ay H0+1) .gone) (Ay H0)=some (c_ BP [v]):=by rw[Aj (by omega)];exact hc.at_
  show A9 Ad (.ptr (Ay H0) 0 0) (upd H (Ay H0+1) .gone) _=x;rw[AH (p:=0) rfl hr (by simp)];refine f _ _ ⟨?_,λu a=>(hc.new u a).2.2,BF hc.wf,λu y a=>?_,?_⟩
  ·exact hc.sl.lat hc.wf (Lat.upd H _ _ (P:=λu=>u=Ay H0+1) rfl) (λu a=>(hc.new u a).2.1)
  ·have:=w.lt a;rw[Aj (by omega)];exact hc.keep u y a
  ·rw[CU];have:=hc.wf.lt hc.at_;omega
 ·have a1:=AQ (x:=.cells true BP [A7]) (w.lt a) a;exact AQ (w1.lt a1) a1
def A3Y{ps:List Ha}(B:0<ps.length)(hn:ps.length<1000000000)(t:ps.length<L)(w:Wf H0)(A:∀v H,NewSl H0 (G9 ps) v H->K v H=x):
 (r! L (n+5)).call Gc [A4a ps] H0 K=x:=by
 rw[Ka];unfold FW;refine A28 hn t w λv H c=>?_;have j:=(D0 ps).length_eq;rcases c.sl with⟨_,h,_⟩|⟨r,q,rfl,i,hc⟩
 ·omega
 ·have p:∀K,(r! L (n+4)).call BS [.sl 1 r 0 ps.length] H K=Xq [.sl 1 r 0 ps.length] H K (dI (E (L+20)) (nT (L+20)) (r! L (n+3)) BS [.sl 1 r 0 ps.length] H K):=λK=>rfl;rw[p];have f:∀(l:List Ha),Un (Bj l)=some l:=λl=>by
   induction l with
   |nil=>rfl
   |cons a l ih=>show(Un (Bj l)).map _=_;rw[ih];rfl
  have s:∀alt K,Xq [.sl 1 r 0 ps.length] H K alt=D8 0 (Bj (G9 ps)) (Bj ps) λd=>XA5 H r (.cells q A0 d) λm=>K (.tup []) m:=λalt K=>by
   unfold Xq;simp only[i,l1n];rw[l1z (by rw[Ef];omega),f];have g:(Nat.beq ps.length ps.length&&(Nat.blt ps.length 4611686018427387904&&Nat.blt 0 ps.length))=true:=by simp;omega
   simp only[g];rfl
  rw[s,Ii _ _ _ _ (by rw[Ef,Ef];omega),Mp _ _ (by rw[Ef,Ef];exact j),CX];refine A _ _ ⟨.inr ⟨r,q,by rw[j],A4 i,by rw[Ef];omega⟩,λu ⟨_,_,_,e⟩=>?_,BF c.wf,λu y k=>?_,by rw[CU];exact c.nx⟩
  ·injection e with _ e
   subst e;exact c.new r ⟨1,0,ps.length,rfl⟩
  ·have a1:=w.lt k;have a2:=c.new r ⟨1,0,ps.length,rfl⟩;rw[Aj (by omega)];exact c.keep u y k
end
section
variable{H:Hp}{K:KV}{es:IH}{s:Nat}
variable{L n:Nat}
def A1w:lO (.imap es) H K=K (.it (Ay H)) ((Ay H,.iter es none)::H):=by
 have e:lO (.imap es) H K=GP H λs=>K (.it s) ((s,.iter es none)::H):=rfl;rw[e,BQ]
def qJ{e:Value×AV}{o:Option (Value×AV)}(h:Ao H s=some (.iter (e::es) o)):
 Yk (.it s) H K=NO (λe rest=>XA5 H s (.iter rest (some e)) λa=>K (.tup [.v (.bool true),pN e.1,e.2]) a) (e::es) []:=by
 have c:Yk (.it s) H K=IZ H s λx=>A1h x λl=>@List.rec (Value×AV) (λ_=>Af) (K (.tup [.v (.bool false)]) H)
  (λ_ _ _=>NO (λe rest=>XA5 H s (.iter rest (some e)) λa=>K (.tup [.v (.bool true),pN e.1,e.2]) a) l []) l:=rfl
 rw[c,BO h];rfl
def A6k{o:Option (Value×AV)}(h:Ao H s=some (.iter [] o)):Yk (.it s) H K=K (.tup [.v (.bool false)]) H:=by
 have c:Yk (.it s) H K=IZ H s λx=>A1h x λl=>@List.rec (Value×AV) (λ_=>Af) (K (.tup [.v (.bool false)]) H)
  (λ_ _ _=>NO (λe rest=>XA5 H s (.iter rest (some e)) λa=>K (.tup [.v (.bool true),pN e.1,e.2]) a) l []) l:=rfl
 rw[c,BO h];rfl
def A33{p:Value×AV}{K:K2}(h:Ao H s=some (.iter es (some p))):lV (.it s) H K=K (.tup [pN p.1,p.2]):=by
 have a:lV (.it s) H K=IZ H s λx=>A5C x λp=>K (.tup [pN p.1,p.2]):=rfl;rw[a,BO h];rfl
def A0c{a:AV}{l:Is}{K:K2}:Cg (.tup (a::l)) 0 K=K a:=id rfl
def A2s{F:Value×AV->IH->Af}{v:AV}(hv:oN 6 v v=true):∀(l pre:IH),l≠[]->(∀l1 e l2,l=l1++e::l2->F e (pre++(l1++l2))=some (v,[]))->NO F l pre=some (v,[]):=by
 intro l
 induction l with
 |nil=>intro _ h;exact absurd rfl h
 |cons e l ih=>
  intro pre _ h;have a:=h [] e l rfl;rw[l30]at a;cases l with
  |nil=>rw[jK];rw[fV]at a;exact a
  |cons f l=>
   rw[ZU,a,ih (pre++[e]) (by simp) λl1 c l2 d=>?_]
   ·show(match oN 6 v v with|true=>some (v,[])|false=>none)=_;rw[hv]
   ·have:=h (e::l1) c l2 (by rw[d];rfl);rw[fW];exact this
def B46{α:Type}{f:α->AV}{es:List (Ha×α)}{it:Nat}{o:Option (Value×AV)}{w:AV}(t:oN 6 w w=true)(d:Ao H it=some (.iter (es.map λe=>(.string ⟨⟨e.1⟩⟩,f e.2)) o))(i:es=[]->K (.tup [.v (.bool false)]) H=some (w,[]))(h1:∀a e b,es=a++e::b->K (.tup [.v (.bool true),S e.1,f e.2]) (upd H it (.iter ((a++b).map λe=>(.string ⟨⟨e.1⟩⟩,f e.2)) (some (.string ⟨⟨e.1⟩⟩,f e.2))))=some (w,[])):Yk (.it it) H K=some (w,[]):=by
 cases es with
 |nil=>rw[A6k d];exact i rfl
 |cons e es=>
  rw[Zm]at d;rw[qJ d];refine A2s t _ [] (by simp) λu p x h=>?_;rw[<-Zm (f:=λe:Ha×α=>((Value.string ⟨⟨e.1⟩⟩:Value),f e.2))]at h;obtain⟨a,c,h2,j,k⟩:=List.map_eq_append_iff.1 h;obtain⟨g,b,m,q,r⟩:=List.map_eq_cons_iff.1 k;subst m j q r;rw[CX,l30,<-UT];exact h1 a g b h2
end
section
variable{n:Nat}{α:Type}
structure Ce(κ:Type) where
 real:Bool
 ps:List κ
section
variable{κ:Type}[DecidableEq κ]{g:List (κ×Ce κ)}
def Qh:List (κ×α)->κ->Option α
 |[],_=>none
 |e::g,x=>if e.1=x then some e.2 else Qh g x
def rz(g:List (κ×Ce κ)):Nat->κ->Bool
 |0,_=>false
 |n+1,x=>match Qh g x with
  |none=>false
  |some c=>(c.real|| !c.ps.isEmpty)&&c.ps.all (rz g n)
def Rz(g:List (κ×Ce κ))(x:κ):Prop:=∃n,rz g n x=true
def Ss{x:κ}:rz g (n+1) x=true↔∃c,Qh g x=some c/\(c.real=true\/c.ps≠[])/\∀p∈c.ps,rz g n p=true:=by
 rw[show rz g (n+1) x=(match Qh g x with
  |none=>false
  |some c=>(c.real|| !c.ps.isEmpty)&&c.ps.all (rz g n)) from rfl]
 cases Qh g x with
 |none=>simp
 |some c=>simp[Gb]
def Xs:∀(n:Nat)(x:κ),rz g n x=true->rz g (n+1) x=true:=by
 intro n
 induction n with
 |zero=>intro x h;cases h
 |succ n ih=>
  intro x h;obtain⟨c,h1,h2,a⟩:=Ss.1 h;exact Ss.2 ⟨c,h1,h2,λp d=>ih p (a p d)⟩
def A0T{n m:Nat}{x:κ}(h:n<=m)(h1:rz g n x=true):rz g m x=true:=by
 induction h with
 |refl=>exact h1
 |step _ ih=>exact Xs _ _ ih
def B5i{l:List κ}(h:∀p∈l,Rz g p):∃n,∀p∈l,rz g n p=true:=by
 induction l with
 |nil=>exact⟨0,by simp⟩
 |cons a l ih=>
  obtain⟨n,hn⟩:=ih λp c=>h p (by simp[c]);obtain⟨m,hm⟩:=h a (by simp);refine⟨max n m,λp c=>?_⟩;rcases Rx.1 c with rfl|c
  ·exact A0T (by omega) hm
  ·exact A0T (by omega) (hn p c)
def A74{x:κ}:Rz g x↔∃c,Qh g x=some c/\(c.real=true\/c.ps≠[])/\∀p∈c.ps,Rz g p:=by
 constructor
 ·rintro⟨n,h⟩;cases n with
  |zero=>cases h
  |succ n=>
   obtain⟨c,h1,h2,a⟩:=Ss.1 h;exact⟨c,h1,h2,λp d=>⟨n,a p d⟩⟩
 ·rintro⟨c,h1,h2,a⟩;obtain⟨n,hn⟩:=B5i a;exact⟨n+1,Ss.2 ⟨c,h1,h2,hn⟩⟩
def gB{x:κ}{c:α}:∀{g:List (κ×α)},Qh g x=some c->(x,c)∈g:=by
 intro g
 induction g with
 |nil=>intro h;cases h
 |cons e g ih=>
  intro h;unfold Qh at h;split at h
  ·rename_i a;cases h;subst a;simp
  ·simp[ih h]
def rzN(g:List (κ×Ce κ))(n:Nat):Nat:=(g.filter λe=>rz g n e.1).length
def qB{p q:α->Bool}{l:List α}(h:∀a∈l,p a=true->q a=true){a:α}(d:a∈l)(h1:q a=true)(h2:p a=false):(l.filter p).length<(l.filter q).length:=by
 induction l with
 |nil=>cases d
 |cons b l ih=>
  have mono:∀l:List α,(∀a∈l,p a=true->q a=true)->(l.filter p).length<=(l.filter q).length:=by
   intro l
   induction l with
   |nil=>intro _;simp
   |cons c l ih=>
    intro h;have:=ih λa d=>h a (by simp[d]);rw[l2h,l2h];have e:=h c (by simp);cases f:p c<;>cases hq:q c<;>simp_all<;>omega
  have i:=mono l λa d=>h a (by simp[d]);rw[l2h,l2h];rcases Rx.1 d with rfl|d
  ·rw[h1,h2];simp;omega
  ·have:=ih (λa d=>h a (by simp[d])) d;have e:=h b (by simp);cases f:p b<;>cases hq:q b<;>simp_all<;>omega
def A8B(n:Nat):(∀m x,rz g m x=true->rz g n x=true)\/n<=rzN g n:=by
 induction n with
 |zero=>exact .inr (xQ _)
 |succ n ih=>
  rcases ih with ih|ih
  ·exact .inl λm x h=>Xs _ _ (ih m x h)
  ·by_cases i:∀x,rz g (n+1) x=true->rz g n x=true
   ·left;have:∀m x,rz g m x=true->rz g n x=true:=by
     intro m
     induction m with
     |zero=>intro x h;cases h
     |succ m f=>
      intro x h;obtain⟨c,h1,h2,j⟩:=Ss.1 h;exact i x (Ss.2 ⟨c,h1,h2,λp k=>f p (j p k)⟩)
    exact λm x h=>Xs _ _ (this m x h)
   ·right;have⟨x,d⟩:∃x,rz g (n+1) x=true/\¬rz g n x=true:=l2x λhc=>i λx d=>l2x λhn=>hc ⟨x,d,hn⟩;obtain⟨c,h1,_,_⟩:=Ss.1 d.1;have:=qB (p:=λe=>rz g n e.1) (q:=λe=>rz g (n+1) e.1) (l:=g) (λa _ h=>Xs _ _ h) (gB h1) d.1 (by simpa using d.2);show n+1<=(g.filter λe=>rz g (n+1) e.1).length;have:n<=(g.filter λe=>rz g n e.1).length:=ih;omega
def B5n{x:κ}:Rz g x↔rz g g.length x=true:=by
 constructor
 ·rintro⟨m,h⟩;rcases A8B (g:=g) g.length with a|a
  ·exact a m x h
  ·have:∀e∈g,rz g g.length e.1=true:=by
    have h1:(g.filter λe=>rz g g.length e.1).length=g.length:=Nat.le_antisymm (l2v _ _) a;exact List.length_filter_eq_length_iff.1 h1
   cases m with
   |zero=>cases h
   |succ m=>
    obtain⟨c,h1,_,_⟩:=Ss.1 h;exact this _ (gB h1)
 ·exact λh=>⟨_,h⟩
inductive Rc(g:List (κ×Ce κ)):κ->κ->Prop
 |one {x y:κ} {c:Ce κ}:Qh g x=some c->y∈c.ps->Rc g x y
 |more {x y z:κ}:Rc g x y->Rc g y z->Rc g x z
theorem Rc.rz{x y:κ}(h:Rc g x y):∀n,rz g n x=true->∃m,m<n/\rz g m y=true:=by
 induction h with
 |one h1 h2=>
  intro n h;cases n with
  |zero=>cases h
  |succ n=>
   obtain⟨c,e,_,a⟩:=Ss.1 h;rw[h1]at e;cases e;exact⟨n,Nat.lt_succ_self n,a _ h2⟩
 |more _ _ i1 i2=>
  intro n h;obtain⟨m,h1,h2⟩:=i1 n h;obtain⟨k,a,d⟩:=i2 m h2;exact⟨k,by omega,d⟩
def Rc.no{x:κ}(h:Rc g x x):¬Rz g x:=by
 rintro⟨n,hn⟩
 induction n using Nat.strongRecOn with
 |_ n ih=>
  obtain⟨m,h1,h2⟩:=h.rz n hn;exact ih m h1 h2
def KZ(b:List (κ×α))(x:κ)(v:α):List (κ×α):=match b with
 |[]=>[(x,v)]
 |e::b=>if e.1=x then(e.1,v)::b else e::KZ b x v
def HO{b:List (κ×α)}{x y:κ}{v:α}:Qh (KZ b x v) y=if x=y then some v else Qh b y:=by
 induction b with
 |nil=>rfl
 |cons e b ih=>
  unfold KZ;by_cases h:e.1=x
  ·rw[CJ h];simp only[Qh];subst h;by_cases h1:e.1=y<;>simp[h1]
  ·rw[Co h];simp only[Qh,ih];by_cases h1:x=y
   ·subst h1;simp[h]
   ·simp[h1]
def zM(f:κ->List (κ×Bool)->Option (Bool×List (κ×Bool))):List κ->Bool->List (κ×Bool)->Option (Bool×List (κ×Bool))
 |[],a,b=>some (a,b)
 |p::ps,a,b=>if a then(match f p b with|none=>none|some (v,c)=>zM f ps v c) else zM f ps a b
def dfs(g:List (κ×Ce κ)):Nat->κ->List (κ×Bool)->Option (Bool×List (κ×Bool))
 |0,_,_=>none
 |n+1,x,b=>match Qh b x with
  |some v=>some (v,b)
  |none=>match Qh g x with
   |none=>some (false,KZ (KZ b x false) x false)
   |some c=>match zM (dfs g n) c.ps (c.real|| !c.ps.isEmpty) (KZ b x false) with
    |none=>none
    |some (v,a)=>some (v,KZ a x v)
def XT(g:List (κ×Ce κ))(b:List (κ×Bool)):Nat:=(g.filter λe=>(Qh b e.1).isNone).length
structure InvD(g:List (κ×Ce κ))(st:List κ)(b:List (κ×Bool)):Prop where
 t:∀y,Qh b y=some true->Rz g y
 f:∀y,Qh b y=some false->y∈st\/¬Rz g y
def A3t(b a:List (κ×Bool)):Prop:=∀y,Qh b y≠none->Qh a y≠none
def W!{b a:List (κ×Bool)}(h:A3t b a):XT g a<=XT g b:=by
 unfold XT
 induction g with
 |nil=>simp
 |cons e g ih=>
  rw[l2h,l2h];have:=h e.1;cases h1:Qh b e.1<;>cases h2:Qh a e.1<;>simp_all<;>omega
def B07{f:κ->List (κ×Bool)->Option (Bool×List (κ×Bool))}{st:List κ}{k:Nat}(A:∀p b,InvD g st b->(∀s∈st,Rc g s p)->XT g b<k->∃v c,f p b=some (v,c)/\(v=true↔Rz g p)/\InvD g st c/\A3t b c):
 ∀(ps:List κ)(a:Bool)(b:List (κ×Bool)),InvD g st b->(∀p∈ps,∀s∈st,Rc g s p)->XT g b<k->
  ∃v c,zM f ps a b=some (v,c)/\(v=true↔a=true/\∀p∈ps,Rz g p)/\InvD g st c/\A3t b c:=by
 intro ps
 induction ps with
 |nil=>intro a b e _ _;exact⟨a,b,rfl,by simp,e,λ_ h=>h⟩
 |cons p ps ih=>
  intro a b e m hk;unfold zM;cases a with
  |false=>
   obtain⟨v,c,h1,h2,j,d⟩:=ih false b e (λq hq=>m q (by simp[hq])) hk;exact⟨v,c,h1,by rw[h2];simp,j,d⟩
  |true=>
   obtain⟨v,c,h1,h2,j,d⟩:=A p b e (m p (by simp)) hk;obtain⟨w,i,r,t,u,x⟩:=ih v c j (λq hq=>m q (by simp[hq])) (Nat.lt_of_le_of_lt (W! d) hk);refine⟨w,i,?_,?_,u,λy B=>x y (d y B)⟩
   ·simp only[h1,if_true];exact r
   ·rw[t,h2];simp
def B54:∀(n:Nat)(st:List κ)(x:κ)(b:List (κ×Bool)),InvD g st b->(∀s∈st,Rc g s x)->XT g b<n->
 ∃v i,dfs g (n+1) x b=some (v,i)/\(v=true↔Rz g x)/\InvD g st i/\A3t b i:=by
 intro n
 induction n with
 |zero=>intro st x b _ _ h;omega
 |succ n ih=>
  intro st x b m H hk;unfold dfs;cases C:Qh b x with
  |some v=>
   refine⟨v,b,rfl,?_,m,λ_ h=>h⟩;cases v with
   |true=>simp[m.t x C]
   |false=>
    simp only[mL,false_iff];rcases m.f x C with h|h
    ·exact(H x h).no
    ·exact h
  |none=>
   have j:∀{i:List (κ×Bool)}{v:Bool},A3t (KZ b x false) i->A3t b (KZ i x v):=by
    intro i v h y L;rw[HO];split
    ·simp
    ·have:=h y;rw[HO]at this;split at this
     ·exact this (by simp)
     ·exact this L
   cases r:Qh g x with
   |none=>
    have hn:¬Rz g x:=λh=>by obtain⟨c,h1,_⟩:=A74.1 h;rw[r]at h1;cases h1
    refine⟨false,_,rfl,by simp[hn],⟨λy h=>?_,λy h=>?_⟩,j λ_ h=>h⟩
    ·rw[HO]at h;split at h
     ·cases h
     ·rw[HO]at h;split at h
      ·cases h
      ·exact m.t y h
    ·rw[HO]at h;split at h
     ·rename_i e;subst e;exact .inr hn
     ·rw[HO]at h;split at h
      ·rename_i e;subst e;exact .inr hn
      ·exact m.f y h
   |some c=>
    have w:(x,c)∈g:=gB r;have D:XT g (KZ b x false)<n:=by
     have:XT g (KZ b x false)<XT g b:=by
      refine qB (a:=(x,c)) ?_ w ?_ ?_
      ·intro a _ h;rw[HO]at h;split at h
       ·cases h
       ·exact h
      ·simp[C]
      ·simp[HO]
     omega
    have u:InvD g (x::st) (KZ b x false):=by
     refine⟨λy h=>?_,λy h=>?_⟩
     ·rw[HO]at h;split at h
      ·cases h
      ·exact m.t y h
     ·rw[HO]at h;split at h
      ·rename_i e;subst e;exact .inl (by simp)
      ·rcases m.f y h with h|h
       ·exact .inl (by simp[h])
       ·exact .inr h
    obtain⟨v,i,h1,h2,F,J⟩:=B07 (f:=dfs g (n+1)) (k:=n) (st:=x::st) (λp b hb A hk=>ih (x::st) p b hb A hk) c.ps (c.real|| !c.ps.isEmpty) (KZ b x false) u (λp A s q=>by
     rcases Rx.1 q with rfl|q
     ·exact .one r A
     ·exact .more (H s q) (.one r A)) D
    have hv:v=true↔Rz g x:=by
     rw[h2,A74];constructor
     ·rintro⟨d,B⟩;exact⟨c,r,by simpa using d,B⟩
     ·rintro⟨M,d,B,K⟩;rw[r]at d;cases d;exact⟨by simpa using B,K⟩
    refine⟨v,KZ i x v,?_,hv,⟨λy h=>?_,λy h=>?_⟩,j J⟩
    ·simp only[h1]
    ·rw[HO]at h;split at h
     ·rename_i e;subst e;exact hv.1 (by cases h;rfl)
     ·exact F.t y h
    ·rw[HO]at h;split at h
     ·rename_i e;subst e;exact .inr λhr=>by have:=hv.2 hr;rw[this]at h;cases h
     ·rcases F.f y h with d|d
      ·rcases Rx.1 d with rfl|d
       ·contradiction
       ·exact .inl d
      ·exact .inr d
def B06(x:κ):∃a,dfs g (g.length+2) x []=some (rz g g.length x,a):=by
 obtain⟨v,a,h1,h2,_,_⟩:=B54 (g:=g) (g.length+1) [] x [] ⟨λy h=>(by cases h),λy h=>(by cases h)⟩ (by simp) (Nat.lt_succ_of_le (l2v _ _));refine⟨a,?_⟩;rw[h1];have:v=rz g g.length x:=by rw[eZ,h2,B5n]
 rw[this]
end
end
section
variable{m:AV}{r:Nat}{ie:TI}
abbrev SV(s:Ha):Value:=.string ⟨⟨s⟩⟩
section
variable{α:Type}{f:α->AV}{b:List (Ha×α)}{x:Ha}{H:Hp}
abbrev Rb(f:α->AV)(b:List (Ha×α)):IH:=b.map λe=>(SV e.1,f e.2)
def fC(x:Ha):List (Ha×α)->Nat->Option (Nat×α)
 |[],_=>none
 |e::b,i=>if e.1=x then some (i,e.2) else fC x b (i+1)
def Zz{e:Ha×α}{i:Nat}:fC x (e::b) i=if e.1=x then some (i,e.2) else fC x b (i+1):=rfl
def B7l{s u:Ha}:keq (SV s) (SV u)=some (decide (u=s)):=by
 show some (yO s u)=_;rw[LO];by_cases h:s=u
 ·subst h;simp
 ·simp[h,Ne.symm h]
def A5G:∀(b:List (Ha×α))(i:Nat),UU (SV x) (Rb f b) i=some ((fC x b i).map λp=>(p.1,f p.2)):=by
 intro b
 induction b with
 |nil=>intro i;rfl
 |cons e b ih=>
  intro i;show UU (SV x) ((SV e.1,f e.2)::Rb f b) i=_;rw[Td,B7l,ih,Zz];by_cases h:e.1=x
  ·simp[h]
  ·simp[h]
def yJ:∀(b:List (Ha×α))(i:Nat),(fC x b i).map (·.2)=Qh b x:=by
 intro b
 induction b with
 |nil=>intro i;rfl
 |cons e b ih=>
  intro i;rw[Zz];unfold Qh;by_cases h:e.1=x
  ·simp[h]
  ·simp[h,ih]
def A61(v:α):∀(b:List (Ha×α))(i:Nat),(match fC x b i with|none=>b++[(x,v)]|some (j,_)=>b.set (j-i) (x,v))=KZ b x v/\(∀j w,fC x b i=some (j,w)->i<=j):=by
 intro b
 induction b with
 |nil=>intro i;exact⟨rfl,λj w h=>by cases h⟩
 |cons e b ih=>
  intro i;rw[Zz];unfold KZ;by_cases h:e.1=x
  ·refine⟨?_,λj w a=>?_⟩
   ·simp[h]
   ·simp[h]at a;omega
  ·obtain⟨h1,h2⟩:=ih (i+1);refine⟨?_,λj w a=>?_⟩
   ·rw[Co h,Co h,<-h1];cases d:fC x b (i+1) with
    |none=>rfl
    |some p=>
     obtain⟨j,w⟩:=p;have:=h2 j w d;have c:j-i=(j-(i+1))+1:=by omega
     simp only[c,List.set_cons_succ]
   ·rw[Co h]at a;have:=h2 j w a;omega
def V2{es:IH}{a:Option (Hb×Nat)}{K:IH->Af}(h:Ao H r=some (.map false es a)):Z_ (.mp r) H K=K es:=by
 show IZ H r _=_;rw[BO h];rfl
def kfK{K:Option (Nat×AV)->Af}:HN (SV x) (Rb f b) K=K ((fC x b 0).map λp=>(p.1,f p.2)):=by
 unfold HN;rw[A5G]
theorem Ve{K:K2}(h:∀K,Z_ m H K=K (Rb f b)):VU ie true m (SV x) H K=match Qh b x with
 |some v=>K (.tup [f v,Bo true])
 |none=>K (.tup [ie.zero,Bo false]):=by
 unfold VU;rw[h,kfK,<-yJ b 0];cases fC x b 0<;>rfl
theorem B03{K:K2}(h:∀K,Z_ m H K=K (Rb f b)):VU ie false m (SV x) H K=match Qh b x with
 |some v=>K (f v)
 |none=>K ie.zero:=by
 unfold VU;rw[h,kfK,<-yJ b 0];cases fC x b 0<;>rfl
def Yl{v:α}{K:Ru}(h:Ao H r=some (.map false (Rb f b) none)):VT (.mp r) (SV x) (f v) H K=K (upd H r (.map false (Rb f (KZ b x v)) none)):=by
 have e:VT (.mp r) (SV x) (f v) H K=IZ H r λy=>XQ y λa c=>HN (SV x) a λq=>match q with
  |none=>XA5 H r (.map false (a++[(SV x,f v)]) (A6N c)) K
  |some (i,_)=>XA5 H r (.map false (a.set i (SV x,f v)) c) K:=rfl
 rw[e,BO h];show HN (SV x) (Rb f b) _=_;rw[kfK];obtain⟨h1,h2⟩:=A61 (x:=x) v b 0;cases d:fC x b 0 with
 |none=>
  rw[d]at h1;show XA5 H r (.map false (Rb f b++[(SV x,f v)]) none) K=_;rw[CX,<-h1,Rb,Rb,UT];rfl
 |some p=>
  obtain⟨j,w⟩:=p;rw[d]at h1;show XA5 H r (.map false ((Rb f b).set j (SV x,f v)) none) K=_;rw[CX,<-h1,Rb,Rb,List.map_set,Nat.sub_zero]
end
end
section
variable{v:AV}{H:Hp}
variable{L n:Nat}
abbrev uS:Unit->AV:=λ_=>.agg []
section
variable{K:KV}{x:Af}
def A8G{H0 H:Hp}{r0 s e0:Nat}{q0:Bool}{c6 v:AV}{l:List Ha}{b:Ha}(h:Coll H0 r0 s q0 e0 c6 l v H)(hn:l.length<1000000000)(hx:∀d f,Coll H0 r0 s q0 e0 c6 (l++[b]) d f->(∀u y,u≠r0->u≠s->¬AD v u->Ao H u=some y->Ao f u=some y)->(∀u,AD d u->Ay H<=u)->K (Bo true) f=x):Dk (E (L+20)) (r! L (n+1)) (.yl s) [S b] H K=x:=by
 show OB (r! L (n+1)) s [S b] H K=x;rw[Vm h.lp (by kernel_rfl)];have C:(r! L (n+1)).run= λV=>Qy (E (L+20)) (r! L n) V:=rfl;rw[C,Fs,Vt h.lp];have Q:=BF (r:=s) (y:=TO (.ptr r0 0 0) c6 none) h.wf;have A:Ao (upd H s (TO (.ptr r0 0 0) c6 none)) r0=some (.cells q0 e0 [v]):=by rw[Aj h.ne];exact h.at_
 have M:Ao (upd H s (TO (.ptr r0 0 0) c6 none)) s=some (TO (.ptr r0 0 0) c6 none):=Jk h.lp;have O:AT (upd H s (TO (.ptr r0 0 0) c6 none)) A0 1 v l.length (Bj l):=h.sl.lat h.wf (Lat.upd H s _ (P:=λu=>u=s) rfl) (λu c=>(h.new u c).2.1);show A9 Ad (.ptr r0 0 0) (upd H s (TO (.ptr r0 0 0) c6 none)) _=_;rw[AH (p:=0) rfl A (by simp)];show F4 A0 1 Ag 1 [(0,1,S b)] (upd H s (TO (.ptr r0 0 0) c6 none)) (λR F=>DJ A0 1 Ag Ad v R F _)=_;obtain⟨d,f,h1,h2,t,h4,J,X⟩:=A6W b O Q hn;rw[h1];have n0:¬AD v r0:=λc=>(h.new r0 c).1 rfl;have ns:¬AD v s:=λc=>(h.new s c).2.1 rfl;have B:=J r0 _ A n0;have N:=J s _ M ns;have i:Br d=[d]/\AV.one d=true:=by
  rcases h2 with⟨rfl,_⟩|⟨a,b,rfl,_⟩<;>exact⟨rfl,rfl⟩
 rw[D9 (q:=q0) (e:=e0) (cs:=[v]) B (by simp) rfl i.1 i.2];have aa:Ay H0<=Ay H:=by have:=h.wf.lt h.at_;have:=h.r0n;omega
 have Z:Ay (upd H s (TO (.ptr r0 0 0) c6 none))=Ay H:=CU _ _ _;have g:∀u,AD d u->Ay H<=u:=λu c=>by have:=X u c;omega
 have k:∀u,AD d u->u≠r0/\u≠s/\Ay H0<=u:=λu c=>by
  have a1:=g u c;have a2:=h.wf.lt h.at_;have a3:=h.wf.lt h.lp;exact⟨by omega,by omega,by omega⟩
 have D:Ao (upd f r0 (.cells q0 e0 [d])) s=some (TO (.ptr r0 0 0) c6 none):=by rw[Aj h.ne.symm];exact N
 show FC (upd f r0 (.cells q0 e0 [d])) s false (some none) _=_;have j:=D;unfold TO at j;rw[Vs j];have kp:∀u y,u≠r0->u≠s->¬AD v u->Ao H u=some y->Ao (upd (upd f r0 (.cells q0 e0 [d])) s (TO (.ptr r0 0 0) c6 (some none))) u=some y:=λu y h1 h2 t c=>by
  rw[Aj h2,Aj h1];exact J u y (by rw[Aj h2];exact c) t
 refine hx d _ ⟨?_,?_,?_,k,BF (BF t),λu y c=>?_,h.ne,h.r0n,h.sn,h.w0⟩ kp g
 ·rw[Aj h.ne];exact A4 B
 ·have a:=h2.lat t (Lat.upd f r0 (.cells q0 e0 [d]) (P:=λu=>u=r0) rfl) (λu c=>(k u c).1);exact a.lat (BF t) (Lat.upd _ s _ (P:=λu=>u=s) rfl) (λu c=>(k u c).2.1)
 ·exact Jk D
 ·have Y:=h.w0.lt c;have b1:=h.r0n;have b2:=h.sn;exact kp u y (by omega) (by omega) (λhv=>by have:=(h.new u hv).2.2;omega) (h.keep u y c)
theorem Coll.it{H0 H:Hp}{r0 s e0 it:Nat}{q0:Bool}{c6 v:AV}{l:List Ha}(h:Coll H0 r0 s q0 e0 c6 l v H)(y:Row)(h1:it≠r0/\it≠s/\Ay H0<=it)(h2:¬AD v it):Coll H0 r0 s q0 e0 c6 l v (upd H it y):=
 ⟨by rw[Aj h1.1.symm];exact h.at_,h.sl.lat h.wf (Lat.upd H it y (P:=λu=>u=it) rfl) (λu a e=>h2 (e▸a)),by rw[Aj h1.2.1.symm];exact h.lp,h.new,BF h.wf,λu z a=>by rw[Aj (by have:=h.w0.lt a;omega)];exact h.keep u z a,h.ne,h.r0n,h.sn,h.w0⟩
def U_{r:Nat}{x:Row}{es:IH}{o:Option (Value×AV)}(h:Ao H r=some x):Ao (upd H r (.iter es o)) r=some (.iter es o):=(Et h).trans rfl
end
section
variable{K:KV}{w:AV}{H0:Hp}{m rb:Nat}{es:List (Ha×Unit)}
def B1t{x:Af}{ps:List Ha}(wf:Wf H0)(hn:ps.length<1000000000)(D:ps=[]->v=A7)(d:NewSl H0 ps v H)(A:∀f,NewSl H0 (G9 ps) v f->K (.tup []) f=x):
 (r! L (n+4)).call BS [v] H K=x:=by
 by_cases c:ps=[]
 ·subst c;obtain rfl:=D rfl;have e:(r! L (n+4)).call BS [A7] H K=K (.tup []) H:=by kernel_rfl
  rw[e];exact A H d
 have s:=(D0 ps).length_eq;rcases d.sl with⟨_,h,_⟩|⟨r,q,rfl,p,hc⟩
 ·exact absurd (tC h) c
 ·have B:∀K,(r! L (n+4)).call BS [.sl 1 r 0 ps.length] H K=Xq [.sl 1 r 0 ps.length] H K (dI (E (L+20)) (nT (L+20)) (r! L (n+3)) BS [.sl 1 r 0 ps.length] H K):=λK=>rfl;rw[B];have k:∀(l:List Ha),Un (Bj l)=some l:=λl=>by
   induction l with
   |nil=>rfl
   |cons a l ih=>show(Un (Bj l)).map _=_;rw[ih];rfl
  have t:0<ps.length:=List.length_pos_iff.2 c;have C:∀alt K,Xq [.sl 1 r 0 ps.length] H K alt=D8 0 (Bj (G9 ps)) (Bj ps) λj=>XA5 H r (.cells q A0 j) λf=>K (.tup []) f:=λalt K=>by
   unfold Xq;simp only[p,l1n];rw[l1z (by rw[Ef];omega),k];have g:(Nat.beq ps.length ps.length&&(Nat.blt ps.length 4611686018427387904&&Nat.blt 0 ps.length))=true:=by simp;omega
   simp only[g];rfl
  rw[C,Ii _ _ _ _ (by rw[Ef,Ef];omega),Mp _ _ (by rw[Ef,Ef];exact s),CX];refine A _ ⟨.inr ⟨r,q,by rw[s],A4 p,by rw[Ef];omega⟩,λu i=>d.new u i,BF d.wf,λu y i=>?_,by rw[CU];exact d.nx⟩;have a1:=wf.lt i;have a2:=d.new r ⟨1,0,ps.length,rfl⟩;rw[Aj (by omega)];exact d.keep u y i
end
end
section
variable{q:Bool}{H:Hp}{e i r:Nat}{R:Rt}
variable{L n:Nat}{K:KV}{x:Af}
def ZQ{ty:TI}{K:K2}(a:0<i)(h:i<1000000000):Al ty .sub (I i) (.v (.int .i64 1)) K=K (I ((i-1:Nat):Int)):=by
 rw[Gx,BX (by omega) (by omega)];have:(i:Int)-1=((i-1:Nat):Int):=by omega
 rw[this]
def tU{l:List Ha}{K:K2}(a:Ao H r=some (.cells q e (Bj l)))(h:i<l.length):A9 Ag (.ptr r i 0) H K=K (S l[i]):=by
 rw[AH (p:=i) rfl a (by rw[Ef];exact h),Mm h]
def gH{r i m:Nat}{K:K2}(h:i<m):Cy Ad (.sl 1 r 0 m) (I i) K=K (.ptr r i 0):=by
 rw[tV rfl (by omega) (by omega),XV]
def B59{d:KV}{l:List Ha}(c:Ao H r=some (.cells q e (Bj l)))(hn:l.Nodup)(hb:l.length<1000000000):∀(f i:Nat)(v w:AV),1<=i->i<=l.length->l.length-i<f->
 Eb (L+20) R K d f (.sl 1 r 0 l.length) (I i) v w H=d (.sl 1 r 0 l.length) H:=by
 intro f
 induction f with
 |zero=>intro i v w _ _ h;omega
 |succ f ih=>
  intro i v w h1 k j;rw[JC];unfold Ec Mf Aq;have g:∀K,Bi Ad (.sl 1 r 0 l.length) K=K (I l.length):=λK=>id rfl;rw[g];by_cases h:i<l.length
  ·rw[FZ (by omega),Dg,gH h,B4,tU c h,B4,ZQ (by omega) (by omega),B4,gH (by omega),B4,tU c (by omega),B4,GK];have a:l[i]≠l[i-1]:=λe=>by
    have:=(List.getElem_inj (h₀:=h) (h₁:=by omega) hn).1 e;omega
   rw[Iy a,B4,B6,Dc (by omega)];exact ih (i+1) _ _ (by omega) (by omega) (by omega)
  ·rw[Ga (by omega),B6]
def A27{l:List Ha}(d:Ao H r=some (.cells q e (Bj l)))(hn:l.Nodup)(hb:l.length<1000000000)(f:l.length<L):
 (r! L (n+1)).call Dd [.sl 1 r 0 l.length] H K=K (.sl 1 r 0 l.length) H:=by
 rw[Kb];unfold En Aq;simp only[Ca];have c:∀K,Bi Ad (.sl 1 r 0 l.length) K=K (I l.length):=λK=>id rfl;rw[c];by_cases h:l.length<2
 ·rw[FZ (by omega),Dg]
 ·rw[Ga (by omega),B6];have a:(AV.v (.int .i64 1))=I ((1:Nat):Int):=rfl;rw[a,B59 d hn hb _ 1 _ _ (by omega) (by omega) (by omega)]
def B5X{s:Ha}(h:s.length=32):PS (r! L (n+1)) Db [S s] (Bo false):=by
 refine CS.ps (λK a=>?_) (λH=>λK=>by kernel_rfl);rw[MB];unfold FL GO;rw[MR rfl,h,GY];exact a _ _ (λb=>⟨false,λK=>by kernel_rfl⟩)
abbrev A6Q:AV:=.fn (.func Db) [] []
def B4n{a:Ru}{ps:List Ha}(hb:ps.length<1000000000)(d:∀s∈ps,s.length=32):∀(f i:Nat),i<=ps.length->ps.length-i<f->
 DG (L+20) (r! L (n+1)) K a f (Ls ps) A6Q (I ps.length) (I i) H=a H:=by
 intro f
 induction f with
 |zero=>intro i _ h;omega
 |succ f ih=>
  intro i j g;rw[Jf];unfold DH GI Aq;by_cases h:i<ps.length
  ·rw[FZ (by omega),Dg,PR h,IK];have c:∀K,Dk (E (L+20)) (r! L (n+1)) A6Q [S ps[i]] H K=Ak (r! L (n+1)) Db [S ps[i]] H λv=>K v H:=λK=>by kernel_rfl
   rw[c,B5X (d _ (Na h)),B6,Dc (by omega)];exact ih (i+1) (by omega) (by omega)
  ·rw[Ga (by omega),B6]
def A48{ps:List Ha}(hb:ps.length<1000000000)(g:ps.length<L)(f:∀s∈ps,s.length=32):CS (r! L (n+3)) C4 [Ls ps,A6Q] (Bo false):=by
 intro K a;rw[IC];unfold Dz Mt;have d:CS (r! L (n+2)) DP [Ls ps,A6Q] (I (-1)):=by
  intro K a;rw[J4];unfold DO Aq;simp only[Ca];have c:(AV.v (.int .i64 0))=I ((0:Nat):Int):=rfl;rw[Ni,c,B4n hb f _ 0 (by omega) (by omega)];exact a _ _ (λb=>⟨false,λK=>by kernel_rfl⟩)
 rw[AX (q:=false) d (λK=>by kernel_rfl),Kn];exact a _ _ (λb=>⟨false,λK=>by kernel_rfl⟩)
def HF{f:Nat}{args args':Is}{v:AV}{K:K2}(hc:∀K:KV,(∀a c,(∃q,Fx true depth a v c q)->K a c=some (v,[]))->R.call f args' [] K=some (v,[]))(j:Qi true depth args args' H false):Ak R f args H K=K v:=by
 unfold Ak;rw[j];have:=hc (λa d=>IG (!false) d depth a λ_ k=>some (k,[])) (λa c h=>by
  obtain⟨m,g⟩:=h;exact g _)
 rw[this];rfl
def oW{ps:List Ha}(hn:ps.Nodup)(y:1<=ps.length)(hb:ps.length<=6)(A:10<L)(t:∀s∈ps,s.length=32):
 CS (r! L (n+6)) Ht [Ls ps] (Bo true):=by
 intro K d;rw[P0];unfold Hg B3 Aq EV;have hv:∀K,Ak (r! L (n+5)) E8 [Ls ps] [] K=K (A4a ps):=λK=>by
  refine HF (args':=[Ls ps]) (λK d=>?_) (λK=>by kernel_rfl);rw[K9];unfold E2 GO;rw[B4Z];exact d _ _ ⟨true,λK=>by kernel_rfl⟩
 rw[hv];refine A3Y (n:=n) (by omega) (by omega) (by omega) EH λv H u=>?_;have k:=(D0 ps).length_eq;rcases u.sl with⟨_,h,_⟩|⟨r,q,rfl,hr,hc⟩
 ·omega
 rw[Ni,Xg (n:=n+4) (by omega) (by omega)];have g:∀(x:Bool->Af),gdV true (Bo true) x=x true:=λx=>id rfl;have c:∀{v:AV}{H:Hp}{K:KV},DF (some (v,H)) K=K v H:=id rfl;have pk:∀{a b:AV}{K:K2},B0 (Bo true) a b K=K a:=id rfl;have w:∀{K:K2},Nh .not (Bo false) K=K (Bo true):=id rfl;simp only[g,c];have f:∀K,Ak (r! L (n+5)) C4 [Ls ps,A6Q] H K=K (Bo false):=λK=>AX (q:=false) (A48 (n:=n+2) (by omega) (by omega) t) (λK=>by kernel_rfl);have p:∀m K,Bi Ad (.sl 1 r 0 m) K=K (I m):=λm K=>id rfl;have j:∀K,(r! L (n+5)).call Dd [.sl 1 r 0 ps.length] H K=K (.sl 1 r 0 ps.length) H:=λK=>by
  have:=A27 (K:=K) (L:=L) (n:=n+4) hr ((D0 ps).nodup_iff.2 hn) (by omega) (by omega);rw[k]at this;exact this
 simp only[f,w,c,pk,g,j,p,Ni,CP,k,decide_true];exact d _ _ (λb=>⟨false,λK=>by cases b<;>kernel_rfl⟩)
end
def dig(k:Nat):Ha:=if k<10 then[UInt8.ofNat (48+k)] else[UInt8.ofNat (48+k/10),UInt8.ofNat (48+k%10)]
def dec(z:Int):Ha:=if z<0 then 45::dig z.natAbs else dig z.natAbs
def qn(z:Int):Ha:=dec (if z%4=0 then z/4 else if z%2=0 then z/2 else z)
def qd(z:Int):Ha:=if z%4=0 then[49] else if z%2=0 then[50] else[52]
abbrev qa(z:Int):Is:=[S (qn z),S (qd z)]
def A62{p:Int->Bool}{a b:Int}(h:((List.range (b-a).toNat).all λk=>p ((k:Int)+a))=true){z:Int}(h1:a<=z)(h2:z<b):p z=true:=by
 have:=Gb.1 h (z-a).toNat (I2.2 (by omega));have e:(((z-a).toNat:Nat):Int)+a=z:=by omega
 simp only[e]at this;exact this
def A2q{L m f:Nat}{args:Int->Is}{val:Int->AV}{a b:Int}(c:∀z H,Qi true depth (args z) (args z) H false)(h:((List.range (b-a).toNat).all λk=>HU (AN (C8 (rt L m) f (args ((k:Int)+a))) (val ((k:Int)+a))))=true){z:Int}(h1:a<=z)(h2:z<b):PS (rt L m) f (args z) (val z):=
 Bp (c z) (A62 (p:=λz=>HU (AN (C8 (rt L m) f (args z)) (val z))) h h1 h2)
def Ut{z:Int}(h1: -80<=z)(h2:z<81):(qn z).length<4:=by
 have:=A62 (p:=λz=>decide ((qn z).length<4)) (a:= -80) (b:=81) (by kernel_rfl) h1 h2;simpa using this
def Uv(z:Int):(qd z).length=1:=by unfold qd;split<;>(try split)<;>rfl
def B6J{z:Int}(h1: -80<=z)(h2:z<81)(h:z≠0):qn z≠[48]:=by
 have:=A62 (p:=λz=>decide (z=0\/qn z≠[48])) (a:= -80) (b:=81) (by kernel_rfl) h1 h2;simpa [h] using this
section
variable{L n:Nat}
def A4S{z:Int}(h1: -80<=z)(h2:z<81):PS (r! L (n+40)) EA [I z,I 4] (.tup [.agg (qa z),I 0]):=
 A2q (args:=λz=>[I z,I 4]) (val:=λz=>.tup [.agg (qa z),I 0]) (a:= -80) (b:=81) (λz H K=>by kernel_rfl) (by kernel_rfl) h1 h2
def jC{z:Int}(h1: -80<=z)(h2:z<81):PS (r! L (n+40)) DU [.agg (qa z)] (Bo true):=
 A2q (args:=λz=>[.agg (qa z)]) (val:=λz=>Bo true) (a:= -80) (b:=81) (λz H K=>by kernel_rfl) (by kernel_rfl) h1 h2
def B3F{z:Int}(h1:0<=z)(h2:z<9):PS (r! L (n+40)) NV [.agg (qa z),.agg [S [48],S [49]]] (I (if z=0 then 0 else 1)):=
 A2q (args:=λz=>[.agg (qa z),.agg [S [48],S [49]]]) (val:=λz=>I (if z=0 then 0 else 1)) (a:=0) (b:=9) (λz H K=>by kernel_rfl) (by kernel_rfl) h1 h2
def wH{z:Int}(h1:0<=z)(h2:z<1):PS (r! L (n+40)) Kk [I z] (.agg [S [48],S [49]]):=
 A2q (args:=λz=>[I z]) (val:=λz=>.agg [S [48],S [49]]) (a:=0) (b:=1) (λz H K=>by kernel_rfl) (by kernel_rfl) h1 h2
end
section
variable{i:Nat}{t:TI}{α:Type}
variable{L n:Nat}
def A5Z(f:α->Is)(w:Nat)(c:∀x,(f x).length=w):∀l:List α,(l.flatMap f).length=l.length*w:=by
 intro l
 induction l with
 |nil=>simp
 |cons a l ih=>simp[ih,c,B!,Nat.add_comm]
def lG(f:α->Is)(w:Nat)(c:∀x,(f x).length=w):∀(l:List α)(i:Nat)(h:i<l.length),((l.flatMap f).drop (i*w)).take w=f l[i]:=by
 intro l
 induction l with
 |nil=>intro i h;simp at h
 |cons a l ih=>
  intro i h;cases i with
  |zero=>
   simp only[kL,Nat.zero_mul,l1n,List.getElem_cons_zero];rw[List.take_append_of_le_length (by rw[c];omega),l1z (by rw[c];omega)]
  |succ i=>
   simp only[kL,List.getElem_cons_succ];have:(i+1)*w=(f a).length+i*w:=by rw[c,B!];omega
   rw[this,List.drop_append,List.drop_of_length_le (by omega),l30,Nat.add_sub_cancel_left];exact ih i (by simpa using h)
def ZE{e w:Nat}{f:α->Is}{l:List α}{K:K2}(g:t.d=.slice e w)(p:∀x,(f x).length=w)(h:i<l.length):Cy t (.list l.length (l.flatMap f)) (I i) K=K (.iptr (f l[i])):=by
 have j:Cy t (.list l.length (l.flatMap f)) (I (i:Int)) K=iN (i:Int) λm=>ck (Nat.blt m l.length) (UX w (CL (Nat.mul m w) (l.flatMap f)) λc=>K (.iptr c)):=by
  obtain⟨a,b,d,z⟩:=t;simp only at g;subst g;rfl
 rw[j,KO,Cs,Nw];have k:Nat.blt i l.length=true:=by rw[Ua];exact h
 rw[k];show K (.iptr (((l.flatMap f).drop (i*w)).take w))=_;rw[lG f w p l i h]
def EL{H:Hp}{r p e:Nat}{q:Bool}{cs:Is}{K:K2}(h:t.d.isAgg=true)(a:Ao H r=some (.cells q e cs))(f:p+t.size<=cs.length):A9 t (.ptr r p 0) H K=K (.agg ((cs.drop p).take t.size)):=by
 have:A9 t (.ptr r p 0) H K=IZ H r λx=>KY x λ_ cs=>@Bool.rec (λ_=>Af) (hdK (CL (Nat.add p 0) cs) K) (Fb t.size (CL (Nat.add p 0) cs) λc=>K (.agg c)) t.d.isAgg:=rfl;rw[this,h,BO a];show Fb t.size (CL p cs) _=_;rw[Cs,MK _ _ _ (by simp;omega)]
abbrev ZM:=List (Int×Int)
def Mh(t:Int×Int):Is:=[I t.1,S (qn t.2),S (qd t.2)]
def Ek(ts:ZM):AV:=match ts with
 |[]=>A7
 |t::ts=>.list (t::ts).length ((t::ts).flatMap Mh)
structure TmsOk(ts:ZM):Prop where
 len:ts.length<=6
 rng:∀t∈ts,1<=t.1/\t.1<=100/\ -8<=t.2/\t.2<=8/\t.2≠0
 asc:ts.Pairwise λa b=>a.1<b.1
def Fq(ts:ZM):Sl (Ek ts):=by
 cases ts with
 |nil=>exact .inl rfl
 |cons t ts=>exact .inr ⟨_,_,rfl⟩
def N9{ts:ZM}{K:K2}:Bi A8 (Ek ts) K=K (I ts.length):=by cases ts<;>exact id rfl
def A84{ts:ZM}(h:i<ts.length):Ek ts=.list ts.length (ts.flatMap Mh):=by
 cases ts with
 |nil=>simp at h
 |cons t ts=>rfl
def Tr{ts:ZM}{K:K2}(h:i<ts.length):Cy A8 (Ek ts) (I i) K=K (.iptr (Mh ts[i])):=by
 rw[A84 h];exact ZE (f:=Mh) rfl (λ_=>rfl) h
def B9K{a b c d:Ha}{K:K2}:Ts Ox .eql (.agg [S a,S b]) (.agg [S c,S d]) K=K (Bo (decide (a=c)&&decide (b=d))):=by
 have e:Ts Ox .eql (.agg [S a,S b]) (.agg [S c,S d]) K=(match(generalizing:=false) (some (yO a c&&(yO b d&&true)):Option Bool),BinOp.eql with
  |some q,.eql=>bB q K
  |some q,.neq=>bB (!q) K
  |_,_=>none):=rfl
 rw[e];show bB _ K=_;rw[JB,LO,LO,uT];have h1:∀(x y:Ha),(x==y)=decide (x=y):=λx y=>by by_cases h:x=y<;>simp[h]
 rw[h1,h1]
section
variable{K:KV}{x:Af}{ca cb ra rb:Ha}{ts:ZM}
def sK{K:K2}:Nh .not (.v (.bool true)) K=K (Bo false):=id rfl
def ntF{K:K2}:Nh .not (.v (.bool false)) K=K (Bo true):=id rfl
abbrev yF(ca cb ra rb:Ha)(ts:ZM):Row:=.cells true Dw [S ca,S cb,Ek ts,S ra,S rb]
def B6D{k:Ru}{r0:Nat}(A:TmsOk ts)(O:∀H,k H=x):∀(f i:Nat)(H:Hp),i<=ts.length->ts.length-i<f->Ao H r0=some (yF ca cb ra rb ts)->Wf H->
 OV (L+20) (r! L (n+41)) K k f (.ptr r0 0 0) (I i) H=x:=by
 intro f
 induction f with
 |zero=>intro i H _ h;omega
 |succ f ih=>
  intro i H Y X s w;have hb:=A.len;rw[YP];unfold OW DV GI B3 EU Aq JR EV;have f2:∀K:K2,CC 2 (.ptr r0 0 0) K=K (.ptr r0 2 0):=λK=>id rfl;have J:∀K,A9 A8 (.ptr r0 2 0) H K=K (Ek ts):=λK=>AH (p:=2) rfl s (by simp);rw[f2,J,N9];by_cases h:i<ts.length
  ·rw[FZ (by omega),Dg,f2,J,Tr h];have hr:=A.rng _ (Na h);have lt:∀H K,A9 BC (.iptr (Mh ts[i])) H K=K (.agg (Mh ts[i])):=λH K=>id rfl;rw[lt,AW (cs:=[zI,zS,zS]) rfl];have j:=Av (H:=H) (x:=.cells true AM [zI,zS,zS]) (by simp);rw[Bx (vs:=Mh ts[i]) j rfl rfl rfl];have c:=A4 (q:=true) (e:=AM) (cs:=Mh ts[i]) j;have u:=w.lt s;have a:Ao (upd ((Ay H,c_ AM [zI,zS,zS])::H) (Ay H) (c_ AM (Mh ts[i]))) r0=some (yF ca cb ra rb ts):=by
    rw[Aj (by omega)];exact AQ u s
   have w1:=BF (r:=Ay H) (y:=.cells true AM (Mh ts[i])) (Bw (x:=.cells true AM [zI,zS,zS]) w);generalize upd ((Ay H,c_ AM [zI,zS,zS])::H) (Ay H) (c_ AM (Mh ts[i]))=d at c a w1;generalize Ay H=r at c;have D:∀K:K2,CC 1 (.ptr r 0 0) K=K (.ptr r 1 0):=λK=>id rfl;have C:∀K:K2,CC 0 (.ptr r 0 0) K=K (.ptr r 0 0):=λK=>id rfl;have M:∀K,A9 Au (.ptr r 1 0) d K=K (.agg (qa ts[i].2)):=λK=>EL (p:=1) rfl c (show 3<=3 from MZ _);have m0:∀K,A9 Ab (.ptr r 0 0) d K=K (I ts[i].1):=λK=>AH (p:=0) rfl c (show 0<3 by decide);have V:∀K,A9 A8 (.ptr r0 2 0) d K=K (Ek ts):=λK=>AH (p:=2) rfl a (by simp);rw[D,M,jC (n:=n+1) (by omega) (by omega)];have hq:=B6J (by omega) (by omega) hr.2.2.2.2;have N:∀H K,Ak (r! L (n+41)) Kk [.v (.int .i64 0)] H K=K (.agg [S [48],S [49]]):=λH K=>wH (z:=0) (n:=n+1) (by decide) (by decide) H K;have i1:∀K,Al Ab .lss (I ts[i].1) (.v (.int .i64 1)) K=K (Bo false):=λK=>Ga (by omega);have i2:∀K,Al Ab .gtr (I ts[i].1) (.v (.int .i64 1000000)) K=K (Bo false):=λK=>by rw[DE,Iy (by omega)]
   simp only[sK,B4,gT,D,M,BJ,N,B9K,hq,decide_false,Bool.false_and,T2,C,m0,i1,i2];by_cases m:0<i
   ·have B:∀K,Al Ab .gtr (I (i:Int)) (.v (.int .i64 0)) K=K (Bo true):=λK=>by rw[DE,Iz (by omega)]
    have g:i-1<ts.length:=by omega
    have P:∀K:K2,CC 0 (.iptr (Mh ts[i-1])) K=K (.iptr (Mh ts[i-1])):=λK=>id rfl;have Q:∀K,A9 Ab (.iptr (Mh ts[i-1])) d K=K (I ts[i-1].1):=λK=>id rfl;have F:ts[i-1].1<ts[i].1:=(l20.1 A.asc) (i-1) i g h (by omega);have R:∀K,Al Ab .geq (I ts[i-1].1) (I ts[i].1) K=K (Bo false):=λK=>by rw[Kn,Iy (by omega)]
    simp only[B,B4,BJ,gT,f2,V,ZQ m (by omega:i<1000000000),Tr g,P,Q,C,m0,R,WT,T2];rw[B6,Dc (by omega)];exact ih (i+1) d (by omega) (by omega) a w1
   ·have B:∀K,Al Ab .gtr (I (i:Int)) (.v (.int .i64 0)) K=K (Bo false):=λK=>by rw[DE,Iy (by omega)]
    simp only[B,B4,BJ,gT,uU,WT,T2];rw[B6,Dc (by omega)];exact ih (i+1) d (by omega) (by omega) a w1
  ·rw[Ga (by omega),B6];exact O H
def jG{c r:Int}(k: -80<=c)(m:c<=80)(q:0<=r)(s:r<=8)(y:10<L)(d:TmsOk ts):CS (r! L (n+42)) Ho [.agg (Wb (qn c) (qd c) (Ek ts) (qn r) (qd r))] (Bo true):=by
 intro K j;have hb:=d.len;rw[eJ];unfold QV DV EU Aq JR EV;rw[EM (by cases ts<;>rfl)];have a:=Av (H:=[]) (x:=yF (qn c) (qd c) (qn r) (qd r) ts) (by simp);have w0:Wf [(Ay [],yF (qn c) (qd c) (qn r) (qd r) ts)]:=Bw EH;generalize [(Ay [],yF (qn c) (qd c) (qn r) (qd r) ts)]=H at a w0;generalize Ay []=r0 at a;have g:∀K:K2,CC 0 (.ptr r0 0 0) K=K (.ptr r0 0 0):=λK=>id rfl;have f2:∀K:K2,CC 2 (.ptr r0 0 0) K=K (.ptr r0 2 0):=λK=>id rfl;have f3:∀K:K2,CC 3 (.ptr r0 0 0) K=K (.ptr r0 3 0):=λK=>id rfl;have m0:∀K,A9 Au (.ptr r0 0 0) H K=K (.agg (qa c)):=λK=>EL (p:=0) rfl a (show 2<=5 by decide);have e:∀K,A9 Au (.ptr r0 3 0) H K=K (.agg (qa r)):=λK=>EL (p:=3) rfl a (show 5<=5 by decide);have w:∀K,A9 A8 (.ptr r0 2 0) H K=K (Ek ts):=λK=>AH (p:=2) rfl a (show 2<5 by decide);have u:∀H K,Ak (r! L (n+41)) Kk [.v (.int .i64 0)] H K=K (.agg [S [48],S [49]]):=λH K=>wH (z:=0) (n:=n+1) (by decide) (by decide) H K;rw[g,m0,jC (n:=n+1) (by omega) (by omega),f3,e,jC (n:=n+1) (by omega) (by omega)];have h1:∀K,Ak (r! L (n+41)) NV [.agg (qa r),.agg [S [48],S [49]]] H K=K (I (if r=0 then 0 else 1)):=λK=>B3F (n:=n+1) (by omega) (by omega) H K;have h2:∀K,Al Ab .lss (I (if r=0 then 0 else 1)) (.v (.int .i64 0)) K=K (Bo false):=λK=>Ga (by split<;>omega);have h:∀K,Al Ab .gtr (I (ts.length:Int)) (.v (.int .i64 64)) K=K (Bo false):=λK=>by rw[DE,Iy (by omega)]
 simp only[sK,B4,BJ,gT,T2,f3,e,u,h1,h2,f2,w,N9,h,Ca];rw[B6];have f:(AV.v (.int .i64 0))=I ((0:Nat):Int):=rfl;rw[f];exact B6D (n:=n) d (λH=>j _ _ (λb=>⟨false,λK=>by kernel_rfl⟩)) (L+20) 0 H (by omega) (by omega) a w0
end
end
section
variable{L n:Nat}
def A7O{z:Int}(h1:0<=z)(h2:z<9):PS (r! L (n+40)) N0 [.agg (qa z)] (I (if z=0 then 0 else 1)):=
 A2q (args:=λz=>[.agg (qa z)]) (val:=λz=>I (if z=0 then 0 else 1)) (a:=0) (b:=9) (λz H K=>by kernel_rfl) (by kernel_rfl) h1 h2
def A7N{z:Int}(h1: -8<=z)(h2:z<9):PS (r! L (n+40)) LN [.agg (qa z)] (Bo (decide (z=0))):=
 A2q (args:=λz=>[.agg (qa z)]) (val:=λz=>Bo (decide (z=0))) (a:= -8) (b:=9) (λz H K=>by kernel_rfl) (by kernel_rfl) h1 h2
end
end Go.Abs
end
