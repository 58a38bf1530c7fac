import Derived.Test.YtlbhdmbfdcohhaaGreatDoorQ20
set_option linter.all false
set_option maxHeartbeats 100000000
noncomputable section
namespace Go.Abs
open Go.RowKit Go.Proofs
set_option maxRecDepth 100000
theorem CY {a b:AV} {K:AV→Al}:AA (.tup [a,b]) 0 K=K a:=id rfl
theorem CX {a b:AV} {K:AV→Al}:AA (.tup [a,b]) 1 K=K b:=id rfl
theorem Bl {i:TI} {a b:List UInt8} {K:AV→Al} (hl:a.length+b.length<9223372036854775808):Ak i .add (S a) (S b) K=K (S (a++b)):=by
 have e:Ak i .add (S a) (S b) K=V8 a b λl=>ck (Nat.blt l.length 9223372036854775808) (K (.v (.string ⟨⟨l⟩⟩))):=rfl
 have c:Nat.blt (a++b).length 9223372036854775808=true:=by rw[TU,FK];exact hl
 rw[e,LI,c];rfl
theorem B4f (f:Nat):∀z,(B4g f z).length≤f:=by
 induction f with
 |zero=>intro z;exact NU _
 |succ f ih=>
  intro z
  unfold B4g
  split
  ·simp
  ·have:=ih (z/128);simp;omega
theorem Qf (z:Int):(enc z).length≤9:=B4f 9 _
def A4M (s:List UInt8):List UInt8:=enc s.length++s
theorem A5T (L n:Nat) {s:List UInt8} (h:s.length<390):PS (rt (L+20) (n+5)) LO [S s] (.tup [S (A4M s),I 0]):=by
 refine CS.ps (λK hK=> ?_) (λH=>fx1)
 rw[UH]
 unfold L4 Ar
 rw[MS rfl,Ey,Er,if_neg (by simp;omega),MS rfl,A5U L n (by omega) (by omega),CY,CX,Bl (by have:=Qf (s.length:Int);omega)]
 exact hK _ _ (λb=>⟨false,Yb (A0 (q:=false) (q':=false) E5 (A0 (q:=false) (q':=false) E5 Bp))⟩)
theorem A5t (L n:Nat) {s:List UInt8} (h:s.length<390):PS (rt (L+20) (n+9)) MN [S s] (.tup [S (A4M s),I 0]):=by
 refine CS.ps (λK hK=> ?_) (λH=>fx1)
 rw[Vv]
 unfold My Ar
 rw[MS rfl,Ey,Er,if_neg (by simp;omega),MS rfl,A5u L n (by omega) (by omega),CY,CX,Bl (by have:=Qf (s.length:Int);omega)]
 exact hK _ _ (λb=>⟨false,Yb (A0 (q:=false) (q':=false) E5 (A0 (q:=false) (q':=false) E5 Bp))⟩)
section
def Ev (l:List Int):List AV:=l.map λz=> .v (.int .i64 z)
def B5 (l:List (List UInt8)):List AV:=l.map λs=>S s
def GS (l:List Int):List UInt8:=(l.map enc).flatten
def FX (l:List (List UInt8)):List UInt8:=(l.map A4M).flatten
theorem Pm {l:List Int} {k:Nat} (h:k<l.length):(Ev l).getD k .dk=I l[k]:=by
 simp[Ev,Th,h]
theorem Mr {l:List (List UInt8)} {k:Nat} (h:k<l.length):(B5 l).getD k .dk=S l[k]:=by
 simp[B5,Th,h]
theorem Ek (l:List Int):(GS l).length≤9*l.length:=by
 induction l with
 |nil=>simp[GS]
 |cons z l ih=>
  have:=Qf z
  simp[GS] at ih⊢
  omega
theorem Ej (l:List (List UInt8)) (h:∀s∈l,s.length<390):(FX l).length≤400*l.length:=by
 induction l with
 |nil=>simp[FX]
 |cons s l ih=>
  have h1:=Qf (s.length:Int)
  have h2:=h s (by simp)
  have h3:=ih (λs hs=>h s (by simp[hs]))
  simp only[FX,ZK,l18,FK,Lf,A4M] at h3⊢
  omega
theorem A3v (l:List Int) {i:Nat} (h:i<l.length):GS (l.take (i+1))=GS (l.take i)++enc l[i]:=by
 unfold GS
 rw[l04 h,Zt,List.flatten_append]
 simp only[ZK,List.map_nil,l18,List.flatten_nil,l1o]
theorem A3u (l:List (List UInt8)) {i:Nat} (h:i<l.length):FX (l.take (i+1))=FX (l.take i)++A4M l[i]:=by
 unfold FX
 rw[l04 h,Zt,List.flatten_append]
 simp only[ZK,List.map_nil,l18,List.flatten_nil,l1o]
variable {L n:Nat} {K:KV} {x:Al}
theorem C1n {k:AV→Hp→Al} {l:List Int} {H:Hp} (hl:l.length<100) (hz:∀z∈l, -10≤z∧z<1090) (hx:k (S (GS l)) H=x):
 ∀(f i:Nat),i≤l.length→l.length-i<f→JL (L+20) (rt (L+20) (n+4)) K k f (.list l.length (Ev l)) (S (GS (l.take i))) (I i) H=x:=by
 intro f
 induction f with
 |zero=>intro i _ h;omega
 |succ f ih=>
  intro i hi hf
  rw[Vs]
  unfold Mx Ar
  have el:∀K,AN Af (.list l.length (Ev l)) K=K (I l.length):= λK=>id rfl
  rw[el,Dx,Er]
  by_cases h:i<l.length
  ·rw[if_pos (by simp;omega)]
   have hzi:=hz l[i] (Ow h)
   have hlen:(GS (l.take i)).length≤9*l.length:=by
    have:=Ek (l.take i)
    have h5:(l.take i).length≤l.length:=by simp;omega
    omega
   rw[Ub rfl (by simp[Ev]) (by omega) (by omega),Xj,QG rfl,Pm h,A5U L n hzi.1 hzi.2,CY,CX,Bl (by have:=Qf l[i];omega),←A3v l h,Cv,Ca (by omega) (by omega),OI]
   exact ih (i+1) (by omega) (by omega)
  ·rw[if_neg (by simp;omega)]
   have:i=l.length:=by omega
   subst this
   rw[l06]
   exact hx
theorem A37 {l:List Int} (hl:l.length<100) (hL:l.length<L) (hz:∀z∈l, -10≤z∧z<1090):CS (rt (L+20) (n+5)) Dh [.list l.length (Ev l)] (S (GS l)):=by
 intro K hK
 rw[Wr]
 unfold NQ Ar
 simp only[Cl]
 refine C1n hl hz ?_ (L+20) 0 (by omega) (by omega)
 exact hK _ _ (λb=>⟨false,E5⟩)
theorem B95 {k:AV→Hp→Al} {l:List (List UInt8)} {H:Hp} (hl:l.length<100) (hz:∀s∈l,s.length<390) (hx:k (S (FX l)) H=x):
 ∀(f i:Nat),i≤l.length→l.length-i<f→Lj (L+20) (rt (L+20) (n+5)) K k f (.list l.length (B5 l)) (S (FX (l.take i))) (I i) H=x:=by
 intro f
 induction f with
 |zero=>intro i _ h;omega
 |succ f ih=>
  intro i hi hf
  rw[QZ]
  unfold Ll Ar
  have el:∀K,AN Ae (.list l.length (B5 l)) K=K (I l.length):= λK=>id rfl
  rw[el,Dx,Er]
  by_cases h:i<l.length
  ·rw[if_pos (by simp;omega)]
   have hzi:=hz l[i] (Ow h)
   have hlen:(FX (l.take i)).length≤400*l.length:=by
    have:=Ej (l.take i) (λs hs=>hz s (l24 hs))
    have h5:(l.take i).length≤l.length:=by simp;omega
    omega
   have hlen2:(A4M l[i]).length≤400:=by unfold A4M;rw[FK];have:=Qf (l[i].length:Int);omega
   rw[Ub rfl (by simp[B5]) (by omega) (by omega),Xj,QG rfl,Mr h,A5T L n hzi,CY,CX,Bl (by omega),←A3u l h,Cv,Ca (by omega) (by omega),OI]
   exact ih (i+1) (by omega) (by omega)
  ·rw[if_neg (by simp;omega)]
   have:i=l.length:=by omega
   subst this
   rw[l06]
   exact hx
theorem A9k {l:List (List UInt8)} (hl:l.length<100) (hL:l.length<L) (hz:∀s∈l,s.length<390):CS (rt (L+20) (n+6)) E8 [.list l.length (B5 l)] (S (FX l)):=by
 intro K hK
 rw[SS]
 unfold Nj Ar
 simp only[Cl]
 refine B95 hl hz ?_ (L+20) 0 (by omega) (by omega)
 exact hK _ _ (λb=>⟨false,E5⟩)
end
structure UD where
 (p0 q0 p1 q1 p2 q2 p3 q3 p4 q4 p5 q5 p6 q6:Int)
 (fn fd on od:List UInt8)
 (kd sc:Int)
abbrev UD.cs (u:UD):List AV:=[I u.p0,I u.q0,I u.p1,I u.q1,I u.p2,I u.q2,I u.p3,I u.q3,I u.p4,I u.q4,I u.p5,I u.q5,I u.p6,I u.q6,S u.fn,S u.fd,S u.on,S u.od,I u.kd,I u.sc]
def u0:UD:=⟨0,0,0,0,0,0,0,0,0,0,0,0,0,0,[],[],[],[],0,0⟩
def C33:List UD:=[
 ⟨1,1,0,1,0,1,0,1,0,1,0,1,0,1,[49],[49],[48],[49],0,1⟩,
 ⟨0,1,0,1,1,1,0,1,0,1,0,1,0,1,[49],[49],[48],[49],0,1⟩,
 ⟨1,1,0,1,0,1,0,1,0,1,0,1,0,1,[49],[49,48,48,48],[48],[49],0,1⟩,
 ⟨0,1,0,1,0,1,0,1,0,1,0,1,0,1,[49],[49],[48],[49],0,2⟩,
 ⟨0,1,0,1,0,1,0,1,1,1,0,1,0,1,[49],[49],[53,52,54,51],[50,48],0,0⟩,
 ⟨0,1,0,1,0,1,0,1,1,1,0,1,0,1,[49],[49],[48],[49],0,1⟩,
 ⟨2,1,0,1,0,1,0,1,0,1,0,1,0,1,[49],[49],[48],[49],0,1⟩,
 ⟨1,1,0,1,1,1,0,1,0,1,0,1,0,1,[49],[49],[48],[49],0,1⟩,
 ⟨1,1,0,1,(-1),1,0,1,0,1,0,1,0,1,[49],[49],[48],[49],0,1⟩,
 ⟨2,1,0,1,0,1,0,1,0,1,0,1,0,1,[49],[49,48,48,48],[48],[49],0,1⟩,
 ⟨0,1,0,1,0,1,0,1,0,1,0,1,0,1,[49,48,48,48],[49],[48],[49],0,2⟩,
 ⟨1,1,0,1,0,1,0,1,1,1,0,1,0,1,[49],[49],[48],[49],0,1⟩,
 ⟨1,1,0,1,0,1,0,1,(-1),1,0,1,0,1,[49],[49],[48],[49],0,1⟩,
 ⟨3,1,0,1,0,1,0,1,0,1,0,1,0,1,[49],[49],[48],[49],0,1⟩,
 ⟨(-1),1,0,1,0,1,0,1,0,1,0,1,0,1,[49],[49],[48],[49],0,1⟩,
 ⟨(-2),1,0,1,0,1,0,1,0,1,0,1,0,1,[49],[49],[48],[49],0,1⟩,
 ⟨(-1),1,0,1,1,1,0,1,0,1,0,1,0,1,[49],[49],[48],[49],0,1⟩,
 ⟨0,1,0,1,2,1,0,1,0,1,0,1,0,1,[49],[49],[48],[49],0,1⟩,
 ⟨1,1,0,1,1,1,0,1,0,1,0,1,0,1,[49],[49,48,48,48],[48],[49],0,1⟩,
 ⟨(-1),1,0,1,1,1,0,1,0,1,0,1,0,1,[49,48,48,48],[49],[48],[49],0,1⟩,
 ⟨0,1,0,1,1,1,0,1,1,1,0,1,0,1,[49],[49],[48],[49],0,1⟩,
 ⟨0,1,0,1,1,1,0,1,(-1),1,0,1,0,1,[49],[49],[48],[49],0,1⟩,
 ⟨2,1,0,1,1,1,0,1,0,1,0,1,0,1,[49],[49],[48],[49],0,1⟩,
 ⟨(-2),1,0,1,1,1,0,1,0,1,0,1,0,1,[49],[49],[48],[49],0,1⟩,
 ⟨0,1,0,1,(-1),1,0,1,0,1,0,1,0,1,[49],[49],[48],[49],0,1⟩,
 ⟨0,1,0,1,3,1,0,1,0,1,0,1,0,1,[49],[49],[48],[49],0,1⟩,
 ⟨0,1,0,1,(-2),1,0,1,0,1,0,1,0,1,[49],[49],[48],[49],0,1⟩,
 ⟨0,1,0,1,0,1,0,1,0,1,0,1,0,1,[49],[49,48,48,48],[48],[49],0,2⟩,
 ⟨1,1,0,1,(-1),1,0,1,0,1,0,1,0,1,[49],[49,48,48,48],[48],[49],0,1⟩,
 ⟨2,1,0,1,0,1,0,1,0,1,0,1,0,1,[49],[49,48,48,48,48,48,48],[48],[49],0,1⟩,
 ⟨1,1,0,1,0,1,0,1,1,1,0,1,0,1,[49],[49,48,48,48],[48],[49],0,1⟩,
 ⟨1,1,0,1,0,1,0,1,(-1),1,0,1,0,1,[49],[49,48,48,48],[48],[49],0,1⟩,
 ⟨3,1,0,1,0,1,0,1,0,1,0,1,0,1,[49],[49,48,48,48],[48],[49],0,1⟩,
 ⟨(-1),1,0,1,0,1,0,1,0,1,0,1,0,1,[49],[49,48,48,48],[48],[49],0,1⟩,
 ⟨(-1),1,0,1,0,1,0,1,0,1,0,1,0,1,[49,48,48,48],[49],[48],[49],0,1⟩,
 ⟨3,1,0,1,0,1,0,1,0,1,0,1,0,1,[49],[49,48,48,48,48,48,48,48,48,48],[48],[49],0,1⟩,
 ⟨(-2),1,0,1,0,1,0,1,0,1,0,1,0,1,[49,48,48,48,48,48,48],[49],[48],[49],0,1⟩,
 ⟨0,1,0,1,0,1,0,1,(-1),1,0,1,0,1,[49],[49],[48],[49],0,1⟩,
 ⟨(-1),1,0,1,0,1,0,1,1,1,0,1,0,1,[49],[49],[48],[49],0,1⟩,
 ⟨0,1,0,1,(-1),1,0,1,1,1,0,1,0,1,[49],[49],[48],[49],0,1⟩,
 ⟨(-1),1,0,1,0,1,0,1,1,1,0,1,0,1,[49,48,48,48],[49],[48],[49],0,1⟩,
 ⟨0,1,0,1,0,1,0,1,2,1,0,1,0,1,[49],[49],[48],[49],0,1⟩,
 ⟨2,1,0,1,0,1,0,1,1,1,0,1,0,1,[49],[49],[48],[49],0,1⟩,
 ⟨(-2),1,0,1,0,1,0,1,1,1,0,1,0,1,[49],[49],[48],[49],0,1⟩,
 ⟨0,1,0,1,0,1,0,1,3,1,0,1,0,1,[49],[49],[48],[49],0,1⟩,
 ⟨0,1,0,1,0,1,0,1,(-2),1,0,1,0,1,[49],[49],[48],[49],0,1⟩,
 ⟨2,1,0,1,(-1),1,0,1,0,1,0,1,0,1,[49],[49],[48],[49],0,1⟩,
 ⟨1,1,0,1,0,1,0,1,0,1,0,1,0,1,[49,48,48,48],[49],[48],[49],0,1⟩,
 ⟨2,1,0,1,0,1,0,1,(-1),1,0,1,0,1,[49],[49],[48],[49],0,1⟩,
 ⟨4,1,0,1,0,1,0,1,0,1,0,1,0,1,[49],[49],[48],[49],0,1⟩,
 ⟨6,1,0,1,0,1,0,1,0,1,0,1,0,1,[49],[49],[48],[49],0,1⟩,
 ⟨(-4),1,0,1,0,1,0,1,0,1,0,1,0,1,[49],[49],[48],[49],0,1⟩]
def uu (k:Nat):UD:=C33.getD k u0
def B93:List (List UInt8):=[
 [100,105,102,102,101,114,101,110,99,101,32,107,105,110,100,32,48,32,102,97,99,116,111,114,32,49,32,111,102,102,115,101,116,32,48,32,109,94,49],
 [100,105,102,102,101,114,101,110,99,101,32,107,105,110,100,32,48,32,102,97,99,116,111,114,32,49,32,111,102,102,115,101,116,32,48,32,115,94,49],
 [100,105,102,102,101,114,101,110,99,101,32,107,105,110,100,32,48,32,102,97,99,116,111,114,32,49,47,49,48,48,48,32,111,102,102,115,101,116,32,48,32,109,94,49],
 [114,97,116,105,111,32,107,105,110,100,32,48,32,102,97,99,116,111,114,32,49,32,111,102,102,115,101,116,32,48],
 [97,98,115,111,108,117,116,101,32,107,105,110,100,32,48,32,102,97,99,116,111,114,32,49,32,111,102,102,115,101,116,32,53,52,54,51,47,50,48,32,75,94,49],
 [100,105,102,102,101,114,101,110,99,101,32,107,105,110,100,32,48,32,102,97,99,116,111,114,32,49,32,111,102,102,115,101,116,32,48,32,75,94,49],
 [100,105,102,102,101,114,101,110,99,101,32,107,105,110,100,32,48,32,102,97,99,116,111,114,32,49,32,111,102,102,115,101,116,32,48,32,109,94,50],
 [100,105,102,102,101,114,101,110,99,101,32,107,105,110,100,32,48,32,102,97,99,116,111,114,32,49,32,111,102,102,115,101,116,32,48,32,109,94,49,32,115,94,49],
 [100,105,102,102,101,114,101,110,99,101,32,107,105,110,100,32,48,32,102,97,99,116,111,114,32,49,32,111,102,102,115,101,116,32,48,32,109,94,49,32,115,94,45,49],
 [100,105,102,102,101,114,101,110,99,101,32,107,105,110,100,32,48,32,102,97,99,116,111,114,32,49,47,49,48,48,48,32,111,102,102,115,101,116,32,48,32,109,94,50],
 [114,97,116,105,111,32,107,105,110,100,32,48,32,102,97,99,116,111,114,32,49,48,48,48,32,111,102,102,115,101,116,32,48],
 [100,105,102,102,101,114,101,110,99,101,32,107,105,110,100,32,48,32,102,97,99,116,111,114,32,49,32,111,102,102,115,101,116,32,48,32,109,94,49,32,75,94,49],
 [100,105,102,102,101,114,101,110,99,101,32,107,105,110,100,32,48,32,102,97,99,116,111,114,32,49,32,111,102,102,115,101,116,32,48,32,109,94,49,32,75,94,45,49],
 [100,105,102,102,101,114,101,110,99,101,32,107,105,110,100,32,48,32,102,97,99,116,111,114,32,49,32,111,102,102,115,101,116,32,48,32,109,94,51],
 [100,105,102,102,101,114,101,110,99,101,32,107,105,110,100,32,48,32,102,97,99,116,111,114,32,49,32,111,102,102,115,101,116,32,48,32,109,94,45,49],
 [100,105,102,102,101,114,101,110,99,101,32,107,105,110,100,32,48,32,102,97,99,116,111,114,32,49,32,111,102,102,115,101,116,32,48,32,109,94,45,50],
 [100,105,102,102,101,114,101,110,99,101,32,107,105,110,100,32,48,32,102,97,99,116,111,114,32,49,32,111,102,102,115,101,116,32,48,32,109,94,45,49,32,115,94,49],
 [100,105,102,102,101,114,101,110,99,101,32,107,105,110,100,32,48,32,102,97,99,116,111,114,32,49,32,111,102,102,115,101,116,32,48,32,115,94,50],
 [100,105,102,102,101,114,101,110,99,101,32,107,105,110,100,32,48,32,102,97,99,116,111,114,32,49,47,49,48,48,48,32,111,102,102,115,101,116,32,48,32,109,94,49,32,115,94,49],
 [100,105,102,102,101,114,101,110,99,101,32,107,105,110,100,32,48,32,102,97,99,116,111,114,32,49,48,48,48,32,111,102,102,115,101,116,32,48,32,109,94,45,49,32,115,94,49],
 [100,105,102,102,101,114,101,110,99,101,32,107,105,110,100,32,48,32,102,97,99,116,111,114,32,49,32,111,102,102,115,101,116,32,48,32,115,94,49,32,75,94,49],
 [100,105,102,102,101,114,101,110,99,101,32,107,105,110,100,32,48,32,102,97,99,116,111,114,32,49,32,111,102,102,115,101,116,32,48,32,115,94,49,32,75,94,45,49],
 [100,105,102,102,101,114,101,110,99,101,32,107,105,110,100,32,48,32,102,97,99,116,111,114,32,49,32,111,102,102,115,101,116,32,48,32,109,94,50,32,115,94,49],
 [100,105,102,102,101,114,101,110,99,101,32,107,105,110,100,32,48,32,102,97,99,116,111,114,32,49,32,111,102,102,115,101,116,32,48,32,109,94,45,50,32,115,94,49],
 [100,105,102,102,101,114,101,110,99,101,32,107,105,110,100,32,48,32,102,97,99,116,111,114,32,49,32,111,102,102,115,101,116,32,48,32,115,94,45,49],
 [100,105,102,102,101,114,101,110,99,101,32,107,105,110,100,32,48,32,102,97,99,116,111,114,32,49,32,111,102,102,115,101,116,32,48,32,115,94,51],
 [100,105,102,102,101,114,101,110,99,101,32,107,105,110,100,32,48,32,102,97,99,116,111,114,32,49,32,111,102,102,115,101,116,32,48,32,115,94,45,50],
 [114,97,116,105,111,32,107,105,110,100,32,48,32,102,97,99,116,111,114,32,49,47,49,48,48,48,32,111,102,102,115,101,116,32,48],
 [100,105,102,102,101,114,101,110,99,101,32,107,105,110,100,32,48,32,102,97,99,116,111,114,32,49,47,49,48,48,48,32,111,102,102,115,101,116,32,48,32,109,94,49,32,115,94,45,49],
 [100,105,102,102,101,114,101,110,99,101,32,107,105,110,100,32,48,32,102,97,99,116,111,114,32,49,47,49,48,48,48,48,48,48,32,111,102,102,115,101,116,32,48,32,109,94,50],
 [100,105,102,102,101,114,101,110,99,101,32,107,105,110,100,32,48,32,102,97,99,116,111,114,32,49,47,49,48,48,48,32,111,102,102,115,101,116,32,48,32,109,94,49,32,75,94,49],
 [100,105,102,102,101,114,101,110,99,101,32,107,105,110,100,32,48,32,102,97,99,116,111,114,32,49,47,49,48,48,48,32,111,102,102,115,101,116,32,48,32,109,94,49,32,75,94,45,49],
 [100,105,102,102,101,114,101,110,99,101,32,107,105,110,100,32,48,32,102,97,99,116,111,114,32,49,47,49,48,48,48,32,111,102,102,115,101,116,32,48,32,109,94,51],
 [100,105,102,102,101,114,101,110,99,101,32,107,105,110,100,32,48,32,102,97,99,116,111,114,32,49,47,49,48,48,48,32,111,102,102,115,101,116,32,48,32,109,94,45,49],
 [100,105,102,102,101,114,101,110,99,101,32,107,105,110,100,32,48,32,102,97,99,116,111,114,32,49,48,48,48,32,111,102,102,115,101,116,32,48,32,109,94,45,49],
 [100,105,102,102,101,114,101,110,99,101,32,107,105,110,100,32,48,32,102,97,99,116,111,114,32,49,47,49,48,48,48,48,48,48,48,48,48,32,111,102,102,115,101,116,32,48,32,109,94,51],
 [100,105,102,102,101,114,101,110,99,101,32,107,105,110,100,32,48,32,102,97,99,116,111,114,32,49,48,48,48,48,48,48,32,111,102,102,115,101,116,32,48,32,109,94,45,50],
 [100,105,102,102,101,114,101,110,99,101,32,107,105,110,100,32,48,32,102,97,99,116,111,114,32,49,32,111,102,102,115,101,116,32,48,32,75,94,45,49],
 [100,105,102,102,101,114,101,110,99,101,32,107,105,110,100,32,48,32,102,97,99,116,111,114,32,49,32,111,102,102,115,101,116,32,48,32,109,94,45,49,32,75,94,49],
 [100,105,102,102,101,114,101,110,99,101,32,107,105,110,100,32,48,32,102,97,99,116,111,114,32,49,32,111,102,102,115,101,116,32,48,32,115,94,45,49,32,75,94,49],
 [100,105,102,102,101,114,101,110,99,101,32,107,105,110,100,32,48,32,102,97,99,116,111,114,32,49,48,48,48,32,111,102,102,115,101,116,32,48,32,109,94,45,49,32,75,94,49],
 [100,105,102,102,101,114,101,110,99,101,32,107,105,110,100,32,48,32,102,97,99,116,111,114,32,49,32,111,102,102,115,101,116,32,48,32,75,94,50],
 [100,105,102,102,101,114,101,110,99,101,32,107,105,110,100,32,48,32,102,97,99,116,111,114,32,49,32,111,102,102,115,101,116,32,48,32,109,94,50,32,75,94,49],
 [100,105,102,102,101,114,101,110,99,101,32,107,105,110,100,32,48,32,102,97,99,116,111,114,32,49,32,111,102,102,115,101,116,32,48,32,109,94,45,50,32,75,94,49],
 [100,105,102,102,101,114,101,110,99,101,32,107,105,110,100,32,48,32,102,97,99,116,111,114,32,49,32,111,102,102,115,101,116,32,48,32,75,94,51],
 [100,105,102,102,101,114,101,110,99,101,32,107,105,110,100,32,48,32,102,97,99,116,111,114,32,49,32,111,102,102,115,101,116,32,48,32,75,94,45,50],
 [100,105,102,102,101,114,101,110,99,101,32,107,105,110,100,32,48,32,102,97,99,116,111,114,32,49,32,111,102,102,115,101,116,32,48,32,109,94,50,32,115,94,45,49],
 [100,105,102,102,101,114,101,110,99,101,32,107,105,110,100,32,48,32,102,97,99,116,111,114,32,49,48,48,48,32,111,102,102,115,101,116,32,48,32,109,94,49],
 [100,105,102,102,101,114,101,110,99,101,32,107,105,110,100,32,48,32,102,97,99,116,111,114,32,49,32,111,102,102,115,101,116,32,48,32,109,94,50,32,75,94,45,49],
 [100,105,102,102,101,114,101,110,99,101,32,107,105,110,100,32,48,32,102,97,99,116,111,114,32,49,32,111,102,102,115,101,116,32,48,32,109,94,52],
 [100,105,102,102,101,114,101,110,99,101,32,107,105,110,100,32,48,32,102,97,99,116,111,114,32,49,32,111,102,102,115,101,116,32,48,32,109,94,54],
 [100,105,102,102,101,114,101,110,99,101,32,107,105,110,100,32,48,32,102,97,99,116,111,114,32,49,32,111,102,102,115,101,116,32,48,32,109,94,45,52]]
def Jv (k:Nat):List UInt8:=B93.getD k []
def C5O:List (List (List (Option Nat))):=[
 [[some 0,none,none,none,none,none,none],
  [none,some 1,none,none,none,none,none],
  [none,none,some 2,none,none,none,none],
  [none,none,none,some 3,none,none,none],
  [none,none,none,none,none,some 4,none],
  [none,none,none,none,some 4,some 5,none],
  [none,none,none,none,none,none,some 6]],
 [[some 0,none,none,none,none,none,none],
  [none,some 1,none,none,none,none,none],
  [none,none,some 2,none,none,none,none],
  [none,none,none,some 3,none,none,none],
  [none,none,none,none,some 5,some 4,none],
  [none,none,none,none,none,some 5,none],
  [none,none,none,none,none,none,some 6]],
 [[some 6,some 7,some 9,some 0,none,some 11,some 13],
  [some 7,some 17,some 18,some 1,none,some 20,some 22],
  [some 9,some 18,some 29,some 2,none,some 30,some 32],
  [some 0,some 1,some 2,some 3,none,some 5,some 6],
  [none,none,none,none,none,none,none],
  [some 11,some 20,some 30,some 5,none,some 41,some 42],
  [some 13,some 22,some 32,some 6,none,some 42,some 49]],
 [[some 3,some 8,some 10,some 0,none,some 12,some 14],
  [some 16,some 3,some 19,some 1,none,some 21,some 23],
  [some 27,some 28,some 3,some 2,none,some 31,some 33],
  [some 14,some 24,some 34,some 3,none,some 37,some 15],
  [none,none,none,none,none,none,none],
  [some 38,some 39,some 40,some 5,none,some 3,some 43],
  [some 0,some 46,some 47,some 6,none,some 48,some 3]]]
def RH (o i j:Nat):Option Nat:=((C5O.getD o []).getD i []).getD j none
def Yh (k:Nat):Int:=([2, -1,3, -2,1]:List Int).getD k 0
def C32:List (List (Option Nat)):=[[some 6,some 14,some 13,some 15,some 0],
 [some 17,some 24,some 25,some 26,some 1],
 [some 29,some 34,some 35,some 36,some 2],
 [some 3,some 3,some 3,some 3,some 3],
 [none,none,none,none,none],
 [some 41,some 37,some 44,some 45,some 5],
 [some 49,some 15,some 50,some 51,some 6]]
def Tr (i k:Nat):Option Nat:=(C32.getD i []).getD k none
def XA3:Option Nat→AV
 |some k=> .tup [.agg (uu k).cs,I 0]
 |none=> .tup [.agg u0.cs,I 70]
def isU:Option Nat→Bool
 |some _=>true
 |none=>false
def B52 (p:Nat→Bool) (m:Nat):Nat→Prop
 |0=>True
 |c+1=>((List.range m).all λk=>p (c*m+k))=true∧B52 p m c
theorem Vr {p:Nat→Bool} {m:Nat}:B52 p m 0:=trivial
theorem Vq {p:Nat→Bool} {m c:Nat} (h:((List.range m).all λk=>p (c*m+k))=true) (h2:B52 p m c):B52 p m (c+1):=⟨h,h2⟩
theorem Vp {p:Nat→Bool} {m:Nat}:∀{c:Nat},B52 p m c→∀{i:Nat},i<c*m→p i=true:=by
 intro c
 induction c with
 |zero=>intro _ i hi;omega
 |succ c ih=>
  intro h i hi
  by_cases hc:i<c*m
  ·exact ih h.2 hc
  ·have h1:=Hv.1 h.1 (i-c*m) (IL.2 (by rw[l19] at hi;omega))
   have e:c*m+(i-c*m)=i:=by omega
   rw[e] at h1
   exact h1
def YF:Rt→Nat→List AV→Hp→(AV→Al)→Al:=Classical.choose (⟨Ah,rfl⟩:∃z:Rt→Nat→List AV→Hp→(AV→Al)→Al,Ah=z)
theorem zO:Ah=YF:=Classical.choose_spec (⟨Ah,rfl⟩:∃z:Rt→Nat→List AV→Hp→(AV→Al)→Al,Ah=z)
def eBi:TI→BinOp→AV→AV→(AV→Al)→Al:=Classical.choose (⟨Go.Abs.Ak,rfl⟩:∃z:TI→BinOp→AV→AV→(AV→Al)→Al,Go.Abs.Ak=z)
theorem bO:Go.Abs.Ak=eBi:=Classical.choose_spec (⟨Go.Abs.Ak,rfl⟩:∃z:TI→BinOp→AV→AV→(AV→Al)→Al,Go.Abs.Ak=z)
def eEq:List LK→BinOp→AV→AV→(AV→Al)→Al:=Classical.choose (⟨Go.Abs.Uc,rfl⟩:∃z:List LK→BinOp→AV→AV→(AV→Al)→Al,Go.Abs.Uc=z)
theorem qO:Go.Abs.Uc=eEq:=Classical.choose_spec (⟨Go.Abs.Uc,rfl⟩:∃z:List LK→BinOp→AV→AV→(AV→Al)→Al,Go.Abs.Uc=z)
def cnd:AV→Al→Al→Al:=Classical.choose (⟨As,rfl⟩:∃z:AV→Al→Al→Al,As=z)
theorem cO:As=cnd:=Classical.choose_spec (⟨As,rfl⟩:∃z:AV→Al→Al→Al,As=z)
theorem Nr {x y:Al}:cnd (.v (.bool true)) x y=x:=by rw[←cO];rfl
theorem XA1 {x y:Al}:cnd (.v (.bool false)) x y=y:=by rw[←cO];rfl
section
variable {K:AV→Al} {i:TI} {k:IntKind} {a b:Int} {s u:List UInt8}
theorem NH (h:a=b):eBi i .eql (.v (.int k a)) (.v (.int k b)) K=K (Bo true):=by rw[←bO,Dy,decide_eq_true h]
theorem SY (h:a≠b):eBi i .eql (.v (.int k a)) (.v (.int k b)) K=K (Bo false):=by rw[←bO,Dy,decide_eq_false h]
theorem B3A (h:a=b):eBi i .neq (.v (.int k a)) (.v (.int k b)) K=K (Bo false):=by rw[←bO,Hu,decide_eq_true h];rfl
theorem A9D (h:a≤b):eBi i .leq (.v (.int k a)) (.v (.int k b)) K=K (Bo true):=by rw[←bO,WW,decide_eq_true h]
theorem A9L (h:b≤a):eBi i .geq (.v (.int k a)) (.v (.int k b)) K=K (Bo true):=by rw[←bO,LV,decide_eq_true h]
end
theorem B1H:∀{ks:List LK} {xs:List Value},fits ks xs=true→Uj xs xs=some true:=by
 intro ks
 induction ks with
 |nil=>intro xs h;cases xs with|nil=>rfl|cons a l=>simp[fits] at h
 |cons k ks ih=>
  intro xs h
  cases xs with
  |nil=>rfl
  |cons a l=>
   simp only[fits,Jp] at h
   have h2:=ih h.2
   have e:Uj (a::l) (a::l)=(match WA a a with|some b=>(match Uj l l with|some c=>some (b&&c)|none=>none)|none=>none):=rfl
   rw[e,h2]
   have h1:WA a a=some true:=by
    have h1:=h.1
    cases k<;>cases a<;>simp[LK.fit] at h1<;>simp[WA,NV,Pz]
   rw[h1];rfl
theorem A9N (xs:List Value):∀K:List Value→Al,Y2 (xs.map AV.v) K=K xs:=by
 induction xs with
 |nil=>intro K;rfl
 |cons a l ih=>intro K;exact ih _
theorem B4t {ks:List LK} (xs:List Value) (h:fits ks xs=true) (K:AV→Al):eEq ks .eql (.agg (xs.map AV.v)) (.agg (xs.map AV.v)) K=K (Bo true):=by
 rw[←qO]
 have e:Go.Abs.Uc ks .eql (.agg (xs.map AV.v)) (.agg (xs.map AV.v)) K=Y2 (xs.map AV.v) λxs'=>Y2 (xs.map AV.v) λys=>ck (fits ks xs') (match Uj xs' ys,BinOp.eql with
  |some q,.eql=>bB q K
  |some q,.neq=>bB (!q) K
  |_,_=>none):=rfl
 rw[e,A9N,A9N,B1H h,h]
 show bB true K=_
 rw[La]
theorem A1Q (u:UD) (K:AV→Al):eEq Ii .eql (.agg u.cs) (.agg u.cs) K=K (Bo true):=
 B4t (ks:=Ii) [.int .i64 u.p0,.int .i64 u.q0,.int .i64 u.p1,.int .i64 u.q1,.int .i64 u.p2,.int .i64 u.q2,.int .i64 u.p3,.int .i64 u.q3,.int .i64 u.p4,.int .i64 u.q4,.int .i64 u.p5,.int .i64 u.q5,.int .i64 u.p6,.int .i64 u.q6,.string ⟨⟨u.fn⟩⟩,.string ⟨⟨u.fd⟩⟩,.string ⟨⟨u.on⟩⟩,.string ⟨⟨u.od⟩⟩,.int .i64 u.kd,.int .i64 u.sc] rfl K
def LS (R:Rt) (f:Nat) (args':List AV) (v:AV):Prop:=∀(q:Bool) (args:List AV) (H:Hp),PH true depth args args' H q→∀K,YF R f args H K=K v
theorem CS.ls {R:Rt} {f:Nat} {args':List AV} {v:AV} (h:CS R f args' v):LS R f args' v:= λ_ _ _ ha _=>by rw[←zO];exact Be h ha
theorem PS.ls {R:Rt} {f:Nat} {args:List AV} {v:AV} (h:PS R f args v) (ha:∀q args' H,PH true depth args' args H q→args'=args):LS R f args v:= λq args' H hf K=>by rw[←zO,ha q args' H hf];exact h H K
def PO (R:Rt) (f:Nat) (args:List AV) (v:AV):Prop:=∀H K,YF R f args H K=K v
theorem PS.o {R:Rt} {f:Nat} {args:List AV} {v:AV} (h:PS R f args v):PO R f args v:= λH K=>by rw[←zO];exact h H K
section
variable {L n:Nat}
attribute [local irreducible] Ah rt YF eBi eEq cnd Go.Abs.Ak Go.Abs.Uc As
theorem VU {z lo hi:Int} (h1:lo≤z) (h2:z≤hi):PS (rt (L+20) (n+1)) BO [I z,I lo,I hi] (Bo true):=by
 refine CS.ps (λK hK=> ?_) (λH=> λK=>by kernel_rfl)
 rewrite [Su]
 unfold J4 AU CH
 try rewrite [zO]
 try rewrite [bO]
 try rewrite [qO]
 try rewrite [cO]
 conv=>lhs;whnf
 rewrite [A9L h1]
 conv=>lhs;whnf
 rewrite [A9D h2]
 conv=>lhs;whnf
 exact hK _ _ (λb=>⟨false,λK=>by kernel_rfl⟩)
theorem T2 {z lo hi:Int} (h1:lo≤z) (h2:z≤hi):PS (rt (L+20) (n+1)) CL [I z,I lo,I hi] (Bo true):=by
 refine CS.ps (λK hK=> ?_) (λH=> λK=>by kernel_rfl)
 rewrite [XI]
 unfold OY AU CH
 try rewrite [zO]
 try rewrite [bO]
 try rewrite [qO]
 try rewrite [cO]
 conv=>lhs;whnf
 rewrite [A9L h1]
 conv=>lhs;whnf
 rewrite [A9D h2]
 conv=>lhs;whnf
 exact hK _ _ (λb=>⟨false,λK=>by kernel_rfl⟩)
def Sl (T:AV):Prop:=T= .v (.slice none 0 0)∨∃n cs,T= .list n cs
abbrev AM:AV:= .v (.slice none 0 0)
abbrev Cb (u:UD):List AV:=[I u.p0,I u.q0,I u.p1,I u.q1,I u.p2,I u.q2,I u.p3,I u.q3,I u.p4,I u.q4,I u.p5,I u.q5,I u.p6,I u.q6,S u.fn,S u.fd,S u.on,S u.od,I u.kd,I u.sc]
abbrev Va (ca cb:List UInt8) (T:AV) (ra rb:List UInt8):List AV:=[S ca,S cb,T,S ra,S rb]
abbrev Bs (id:Int) (ins nds:AV) (u:UD):List AV:=[I id,ins,nds,
 I u.p0,I u.q0,I u.p1,I u.q1,I u.p2,I u.q2,I u.p3,I u.q3,I u.p4,I u.q4,I u.p5,I u.q5,I u.p6,I u.q6,S u.fn,S u.fd,S u.on,S u.od,I u.kd,I u.sc]
structure RD where
 k:Int
 (a1 a2 b1 b2 c1 c2 d1 d2:List UInt8)
abbrev RD.cs (r:RD):List AV:=[I r.k,S r.a1,S r.a2,S r.b1,S r.b2,S r.c1,S r.c2,S r.d1,S r.d2]
def r0:RD:=⟨0,[],[],[],[],[],[],[],[]⟩
structure ND where
 (lab num itm tim day:Int)
def rr (k:Nat):RD:=⟨k,[45,53],[49],[50,53],[50],if k=2 then[49] else[48],if k=2 then[50] else[49],[49],[50,48]⟩
abbrev DF (kd:Int) (m:ND) (u:UD) (ca cb:List UInt8) (T:AV) (ra rb:List UInt8) (P:AV) (id:Int) (ins nds:AV) (o:UD) (r:RD) (vd:Int):List AV:=[I kd,I m.lab,I m.num,I m.itm,I m.tim,I m.day,
 I u.p0,I u.q0,I u.p1,I u.q1,I u.p2,I u.q2,I u.p3,I u.q3,I u.p4,I u.q4,I u.p5,I u.q5,I u.p6,I u.q6,S u.fn,S u.fd,S u.on,S u.od,I u.kd,I u.sc,
 S ca,S cb,T,S ra,S rb,P,I id,ins,nds,
 I o.p0,I o.q0,I o.p1,I o.q1,I o.p2,I o.q2,I o.p3,I o.q3,I o.p4,I o.q4,I o.p5,I o.q5,I o.p6,I o.q6,S o.fn,S o.fd,S o.on,S o.od,I o.kd,I o.sc,
 I r.k,S r.a1,S r.a2,S r.b1,S r.b2,S r.c1,S r.c2,S r.d1,S r.d2,I vd,I 0,AM,AM]
def ND.ok (m:ND):Prop:=1≤m.lab∧m.lab≤9∧1≤m.num∧m.num≤9∧1≤m.itm∧m.itm≤9∧0≤m.tim∧m.tim≤100∧0≤m.day∧m.day≤100
abbrev A9e:List AV:=[zI,zL,zL,zI,zI,zI,zI,zI,zI,zI,zI,zI,zI,zI,zI,zI,zI,zS,zS,zS,zS,zI,zI]
theorem B2f:PS (rt (L+20) (n+40)) MQ [.agg (Bs 0 AM AM u0),.agg A9e] (Bo true):=Bu (λH K=>by kernel_rfl) (by kernel_rfl)
theorem B30:PS (rt (L+20) (n+40)) SE [.agg (Bs 0 AM AM u0),.agg A9e] (Bo true):=Bu (λH K=>by kernel_rfl) (by kernel_rfl)
section
variable {m:ND} {u o:UD} {ca cb ra rb:List UInt8} {T P ins nds:AV} {id vd:Int} {r:RD}
theorem B0j (hm:m.ok) (hT:Sl T) (hP:∃n cs,P= .list n cs) (hI:∃n cs,ins= .list n cs) (hN:∃n cs,nds= .list n cs)
 (hc:LS (rt (L+20) (n+60)) Dl [.agg (DF 2 m u ca cb T ra rb P id ins nds o r0 0)] (Bo true))
 (hu:PO (rt (L+20) (n+60)) Gh [.agg (Cb u)] (Bo true)) (hf:LS (rt (L+20) (n+60)) Ib [.agg (Va ca cb T ra rb)] (Bo true)):
 CS (rt (L+20) (n+61)) Df [.agg (DF 2 m u ca cb T ra rb P id ins nds o r0 0)] (Bo true):=by
 intro K hK
 obtain⟨h1,h2,h3,h4,h5,h6,h7,h8,h9,h10⟩:=hm
 obtain⟨n1,c1,rfl⟩:=hP
 obtain⟨n2,c2,rfl⟩:=hI
 obtain⟨n3,c3,rfl⟩:=hN
 have hb:∀{z lo hi:Int},lo≤z→z≤hi→PO (rt (L+20) (n+60)) BO [I z,I lo,I hi] (Bo true):= λa b=>(VU a b).o
 rcases hT with rfl|⟨n4,c4,rfl⟩
 all_goals
  rewrite [HC]
  unfold EH AU Bw Ar E4 CH
  try rewrite [zO]
  try rewrite [bO]
  try rewrite [qO]
  try rewrite [cO]
  generalize rt (L+20) (n+60)=R at*
  conv=>lhs;whnf
  rewrite [hb h1 (by omega)]
  conv=>lhs;whnf
  rewrite [hb h3 (by omega)]
  conv=>lhs;whnf
  rewrite [hb h5 (by omega)]
  conv=>lhs;whnf
  rewrite [hb h7 (by omega)]
  conv=>lhs;whnf
  rewrite [hb h9 (by omega)]
  conv=>lhs;whnf
  rewrite [hu]
  conv=>lhs;whnf
  rewrite [(hf) false _ _ ?hq]
  case hq=>exact λK=>by kernel_rfl
  conv=>lhs;whnf
  rewrite [XA1]
  conv=>lhs;whnf
  rewrite [show∀K,eEq Gs BinOp.eql (AV.agg [I r0.k,S r0.a1,S r0.a2,S r0.b1,S r0.b2,S r0.c1,S r0.c2,S r0.d1,S r0.d2]) (AV.agg [zI,zS,zS,zS,zS,zS,zS,zS,zS]) K=K (Bo true) from λK=>by rw[←qO];kernel_rfl]
  conv=>lhs;whnf
  rewrite [NH ?hc]
  case hc=>decide
  conv=>lhs;whnf
  rewrite [SY ?hc]
  case hc=>decide
  conv=>lhs;whnf
  rewrite [XA1]
  conv=>lhs;whnf
  rewrite [NH ?hc]
  case hc=>decide
  conv=>lhs;whnf
  rewrite [Nr]
  conv=>lhs;whnf
  rewrite [(hc) false _ _ ?hq]
  case hq=>exact λK=>by kernel_rfl
  conv=>lhs;whnf
  exact hK _ _ (λb=>⟨false,λK=>by kernel_rfl⟩)
theorem B0k (hm:m.ok) (hT:Sl T) (hs:PO (rt (L+20) (n+60)) MQ [.agg (Bs 0 AM AM o),.agg A9e] (Bo true))
 (hu:PO (rt (L+20) (n+60)) Gh [.agg (Cb u)] (Bo true)) (hf:LS (rt (L+20) (n+60)) Ib [.agg (Va ca cb T ra rb)] (Bo true)):
 CS (rt (L+20) (n+61)) Df [.agg (DF 1 m u ca cb T ra rb AM 0 AM AM o r0 0)] (Bo true):=by
 intro K hK
 obtain⟨h1,h2,h3,h4,h5,h6,h7,h8,h9,h10⟩:=hm
 have hb:∀{z lo hi:Int},lo≤z→z≤hi→PO (rt (L+20) (n+60)) BO [I z,I lo,I hi] (Bo true):= λa b=>(VU a b).o
 rcases hT with rfl|⟨n4,c4,rfl⟩
 all_goals
  rewrite [HC]
  unfold EH AU Bw Ar E4 CH
  try rewrite [zO]
  try rewrite [bO]
  try rewrite [qO]
  try rewrite [cO]
  generalize rt (L+20) (n+60)=R at*
  conv=>lhs;whnf
  rewrite [hb h1 (by omega)]
  conv=>lhs;whnf
  rewrite [hb h3 (by omega)]
  conv=>lhs;whnf
  rewrite [hb h5 (by omega)]
  conv=>lhs;whnf
  rewrite [hb h7 (by omega)]
  conv=>lhs;whnf
  rewrite [hb h9 (by omega)]
  conv=>lhs;whnf
  rewrite [hu]
  conv=>lhs;whnf
  rewrite [(hf) false _ _ ?hq]
  case hq=>exact λK=>by kernel_rfl
  conv=>lhs;whnf
  rewrite [XA1]
  conv=>lhs;whnf
  rewrite [show∀K,eEq Gs BinOp.eql (AV.agg [I r0.k,S r0.a1,S r0.a2,S r0.b1,S r0.b2,S r0.c1,S r0.c2,S r0.d1,S r0.d2]) (AV.agg [zI,zS,zS,zS,zS,zS,zS,zS,zS]) K=K (Bo true) from λK=>by rw[←qO];kernel_rfl]
  conv=>lhs;whnf
  rewrite [NH ?hc]
  case hc=>decide
  conv=>lhs;whnf
  rewrite [NH ?hc]
  case hc=>decide
  conv=>lhs;whnf
  rewrite [Nr]
  conv=>lhs;whnf
  rewrite [NH ?hc]
  case hc=>decide
  conv=>lhs;whnf
  rewrite [hs]
  conv=>lhs;whnf
  exact hK _ _ (λb=>⟨false,λK=>by kernel_rfl⟩)
theorem B0i (hm:m.ok) (hT:Sl T) (hP:∃n cs,P= .list n cs) (hI:∃n cs,ins= .list n cs) (hN:∃n cs,nds= .list n cs) (hr0:∀K,eEq Gs BinOp.eql (AV.agg r.cs) (AV.agg [zI,zS,zS,zS,zS,zS,zS,zS,zS]) K=K (Bo false)) (hr:PO (rt (L+20) (n+60)) Py [.agg r.cs] (Bo true)) (hv1:1≤vd) (hv2:vd≤3)
 (hu:PO (rt (L+20) (n+60)) Gh [.agg (Cb u)] (Bo true)) (hf:LS (rt (L+20) (n+60)) Ib [.agg (Va ca cb T ra rb)] (Bo true))
 (hc:LS (rt (L+20) (n+60)) Dl [.agg (DF 3 m u ca cb T ra rb P id ins nds o r vd)] (Bo true)):
 CS (rt (L+20) (n+61)) Df [.agg (DF 3 m u ca cb T ra rb P id ins nds o r vd)] (Bo true):=by
 intro K hK
 obtain⟨h1,h2,h3,h4,h5,h6,h7,h8,h9,h10⟩:=hm
 obtain⟨n1,c1,rfl⟩:=hP
 obtain⟨n2,c2,rfl⟩:=hI
 obtain⟨n3,c3,rfl⟩:=hN
 have hb:∀{z lo hi:Int},lo≤z→z≤hi→PO (rt (L+20) (n+60)) BO [I z,I lo,I hi] (Bo true):= λa b=>(VU a b).o
 rcases hT with rfl|⟨n4,c4,rfl⟩
 all_goals
  rewrite [HC]
  unfold EH AU Bw Ar E4 CH
  try rewrite [zO]
  try rewrite [bO]
  try rewrite [qO]
  try rewrite [cO]
  generalize rt (L+20) (n+60)=R at*
  conv=>lhs;whnf
  rewrite [hb h1 (by omega)]
  conv=>lhs;whnf
  rewrite [hb h3 (by omega)]
  conv=>lhs;whnf
  rewrite [hb h5 (by omega)]
  conv=>lhs;whnf
  rewrite [hb h7 (by omega)]
  conv=>lhs;whnf
  rewrite [hb h9 (by omega)]
  conv=>lhs;whnf
  rewrite [hu]
  conv=>lhs;whnf
  rewrite [(hf) false _ _ ?hq]
  case hq=>exact λK=>by kernel_rfl
  conv=>lhs;whnf
  rewrite [XA1]
  conv=>lhs;whnf
  rewrite [hr0]
  conv=>lhs;whnf
  rewrite [SY ?hc]
  case hc=>decide
  conv=>lhs;whnf
  rewrite [XA1]
  conv=>lhs;whnf
  rewrite [SY ?hc]
  case hc=>decide
  conv=>lhs;whnf
  rewrite [XA1]
  conv=>lhs;whnf
  rewrite [NH ?hc]
  case hc=>decide
  conv=>lhs;whnf
  rewrite [Nr]
  conv=>lhs;whnf
  rewrite [(hc) false _ _ ?hq]
  case hq=>exact λK=>by kernel_rfl
  conv=>lhs;whnf
  rewrite [hr]
  conv=>lhs;whnf
  rewrite [hb hv1 hv2]
  conv=>lhs;whnf
  exact hK _ _ (λb=>⟨false,λK=>by kernel_rfl⟩)
end
end
section
variable {L n:Nat}
attribute [local irreducible] Ah rt YF eBi eEq cnd Go.Abs.Ak Go.Abs.Uc As
section
variable {m:ND} {u o:UD} {ca cb ra rb:List UInt8} {T P ins nds:AV} {id vd:Int} {r:RD}
theorem B0G (hm:m.ok) (hT:Sl T) (hr:PO (rt (L+20) (n+60)) Gp [.agg r0.cs] (Bo false))
 (hs:PO (rt (L+20) (n+60)) SE [.agg (Bs 0 AM AM o),.agg A9e] (Bo true))
 (hu:PO (rt (L+20) (n+60)) DH [.agg (Cb u)] (Bo true)) (hf:LS (rt (L+20) (n+60)) Gq [.agg (Va ca cb T ra rb)] (Bo true)):
 CS (rt (L+20) (n+61)) DA [.agg (DF 1 m u ca cb T ra rb AM 0 AM AM o r0 0)] (.tup [Bo true,Bo false]):=by
 intro K hK
 obtain⟨h1,h2,h3,h4,h5,h6,h7,h8,h9,h10⟩:=hm
 have hb:∀{z lo hi:Int},lo≤z→z≤hi→PO (rt (L+20) (n+60)) CL [I z,I lo,I hi] (Bo true):= λa b=>(T2 a b).o
 rcases hT with rfl|⟨n4,c4,rfl⟩
 all_goals
  rewrite [HW]
  unfold Gy AU Bw Ar E4 CH
  try rewrite [zO]
  try rewrite [bO]
  try rewrite [qO]
  try rewrite [cO]
  generalize rt (L+20) (n+60)=R at*
  conv=>lhs;whnf
  rewrite [SY ?hc]
  case hc=>decide
  conv=>lhs;whnf
  rewrite [hu]
  conv=>lhs;whnf
  rewrite [(hf) false _ _ ?hq]
  case hq=>exact λK=>by kernel_rfl
  conv=>lhs;whnf
  rewrite [hb h1 (by omega)]
  conv=>lhs;whnf
  rewrite [hb h3 (by omega)]
  conv=>lhs;whnf
  rewrite [hb h5 (by omega)]
  conv=>lhs;whnf
  rewrite [hb h7 (by omega)]
  conv=>lhs;whnf
  rewrite [hb h9 (by omega)]
  conv=>lhs;whnf
  rewrite [XA1]
  conv=>lhs;whnf
  rewrite [hr]
  conv=>lhs;whnf
  rewrite [show∀K,eEq Gs BinOp.neq (AV.agg [I r0.k,S r0.a1,S r0.a2,S r0.b1,S r0.b2,S r0.c1,S r0.c2,S r0.d1,S r0.d2]) (AV.agg [zI,zS,zS,zS,zS,zS,zS,zS,zS]) K=K (Bo false) from λK=>by rw[←qO];kernel_rfl]
  conv=>lhs;whnf
  rewrite [B3A ?hc]
  case hc=>decide
  conv=>lhs;whnf
  rewrite [XA1]
  conv=>lhs;whnf
  rewrite [NH ?hc]
  case hc=>decide
  conv=>lhs;whnf
  rewrite [Nr]
  conv=>lhs;whnf
  rewrite [hs]
  conv=>lhs;whnf
  rewrite [NH ?hc]
  case hc=>decide
  conv=>lhs;whnf
  exact hK _ _ (λb=>⟨false,λK=>by kernel_rfl⟩)
theorem B0F (hm:m.ok) (hT:Sl T) (hr:PO (rt (L+20) (n+60)) Gp [.agg r0.cs] (Bo false)) {n2:Nat} {c2:List AV} (hP:∃n cs,P= .list n cs) (hN:∃n cs,nds= .list n cs)
 (hp:LS (rt (L+20) (n+60)) EW [P] (.tup [Bo true,I n2])) (hv:LS (rt (L+20) (n+60)) Ei [.agg (Bs id (.list n2 c2) nds u)] (Bo true))
 (hu:PO (rt (L+20) (n+60)) DH [.agg (Cb u)] (Bo true)) (hf:LS (rt (L+20) (n+60)) Gq [.agg (Va ca cb T ra rb)] (Bo true)):
 CS (rt (L+20) (n+61)) DA [.agg (DF 2 m u ca cb T ra rb P id (.list n2 c2) nds u r0 0)] (.tup [Bo true,Bo false]):=by
 intro K hK
 obtain⟨h1,h2,h3,h4,h5,h6,h7,h8,h9,h10⟩:=hm
 obtain⟨n1,c1,rfl⟩:=hP
 obtain⟨n3,c3,rfl⟩:=hN
 have hb:∀{z lo hi:Int},lo≤z→z≤hi→PO (rt (L+20) (n+60)) CL [I z,I lo,I hi] (Bo true):= λa b=>(T2 a b).o
 rcases hT with rfl|⟨n4,c4,rfl⟩
 all_goals
  rewrite [HW]
  unfold Gy AU Bw Ar E4 CH
  try rewrite [zO]
  try rewrite [bO]
  try rewrite [qO]
  try rewrite [cO]
  generalize rt (L+20) (n+60)=R at*
  conv=>lhs;whnf
  rewrite [SY ?hc]
  case hc=>decide
  conv=>lhs;whnf
  rewrite [hu]
  conv=>lhs;whnf
  rewrite [(hf) false _ _ ?hq]
  case hq=>exact λK=>by kernel_rfl
  conv=>lhs;whnf
  rewrite [hb h1 (by omega)]
  conv=>lhs;whnf
  rewrite [hb h3 (by omega)]
  conv=>lhs;whnf
  rewrite [hb h5 (by omega)]
  conv=>lhs;whnf
  rewrite [hb h7 (by omega)]
  conv=>lhs;whnf
  rewrite [hb h9 (by omega)]
  conv=>lhs;whnf
  rewrite [XA1]
  conv=>lhs;whnf
  rewrite [hr]
  conv=>lhs;whnf
  rewrite [show∀K,eEq Gs BinOp.neq (AV.agg [I r0.k,S r0.a1,S r0.a2,S r0.b1,S r0.b2,S r0.c1,S r0.c2,S r0.d1,S r0.d2]) (AV.agg [zI,zS,zS,zS,zS,zS,zS,zS,zS]) K=K (Bo false) from λK=>by rw[←qO];kernel_rfl]
  conv=>lhs;whnf
  rewrite [B3A ?hc]
  case hc=>decide
  conv=>lhs;whnf
  rewrite [XA1]
  conv=>lhs;whnf
  rewrite [SY ?hc]
  case hc=>decide
  conv=>lhs;whnf
  rewrite [XA1]
  conv=>lhs;whnf
  rewrite [NH ?hc]
  case hc=>decide
  conv=>lhs;whnf
  rewrite [Nr]
  conv=>lhs;whnf
  rewrite [Nr]
  conv=>lhs;whnf
  rewrite [(hp) false _ _ ?hq]
  case hq=>exact λK=>by kernel_rfl
  conv=>lhs;whnf
  rewrite [(hv) false _ _ ?hq]
  case hq=>exact λK=>by kernel_rfl
  conv=>lhs;whnf
  rewrite [NH ?hc]
  case hc=>rfl
  conv=>lhs;whnf
  rewrite [A1Q u]
  conv=>lhs;whnf
  exact hK _ _ (λb=>⟨false,λK=>by kernel_rfl⟩)
theorem B0E (hm:m.ok) (hT:Sl T) (hr:PO (rt (L+20) (n+60)) Gp [.agg r.cs] (Bo true)) (hv1:1≤vd) (hv2:vd≤3) {n2:Nat} {c2:List AV} (hP:∃n cs,P= .list n cs) (hN:∃n cs,nds= .list n cs)
 (hp:LS (rt (L+20) (n+60)) EW [P] (.tup [Bo true,I n2])) (hv:LS (rt (L+20) (n+60)) Ei [.agg (Bs id (.list n2 c2) nds u)] (Bo true))
 (hu:PO (rt (L+20) (n+60)) DH [.agg (Cb u)] (Bo true)) (hf:LS (rt (L+20) (n+60)) Gq [.agg (Va ca cb T ra rb)] (Bo true)):
 CS (rt (L+20) (n+61)) DA [.agg (DF 3 m u ca cb T ra rb P id (.list n2 c2) nds u r vd)] (.tup [Bo true,Bo true]):=by
 intro K hK
 obtain⟨h1,h2,h3,h4,h5,h6,h7,h8,h9,h10⟩:=hm
 obtain⟨n1,c1,rfl⟩:=hP
 obtain⟨n3,c3,rfl⟩:=hN
 have hb:∀{z lo hi:Int},lo≤z→z≤hi→PO (rt (L+20) (n+60)) CL [I z,I lo,I hi] (Bo true):= λa b=>(T2 a b).o
 rcases hT with rfl|⟨n4,c4,rfl⟩
 all_goals
  rewrite [HW]
  unfold Gy AU Bw Ar E4 CH
  try rewrite [zO]
  try rewrite [bO]
  try rewrite [qO]
  try rewrite [cO]
  generalize rt (L+20) (n+60)=R at*
  conv=>lhs;whnf
  rewrite [NH ?hc]
  case hc=>decide
  conv=>lhs;whnf
  rewrite [hu]
  conv=>lhs;whnf
  rewrite [(hf) false _ _ ?hq]
  case hq=>exact λK=>by kernel_rfl
  conv=>lhs;whnf
  rewrite [hb h1 (by omega)]
  conv=>lhs;whnf
  rewrite [hb h3 (by omega)]
  conv=>lhs;whnf
  rewrite [hb h5 (by omega)]
  conv=>lhs;whnf
  rewrite [hb h7 (by omega)]
  conv=>lhs;whnf
  rewrite [hb h9 (by omega)]
  conv=>lhs;whnf
  rewrite [XA1]
  conv=>lhs;whnf
  rewrite [hr]
  conv=>lhs;whnf
  rewrite [hb hv1 hv2]
  conv=>lhs;whnf
  rewrite [XA1]
  conv=>lhs;whnf
  rewrite [SY ?hc]
  case hc=>decide
  conv=>lhs;whnf
  rewrite [XA1]
  conv=>lhs;whnf
  rewrite [SY ?hc]
  case hc=>decide
  conv=>lhs;whnf
  rewrite [XA1]
  conv=>lhs;whnf
  rewrite [NH ?hc]
  case hc=>decide
  conv=>lhs;whnf
  rewrite [Nr]
  conv=>lhs;whnf
  rewrite [(hp) false _ _ ?hq]
  case hq=>exact λK=>by kernel_rfl
  conv=>lhs;whnf
  rewrite [(hv) false _ _ ?hq]
  case hq=>exact λK=>by kernel_rfl
  conv=>lhs;whnf
  rewrite [NH ?hc]
  case hc=>rfl
  conv=>lhs;whnf
  rewrite [A1Q u]
  conv=>lhs;whnf
  exact hK _ _ (λb=>⟨false,λK=>by kernel_rfl⟩)
end
end
end Go.Abs
end
