import Derived.Test.YtlbhdmbfdcohhaaGreatDoorS20
set_option linter.all false
set_option maxHeartbeats 100000000
noncomputable section
namespace Go.Abs
open Go.RowKit Go.Proofs
set_option maxRecDepth 100000
theorem CZ {a b:AV} {K:AV→Aj}:AN (.tup [a,b]) 0 K=K a:=id rfl
theorem CY {a b:AV} {K:AV→Aj}:AN (.tup [a,b]) 1 K=K b:=id rfl
theorem Bs {i:TI} {a b:List UInt8} {K:AV→Aj} (hl:a.length+b.length<9223372036854775808):Ak i .add (S a) (S b) K=K (S (a++b)):=by
 have e:Ak i .add (S a) (S b) K=UT a b λl=>ck (Nat.blt l.length 9223372036854775808) (K (.v (.string ⟨⟨l⟩⟩))):=rfl
 have c:Nat.blt (a++b).length 9223372036854775808=true:=by rw[UK,Fl];exact hl
 rw[e,Lb,c];rfl
theorem B4T (f:Nat):∀z,(B4U f z).length≤f:=by
 induction f with
 |zero=>intro z;exact OV _
 |succ f ih=>
  intro z
  unfold B4U
  split
  ·simp
  ·have:=ih (z/128);simp;omega
theorem QP (z:Int):(enc z).length≤9:=B4T 9 _
def A5f (s:List UInt8):List UInt8:=enc s.length++s
theorem A6r (L n:Nat) {s:List UInt8} (h:s.length<390):PS (rt (L+20) (n+5)) MK [S s] (.tup [S (A5f s),I 0]):=by
 refine CS.ps (λK hK=> ?_) (λH=>fx1)
 rw[V2]
 unfold Mn Av
 rw[NI rfl,DM,EB,if_neg (by simp;omega),NI rfl,A6s L n (by omega) (by omega),CZ,CY,Bs (by have:=QP (s.length:Int);omega)]
 exact hK _ _ (λb=>⟨false,UO (Ay (q:=false) (q':=false) D2 (Ay (q:=false) (q':=false) D2 Be))⟩)
theorem A60 (L n:Nat) {s:List UInt8} (h:s.length<390):PS (rt (L+20) (n+9)) NC [S s] (.tup [S (A5f s),I 0]):=by
 refine CS.ps (λK hK=> ?_) (λH=>fx1)
 rw[Wa]
 unfold Nn Av
 rw[NI rfl,DM,EB,if_neg (by simp;omega),NI rfl,A61 L n (by omega) (by omega),CZ,CY,Bs (by have:=QP (s.length:Int);omega)]
 exact hK _ _ (λb=>⟨false,UO (Ay (q:=false) (q':=false) D2 (Ay (q:=false) (q':=false) D2 Be))⟩)
section
def EG (l:List Int):List AV:=l.map λz=> .v (.int .i64 z)
def AK (l:List (List UInt8)):List AV:=l.map λs=>S s
def HD (l:List Int):List UInt8:=(l.map enc).flatten
def Gz (l:List (List UInt8)):List UInt8:=(l.map A5f).flatten
theorem Qk {l:List Int} {k:Nat} (h:k<l.length):(EG l).getD k .dk=I l[k]:=by
 simp[EG,TW,h]
theorem Nj {l:List (List UInt8)} {k:Nat} (h:k<l.length):(AK l).getD k .dk=S l[k]:=by
 simp[AK,TW,h]
theorem E6 (l:List Int):(HD l).length≤9*l.length:=by
 induction l with
 |nil=>simp[HD]
 |cons z l ih=>
  have:=QP z
  simp[HD] at ih⊢
  omega
theorem E5 (l:List (List UInt8)) (h:∀s∈l,s.length<390):(Gz l).length≤400*l.length:=by
 induction l with
 |nil=>simp[Gz]
 |cons s l ih=>
  have h1:=QP (s.length:Int)
  have h2:=h s (by simp)
  have h3:=ih (λs hs=>h s (by simp[hs]))
  simp only[Gz,XS,l18,Fl,K9,A5f] at h3⊢
  omega
theorem A3X (l:List Int) {i:Nat} (h:i<l.length):HD (l.take (i+1))=HD (l.take i)++enc l[i]:=by
 unfold HD
 rw[l04 h,Zl,List.flatten_append]
 simp only[XS,List.map_nil,l18,List.flatten_nil,XR]
theorem A3W (l:List (List UInt8)) {i:Nat} (h:i<l.length):Gz (l.take (i+1))=Gz (l.take i)++A5f l[i]:=by
 unfold Gz
 rw[l04 h,Zl,List.flatten_append]
 simp only[XS,List.map_nil,l18,List.flatten_nil,XR]
variable {L n:Nat} {K:KV} {x:Aj}
theorem C2k {k:AV→Hp→Aj} {l:List Int} {H:Hp} (hl:l.length<100) (hz:∀z∈l, -10≤z∧z<1090) (hx:k (S (HD l)) H=x):
 ∀(f i:Nat),i≤l.length→l.length-i<f→Km (L+20) (rt (L+20) (n+4)) K k f (.list l.length (EG l)) (S (HD (l.take i))) (I i) H=x:=by
 intro f
 induction f with
 |zero=>intro i _ h;omega
 |succ f ih=>
  intro i hi hf
  rw[VZ]
  unfold Nm Av
  have el:∀K,AQ Ag (.list l.length (EG l)) K=K (I l.length):= λK=>id rfl
  rw[el,DL,EB]
  by_cases h:i<l.length
  ·rw[if_pos (by simp;omega)]
   have hzi:=hz l[i] (QE h)
   have hlen:(HD (l.take i)).length≤9*l.length:=by
    have:=E6 (l.take i)
    have h5:(l.take i).length≤l.length:=by simp;omega
    omega
   rw[UX rfl (by simp[EG]) (by omega) (by omega),XP,NJ rfl,Qk h,A6s L n hzi.1 hzi.2,CZ,CY,Bs (by have:=QP l[i];omega),←A3X l h,CH,Cp (by omega) (by omega),PH]
   exact ih (i+1) (by omega) (by omega)
  ·rw[if_neg (by simp;omega)]
   have:i=l.length:=by omega
   subst this
   rw[l06]
   exact hx
theorem A3B {l:List Int} (hl:l.length<100) (hL:l.length<L) (hz:∀z∈l, -10≤z∧z<1090):CS (rt (L+20) (n+5)) D5 [.list l.length (EG l)] (S (HD l)):=by
 intro K hK
 rw[Xa]
 unfold OI Av
 simp only[BX]
 refine C2k hl hz ?_ (L+20) 0 (by omega) (by omega)
 exact hK _ _ (λb=>⟨false,D2⟩)
theorem B9Z {k:AV→Hp→Aj} {l:List (List UInt8)} {H:Hp} (hl:l.length<100) (hz:∀s∈l,s.length<390) (hx:k (S (Gz l)) H=x):
 ∀(f i:Nat),i≤l.length→l.length-i<f→LR (L+20) (rt (L+20) (n+5)) K k f (.list l.length (AK l)) (S (Gz (l.take i))) (I i) H=x:=by
 intro f
 induction f with
 |zero=>intro i _ h;omega
 |succ f ih=>
  intro i hi hf
  rw[RN]
  unfold XA5 Av
  have el:∀K,AQ Ac (.list l.length (AK l)) K=K (I l.length):= λK=>id rfl
  rw[el,DL,EB]
  by_cases h:i<l.length
  ·rw[if_pos (by simp;omega)]
   have hzi:=hz l[i] (QE h)
   have hlen:(Gz (l.take i)).length≤400*l.length:=by
    have:=E5 (l.take i) (λs hs=>hz s (l24 hs))
    have h5:(l.take i).length≤l.length:=by simp;omega
    omega
   have hlen2:(A5f l[i]).length≤400:=by unfold A5f;rw[Fl];have:=QP (l[i].length:Int);omega
   rw[UX rfl (by simp[AK]) (by omega) (by omega),XP,NJ rfl,Nj h,A6r L n hzi,CZ,CY,Bs (by omega),←A3W l h,CH,Cp (by omega) (by omega),PH]
   exact ih (i+1) (by omega) (by omega)
  ·rw[if_neg (by simp;omega)]
   have:i=l.length:=by omega
   subst this
   rw[l06]
   exact hx
theorem A9Q {l:List (List UInt8)} (hl:l.length<100) (hL:l.length<L) (hz:∀s∈l,s.length<390):CS (rt (L+20) (n+6)) EP [.list l.length (AK l)] (S (Gz l)):=by
 intro K hK
 rw[Tz]
 unfold NY Av
 simp only[BX]
 refine B9Z hl hz ?_ (L+20) 0 (by omega) (by omega)
 exact hK _ _ (λb=>⟨false,D2⟩)
end
structure UD where
 (p0 q0 p1 q1 p2 q2 p3 q3 p4 q4 p5 q5 p6 q6:Int)
 (fn fd on od:List UInt8)
 (kd sc:Int)
abbrev UD.cs (u:UD):List AV:=[I u.p0,I u.q0,I u.p1,I u.q1,I u.p2,I u.q2,I u.p3,I u.q3,I u.p4,I u.q4,I u.p5,I u.q5,I u.p6,I u.q6,S u.fn,S u.fd,S u.on,S u.od,I u.kd,I u.sc]
def u0:UD:=⟨0,0,0,0,0,0,0,0,0,0,0,0,0,0,[],[],[],[],0,0⟩
def C44:List UD:=[
 ⟨1,1,0,1,0,1,0,1,0,1,0,1,0,1,[49],[49],[48],[49],0,1⟩,
 ⟨0,1,0,1,1,1,0,1,0,1,0,1,0,1,[49],[49],[48],[49],0,1⟩,
 ⟨1,1,0,1,0,1,0,1,0,1,0,1,0,1,[49],[49,48,48,48],[48],[49],0,1⟩,
 ⟨0,1,0,1,0,1,0,1,0,1,0,1,0,1,[49],[49],[48],[49],0,2⟩,
 ⟨0,1,0,1,0,1,0,1,1,1,0,1,0,1,[49],[49],[53,52,54,51],[50,48],0,0⟩,
 ⟨0,1,0,1,0,1,0,1,1,1,0,1,0,1,[49],[49],[48],[49],0,1⟩,
 ⟨2,1,0,1,0,1,0,1,0,1,0,1,0,1,[49],[49],[48],[49],0,1⟩,
 ⟨1,1,0,1,1,1,0,1,0,1,0,1,0,1,[49],[49],[48],[49],0,1⟩,
 ⟨1,1,0,1,(-1),1,0,1,0,1,0,1,0,1,[49],[49],[48],[49],0,1⟩,
 ⟨2,1,0,1,0,1,0,1,0,1,0,1,0,1,[49],[49,48,48,48],[48],[49],0,1⟩,
 ⟨0,1,0,1,0,1,0,1,0,1,0,1,0,1,[49,48,48,48],[49],[48],[49],0,2⟩,
 ⟨1,1,0,1,0,1,0,1,1,1,0,1,0,1,[49],[49],[48],[49],0,1⟩,
 ⟨1,1,0,1,0,1,0,1,(-1),1,0,1,0,1,[49],[49],[48],[49],0,1⟩,
 ⟨3,1,0,1,0,1,0,1,0,1,0,1,0,1,[49],[49],[48],[49],0,1⟩,
 ⟨(-1),1,0,1,0,1,0,1,0,1,0,1,0,1,[49],[49],[48],[49],0,1⟩,
 ⟨(-2),1,0,1,0,1,0,1,0,1,0,1,0,1,[49],[49],[48],[49],0,1⟩,
 ⟨(-1),1,0,1,1,1,0,1,0,1,0,1,0,1,[49],[49],[48],[49],0,1⟩,
 ⟨0,1,0,1,2,1,0,1,0,1,0,1,0,1,[49],[49],[48],[49],0,1⟩,
 ⟨1,1,0,1,1,1,0,1,0,1,0,1,0,1,[49],[49,48,48,48],[48],[49],0,1⟩,
 ⟨(-1),1,0,1,1,1,0,1,0,1,0,1,0,1,[49,48,48,48],[49],[48],[49],0,1⟩,
 ⟨0,1,0,1,1,1,0,1,1,1,0,1,0,1,[49],[49],[48],[49],0,1⟩,
 ⟨0,1,0,1,1,1,0,1,(-1),1,0,1,0,1,[49],[49],[48],[49],0,1⟩,
 ⟨2,1,0,1,1,1,0,1,0,1,0,1,0,1,[49],[49],[48],[49],0,1⟩,
 ⟨(-2),1,0,1,1,1,0,1,0,1,0,1,0,1,[49],[49],[48],[49],0,1⟩,
 ⟨0,1,0,1,(-1),1,0,1,0,1,0,1,0,1,[49],[49],[48],[49],0,1⟩,
 ⟨0,1,0,1,3,1,0,1,0,1,0,1,0,1,[49],[49],[48],[49],0,1⟩,
 ⟨0,1,0,1,(-2),1,0,1,0,1,0,1,0,1,[49],[49],[48],[49],0,1⟩,
 ⟨0,1,0,1,0,1,0,1,0,1,0,1,0,1,[49],[49,48,48,48],[48],[49],0,2⟩,
 ⟨1,1,0,1,(-1),1,0,1,0,1,0,1,0,1,[49],[49,48,48,48],[48],[49],0,1⟩,
 ⟨2,1,0,1,0,1,0,1,0,1,0,1,0,1,[49],[49,48,48,48,48,48,48],[48],[49],0,1⟩,
 ⟨1,1,0,1,0,1,0,1,1,1,0,1,0,1,[49],[49,48,48,48],[48],[49],0,1⟩,
 ⟨1,1,0,1,0,1,0,1,(-1),1,0,1,0,1,[49],[49,48,48,48],[48],[49],0,1⟩,
 ⟨3,1,0,1,0,1,0,1,0,1,0,1,0,1,[49],[49,48,48,48],[48],[49],0,1⟩,
 ⟨(-1),1,0,1,0,1,0,1,0,1,0,1,0,1,[49],[49,48,48,48],[48],[49],0,1⟩,
 ⟨(-1),1,0,1,0,1,0,1,0,1,0,1,0,1,[49,48,48,48],[49],[48],[49],0,1⟩,
 ⟨3,1,0,1,0,1,0,1,0,1,0,1,0,1,[49],[49,48,48,48,48,48,48,48,48,48],[48],[49],0,1⟩,
 ⟨(-2),1,0,1,0,1,0,1,0,1,0,1,0,1,[49,48,48,48,48,48,48],[49],[48],[49],0,1⟩,
 ⟨0,1,0,1,0,1,0,1,(-1),1,0,1,0,1,[49],[49],[48],[49],0,1⟩,
 ⟨(-1),1,0,1,0,1,0,1,1,1,0,1,0,1,[49],[49],[48],[49],0,1⟩,
 ⟨0,1,0,1,(-1),1,0,1,1,1,0,1,0,1,[49],[49],[48],[49],0,1⟩,
 ⟨(-1),1,0,1,0,1,0,1,1,1,0,1,0,1,[49,48,48,48],[49],[48],[49],0,1⟩,
 ⟨0,1,0,1,0,1,0,1,2,1,0,1,0,1,[49],[49],[48],[49],0,1⟩,
 ⟨2,1,0,1,0,1,0,1,1,1,0,1,0,1,[49],[49],[48],[49],0,1⟩,
 ⟨(-2),1,0,1,0,1,0,1,1,1,0,1,0,1,[49],[49],[48],[49],0,1⟩,
 ⟨0,1,0,1,0,1,0,1,3,1,0,1,0,1,[49],[49],[48],[49],0,1⟩,
 ⟨0,1,0,1,0,1,0,1,(-2),1,0,1,0,1,[49],[49],[48],[49],0,1⟩,
 ⟨2,1,0,1,(-1),1,0,1,0,1,0,1,0,1,[49],[49],[48],[49],0,1⟩,
 ⟨1,1,0,1,0,1,0,1,0,1,0,1,0,1,[49,48,48,48],[49],[48],[49],0,1⟩,
 ⟨2,1,0,1,0,1,0,1,(-1),1,0,1,0,1,[49],[49],[48],[49],0,1⟩,
 ⟨4,1,0,1,0,1,0,1,0,1,0,1,0,1,[49],[49],[48],[49],0,1⟩,
 ⟨6,1,0,1,0,1,0,1,0,1,0,1,0,1,[49],[49],[48],[49],0,1⟩,
 ⟨(-4),1,0,1,0,1,0,1,0,1,0,1,0,1,[49],[49],[48],[49],0,1⟩]
def uu (k:Nat):UD:=C44.getD k u0
def B9X:List (List UInt8):=[
 [100,105,102,102,101,114,101,110,99,101,32,107,105,110,100,32,48,32,102,97,99,116,111,114,32,49,32,111,102,102,115,101,116,32,48,32,109,94,49],
 [100,105,102,102,101,114,101,110,99,101,32,107,105,110,100,32,48,32,102,97,99,116,111,114,32,49,32,111,102,102,115,101,116,32,48,32,115,94,49],
 [100,105,102,102,101,114,101,110,99,101,32,107,105,110,100,32,48,32,102,97,99,116,111,114,32,49,47,49,48,48,48,32,111,102,102,115,101,116,32,48,32,109,94,49],
 [114,97,116,105,111,32,107,105,110,100,32,48,32,102,97,99,116,111,114,32,49,32,111,102,102,115,101,116,32,48],
 [97,98,115,111,108,117,116,101,32,107,105,110,100,32,48,32,102,97,99,116,111,114,32,49,32,111,102,102,115,101,116,32,53,52,54,51,47,50,48,32,75,94,49],
 [100,105,102,102,101,114,101,110,99,101,32,107,105,110,100,32,48,32,102,97,99,116,111,114,32,49,32,111,102,102,115,101,116,32,48,32,75,94,49],
 [100,105,102,102,101,114,101,110,99,101,32,107,105,110,100,32,48,32,102,97,99,116,111,114,32,49,32,111,102,102,115,101,116,32,48,32,109,94,50],
 [100,105,102,102,101,114,101,110,99,101,32,107,105,110,100,32,48,32,102,97,99,116,111,114,32,49,32,111,102,102,115,101,116,32,48,32,109,94,49,32,115,94,49],
 [100,105,102,102,101,114,101,110,99,101,32,107,105,110,100,32,48,32,102,97,99,116,111,114,32,49,32,111,102,102,115,101,116,32,48,32,109,94,49,32,115,94,45,49],
 [100,105,102,102,101,114,101,110,99,101,32,107,105,110,100,32,48,32,102,97,99,116,111,114,32,49,47,49,48,48,48,32,111,102,102,115,101,116,32,48,32,109,94,50],
 [114,97,116,105,111,32,107,105,110,100,32,48,32,102,97,99,116,111,114,32,49,48,48,48,32,111,102,102,115,101,116,32,48],
 [100,105,102,102,101,114,101,110,99,101,32,107,105,110,100,32,48,32,102,97,99,116,111,114,32,49,32,111,102,102,115,101,116,32,48,32,109,94,49,32,75,94,49],
 [100,105,102,102,101,114,101,110,99,101,32,107,105,110,100,32,48,32,102,97,99,116,111,114,32,49,32,111,102,102,115,101,116,32,48,32,109,94,49,32,75,94,45,49],
 [100,105,102,102,101,114,101,110,99,101,32,107,105,110,100,32,48,32,102,97,99,116,111,114,32,49,32,111,102,102,115,101,116,32,48,32,109,94,51],
 [100,105,102,102,101,114,101,110,99,101,32,107,105,110,100,32,48,32,102,97,99,116,111,114,32,49,32,111,102,102,115,101,116,32,48,32,109,94,45,49],
 [100,105,102,102,101,114,101,110,99,101,32,107,105,110,100,32,48,32,102,97,99,116,111,114,32,49,32,111,102,102,115,101,116,32,48,32,109,94,45,50],
 [100,105,102,102,101,114,101,110,99,101,32,107,105,110,100,32,48,32,102,97,99,116,111,114,32,49,32,111,102,102,115,101,116,32,48,32,109,94,45,49,32,115,94,49],
 [100,105,102,102,101,114,101,110,99,101,32,107,105,110,100,32,48,32,102,97,99,116,111,114,32,49,32,111,102,102,115,101,116,32,48,32,115,94,50],
 [100,105,102,102,101,114,101,110,99,101,32,107,105,110,100,32,48,32,102,97,99,116,111,114,32,49,47,49,48,48,48,32,111,102,102,115,101,116,32,48,32,109,94,49,32,115,94,49],
 [100,105,102,102,101,114,101,110,99,101,32,107,105,110,100,32,48,32,102,97,99,116,111,114,32,49,48,48,48,32,111,102,102,115,101,116,32,48,32,109,94,45,49,32,115,94,49],
 [100,105,102,102,101,114,101,110,99,101,32,107,105,110,100,32,48,32,102,97,99,116,111,114,32,49,32,111,102,102,115,101,116,32,48,32,115,94,49,32,75,94,49],
 [100,105,102,102,101,114,101,110,99,101,32,107,105,110,100,32,48,32,102,97,99,116,111,114,32,49,32,111,102,102,115,101,116,32,48,32,115,94,49,32,75,94,45,49],
 [100,105,102,102,101,114,101,110,99,101,32,107,105,110,100,32,48,32,102,97,99,116,111,114,32,49,32,111,102,102,115,101,116,32,48,32,109,94,50,32,115,94,49],
 [100,105,102,102,101,114,101,110,99,101,32,107,105,110,100,32,48,32,102,97,99,116,111,114,32,49,32,111,102,102,115,101,116,32,48,32,109,94,45,50,32,115,94,49],
 [100,105,102,102,101,114,101,110,99,101,32,107,105,110,100,32,48,32,102,97,99,116,111,114,32,49,32,111,102,102,115,101,116,32,48,32,115,94,45,49],
 [100,105,102,102,101,114,101,110,99,101,32,107,105,110,100,32,48,32,102,97,99,116,111,114,32,49,32,111,102,102,115,101,116,32,48,32,115,94,51],
 [100,105,102,102,101,114,101,110,99,101,32,107,105,110,100,32,48,32,102,97,99,116,111,114,32,49,32,111,102,102,115,101,116,32,48,32,115,94,45,50],
 [114,97,116,105,111,32,107,105,110,100,32,48,32,102,97,99,116,111,114,32,49,47,49,48,48,48,32,111,102,102,115,101,116,32,48],
 [100,105,102,102,101,114,101,110,99,101,32,107,105,110,100,32,48,32,102,97,99,116,111,114,32,49,47,49,48,48,48,32,111,102,102,115,101,116,32,48,32,109,94,49,32,115,94,45,49],
 [100,105,102,102,101,114,101,110,99,101,32,107,105,110,100,32,48,32,102,97,99,116,111,114,32,49,47,49,48,48,48,48,48,48,32,111,102,102,115,101,116,32,48,32,109,94,50],
 [100,105,102,102,101,114,101,110,99,101,32,107,105,110,100,32,48,32,102,97,99,116,111,114,32,49,47,49,48,48,48,32,111,102,102,115,101,116,32,48,32,109,94,49,32,75,94,49],
 [100,105,102,102,101,114,101,110,99,101,32,107,105,110,100,32,48,32,102,97,99,116,111,114,32,49,47,49,48,48,48,32,111,102,102,115,101,116,32,48,32,109,94,49,32,75,94,45,49],
 [100,105,102,102,101,114,101,110,99,101,32,107,105,110,100,32,48,32,102,97,99,116,111,114,32,49,47,49,48,48,48,32,111,102,102,115,101,116,32,48,32,109,94,51],
 [100,105,102,102,101,114,101,110,99,101,32,107,105,110,100,32,48,32,102,97,99,116,111,114,32,49,47,49,48,48,48,32,111,102,102,115,101,116,32,48,32,109,94,45,49],
 [100,105,102,102,101,114,101,110,99,101,32,107,105,110,100,32,48,32,102,97,99,116,111,114,32,49,48,48,48,32,111,102,102,115,101,116,32,48,32,109,94,45,49],
 [100,105,102,102,101,114,101,110,99,101,32,107,105,110,100,32,48,32,102,97,99,116,111,114,32,49,47,49,48,48,48,48,48,48,48,48,48,32,111,102,102,115,101,116,32,48,32,109,94,51],
 [100,105,102,102,101,114,101,110,99,101,32,107,105,110,100,32,48,32,102,97,99,116,111,114,32,49,48,48,48,48,48,48,32,111,102,102,115,101,116,32,48,32,109,94,45,50],
 [100,105,102,102,101,114,101,110,99,101,32,107,105,110,100,32,48,32,102,97,99,116,111,114,32,49,32,111,102,102,115,101,116,32,48,32,75,94,45,49],
 [100,105,102,102,101,114,101,110,99,101,32,107,105,110,100,32,48,32,102,97,99,116,111,114,32,49,32,111,102,102,115,101,116,32,48,32,109,94,45,49,32,75,94,49],
 [100,105,102,102,101,114,101,110,99,101,32,107,105,110,100,32,48,32,102,97,99,116,111,114,32,49,32,111,102,102,115,101,116,32,48,32,115,94,45,49,32,75,94,49],
 [100,105,102,102,101,114,101,110,99,101,32,107,105,110,100,32,48,32,102,97,99,116,111,114,32,49,48,48,48,32,111,102,102,115,101,116,32,48,32,109,94,45,49,32,75,94,49],
 [100,105,102,102,101,114,101,110,99,101,32,107,105,110,100,32,48,32,102,97,99,116,111,114,32,49,32,111,102,102,115,101,116,32,48,32,75,94,50],
 [100,105,102,102,101,114,101,110,99,101,32,107,105,110,100,32,48,32,102,97,99,116,111,114,32,49,32,111,102,102,115,101,116,32,48,32,109,94,50,32,75,94,49],
 [100,105,102,102,101,114,101,110,99,101,32,107,105,110,100,32,48,32,102,97,99,116,111,114,32,49,32,111,102,102,115,101,116,32,48,32,109,94,45,50,32,75,94,49],
 [100,105,102,102,101,114,101,110,99,101,32,107,105,110,100,32,48,32,102,97,99,116,111,114,32,49,32,111,102,102,115,101,116,32,48,32,75,94,51],
 [100,105,102,102,101,114,101,110,99,101,32,107,105,110,100,32,48,32,102,97,99,116,111,114,32,49,32,111,102,102,115,101,116,32,48,32,75,94,45,50],
 [100,105,102,102,101,114,101,110,99,101,32,107,105,110,100,32,48,32,102,97,99,116,111,114,32,49,32,111,102,102,115,101,116,32,48,32,109,94,50,32,115,94,45,49],
 [100,105,102,102,101,114,101,110,99,101,32,107,105,110,100,32,48,32,102,97,99,116,111,114,32,49,48,48,48,32,111,102,102,115,101,116,32,48,32,109,94,49],
 [100,105,102,102,101,114,101,110,99,101,32,107,105,110,100,32,48,32,102,97,99,116,111,114,32,49,32,111,102,102,115,101,116,32,48,32,109,94,50,32,75,94,45,49],
 [100,105,102,102,101,114,101,110,99,101,32,107,105,110,100,32,48,32,102,97,99,116,111,114,32,49,32,111,102,102,115,101,116,32,48,32,109,94,52],
 [100,105,102,102,101,114,101,110,99,101,32,107,105,110,100,32,48,32,102,97,99,116,111,114,32,49,32,111,102,102,115,101,116,32,48,32,109,94,54],
 [100,105,102,102,101,114,101,110,99,101,32,107,105,110,100,32,48,32,102,97,99,116,111,114,32,49,32,111,102,102,115,101,116,32,48,32,109,94,45,52]]
def JP (k:Nat):List UInt8:=B9X.getD k []
def C6P:List (List (List (Option Nat))):=[
 [[some 0,none,none,none,none,none,none],
  [none,some 1,none,none,none,none,none],
  [none,none,some 2,none,none,none,none],
  [none,none,none,some 3,none,none,none],
  [none,none,none,none,none,some 4,none],
  [none,none,none,none,some 4,some 5,none],
  [none,none,none,none,none,none,some 6]],
 [[some 0,none,none,none,none,none,none],
  [none,some 1,none,none,none,none,none],
  [none,none,some 2,none,none,none,none],
  [none,none,none,some 3,none,none,none],
  [none,none,none,none,some 5,some 4,none],
  [none,none,none,none,none,some 5,none],
  [none,none,none,none,none,none,some 6]],
 [[some 6,some 7,some 9,some 0,none,some 11,some 13],
  [some 7,some 17,some 18,some 1,none,some 20,some 22],
  [some 9,some 18,some 29,some 2,none,some 30,some 32],
  [some 0,some 1,some 2,some 3,none,some 5,some 6],
  [none,none,none,none,none,none,none],
  [some 11,some 20,some 30,some 5,none,some 41,some 42],
  [some 13,some 22,some 32,some 6,none,some 42,some 49]],
 [[some 3,some 8,some 10,some 0,none,some 12,some 14],
  [some 16,some 3,some 19,some 1,none,some 21,some 23],
  [some 27,some 28,some 3,some 2,none,some 31,some 33],
  [some 14,some 24,some 34,some 3,none,some 37,some 15],
  [none,none,none,none,none,none,none],
  [some 38,some 39,some 40,some 5,none,some 3,some 43],
  [some 0,some 46,some 47,some 6,none,some 48,some 3]]]
def Su (o i j:Nat):Option Nat:=((C6P.getD o []).getD i []).getD j none
def YN (k:Nat):Int:=([2, -1,3, -2,1]:List Int).getD k 0
def C43:List (List (Option Nat)):=[[some 6,some 14,some 13,some 15,some 0],
 [some 17,some 24,some 25,some 26,some 1],
 [some 29,some 34,some 35,some 36,some 2],
 [some 3,some 3,some 3,some 3,some 3],
 [none,none,none,none,none],
 [some 41,some 37,some 44,some 45,some 5],
 [some 49,some 15,some 50,some 51,some 6]]
def Uc (i k:Nat):Option Nat:=(C43.getD i []).getD k none
def I8:Option Nat→AV
 |some k=> .tup [.agg (uu k).cs,I 0]
 |none=> .tup [.agg u0.cs,I 70]
def isU:Option Nat→Bool
 |some _=>true
 |none=>false
def B5I (p:Nat→Bool) (m:Nat):Nat→Prop
 |0=>True
 |c+1=>((List.range m).all λk=>p (c*m+k))=true∧B5I p m c
theorem VY {p:Nat→Bool} {m:Nat}:B5I p m 0:=trivial
theorem VX {p:Nat→Bool} {m c:Nat} (h:((List.range m).all λk=>p (c*m+k))=true) (h2:B5I p m c):B5I p m (c+1):=⟨h,h2⟩
theorem VW {p:Nat→Bool} {m:Nat}:∀{c:Nat},B5I p m c→∀{i:Nat},i<c*m→p i=true:=by
 intro c
 induction c with
 |zero=>intro _ i hi;omega
 |succ c ih=>
  intro h i hi
  by_cases hc:i<c*m
  ·exact ih h.2 hc
  ·have h1:=HB.1 h.1 (i-c*m) (Ju.2 (by rw[l19] at hi;omega))
   have e:c*m+(i-c*m)=i:=by omega
   rw[e] at h1
   exact h1
def Zu:Rt→Nat→List AV→Hp→(AV→Aj)→Aj:=Classical.choose (⟨Ah,rfl⟩:∃z:Rt→Nat→List AV→Hp→(AV→Aj)→Aj,Ah=z)
theorem zO:Ah=Zu:=Classical.choose_spec (⟨Ah,rfl⟩:∃z:Rt→Nat→List AV→Hp→(AV→Aj)→Aj,Ah=z)
def eBi:TI→BinOp→AV→AV→(AV→Aj)→Aj:=Classical.choose (⟨Go.Abs.Ak,rfl⟩:∃z:TI→BinOp→AV→AV→(AV→Aj)→Aj,Go.Abs.Ak=z)
theorem bO:Go.Abs.Ak=eBi:=Classical.choose_spec (⟨Go.Abs.Ak,rfl⟩:∃z:TI→BinOp→AV→AV→(AV→Aj)→Aj,Go.Abs.Ak=z)
def eEq:List LK→BinOp→AV→AV→(AV→Aj)→Aj:=Classical.choose (⟨Go.Abs.UY,rfl⟩:∃z:List LK→BinOp→AV→AV→(AV→Aj)→Aj,Go.Abs.UY=z)
theorem qO:Go.Abs.UY=eEq:=Classical.choose_spec (⟨Go.Abs.UY,rfl⟩:∃z:List LK→BinOp→AV→AV→(AV→Aj)→Aj,Go.Abs.UY=z)
def cnd:AV→Aj→Aj→Aj:=Classical.choose (⟨Aw,rfl⟩:∃z:AV→Aj→Aj→Aj,Aw=z)
theorem cO:Aw=cnd:=Classical.choose_spec (⟨Aw,rfl⟩:∃z:AV→Aj→Aj→Aj,Aw=z)
theorem Of {x y:Aj}:cnd (.v (.bool true)) x y=x:=by rw[←cO];rfl
theorem Fv {x y:Aj}:cnd (.v (.bool false)) x y=y:=by rw[←cO];rfl
section
variable {K:AV→Aj} {i:TI} {k:IntKind} {a b:Int} {s u:List UInt8}
theorem Oz (h:a=b):eBi i .eql (.v (.int k a)) (.v (.int k b)) K=K (Bo true):=by rw[←bO,Dd,decide_eq_true h]
theorem TA (h:a≠b):eBi i .eql (.v (.int k a)) (.v (.int k b)) K=K (Bo false):=by rw[←bO,Dd,decide_eq_false h]
theorem B49 (h:a=b):eBi i .neq (.v (.int k a)) (.v (.int k b)) K=K (Bo false):=by rw[←bO,G6,decide_eq_true h];rfl
theorem B0a (h:a≤b):eBi i .leq (.v (.int k a)) (.v (.int k b)) K=K (Bo true):=by rw[←bO,X8,decide_eq_true h]
theorem B0i (h:b≤a):eBi i .geq (.v (.int k a)) (.v (.int k b)) K=K (Bo true):=by rw[←bO,MR,decide_eq_true h]
end
theorem B2d:∀{ks:List LK} {xs:List Value},fits ks xs=true→Ve xs xs=some true:=by
 intro ks
 induction ks with
 |nil=>intro xs h;cases xs with|nil=>rfl|cons a l=>simp[fits] at h
 |cons k ks ih=>
  intro xs h
  cases xs with
  |nil=>rfl
  |cons a l=>
   simp only[fits,Jm] at h
   have h2:=ih h.2
   have e:Ve (a::l) (a::l)=(match Xn a a with|some b=>(match Ve l l with|some c=>some (b&&c)|none=>none)|none=>none):=rfl
   rw[e,h2]
   have h1:Xn a a=some true:=by
    have h1:=h.1
    cases k<;>cases a<;>simp[LK.fit] at h1<;>simp[Xn,OM,OQ]
   rw[h1];rfl
theorem B0m (xs:List Value):∀K:List Value→Aj,Zm (xs.map AV.v) K=K xs:=by
 induction xs with
 |nil=>intro K;rfl
 |cons a l ih=>intro K;exact ih _
theorem B59 {ks:List LK} (xs:List Value) (h:fits ks xs=true) (K:AV→Aj):eEq ks .eql (.agg (xs.map AV.v)) (.agg (xs.map AV.v)) K=K (Bo true):=by
 rw[←qO]
 have e:Go.Abs.UY ks .eql (.agg (xs.map AV.v)) (.agg (xs.map AV.v)) K=Zm (xs.map AV.v) λxs'=>Zm (xs.map AV.v) λys=>ck (fits ks xs') (match Ve xs' ys,BinOp.eql with
  |some q,.eql=>bB q K
  |some q,.neq=>bB (!q) K
  |_,_=>none):=rfl
 rw[e,B0m,B0m,B2d h,h]
 show bB true K=_
 rw[MT]
theorem A2h (u:UD) (K:AV→Aj):eEq ID .eql (.agg u.cs) (.agg u.cs) K=K (Bo true):=
 B59 (ks:=ID) [.int .i64 u.p0,.int .i64 u.q0,.int .i64 u.p1,.int .i64 u.q1,.int .i64 u.p2,.int .i64 u.q2,.int .i64 u.p3,.int .i64 u.q3,.int .i64 u.p4,.int .i64 u.q4,.int .i64 u.p5,.int .i64 u.q5,.int .i64 u.p6,.int .i64 u.q6,.string ⟨⟨u.fn⟩⟩,.string ⟨⟨u.fd⟩⟩,.string ⟨⟨u.on⟩⟩,.string ⟨⟨u.od⟩⟩,.int .i64 u.kd,.int .i64 u.sc] rfl K
def LS (R:Rt) (f:Nat) (args':List AV) (v:AV):Prop:=∀(q:Bool) (args:List AV) (H:Hp),Pu true depth args args' H q→∀K,Zu R f args H K=K v
theorem CS.ls {R:Rt} {f:Nat} {args':List AV} {v:AV} (h:CS R f args' v):LS R f args' v:= λ_ _ _ ha _=>by rw[←zO];exact Ba h ha
theorem PS.ls {R:Rt} {f:Nat} {args:List AV} {v:AV} (h:PS R f args v) (ha:∀q args' H,Pu true depth args' args H q→args'=args):LS R f args v:= λq args' H hf K=>by rw[←zO,ha q args' H hf];exact h H K
def PO (R:Rt) (f:Nat) (args:List AV) (v:AV):Prop:=∀H K,Zu R f args H K=K v
theorem PS.o {R:Rt} {f:Nat} {args:List AV} {v:AV} (h:PS R f args v):PO R f args v:= λH K=>by rw[←zO];exact h H K
section
variable {L n:Nat}
attribute [local irreducible] Ah rt Zu eBi eEq cnd Go.Abs.Ak Go.Abs.UY Aw
theorem WE {z lo hi:Int} (h1:lo≤z) (h2:z≤hi):PS (rt (L+20) (n+1)) BW [I z,I lo,I hi] (Bo true):=by
 refine CS.ps (λK hK=> ?_) (λH=> λK=>by kernel_rfl)
 rewrite [Tb]
 unfold JY Bc Dr
 try rewrite [zO]
 try rewrite [bO]
 try rewrite [qO]
 try rewrite [cO]
 conv=>lhs;whnf
 rewrite [B0i h1]
 conv=>lhs;whnf
 rewrite [B0a h2]
 conv=>lhs;whnf
 exact hK _ _ (λb=>⟨false,λK=>by kernel_rfl⟩)
theorem Ul {z lo hi:Int} (h1:lo≤z) (h2:z≤hi):PS (rt (L+20) (n+1)) Dn [I z,I lo,I hi] (Bo true):=by
 refine CS.ps (λK hK=> ?_) (λH=> λK=>by kernel_rfl)
 rewrite [Yy]
 unfold Qa Bc Dr
 try rewrite [zO]
 try rewrite [bO]
 try rewrite [qO]
 try rewrite [cO]
 conv=>lhs;whnf
 rewrite [B0i h1]
 conv=>lhs;whnf
 rewrite [B0a h2]
 conv=>lhs;whnf
 exact hK _ _ (λb=>⟨false,λK=>by kernel_rfl⟩)
def Sl (T:AV):Prop:=T= .v (.slice none 0 0)∨∃n cs,T= .list n cs
abbrev AA:AV:= .v (.slice none 0 0)
abbrev Ck (u:UD):List AV:=[I u.p0,I u.q0,I u.p1,I u.q1,I u.p2,I u.q2,I u.p3,I u.q3,I u.p4,I u.q4,I u.p5,I u.q5,I u.p6,I u.q6,S u.fn,S u.fd,S u.on,S u.od,I u.kd,I u.sc]
abbrev VK (ca cb:List UInt8) (T:AV) (ra rb:List UInt8):List AV:=[S ca,S cb,T,S ra,S rb]
abbrev B2 (id:Int) (ins nds:AV) (u:UD):List AV:=[I id,ins,nds,
 I u.p0,I u.q0,I u.p1,I u.q1,I u.p2,I u.q2,I u.p3,I u.q3,I u.p4,I u.q4,I u.p5,I u.q5,I u.p6,I u.q6,S u.fn,S u.fd,S u.on,S u.od,I u.kd,I u.sc]
structure RD where
 k:Int
 (a1 a2 b1 b2 c1 c2 d1 d2:List UInt8)
abbrev RD.cs (r:RD):List AV:=[I r.k,S r.a1,S r.a2,S r.b1,S r.b2,S r.c1,S r.c2,S r.d1,S r.d2]
def r0:RD:=⟨0,[],[],[],[],[],[],[],[]⟩
structure ND where
 (lab num itm tim day:Int)
def rr (k:Nat):RD:=⟨k,[45,53],[49],[50,53],[50],if k=2 then[49] else[48],if k=2 then[50] else[49],[49],[50,48]⟩
abbrev Eb (kd:Int) (m:ND) (u:UD) (ca cb:List UInt8) (T:AV) (ra rb:List UInt8) (P:AV) (id:Int) (ins nds:AV) (o:UD) (r:RD) (vd:Int):List AV:=[I kd,I m.lab,I m.num,I m.itm,I m.tim,I m.day,
 I u.p0,I u.q0,I u.p1,I u.q1,I u.p2,I u.q2,I u.p3,I u.q3,I u.p4,I u.q4,I u.p5,I u.q5,I u.p6,I u.q6,S u.fn,S u.fd,S u.on,S u.od,I u.kd,I u.sc,
 S ca,S cb,T,S ra,S rb,P,I id,ins,nds,
 I o.p0,I o.q0,I o.p1,I o.q1,I o.p2,I o.q2,I o.p3,I o.q3,I o.p4,I o.q4,I o.p5,I o.q5,I o.p6,I o.q6,S o.fn,S o.fd,S o.on,S o.od,I o.kd,I o.sc,
 I r.k,S r.a1,S r.a2,S r.b1,S r.b2,S r.c1,S r.c2,S r.d1,S r.d2,I vd,I 0,AA,AA]
def ND.ok (m:ND):Prop:=1≤m.lab∧m.lab≤9∧1≤m.num∧m.num≤9∧1≤m.itm∧m.itm≤9∧0≤m.tim∧m.tim≤100∧0≤m.day∧m.day≤100
abbrev A9G:List AV:=[zI,zL,zL,zI,zI,zI,zI,zI,zI,zI,zI,zI,zI,zI,zI,zI,zI,zS,zS,zS,zS,zI,zI]
theorem B2J:PS (rt (L+20) (n+40)) NH [.agg (B2 0 AA AA u0),.agg A9G] (Bo true):=B4 (λH K=>by kernel_rfl) (by kernel_rfl)
theorem B3x:PS (rt (L+20) (n+40)) Tk [.agg (B2 0 AA AA u0),.agg A9G] (Bo true):=B4 (λH K=>by kernel_rfl) (by kernel_rfl)
section
variable {m:ND} {u o:UD} {ca cb ra rb:List UInt8} {T P ins nds:AV} {id vd:Int} {r:RD}
theorem B0Q (hm:m.ok) (hT:Sl T) (hP:∃n cs,P= .list n cs) (hI:∃n cs,ins= .list n cs) (hN:∃n cs,nds= .list n cs)
 (hc:LS (rt (L+20) (n+60)) D9 [.agg (Eb 2 m u ca cb T ra rb P id ins nds o r0 0)] (Bo true))
 (hu:PO (rt (L+20) (n+60)) GB [.agg (Ck u)] (Bo true)) (hf:LS (rt (L+20) (n+60)) I6 [.agg (VK ca cb T ra rb)] (Bo true)):
 CS (rt (L+20) (n+61)) D3 [.agg (Eb 2 m u ca cb T ra rb P id ins nds o r0 0)] (Bo true):=by
 intro K hK
 obtain⟨h1,h2,h3,h4,h5,h6,h7,h8,h9,h10⟩:=hm
 obtain⟨n1,c1,rfl⟩:=hP
 obtain⟨n2,c2,rfl⟩:=hI
 obtain⟨n3,c3,rfl⟩:=hN
 have hb:∀{z lo hi:Int},lo≤z→z≤hi→PO (rt (L+20) (n+60)) BW [I z,I lo,I hi] (Bo true):= λa b=>(WE a b).o
 rcases hT with rfl|⟨n4,c4,rfl⟩
 all_goals
  rewrite [Ih]
  unfold EZ Bc BS Av Gb Dr
  try rewrite [zO]
  try rewrite [bO]
  try rewrite [qO]
  try rewrite [cO]
  generalize rt (L+20) (n+60)=R at*
  conv=>lhs;whnf
  rewrite [hb h1 (by omega)]
  conv=>lhs;whnf
  rewrite [hb h3 (by omega)]
  conv=>lhs;whnf
  rewrite [hb h5 (by omega)]
  conv=>lhs;whnf
  rewrite [hb h7 (by omega)]
  conv=>lhs;whnf
  rewrite [hb h9 (by omega)]
  conv=>lhs;whnf
  rewrite [hu]
  conv=>lhs;whnf
  rewrite [(hf) false _ _ ?hq]
  case hq=>exact λK=>by kernel_rfl
  conv=>lhs;whnf
  rewrite [Fv]
  conv=>lhs;whnf
  rewrite [show∀K,eEq GL BinOp.eql (AV.agg [I r0.k,S r0.a1,S r0.a2,S r0.b1,S r0.b2,S r0.c1,S r0.c2,S r0.d1,S r0.d2]) (AV.agg [zI,zS,zS,zS,zS,zS,zS,zS,zS]) K=K (Bo true) from λK=>by rw[←qO];kernel_rfl]
  conv=>lhs;whnf
  rewrite [Oz ?hc]
  case hc=>decide
  conv=>lhs;whnf
  rewrite [TA ?hc]
  case hc=>decide
  conv=>lhs;whnf
  rewrite [Fv]
  conv=>lhs;whnf
  rewrite [Oz ?hc]
  case hc=>decide
  conv=>lhs;whnf
  rewrite [Of]
  conv=>lhs;whnf
  rewrite [(hc) false _ _ ?hq]
  case hq=>exact λK=>by kernel_rfl
  conv=>lhs;whnf
  exact hK _ _ (λb=>⟨false,λK=>by kernel_rfl⟩)
theorem B0R (hm:m.ok) (hT:Sl T) (hs:PO (rt (L+20) (n+60)) NH [.agg (B2 0 AA AA o),.agg A9G] (Bo true))
 (hu:PO (rt (L+20) (n+60)) GB [.agg (Ck u)] (Bo true)) (hf:LS (rt (L+20) (n+60)) I6 [.agg (VK ca cb T ra rb)] (Bo true)):
 CS (rt (L+20) (n+61)) D3 [.agg (Eb 1 m u ca cb T ra rb AA 0 AA AA o r0 0)] (Bo true):=by
 intro K hK
 obtain⟨h1,h2,h3,h4,h5,h6,h7,h8,h9,h10⟩:=hm
 have hb:∀{z lo hi:Int},lo≤z→z≤hi→PO (rt (L+20) (n+60)) BW [I z,I lo,I hi] (Bo true):= λa b=>(WE a b).o
 rcases hT with rfl|⟨n4,c4,rfl⟩
 all_goals
  rewrite [Ih]
  unfold EZ Bc BS Av Gb Dr
  try rewrite [zO]
  try rewrite [bO]
  try rewrite [qO]
  try rewrite [cO]
  generalize rt (L+20) (n+60)=R at*
  conv=>lhs;whnf
  rewrite [hb h1 (by omega)]
  conv=>lhs;whnf
  rewrite [hb h3 (by omega)]
  conv=>lhs;whnf
  rewrite [hb h5 (by omega)]
  conv=>lhs;whnf
  rewrite [hb h7 (by omega)]
  conv=>lhs;whnf
  rewrite [hb h9 (by omega)]
  conv=>lhs;whnf
  rewrite [hu]
  conv=>lhs;whnf
  rewrite [(hf) false _ _ ?hq]
  case hq=>exact λK=>by kernel_rfl
  conv=>lhs;whnf
  rewrite [Fv]
  conv=>lhs;whnf
  rewrite [show∀K,eEq GL BinOp.eql (AV.agg [I r0.k,S r0.a1,S r0.a2,S r0.b1,S r0.b2,S r0.c1,S r0.c2,S r0.d1,S r0.d2]) (AV.agg [zI,zS,zS,zS,zS,zS,zS,zS,zS]) K=K (Bo true) from λK=>by rw[←qO];kernel_rfl]
  conv=>lhs;whnf
  rewrite [Oz ?hc]
  case hc=>decide
  conv=>lhs;whnf
  rewrite [Oz ?hc]
  case hc=>decide
  conv=>lhs;whnf
  rewrite [Of]
  conv=>lhs;whnf
  rewrite [Oz ?hc]
  case hc=>decide
  conv=>lhs;whnf
  rewrite [hs]
  conv=>lhs;whnf
  exact hK _ _ (λb=>⟨false,λK=>by kernel_rfl⟩)
theorem B0P (hm:m.ok) (hT:Sl T) (hP:∃n cs,P= .list n cs) (hI:∃n cs,ins= .list n cs) (hN:∃n cs,nds= .list n cs) (hr0:∀K,eEq GL BinOp.eql (AV.agg r.cs) (AV.agg [zI,zS,zS,zS,zS,zS,zS,zS,zS]) K=K (Bo false)) (hr:PO (rt (L+20) (n+60)) Qv [.agg r.cs] (Bo true)) (hv1:1≤vd) (hv2:vd≤3)
 (hu:PO (rt (L+20) (n+60)) GB [.agg (Ck u)] (Bo true)) (hf:LS (rt (L+20) (n+60)) I6 [.agg (VK ca cb T ra rb)] (Bo true))
 (hc:LS (rt (L+20) (n+60)) D9 [.agg (Eb 3 m u ca cb T ra rb P id ins nds o r vd)] (Bo true)):
 CS (rt (L+20) (n+61)) D3 [.agg (Eb 3 m u ca cb T ra rb P id ins nds o r vd)] (Bo true):=by
 intro K hK
 obtain⟨h1,h2,h3,h4,h5,h6,h7,h8,h9,h10⟩:=hm
 obtain⟨n1,c1,rfl⟩:=hP
 obtain⟨n2,c2,rfl⟩:=hI
 obtain⟨n3,c3,rfl⟩:=hN
 have hb:∀{z lo hi:Int},lo≤z→z≤hi→PO (rt (L+20) (n+60)) BW [I z,I lo,I hi] (Bo true):= λa b=>(WE a b).o
 rcases hT with rfl|⟨n4,c4,rfl⟩
 all_goals
  rewrite [Ih]
  unfold EZ Bc BS Av Gb Dr
  try rewrite [zO]
  try rewrite [bO]
  try rewrite [qO]
  try rewrite [cO]
  generalize rt (L+20) (n+60)=R at*
  conv=>lhs;whnf
  rewrite [hb h1 (by omega)]
  conv=>lhs;whnf
  rewrite [hb h3 (by omega)]
  conv=>lhs;whnf
  rewrite [hb h5 (by omega)]
  conv=>lhs;whnf
  rewrite [hb h7 (by omega)]
  conv=>lhs;whnf
  rewrite [hb h9 (by omega)]
  conv=>lhs;whnf
  rewrite [hu]
  conv=>lhs;whnf
  rewrite [(hf) false _ _ ?hq]
  case hq=>exact λK=>by kernel_rfl
  conv=>lhs;whnf
  rewrite [Fv]
  conv=>lhs;whnf
  rewrite [hr0]
  conv=>lhs;whnf
  rewrite [TA ?hc]
  case hc=>decide
  conv=>lhs;whnf
  rewrite [Fv]
  conv=>lhs;whnf
  rewrite [TA ?hc]
  case hc=>decide
  conv=>lhs;whnf
  rewrite [Fv]
  conv=>lhs;whnf
  rewrite [Oz ?hc]
  case hc=>decide
  conv=>lhs;whnf
  rewrite [Of]
  conv=>lhs;whnf
  rewrite [(hc) false _ _ ?hq]
  case hq=>exact λK=>by kernel_rfl
  conv=>lhs;whnf
  rewrite [hr]
  conv=>lhs;whnf
  rewrite [hb hv1 hv2]
  conv=>lhs;whnf
  exact hK _ _ (λb=>⟨false,λK=>by kernel_rfl⟩)
end
end
section
variable {L n:Nat}
attribute [local irreducible] Ah rt Zu eBi eEq cnd Go.Abs.Ak Go.Abs.UY Aw
section
variable {m:ND} {u o:UD} {ca cb ra rb:List UInt8} {T P ins nds:AV} {id vd:Int} {r:RD}
theorem B1d (hm:m.ok) (hT:Sl T) (hr:PO (rt (L+20) (n+60)) GH [.agg r0.cs] (Bo false))
 (hs:PO (rt (L+20) (n+60)) Tk [.agg (B2 0 AA AA o),.agg A9G] (Bo true))
 (hu:PO (rt (L+20) (n+60)) Ee [.agg (Ck u)] (Bo true)) (hf:LS (rt (L+20) (n+60)) GI [.agg (VK ca cb T ra rb)] (Bo true)):
 CS (rt (L+20) (n+61)) DW [.agg (Eb 1 m u ca cb T ra rb AA 0 AA AA o r0 0)] (.tup [Bo true,Bo false]):=by
 intro K hK
 obtain⟨h1,h2,h3,h4,h5,h6,h7,h8,h9,h10⟩:=hm
 have hb:∀{z lo hi:Int},lo≤z→z≤hi→PO (rt (L+20) (n+60)) Dn [I z,I lo,I hi] (Bo true):= λa b=>(Ul a b).o
 rcases hT with rfl|⟨n4,c4,rfl⟩
 all_goals
  rewrite [I3]
  unfold GW Bc BS Av Gb Dr
  try rewrite [zO]
  try rewrite [bO]
  try rewrite [qO]
  try rewrite [cO]
  generalize rt (L+20) (n+60)=R at*
  conv=>lhs;whnf
  rewrite [TA ?hc]
  case hc=>decide
  conv=>lhs;whnf
  rewrite [hu]
  conv=>lhs;whnf
  rewrite [(hf) false _ _ ?hq]
  case hq=>exact λK=>by kernel_rfl
  conv=>lhs;whnf
  rewrite [hb h1 (by omega)]
  conv=>lhs;whnf
  rewrite [hb h3 (by omega)]
  conv=>lhs;whnf
  rewrite [hb h5 (by omega)]
  conv=>lhs;whnf
  rewrite [hb h7 (by omega)]
  conv=>lhs;whnf
  rewrite [hb h9 (by omega)]
  conv=>lhs;whnf
  rewrite [Fv]
  conv=>lhs;whnf
  rewrite [hr]
  conv=>lhs;whnf
  rewrite [show∀K,eEq GL BinOp.neq (AV.agg [I r0.k,S r0.a1,S r0.a2,S r0.b1,S r0.b2,S r0.c1,S r0.c2,S r0.d1,S r0.d2]) (AV.agg [zI,zS,zS,zS,zS,zS,zS,zS,zS]) K=K (Bo false) from λK=>by rw[←qO];kernel_rfl]
  conv=>lhs;whnf
  rewrite [B49 ?hc]
  case hc=>decide
  conv=>lhs;whnf
  rewrite [Fv]
  conv=>lhs;whnf
  rewrite [Oz ?hc]
  case hc=>decide
  conv=>lhs;whnf
  rewrite [Of]
  conv=>lhs;whnf
  rewrite [hs]
  conv=>lhs;whnf
  rewrite [Oz ?hc]
  case hc=>decide
  conv=>lhs;whnf
  exact hK _ _ (λb=>⟨false,λK=>by kernel_rfl⟩)
theorem B1c (hm:m.ok) (hT:Sl T) (hr:PO (rt (L+20) (n+60)) GH [.agg r0.cs] (Bo false)) {n2:Nat} {c2:List AV} (hP:∃n cs,P= .list n cs) (hN:∃n cs,nds= .list n cs)
 (hp:LS (rt (L+20) (n+60)) Fm [P] (.tup [Bo true,I n2])) (hv:LS (rt (L+20) (n+60)) E3 [.agg (B2 id (.list n2 c2) nds u)] (Bo true))
 (hu:PO (rt (L+20) (n+60)) Ee [.agg (Ck u)] (Bo true)) (hf:LS (rt (L+20) (n+60)) GI [.agg (VK ca cb T ra rb)] (Bo true)):
 CS (rt (L+20) (n+61)) DW [.agg (Eb 2 m u ca cb T ra rb P id (.list n2 c2) nds u r0 0)] (.tup [Bo true,Bo false]):=by
 intro K hK
 obtain⟨h1,h2,h3,h4,h5,h6,h7,h8,h9,h10⟩:=hm
 obtain⟨n1,c1,rfl⟩:=hP
 obtain⟨n3,c3,rfl⟩:=hN
 have hb:∀{z lo hi:Int},lo≤z→z≤hi→PO (rt (L+20) (n+60)) Dn [I z,I lo,I hi] (Bo true):= λa b=>(Ul a b).o
 rcases hT with rfl|⟨n4,c4,rfl⟩
 all_goals
  rewrite [I3]
  unfold GW Bc BS Av Gb Dr
  try rewrite [zO]
  try rewrite [bO]
  try rewrite [qO]
  try rewrite [cO]
  generalize rt (L+20) (n+60)=R at*
  conv=>lhs;whnf
  rewrite [TA ?hc]
  case hc=>decide
  conv=>lhs;whnf
  rewrite [hu]
  conv=>lhs;whnf
  rewrite [(hf) false _ _ ?hq]
  case hq=>exact λK=>by kernel_rfl
  conv=>lhs;whnf
  rewrite [hb h1 (by omega)]
  conv=>lhs;whnf
  rewrite [hb h3 (by omega)]
  conv=>lhs;whnf
  rewrite [hb h5 (by omega)]
  conv=>lhs;whnf
  rewrite [hb h7 (by omega)]
  conv=>lhs;whnf
  rewrite [hb h9 (by omega)]
  conv=>lhs;whnf
  rewrite [Fv]
  conv=>lhs;whnf
  rewrite [hr]
  conv=>lhs;whnf
  rewrite [show∀K,eEq GL BinOp.neq (AV.agg [I r0.k,S r0.a1,S r0.a2,S r0.b1,S r0.b2,S r0.c1,S r0.c2,S r0.d1,S r0.d2]) (AV.agg [zI,zS,zS,zS,zS,zS,zS,zS,zS]) K=K (Bo false) from λK=>by rw[←qO];kernel_rfl]
  conv=>lhs;whnf
  rewrite [B49 ?hc]
  case hc=>decide
  conv=>lhs;whnf
  rewrite [Fv]
  conv=>lhs;whnf
  rewrite [TA ?hc]
  case hc=>decide
  conv=>lhs;whnf
  rewrite [Fv]
  conv=>lhs;whnf
  rewrite [Oz ?hc]
  case hc=>decide
  conv=>lhs;whnf
  rewrite [Of]
  conv=>lhs;whnf
  rewrite [Of]
  conv=>lhs;whnf
  rewrite [(hp) false _ _ ?hq]
  case hq=>exact λK=>by kernel_rfl
  conv=>lhs;whnf
  rewrite [(hv) false _ _ ?hq]
  case hq=>exact λK=>by kernel_rfl
  conv=>lhs;whnf
  rewrite [Oz ?hc]
  case hc=>rfl
  conv=>lhs;whnf
  rewrite [A2h u]
  conv=>lhs;whnf
  exact hK _ _ (λb=>⟨false,λK=>by kernel_rfl⟩)
theorem B1b (hm:m.ok) (hT:Sl T) (hr:PO (rt (L+20) (n+60)) GH [.agg r.cs] (Bo true)) (hv1:1≤vd) (hv2:vd≤3) {n2:Nat} {c2:List AV} (hP:∃n cs,P= .list n cs) (hN:∃n cs,nds= .list n cs)
 (hp:LS (rt (L+20) (n+60)) Fm [P] (.tup [Bo true,I n2])) (hv:LS (rt (L+20) (n+60)) E3 [.agg (B2 id (.list n2 c2) nds u)] (Bo true))
 (hu:PO (rt (L+20) (n+60)) Ee [.agg (Ck u)] (Bo true)) (hf:LS (rt (L+20) (n+60)) GI [.agg (VK ca cb T ra rb)] (Bo true)):
 CS (rt (L+20) (n+61)) DW [.agg (Eb 3 m u ca cb T ra rb P id (.list n2 c2) nds u r vd)] (.tup [Bo true,Bo true]):=by
 intro K hK
 obtain⟨h1,h2,h3,h4,h5,h6,h7,h8,h9,h10⟩:=hm
 obtain⟨n1,c1,rfl⟩:=hP
 obtain⟨n3,c3,rfl⟩:=hN
 have hb:∀{z lo hi:Int},lo≤z→z≤hi→PO (rt (L+20) (n+60)) Dn [I z,I lo,I hi] (Bo true):= λa b=>(Ul a b).o
 rcases hT with rfl|⟨n4,c4,rfl⟩
 all_goals
  rewrite [I3]
  unfold GW Bc BS Av Gb Dr
  try rewrite [zO]
  try rewrite [bO]
  try rewrite [qO]
  try rewrite [cO]
  generalize rt (L+20) (n+60)=R at*
  conv=>lhs;whnf
  rewrite [Oz ?hc]
  case hc=>decide
  conv=>lhs;whnf
  rewrite [hu]
  conv=>lhs;whnf
  rewrite [(hf) false _ _ ?hq]
  case hq=>exact λK=>by kernel_rfl
  conv=>lhs;whnf
  rewrite [hb h1 (by omega)]
  conv=>lhs;whnf
  rewrite [hb h3 (by omega)]
  conv=>lhs;whnf
  rewrite [hb h5 (by omega)]
  conv=>lhs;whnf
  rewrite [hb h7 (by omega)]
  conv=>lhs;whnf
  rewrite [hb h9 (by omega)]
  conv=>lhs;whnf
  rewrite [Fv]
  conv=>lhs;whnf
  rewrite [hr]
  conv=>lhs;whnf
  rewrite [hb hv1 hv2]
  conv=>lhs;whnf
  rewrite [Fv]
  conv=>lhs;whnf
  rewrite [TA ?hc]
  case hc=>decide
  conv=>lhs;whnf
  rewrite [Fv]
  conv=>lhs;whnf
  rewrite [TA ?hc]
  case hc=>decide
  conv=>lhs;whnf
  rewrite [Fv]
  conv=>lhs;whnf
  rewrite [Oz ?hc]
  case hc=>decide
  conv=>lhs;whnf
  rewrite [Of]
  conv=>lhs;whnf
  rewrite [(hp) false _ _ ?hq]
  case hq=>exact λK=>by kernel_rfl
  conv=>lhs;whnf
  rewrite [(hv) false _ _ ?hq]
  case hq=>exact λK=>by kernel_rfl
  conv=>lhs;whnf
  rewrite [Oz ?hc]
  case hc=>rfl
  conv=>lhs;whnf
  rewrite [A2h u]
  conv=>lhs;whnf
  exact hK _ _ (λb=>⟨false,λK=>by kernel_rfl⟩)
end
end
end Go.Abs
end
