import Derived.Test.YtlbhdmbfdcohhaaGreatDoorR21
set_option linter.all false
set_option maxHeartbeats 100000000
noncomputable section
namespace Go.Abs
open Go.RowKit Go.Proofs
set_option maxRecDepth 100000
theorem CW {a b:AV} {K:AV→Al}:AD (.tup [a,b]) 0 K=K a:=id rfl
theorem CV {a b:AV} {K:AV→Al}:AD (.tup [a,b]) 1 K=K b:=id rfl
theorem Bp {i:TI} {a b:List UInt8} {K:AV→Al} (hl:a.length+b.length<9223372036854775808):Ak i .add (S a) (S b) K=K (S (a++b)):=by
 have e:Ak i .add (S a) (S b) K=Ur a b λl=>ck (Nat.blt l.length 9223372036854775808) (K (.v (.string ⟨⟨l⟩⟩))):=rfl
 have c:Nat.blt (a++b).length 9223372036854775808=true:=by rw[Uk,FA];exact hl
 rw[e,K4,c];rfl
theorem B4p (f:Nat):∀z,(B4q f z).length≤f:=by
 induction f with
 |zero=>intro z;exact O8 _
 |succ f ih=>
  intro z
  unfold B4q
  split
  ·simp
  ·have:=ih (z/128);simp;omega
theorem Qx (z:Int):(enc z).length≤9:=B4p 9 _
def A4W (s:List UInt8):List UInt8:=enc s.length++s
theorem A61 (L n:Nat) {s:List UInt8} (h:s.length<390):PS (rt (L+20) (n+5)) LV [S s] (.tup [S (A4W s),I 0]):=by
 refine CS.ps (λK hK=> ?_) (λH=>fx1)
 rw[UY]
 unfold LC Ar
 rw[MY rfl,Ej,En,if_neg (by simp;omega),MY rfl,A62 L n (by omega) (by omega),CW,CV,Bp (by have:=Qx (s.length:Int);omega)]
 exact hK _ _ (λb=>⟨false,Yo (A2 (q:=false) (q':=false) Ed (A2 (q:=false) (q':=false) Ed Bt))⟩)
theorem A5B (L n:Nat) {s:List UInt8} (h:s.length<390):PS (rt (L+20) (n+9)) MT [S s] (.tup [S (A4W s),I 0]):=by
 refine CS.ps (λK hK=> ?_) (λH=>fx1)
 rw[V9]
 unfold MC Ar
 rw[MY rfl,Ej,En,if_neg (by simp;omega),MY rfl,A5C L n (by omega) (by omega),CW,CV,Bp (by have:=Qx (s.length:Int);omega)]
 exact hK _ _ (λb=>⟨false,Yo (A2 (q:=false) (q':=false) Ed (A2 (q:=false) (q':=false) Ed Bt))⟩)
section
def Et (l:List Int):List AV:=l.map λz=> .v (.int .i64 z)
def Bn (l:List (List UInt8)):List AV:=l.map λs=>S s
def GT (l:List Int):List UInt8:=(l.map enc).flatten
def FZ (l:List (List UInt8)):List UInt8:=(l.map A4W).flatten
theorem PB {l:List Int} {k:Nat} (h:k<l.length):(Et l).getD k .dk=I l[k]:=by
 simp[Et,Ul,h]
theorem Mx {l:List (List UInt8)} {k:Nat} (h:k<l.length):(Bn l).getD k .dk=S l[k]:=by
 simp[Bn,Ul,h]
theorem Ei (l:List Int):(GT l).length≤9*l.length:=by
 induction l with
 |nil=>simp[GT]
 |cons z l ih=>
  have:=Qx z
  simp[GT] at ih⊢
  omega
theorem Eh (l:List (List UInt8)) (h:∀s∈l,s.length<390):(FZ l).length≤400*l.length:=by
 induction l with
 |nil=>simp[FZ]
 |cons s l ih=>
  have h1:=Qx (s.length:Int)
  have h2:=h s (by simp)
  have h3:=ih (λs hs=>h s (by simp[hs]))
  simp only[FZ,ZY,l18,FA,Lj,A4W] at h3⊢
  omega
theorem A3E (l:List Int) {i:Nat} (h:i<l.length):GT (l.take (i+1))=GT (l.take i)++enc l[i]:=by
 unfold GT
 rw[l04 h,l01,List.flatten_append]
 simp only[ZY,List.map_nil,l18,List.flatten_nil,l1o]
theorem A3D (l:List (List UInt8)) {i:Nat} (h:i<l.length):FZ (l.take (i+1))=FZ (l.take i)++A4W l[i]:=by
 unfold FZ
 rw[l04 h,l01,List.flatten_append]
 simp only[ZY,List.map_nil,l18,List.flatten_nil,l1o]
variable {L n:Nat} {K:KV} {x:Al}
theorem C1N {k:AV→Hp→Al} {l:List Int} {H:Hp} (hl:l.length<100) (hz:∀z∈l, -10≤z∧z<1090) (hx:k (S (GT l)) H=x):
 ∀(f i:Nat),i≤l.length→l.length-i<f→JM (L+20) (rt (L+20) (n+4)) K k f (.list l.length (Et l)) (S (GT (l.take i))) (I i) H=x:=by
 intro f
 induction f with
 |zero=>intro i _ h;omega
 |succ f ih=>
  intro i hi hf
  rw[V8]
  unfold MB Ar
  have el:∀K,AP Af (.list l.length (Et l)) K=K (I l.length):= λK=>id rfl
  rw[el,Dy,En]
  by_cases h:i<l.length
  ·rw[if_pos (by simp;omega)]
   have hzi:=hz l[i] (QS h)
   have hlen:(GT (l.take i)).length≤9*l.length:=by
    have:=Ei (l.take i)
    have h5:(l.take i).length≤l.length:=by simp;omega
    omega
   rw[Uv rfl (by simp[Et]) (by omega) (by omega),Xs,Ra rfl,PB h,A62 L n hzi.1 hzi.2,CW,CV,Bp (by have:=Qx l[i];omega),←A3E l h,Cz,Cb (by omega) (by omega),OV]
   exact ih (i+1) (by omega) (by omega)
  ·rw[if_neg (by simp;omega)]
   have:i=l.length:=by omega
   subst this
   rw[l06]
   exact hx
theorem A3k {l:List Int} (hl:l.length<100) (hL:l.length<L) (hz:∀z∈l, -10≤z∧z<1090):CS (rt (L+20) (n+5)) Di [.list l.length (Et l)] (S (GT l)):=by
 intro K hK
 rw[Wy]
 unfold Oa Ar
 simp only[Cp]
 refine C1N hl hz ?_ (L+20) 0 (by omega) (by omega)
 exact hK _ _ (λb=>⟨false,Ed⟩)
theorem B9s {k:AV→Hp→Al} {l:List (List UInt8)} {H:Hp} (hl:l.length<100) (hz:∀s∈l,s.length<390) (hx:k (S (FZ l)) H=x):
 ∀(f i:Nat),i≤l.length→l.length-i<f→Lr (L+20) (rt (L+20) (n+5)) K k f (.list l.length (Bn l)) (S (FZ (l.take i))) (I i) H=x:=by
 intro f
 induction f with
 |zero=>intro i _ h;omega
 |succ f ih=>
  intro i hi hf
  rw[Rw]
  unfold Lt Ar
  have el:∀K,AP Ad (.list l.length (Bn l)) K=K (I l.length):= λK=>id rfl
  rw[el,Dy,En]
  by_cases h:i<l.length
  ·rw[if_pos (by simp;omega)]
   have hzi:=hz l[i] (QS h)
   have hlen:(FZ (l.take i)).length≤400*l.length:=by
    have:=Eh (l.take i) (λs hs=>hz s (l24 hs))
    have h5:(l.take i).length≤l.length:=by simp;omega
    omega
   have hlen2:(A4W l[i]).length≤400:=by unfold A4W;rw[FA];have:=Qx (l[i].length:Int);omega
   rw[Uv rfl (by simp[Bn]) (by omega) (by omega),Xs,Ra rfl,Mx h,A61 L n hzi,CW,CV,Bp (by omega),←A3D l h,Cz,Cb (by omega) (by omega),OV]
   exact ih (i+1) (by omega) (by omega)
  ·rw[if_neg (by simp;omega)]
   have:i=l.length:=by omega
   subst this
   rw[l06]
   exact hx
theorem A9w {l:List (List UInt8)} (hl:l.length<100) (hL:l.length<L) (hz:∀s∈l,s.length<390):CS (rt (L+20) (n+6)) E4 [.list l.length (Bn l)] (S (FZ l)):=by
 intro K hK
 rw[Tg]
 unfold Np Ar
 simp only[Cp]
 refine B9s hl hz ?_ (L+20) 0 (by omega) (by omega)
 exact hK _ _ (λb=>⟨false,Ed⟩)
end
structure UD where
 (p0 q0 p1 q1 p2 q2 p3 q3 p4 q4 p5 q5 p6 q6:Int)
 (fn fd on od:List UInt8)
 (kd sc:Int)
abbrev UD.cs (u:UD):List AV:=[I u.p0,I u.q0,I u.p1,I u.q1,I u.p2,I u.q2,I u.p3,I u.q3,I u.p4,I u.q4,I u.p5,I u.q5,I u.p6,I u.q6,S u.fn,S u.fd,S u.on,S u.od,I u.kd,I u.sc]
def u0:UD:=⟨0,0,0,0,0,0,0,0,0,0,0,0,0,0,[],[],[],[],0,0⟩
def C3n:List UD:=[
 ⟨1,1,0,1,0,1,0,1,0,1,0,1,0,1,[49],[49],[48],[49],0,1⟩,
 ⟨0,1,0,1,1,1,0,1,0,1,0,1,0,1,[49],[49],[48],[49],0,1⟩,
 ⟨1,1,0,1,0,1,0,1,0,1,0,1,0,1,[49],[49,48,48,48],[48],[49],0,1⟩,
 ⟨0,1,0,1,0,1,0,1,0,1,0,1,0,1,[49],[49],[48],[49],0,2⟩,
 ⟨0,1,0,1,0,1,0,1,1,1,0,1,0,1,[49],[49],[53,52,54,51],[50,48],0,0⟩,
 ⟨0,1,0,1,0,1,0,1,1,1,0,1,0,1,[49],[49],[48],[49],0,1⟩,
 ⟨2,1,0,1,0,1,0,1,0,1,0,1,0,1,[49],[49],[48],[49],0,1⟩,
 ⟨1,1,0,1,1,1,0,1,0,1,0,1,0,1,[49],[49],[48],[49],0,1⟩,
 ⟨1,1,0,1,(-1),1,0,1,0,1,0,1,0,1,[49],[49],[48],[49],0,1⟩,
 ⟨2,1,0,1,0,1,0,1,0,1,0,1,0,1,[49],[49,48,48,48],[48],[49],0,1⟩,
 ⟨0,1,0,1,0,1,0,1,0,1,0,1,0,1,[49,48,48,48],[49],[48],[49],0,2⟩,
 ⟨1,1,0,1,0,1,0,1,1,1,0,1,0,1,[49],[49],[48],[49],0,1⟩,
 ⟨1,1,0,1,0,1,0,1,(-1),1,0,1,0,1,[49],[49],[48],[49],0,1⟩,
 ⟨3,1,0,1,0,1,0,1,0,1,0,1,0,1,[49],[49],[48],[49],0,1⟩,
 ⟨(-1),1,0,1,0,1,0,1,0,1,0,1,0,1,[49],[49],[48],[49],0,1⟩,
 ⟨(-2),1,0,1,0,1,0,1,0,1,0,1,0,1,[49],[49],[48],[49],0,1⟩,
 ⟨(-1),1,0,1,1,1,0,1,0,1,0,1,0,1,[49],[49],[48],[49],0,1⟩,
 ⟨0,1,0,1,2,1,0,1,0,1,0,1,0,1,[49],[49],[48],[49],0,1⟩,
 ⟨1,1,0,1,1,1,0,1,0,1,0,1,0,1,[49],[49,48,48,48],[48],[49],0,1⟩,
 ⟨(-1),1,0,1,1,1,0,1,0,1,0,1,0,1,[49,48,48,48],[49],[48],[49],0,1⟩,
 ⟨0,1,0,1,1,1,0,1,1,1,0,1,0,1,[49],[49],[48],[49],0,1⟩,
 ⟨0,1,0,1,1,1,0,1,(-1),1,0,1,0,1,[49],[49],[48],[49],0,1⟩,
 ⟨2,1,0,1,1,1,0,1,0,1,0,1,0,1,[49],[49],[48],[49],0,1⟩,
 ⟨(-2),1,0,1,1,1,0,1,0,1,0,1,0,1,[49],[49],[48],[49],0,1⟩,
 ⟨0,1,0,1,(-1),1,0,1,0,1,0,1,0,1,[49],[49],[48],[49],0,1⟩,
 ⟨0,1,0,1,3,1,0,1,0,1,0,1,0,1,[49],[49],[48],[49],0,1⟩,
 ⟨0,1,0,1,(-2),1,0,1,0,1,0,1,0,1,[49],[49],[48],[49],0,1⟩,
 ⟨0,1,0,1,0,1,0,1,0,1,0,1,0,1,[49],[49,48,48,48],[48],[49],0,2⟩,
 ⟨1,1,0,1,(-1),1,0,1,0,1,0,1,0,1,[49],[49,48,48,48],[48],[49],0,1⟩,
 ⟨2,1,0,1,0,1,0,1,0,1,0,1,0,1,[49],[49,48,48,48,48,48,48],[48],[49],0,1⟩,
 ⟨1,1,0,1,0,1,0,1,1,1,0,1,0,1,[49],[49,48,48,48],[48],[49],0,1⟩,
 ⟨1,1,0,1,0,1,0,1,(-1),1,0,1,0,1,[49],[49,48,48,48],[48],[49],0,1⟩,
 ⟨3,1,0,1,0,1,0,1,0,1,0,1,0,1,[49],[49,48,48,48],[48],[49],0,1⟩,
 ⟨(-1),1,0,1,0,1,0,1,0,1,0,1,0,1,[49],[49,48,48,48],[48],[49],0,1⟩,
 ⟨(-1),1,0,1,0,1,0,1,0,1,0,1,0,1,[49,48,48,48],[49],[48],[49],0,1⟩,
 ⟨3,1,0,1,0,1,0,1,0,1,0,1,0,1,[49],[49,48,48,48,48,48,48,48,48,48],[48],[49],0,1⟩,
 ⟨(-2),1,0,1,0,1,0,1,0,1,0,1,0,1,[49,48,48,48,48,48,48],[49],[48],[49],0,1⟩,
 ⟨0,1,0,1,0,1,0,1,(-1),1,0,1,0,1,[49],[49],[48],[49],0,1⟩,
 ⟨(-1),1,0,1,0,1,0,1,1,1,0,1,0,1,[49],[49],[48],[49],0,1⟩,
 ⟨0,1,0,1,(-1),1,0,1,1,1,0,1,0,1,[49],[49],[48],[49],0,1⟩,
 ⟨(-1),1,0,1,0,1,0,1,1,1,0,1,0,1,[49,48,48,48],[49],[48],[49],0,1⟩,
 ⟨0,1,0,1,0,1,0,1,2,1,0,1,0,1,[49],[49],[48],[49],0,1⟩,
 ⟨2,1,0,1,0,1,0,1,1,1,0,1,0,1,[49],[49],[48],[49],0,1⟩,
 ⟨(-2),1,0,1,0,1,0,1,1,1,0,1,0,1,[49],[49],[48],[49],0,1⟩,
 ⟨0,1,0,1,0,1,0,1,3,1,0,1,0,1,[49],[49],[48],[49],0,1⟩,
 ⟨0,1,0,1,0,1,0,1,(-2),1,0,1,0,1,[49],[49],[48],[49],0,1⟩,
 ⟨2,1,0,1,(-1),1,0,1,0,1,0,1,0,1,[49],[49],[48],[49],0,1⟩,
 ⟨1,1,0,1,0,1,0,1,0,1,0,1,0,1,[49,48,48,48],[49],[48],[49],0,1⟩,
 ⟨2,1,0,1,0,1,0,1,(-1),1,0,1,0,1,[49],[49],[48],[49],0,1⟩,
 ⟨4,1,0,1,0,1,0,1,0,1,0,1,0,1,[49],[49],[48],[49],0,1⟩,
 ⟨6,1,0,1,0,1,0,1,0,1,0,1,0,1,[49],[49],[48],[49],0,1⟩,
 ⟨(-4),1,0,1,0,1,0,1,0,1,0,1,0,1,[49],[49],[48],[49],0,1⟩]
def uu (k:Nat):UD:=C3n.getD k u0
def B9q:List (List UInt8):=[
 [100,105,102,102,101,114,101,110,99,101,32,107,105,110,100,32,48,32,102,97,99,116,111,114,32,49,32,111,102,102,115,101,116,32,48,32,109,94,49],
 [100,105,102,102,101,114,101,110,99,101,32,107,105,110,100,32,48,32,102,97,99,116,111,114,32,49,32,111,102,102,115,101,116,32,48,32,115,94,49],
 [100,105,102,102,101,114,101,110,99,101,32,107,105,110,100,32,48,32,102,97,99,116,111,114,32,49,47,49,48,48,48,32,111,102,102,115,101,116,32,48,32,109,94,49],
 [114,97,116,105,111,32,107,105,110,100,32,48,32,102,97,99,116,111,114,32,49,32,111,102,102,115,101,116,32,48],
 [97,98,115,111,108,117,116,101,32,107,105,110,100,32,48,32,102,97,99,116,111,114,32,49,32,111,102,102,115,101,116,32,53,52,54,51,47,50,48,32,75,94,49],
 [100,105,102,102,101,114,101,110,99,101,32,107,105,110,100,32,48,32,102,97,99,116,111,114,32,49,32,111,102,102,115,101,116,32,48,32,75,94,49],
 [100,105,102,102,101,114,101,110,99,101,32,107,105,110,100,32,48,32,102,97,99,116,111,114,32,49,32,111,102,102,115,101,116,32,48,32,109,94,50],
 [100,105,102,102,101,114,101,110,99,101,32,107,105,110,100,32,48,32,102,97,99,116,111,114,32,49,32,111,102,102,115,101,116,32,48,32,109,94,49,32,115,94,49],
 [100,105,102,102,101,114,101,110,99,101,32,107,105,110,100,32,48,32,102,97,99,116,111,114,32,49,32,111,102,102,115,101,116,32,48,32,109,94,49,32,115,94,45,49],
 [100,105,102,102,101,114,101,110,99,101,32,107,105,110,100,32,48,32,102,97,99,116,111,114,32,49,47,49,48,48,48,32,111,102,102,115,101,116,32,48,32,109,94,50],
 [114,97,116,105,111,32,107,105,110,100,32,48,32,102,97,99,116,111,114,32,49,48,48,48,32,111,102,102,115,101,116,32,48],
 [100,105,102,102,101,114,101,110,99,101,32,107,105,110,100,32,48,32,102,97,99,116,111,114,32,49,32,111,102,102,115,101,116,32,48,32,109,94,49,32,75,94,49],
 [100,105,102,102,101,114,101,110,99,101,32,107,105,110,100,32,48,32,102,97,99,116,111,114,32,49,32,111,102,102,115,101,116,32,48,32,109,94,49,32,75,94,45,49],
 [100,105,102,102,101,114,101,110,99,101,32,107,105,110,100,32,48,32,102,97,99,116,111,114,32,49,32,111,102,102,115,101,116,32,48,32,109,94,51],
 [100,105,102,102,101,114,101,110,99,101,32,107,105,110,100,32,48,32,102,97,99,116,111,114,32,49,32,111,102,102,115,101,116,32,48,32,109,94,45,49],
 [100,105,102,102,101,114,101,110,99,101,32,107,105,110,100,32,48,32,102,97,99,116,111,114,32,49,32,111,102,102,115,101,116,32,48,32,109,94,45,50],
 [100,105,102,102,101,114,101,110,99,101,32,107,105,110,100,32,48,32,102,97,99,116,111,114,32,49,32,111,102,102,115,101,116,32,48,32,109,94,45,49,32,115,94,49],
 [100,105,102,102,101,114,101,110,99,101,32,107,105,110,100,32,48,32,102,97,99,116,111,114,32,49,32,111,102,102,115,101,116,32,48,32,115,94,50],
 [100,105,102,102,101,114,101,110,99,101,32,107,105,110,100,32,48,32,102,97,99,116,111,114,32,49,47,49,48,48,48,32,111,102,102,115,101,116,32,48,32,109,94,49,32,115,94,49],
 [100,105,102,102,101,114,101,110,99,101,32,107,105,110,100,32,48,32,102,97,99,116,111,114,32,49,48,48,48,32,111,102,102,115,101,116,32,48,32,109,94,45,49,32,115,94,49],
 [100,105,102,102,101,114,101,110,99,101,32,107,105,110,100,32,48,32,102,97,99,116,111,114,32,49,32,111,102,102,115,101,116,32,48,32,115,94,49,32,75,94,49],
 [100,105,102,102,101,114,101,110,99,101,32,107,105,110,100,32,48,32,102,97,99,116,111,114,32,49,32,111,102,102,115,101,116,32,48,32,115,94,49,32,75,94,45,49],
 [100,105,102,102,101,114,101,110,99,101,32,107,105,110,100,32,48,32,102,97,99,116,111,114,32,49,32,111,102,102,115,101,116,32,48,32,109,94,50,32,115,94,49],
 [100,105,102,102,101,114,101,110,99,101,32,107,105,110,100,32,48,32,102,97,99,116,111,114,32,49,32,111,102,102,115,101,116,32,48,32,109,94,45,50,32,115,94,49],
 [100,105,102,102,101,114,101,110,99,101,32,107,105,110,100,32,48,32,102,97,99,116,111,114,32,49,32,111,102,102,115,101,116,32,48,32,115,94,45,49],
 [100,105,102,102,101,114,101,110,99,101,32,107,105,110,100,32,48,32,102,97,99,116,111,114,32,49,32,111,102,102,115,101,116,32,48,32,115,94,51],
 [100,105,102,102,101,114,101,110,99,101,32,107,105,110,100,32,48,32,102,97,99,116,111,114,32,49,32,111,102,102,115,101,116,32,48,32,115,94,45,50],
 [114,97,116,105,111,32,107,105,110,100,32,48,32,102,97,99,116,111,114,32,49,47,49,48,48,48,32,111,102,102,115,101,116,32,48],
 [100,105,102,102,101,114,101,110,99,101,32,107,105,110,100,32,48,32,102,97,99,116,111,114,32,49,47,49,48,48,48,32,111,102,102,115,101,116,32,48,32,109,94,49,32,115,94,45,49],
 [100,105,102,102,101,114,101,110,99,101,32,107,105,110,100,32,48,32,102,97,99,116,111,114,32,49,47,49,48,48,48,48,48,48,32,111,102,102,115,101,116,32,48,32,109,94,50],
 [100,105,102,102,101,114,101,110,99,101,32,107,105,110,100,32,48,32,102,97,99,116,111,114,32,49,47,49,48,48,48,32,111,102,102,115,101,116,32,48,32,109,94,49,32,75,94,49],
 [100,105,102,102,101,114,101,110,99,101,32,107,105,110,100,32,48,32,102,97,99,116,111,114,32,49,47,49,48,48,48,32,111,102,102,115,101,116,32,48,32,109,94,49,32,75,94,45,49],
 [100,105,102,102,101,114,101,110,99,101,32,107,105,110,100,32,48,32,102,97,99,116,111,114,32,49,47,49,48,48,48,32,111,102,102,115,101,116,32,48,32,109,94,51],
 [100,105,102,102,101,114,101,110,99,101,32,107,105,110,100,32,48,32,102,97,99,116,111,114,32,49,47,49,48,48,48,32,111,102,102,115,101,116,32,48,32,109,94,45,49],
 [100,105,102,102,101,114,101,110,99,101,32,107,105,110,100,32,48,32,102,97,99,116,111,114,32,49,48,48,48,32,111,102,102,115,101,116,32,48,32,109,94,45,49],
 [100,105,102,102,101,114,101,110,99,101,32,107,105,110,100,32,48,32,102,97,99,116,111,114,32,49,47,49,48,48,48,48,48,48,48,48,48,32,111,102,102,115,101,116,32,48,32,109,94,51],
 [100,105,102,102,101,114,101,110,99,101,32,107,105,110,100,32,48,32,102,97,99,116,111,114,32,49,48,48,48,48,48,48,32,111,102,102,115,101,116,32,48,32,109,94,45,50],
 [100,105,102,102,101,114,101,110,99,101,32,107,105,110,100,32,48,32,102,97,99,116,111,114,32,49,32,111,102,102,115,101,116,32,48,32,75,94,45,49],
 [100,105,102,102,101,114,101,110,99,101,32,107,105,110,100,32,48,32,102,97,99,116,111,114,32,49,32,111,102,102,115,101,116,32,48,32,109,94,45,49,32,75,94,49],
 [100,105,102,102,101,114,101,110,99,101,32,107,105,110,100,32,48,32,102,97,99,116,111,114,32,49,32,111,102,102,115,101,116,32,48,32,115,94,45,49,32,75,94,49],
 [100,105,102,102,101,114,101,110,99,101,32,107,105,110,100,32,48,32,102,97,99,116,111,114,32,49,48,48,48,32,111,102,102,115,101,116,32,48,32,109,94,45,49,32,75,94,49],
 [100,105,102,102,101,114,101,110,99,101,32,107,105,110,100,32,48,32,102,97,99,116,111,114,32,49,32,111,102,102,115,101,116,32,48,32,75,94,50],
 [100,105,102,102,101,114,101,110,99,101,32,107,105,110,100,32,48,32,102,97,99,116,111,114,32,49,32,111,102,102,115,101,116,32,48,32,109,94,50,32,75,94,49],
 [100,105,102,102,101,114,101,110,99,101,32,107,105,110,100,32,48,32,102,97,99,116,111,114,32,49,32,111,102,102,115,101,116,32,48,32,109,94,45,50,32,75,94,49],
 [100,105,102,102,101,114,101,110,99,101,32,107,105,110,100,32,48,32,102,97,99,116,111,114,32,49,32,111,102,102,115,101,116,32,48,32,75,94,51],
 [100,105,102,102,101,114,101,110,99,101,32,107,105,110,100,32,48,32,102,97,99,116,111,114,32,49,32,111,102,102,115,101,116,32,48,32,75,94,45,50],
 [100,105,102,102,101,114,101,110,99,101,32,107,105,110,100,32,48,32,102,97,99,116,111,114,32,49,32,111,102,102,115,101,116,32,48,32,109,94,50,32,115,94,45,49],
 [100,105,102,102,101,114,101,110,99,101,32,107,105,110,100,32,48,32,102,97,99,116,111,114,32,49,48,48,48,32,111,102,102,115,101,116,32,48,32,109,94,49],
 [100,105,102,102,101,114,101,110,99,101,32,107,105,110,100,32,48,32,102,97,99,116,111,114,32,49,32,111,102,102,115,101,116,32,48,32,109,94,50,32,75,94,45,49],
 [100,105,102,102,101,114,101,110,99,101,32,107,105,110,100,32,48,32,102,97,99,116,111,114,32,49,32,111,102,102,115,101,116,32,48,32,109,94,52],
 [100,105,102,102,101,114,101,110,99,101,32,107,105,110,100,32,48,32,102,97,99,116,111,114,32,49,32,111,102,102,115,101,116,32,48,32,109,94,54],
 [100,105,102,102,101,114,101,110,99,101,32,107,105,110,100,32,48,32,102,97,99,116,111,114,32,49,32,111,102,102,115,101,116,32,48,32,109,94,45,52]]
def Jw (k:Nat):List UInt8:=B9q.getD k []
def C68:List (List (List (Option Nat))):=[
 [[some 0,none,none,none,none,none,none],
  [none,some 1,none,none,none,none,none],
  [none,none,some 2,none,none,none,none],
  [none,none,none,some 3,none,none,none],
  [none,none,none,none,none,some 4,none],
  [none,none,none,none,some 4,some 5,none],
  [none,none,none,none,none,none,some 6]],
 [[some 0,none,none,none,none,none,none],
  [none,some 1,none,none,none,none,none],
  [none,none,some 2,none,none,none,none],
  [none,none,none,some 3,none,none,none],
  [none,none,none,none,some 5,some 4,none],
  [none,none,none,none,none,some 5,none],
  [none,none,none,none,none,none,some 6]],
 [[some 6,some 7,some 9,some 0,none,some 11,some 13],
  [some 7,some 17,some 18,some 1,none,some 20,some 22],
  [some 9,some 18,some 29,some 2,none,some 30,some 32],
  [some 0,some 1,some 2,some 3,none,some 5,some 6],
  [none,none,none,none,none,none,none],
  [some 11,some 20,some 30,some 5,none,some 41,some 42],
  [some 13,some 22,some 32,some 6,none,some 42,some 49]],
 [[some 3,some 8,some 10,some 0,none,some 12,some 14],
  [some 16,some 3,some 19,some 1,none,some 21,some 23],
  [some 27,some 28,some 3,some 2,none,some 31,some 33],
  [some 14,some 24,some 34,some 3,none,some 37,some 15],
  [none,none,none,none,none,none,none],
  [some 38,some 39,some 40,some 5,none,some 3,some 43],
  [some 0,some 46,some 47,some 6,none,some 48,some 3]]]
def RX (o i j:Nat):Option Nat:=((C68.getD o []).getD i []).getD j none
def Yv (k:Nat):Int:=([2, -1,3, -2,1]:List Int).getD k 0
def C3m:List (List (Option Nat)):=[[some 6,some 14,some 13,some 15,some 0],
 [some 17,some 24,some 25,some 26,some 1],
 [some 29,some 34,some 35,some 36,some 2],
 [some 3,some 3,some 3,some 3,some 3],
 [none,none,none,none,none],
 [some 41,some 37,some 44,some 45,some 5],
 [some 49,some 15,some 50,some 51,some 6]]
def TB (i k:Nat):Option Nat:=(C3m.getD i []).getD k none
def Ik:Option Nat→AV
 |some k=> .tup [.agg (uu k).cs,I 0]
 |none=> .tup [.agg u0.cs,I 70]
def isU:Option Nat→Bool
 |some _=>true
 |none=>false
def B5d (p:Nat→Bool) (m:Nat):Nat→Prop
 |0=>True
 |c+1=>((List.range m).all λk=>p (c*m+k))=true∧B5d p m c
theorem V7 {p:Nat→Bool} {m:Nat}:B5d p m 0:=trivial
theorem V6 {p:Nat→Bool} {m c:Nat} (h:((List.range m).all λk=>p (c*m+k))=true) (h2:B5d p m c):B5d p m (c+1):=⟨h,h2⟩
theorem V5 {p:Nat→Bool} {m:Nat}:∀{c:Nat},B5d p m c→∀{i:Nat},i<c*m→p i=true:=by
 intro c
 induction c with
 |zero=>intro _ i hi;omega
 |succ c ih=>
  intro h i hi
  by_cases hc:i<c*m
  ·exact ih h.2 hc
  ·have h1:=Hl.1 h.1 (i-c*m) (IV.2 (by rw[l19] at hi;omega))
   have e:c*m+(i-c*m)=i:=by omega
   rw[e] at h1
   exact h1
def YV:Rt→Nat→List AV→Hp→(AV→Al)→Al:=Classical.choose (⟨Ah,rfl⟩:∃z:Rt→Nat→List AV→Hp→(AV→Al)→Al,Ah=z)
theorem zO:Ah=YV:=Classical.choose_spec (⟨Ah,rfl⟩:∃z:Rt→Nat→List AV→Hp→(AV→Al)→Al,Ah=z)
def eBi:TI→BinOp→AV→AV→(AV→Al)→Al:=Classical.choose (⟨Go.Abs.Ak,rfl⟩:∃z:TI→BinOp→AV→AV→(AV→Al)→Al,Go.Abs.Ak=z)
theorem bO:Go.Abs.Ak=eBi:=Classical.choose_spec (⟨Go.Abs.Ak,rfl⟩:∃z:TI→BinOp→AV→AV→(AV→Al)→Al,Go.Abs.Ak=z)
def eEq:List LK→BinOp→AV→AV→(AV→Al)→Al:=Classical.choose (⟨Go.Abs.Uw,rfl⟩:∃z:List LK→BinOp→AV→AV→(AV→Al)→Al,Go.Abs.Uw=z)
theorem qO:Go.Abs.Uw=eEq:=Classical.choose_spec (⟨Go.Abs.Uw,rfl⟩:∃z:List LK→BinOp→AV→AV→(AV→Al)→Al,Go.Abs.Uw=z)
def cnd:AV→Al→Al→Al:=Classical.choose (⟨Av,rfl⟩:∃z:AV→Al→Al→Al,Av=z)
theorem cO:Av=cnd:=Classical.choose_spec (⟨Av,rfl⟩:∃z:AV→Al→Al→Al,Av=z)
theorem Nx {x y:Al}:cnd (.v (.bool true)) x y=x:=by rw[←cO];rfl
theorem Fa {x y:Al}:cnd (.v (.bool false)) x y=y:=by rw[←cO];rfl
section
variable {K:AV→Al} {i:TI} {k:IntKind} {a b:Int} {s u:List UInt8}
theorem NQ (h:a=b):eBi i .eql (.v (.int k a)) (.v (.int k b)) K=K (Bo true):=by rw[←bO,Dz,decide_eq_true h]
theorem Tn (h:a≠b):eBi i .eql (.v (.int k a)) (.v (.int k b)) K=K (Bo false):=by rw[←bO,Dz,decide_eq_false h]
theorem B3L (h:a=b):eBi i .neq (.v (.int k a)) (.v (.int k b)) K=K (Bo false):=by rw[←bO,GF,decide_eq_true h];rfl
theorem A9R (h:a≤b):eBi i .leq (.v (.int k a)) (.v (.int k b)) K=K (Bo true):=by rw[←bO,Xf,decide_eq_true h]
theorem A9Z (h:b≤a):eBi i .geq (.v (.int k a)) (.v (.int k b)) K=K (Bo true):=by rw[←bO,Me,decide_eq_true h]
end
theorem B1U:∀{ks:List LK} {xs:List Value},fits ks xs=true→UC xs xs=some true:=by
 intro ks
 induction ks with
 |nil=>intro xs h;cases xs with|nil=>rfl|cons a l=>simp[fits] at h
 |cons k ks ih=>
  intro xs h
  cases xs with
  |nil=>rfl
  |cons a l=>
   simp only[fits,Jp] at h
   have h2:=ih h.2
   have e:UC (a::l) (a::l)=(match WI a a with|some b=>(match UC l l with|some c=>some (b&&c)|none=>none)|none=>none):=rfl
   rw[e,h2]
   have h1:WI a a=some true:=by
    have h1:=h.1
    cases k<;>cases a<;>simp[LK.fit] at h1<;>simp[WI,Of,PQ]
   rw[h1];rfl
theorem B02 (xs:List Value):∀K:List Value→Al,YL (xs.map AV.v) K=K xs:=by
 induction xs with
 |nil=>intro K;rfl
 |cons a l ih=>intro K;exact ih _
theorem B4F {ks:List LK} (xs:List Value) (h:fits ks xs=true) (K:AV→Al):eEq ks .eql (.agg (xs.map AV.v)) (.agg (xs.map AV.v)) K=K (Bo true):=by
 rw[←qO]
 have e:Go.Abs.Uw ks .eql (.agg (xs.map AV.v)) (.agg (xs.map AV.v)) K=YL (xs.map AV.v) λxs'=>YL (xs.map AV.v) λys=>ck (fits ks xs') (match UC xs' ys,BinOp.eql with
  |some q,.eql=>bB q K
  |some q,.neq=>bB (!q) K
  |_,_=>none):=rfl
 rw[e,B02,B02,B1U h,h]
 show bB true K=_
 rw[Ld]
theorem A20 (u:UD) (K:AV→Al):eEq Ip .eql (.agg u.cs) (.agg u.cs) K=K (Bo true):=
 B4F (ks:=Ip) [.int .i64 u.p0,.int .i64 u.q0,.int .i64 u.p1,.int .i64 u.q1,.int .i64 u.p2,.int .i64 u.q2,.int .i64 u.p3,.int .i64 u.q3,.int .i64 u.p4,.int .i64 u.q4,.int .i64 u.p5,.int .i64 u.q5,.int .i64 u.p6,.int .i64 u.q6,.string ⟨⟨u.fn⟩⟩,.string ⟨⟨u.fd⟩⟩,.string ⟨⟨u.on⟩⟩,.string ⟨⟨u.od⟩⟩,.int .i64 u.kd,.int .i64 u.sc] rfl K
def LS (R:Rt) (f:Nat) (args':List AV) (v:AV):Prop:=∀(q:Bool) (args:List AV) (H:Hp),OM true depth args args' H q→∀K,YV R f args H K=K v
theorem CS.ls {R:Rt} {f:Nat} {args':List AV} {v:AV} (h:CS R f args' v):LS R f args' v:= λ_ _ _ ha _=>by rw[←zO];exact Bc h ha
theorem PS.ls {R:Rt} {f:Nat} {args:List AV} {v:AV} (h:PS R f args v) (ha:∀q args' H,OM true depth args' args H q→args'=args):LS R f args v:= λq args' H hf K=>by rw[←zO,ha q args' H hf];exact h H K
def PO (R:Rt) (f:Nat) (args:List AV) (v:AV):Prop:=∀H K,YV R f args H K=K v
theorem PS.o {R:Rt} {f:Nat} {args:List AV} {v:AV} (h:PS R f args v):PO R f args v:= λH K=>by rw[←zO];exact h H K
section
variable {L n:Nat}
attribute [local irreducible] Ah rt YV eBi eEq cnd Go.Abs.Ak Go.Abs.Uw Av
theorem Wd {z lo hi:Int} (h1:lo≤z) (h2:z≤hi):PS (rt (L+20) (n+1)) BQ [I z,I lo,I hi] (Bo true):=by
 refine CS.ps (λK hK=> ?_) (λH=> λK=>by kernel_rfl)
 rewrite [SI]
 unfold J6 Ba CK
 try rewrite [zO]
 try rewrite [bO]
 try rewrite [qO]
 try rewrite [cO]
 conv=>lhs;whnf
 rewrite [A9Z h1]
 conv=>lhs;whnf
 rewrite [A9R h2]
 conv=>lhs;whnf
 exact hK _ _ (λb=>⟨false,λK=>by kernel_rfl⟩)
theorem TM {z lo hi:Int} (h1:lo≤z) (h2:z≤hi):PS (rt (L+20) (n+1)) CN [I z,I lo,I hi] (Bo true):=by
 refine CS.ps (λK hK=> ?_) (λH=> λK=>by kernel_rfl)
 rewrite [XU]
 unfold Pp Ba CK
 try rewrite [zO]
 try rewrite [bO]
 try rewrite [qO]
 try rewrite [cO]
 conv=>lhs;whnf
 rewrite [A9Z h1]
 conv=>lhs;whnf
 rewrite [A9R h2]
 conv=>lhs;whnf
 exact hK _ _ (λb=>⟨false,λK=>by kernel_rfl⟩)
def Sl (T:AV):Prop:=T= .v (.slice none 0 0)∨∃n cs,T= .list n cs
abbrev AO:AV:= .v (.slice none 0 0)
abbrev Cc (u:UD):List AV:=[I u.p0,I u.q0,I u.p1,I u.q1,I u.p2,I u.q2,I u.p3,I u.q3,I u.p4,I u.q4,I u.p5,I u.q5,I u.p6,I u.q6,S u.fn,S u.fd,S u.on,S u.od,I u.kd,I u.sc]
abbrev Vo (ca cb:List UInt8) (T:AV) (ra rb:List UInt8):List AV:=[S ca,S cb,T,S ra,S rb]
abbrev Bx (id:Int) (ins nds:AV) (u:UD):List AV:=[I id,ins,nds,
 I u.p0,I u.q0,I u.p1,I u.q1,I u.p2,I u.q2,I u.p3,I u.q3,I u.p4,I u.q4,I u.p5,I u.q5,I u.p6,I u.q6,S u.fn,S u.fd,S u.on,S u.od,I u.kd,I u.sc]
structure RD where
 k:Int
 (a1 a2 b1 b2 c1 c2 d1 d2:List UInt8)
abbrev RD.cs (r:RD):List AV:=[I r.k,S r.a1,S r.a2,S r.b1,S r.b2,S r.c1,S r.c2,S r.d1,S r.d2]
def r0:RD:=⟨0,[],[],[],[],[],[],[],[]⟩
structure ND where
 (lab num itm tim day:Int)
def rr (k:Nat):RD:=⟨k,[45,53],[49],[50,53],[50],if k=2 then[49] else[48],if k=2 then[50] else[49],[49],[50,48]⟩
abbrev DD (kd:Int) (m:ND) (u:UD) (ca cb:List UInt8) (T:AV) (ra rb:List UInt8) (P:AV) (id:Int) (ins nds:AV) (o:UD) (r:RD) (vd:Int):List AV:=[I kd,I m.lab,I m.num,I m.itm,I m.tim,I m.day,
 I u.p0,I u.q0,I u.p1,I u.q1,I u.p2,I u.q2,I u.p3,I u.q3,I u.p4,I u.q4,I u.p5,I u.q5,I u.p6,I u.q6,S u.fn,S u.fd,S u.on,S u.od,I u.kd,I u.sc,
 S ca,S cb,T,S ra,S rb,P,I id,ins,nds,
 I o.p0,I o.q0,I o.p1,I o.q1,I o.p2,I o.q2,I o.p3,I o.q3,I o.p4,I o.q4,I o.p5,I o.q5,I o.p6,I o.q6,S o.fn,S o.fd,S o.on,S o.od,I o.kd,I o.sc,
 I r.k,S r.a1,S r.a2,S r.b1,S r.b2,S r.c1,S r.c2,S r.d1,S r.d2,I vd,I 0,AO,AO]
def ND.ok (m:ND):Prop:=1≤m.lab∧m.lab≤9∧1≤m.num∧m.num≤9∧1≤m.itm∧m.itm≤9∧0≤m.tim∧m.tim≤100∧0≤m.day∧m.day≤100
abbrev A9q:List AV:=[zI,zL,zL,zI,zI,zI,zI,zI,zI,zI,zI,zI,zI,zI,zI,zI,zI,zS,zS,zS,zS,zI,zI]
theorem B2r:PS (rt (L+20) (n+40)) MW [.agg (Bx 0 AO AO u0),.agg A9q] (Bo true):=B2 (λH K=>by kernel_rfl) (by kernel_rfl)
theorem B3d:PS (rt (L+20) (n+40)) SR [.agg (Bx 0 AO AO u0),.agg A9q] (Bo true):=B2 (λH K=>by kernel_rfl) (by kernel_rfl)
section
variable {m:ND} {u o:UD} {ca cb ra rb:List UInt8} {T P ins nds:AV} {id vd:Int} {r:RD}
theorem B0x (hm:m.ok) (hT:Sl T) (hP:∃n cs,P= .list n cs) (hI:∃n cs,ins= .list n cs) (hN:∃n cs,nds= .list n cs)
 (hc:LS (rt (L+20) (n+60)) Dm [.agg (DD 2 m u ca cb T ra rb P id ins nds o r0 0)] (Bo true))
 (hu:PO (rt (L+20) (n+60)) Gi [.agg (Cc u)] (Bo true)) (hf:LS (rt (L+20) (n+60)) Ii [.agg (Vo ca cb T ra rb)] (Bo true)):
 CS (rt (L+20) (n+61)) Dg [.agg (DD 2 m u ca cb T ra rb P id ins nds o r0 0)] (Bo true):=by
 intro K hK
 obtain⟨h1,h2,h3,h4,h5,h6,h7,h8,h9,h10⟩:=hm
 obtain⟨n1,c1,rfl⟩:=hP
 obtain⟨n2,c2,rfl⟩:=hI
 obtain⟨n3,c3,rfl⟩:=hN
 have hb:∀{z lo hi:Int},lo≤z→z≤hi→PO (rt (L+20) (n+60)) BQ [I z,I lo,I hi] (Bo true):= λa b=>(Wd a b).o
 rcases hT with rfl|⟨n4,c4,rfl⟩
 all_goals
  rewrite [HG]
  unfold ED Ba Bu Ar Ev CK
  try rewrite [zO]
  try rewrite [bO]
  try rewrite [qO]
  try rewrite [cO]
  generalize rt (L+20) (n+60)=R at*
  conv=>lhs;whnf
  rewrite [hb h1 (by omega)]
  conv=>lhs;whnf
  rewrite [hb h3 (by omega)]
  conv=>lhs;whnf
  rewrite [hb h5 (by omega)]
  conv=>lhs;whnf
  rewrite [hb h7 (by omega)]
  conv=>lhs;whnf
  rewrite [hb h9 (by omega)]
  conv=>lhs;whnf
  rewrite [hu]
  conv=>lhs;whnf
  rewrite [(hf) false _ _ ?hq]
  case hq=>exact λK=>by kernel_rfl
  conv=>lhs;whnf
  rewrite [Fa]
  conv=>lhs;whnf
  rewrite [show∀K,eEq Gu BinOp.eql (AV.agg [I r0.k,S r0.a1,S r0.a2,S r0.b1,S r0.b2,S r0.c1,S r0.c2,S r0.d1,S r0.d2]) (AV.agg [zI,zS,zS,zS,zS,zS,zS,zS,zS]) K=K (Bo true) from λK=>by rw[←qO];kernel_rfl]
  conv=>lhs;whnf
  rewrite [NQ ?hc]
  case hc=>decide
  conv=>lhs;whnf
  rewrite [Tn ?hc]
  case hc=>decide
  conv=>lhs;whnf
  rewrite [Fa]
  conv=>lhs;whnf
  rewrite [NQ ?hc]
  case hc=>decide
  conv=>lhs;whnf
  rewrite [Nx]
  conv=>lhs;whnf
  rewrite [(hc) false _ _ ?hq]
  case hq=>exact λK=>by kernel_rfl
  conv=>lhs;whnf
  exact hK _ _ (λb=>⟨false,λK=>by kernel_rfl⟩)
theorem B0y (hm:m.ok) (hT:Sl T) (hs:PO (rt (L+20) (n+60)) MW [.agg (Bx 0 AO AO o),.agg A9q] (Bo true))
 (hu:PO (rt (L+20) (n+60)) Gi [.agg (Cc u)] (Bo true)) (hf:LS (rt (L+20) (n+60)) Ii [.agg (Vo ca cb T ra rb)] (Bo true)):
 CS (rt (L+20) (n+61)) Dg [.agg (DD 1 m u ca cb T ra rb AO 0 AO AO o r0 0)] (Bo true):=by
 intro K hK
 obtain⟨h1,h2,h3,h4,h5,h6,h7,h8,h9,h10⟩:=hm
 have hb:∀{z lo hi:Int},lo≤z→z≤hi→PO (rt (L+20) (n+60)) BQ [I z,I lo,I hi] (Bo true):= λa b=>(Wd a b).o
 rcases hT with rfl|⟨n4,c4,rfl⟩
 all_goals
  rewrite [HG]
  unfold ED Ba Bu Ar Ev CK
  try rewrite [zO]
  try rewrite [bO]
  try rewrite [qO]
  try rewrite [cO]
  generalize rt (L+20) (n+60)=R at*
  conv=>lhs;whnf
  rewrite [hb h1 (by omega)]
  conv=>lhs;whnf
  rewrite [hb h3 (by omega)]
  conv=>lhs;whnf
  rewrite [hb h5 (by omega)]
  conv=>lhs;whnf
  rewrite [hb h7 (by omega)]
  conv=>lhs;whnf
  rewrite [hb h9 (by omega)]
  conv=>lhs;whnf
  rewrite [hu]
  conv=>lhs;whnf
  rewrite [(hf) false _ _ ?hq]
  case hq=>exact λK=>by kernel_rfl
  conv=>lhs;whnf
  rewrite [Fa]
  conv=>lhs;whnf
  rewrite [show∀K,eEq Gu BinOp.eql (AV.agg [I r0.k,S r0.a1,S r0.a2,S r0.b1,S r0.b2,S r0.c1,S r0.c2,S r0.d1,S r0.d2]) (AV.agg [zI,zS,zS,zS,zS,zS,zS,zS,zS]) K=K (Bo true) from λK=>by rw[←qO];kernel_rfl]
  conv=>lhs;whnf
  rewrite [NQ ?hc]
  case hc=>decide
  conv=>lhs;whnf
  rewrite [NQ ?hc]
  case hc=>decide
  conv=>lhs;whnf
  rewrite [Nx]
  conv=>lhs;whnf
  rewrite [NQ ?hc]
  case hc=>decide
  conv=>lhs;whnf
  rewrite [hs]
  conv=>lhs;whnf
  exact hK _ _ (λb=>⟨false,λK=>by kernel_rfl⟩)
theorem B0w (hm:m.ok) (hT:Sl T) (hP:∃n cs,P= .list n cs) (hI:∃n cs,ins= .list n cs) (hN:∃n cs,nds= .list n cs) (hr0:∀K,eEq Gu BinOp.eql (AV.agg r.cs) (AV.agg [zI,zS,zS,zS,zS,zS,zS,zS,zS]) K=K (Bo false)) (hr:PO (rt (L+20) (n+60)) PP [.agg r.cs] (Bo true)) (hv1:1≤vd) (hv2:vd≤3)
 (hu:PO (rt (L+20) (n+60)) Gi [.agg (Cc u)] (Bo true)) (hf:LS (rt (L+20) (n+60)) Ii [.agg (Vo ca cb T ra rb)] (Bo true))
 (hc:LS (rt (L+20) (n+60)) Dm [.agg (DD 3 m u ca cb T ra rb P id ins nds o r vd)] (Bo true)):
 CS (rt (L+20) (n+61)) Dg [.agg (DD 3 m u ca cb T ra rb P id ins nds o r vd)] (Bo true):=by
 intro K hK
 obtain⟨h1,h2,h3,h4,h5,h6,h7,h8,h9,h10⟩:=hm
 obtain⟨n1,c1,rfl⟩:=hP
 obtain⟨n2,c2,rfl⟩:=hI
 obtain⟨n3,c3,rfl⟩:=hN
 have hb:∀{z lo hi:Int},lo≤z→z≤hi→PO (rt (L+20) (n+60)) BQ [I z,I lo,I hi] (Bo true):= λa b=>(Wd a b).o
 rcases hT with rfl|⟨n4,c4,rfl⟩
 all_goals
  rewrite [HG]
  unfold ED Ba Bu Ar Ev CK
  try rewrite [zO]
  try rewrite [bO]
  try rewrite [qO]
  try rewrite [cO]
  generalize rt (L+20) (n+60)=R at*
  conv=>lhs;whnf
  rewrite [hb h1 (by omega)]
  conv=>lhs;whnf
  rewrite [hb h3 (by omega)]
  conv=>lhs;whnf
  rewrite [hb h5 (by omega)]
  conv=>lhs;whnf
  rewrite [hb h7 (by omega)]
  conv=>lhs;whnf
  rewrite [hb h9 (by omega)]
  conv=>lhs;whnf
  rewrite [hu]
  conv=>lhs;whnf
  rewrite [(hf) false _ _ ?hq]
  case hq=>exact λK=>by kernel_rfl
  conv=>lhs;whnf
  rewrite [Fa]
  conv=>lhs;whnf
  rewrite [hr0]
  conv=>lhs;whnf
  rewrite [Tn ?hc]
  case hc=>decide
  conv=>lhs;whnf
  rewrite [Fa]
  conv=>lhs;whnf
  rewrite [Tn ?hc]
  case hc=>decide
  conv=>lhs;whnf
  rewrite [Fa]
  conv=>lhs;whnf
  rewrite [NQ ?hc]
  case hc=>decide
  conv=>lhs;whnf
  rewrite [Nx]
  conv=>lhs;whnf
  rewrite [(hc) false _ _ ?hq]
  case hq=>exact λK=>by kernel_rfl
  conv=>lhs;whnf
  rewrite [hr]
  conv=>lhs;whnf
  rewrite [hb hv1 hv2]
  conv=>lhs;whnf
  exact hK _ _ (λb=>⟨false,λK=>by kernel_rfl⟩)
end
end
section
variable {L n:Nat}
attribute [local irreducible] Ah rt YV eBi eEq cnd Go.Abs.Ak Go.Abs.Uw Av
section
variable {m:ND} {u o:UD} {ca cb ra rb:List UInt8} {T P ins nds:AV} {id vd:Int} {r:RD}
theorem B0V (hm:m.ok) (hT:Sl T) (hr:PO (rt (L+20) (n+60)) Gr [.agg r0.cs] (Bo false))
 (hs:PO (rt (L+20) (n+60)) SR [.agg (Bx 0 AO AO o),.agg A9q] (Bo true))
 (hu:PO (rt (L+20) (n+60)) DG [.agg (Cc u)] (Bo true)) (hf:LS (rt (L+20) (n+60)) Gs [.agg (Vo ca cb T ra rb)] (Bo true)):
 CS (rt (L+20) (n+61)) D9 [.agg (DD 1 m u ca cb T ra rb AO 0 AO AO o r0 0)] (.tup [Bo true,Bo false]):=by
 intro K hK
 obtain⟨h1,h2,h3,h4,h5,h6,h7,h8,h9,h10⟩:=hm
 have hb:∀{z lo hi:Int},lo≤z→z≤hi→PO (rt (L+20) (n+60)) CN [I z,I lo,I hi] (Bo true):= λa b=>(TM a b).o
 rcases hT with rfl|⟨n4,c4,rfl⟩
 all_goals
  rewrite [HZ]
  unfold Gz Ba Bu Ar Ev CK
  try rewrite [zO]
  try rewrite [bO]
  try rewrite [qO]
  try rewrite [cO]
  generalize rt (L+20) (n+60)=R at*
  conv=>lhs;whnf
  rewrite [Tn ?hc]
  case hc=>decide
  conv=>lhs;whnf
  rewrite [hu]
  conv=>lhs;whnf
  rewrite [(hf) false _ _ ?hq]
  case hq=>exact λK=>by kernel_rfl
  conv=>lhs;whnf
  rewrite [hb h1 (by omega)]
  conv=>lhs;whnf
  rewrite [hb h3 (by omega)]
  conv=>lhs;whnf
  rewrite [hb h5 (by omega)]
  conv=>lhs;whnf
  rewrite [hb h7 (by omega)]
  conv=>lhs;whnf
  rewrite [hb h9 (by omega)]
  conv=>lhs;whnf
  rewrite [Fa]
  conv=>lhs;whnf
  rewrite [hr]
  conv=>lhs;whnf
  rewrite [show∀K,eEq Gu BinOp.neq (AV.agg [I r0.k,S r0.a1,S r0.a2,S r0.b1,S r0.b2,S r0.c1,S r0.c2,S r0.d1,S r0.d2]) (AV.agg [zI,zS,zS,zS,zS,zS,zS,zS,zS]) K=K (Bo false) from λK=>by rw[←qO];kernel_rfl]
  conv=>lhs;whnf
  rewrite [B3L ?hc]
  case hc=>decide
  conv=>lhs;whnf
  rewrite [Fa]
  conv=>lhs;whnf
  rewrite [NQ ?hc]
  case hc=>decide
  conv=>lhs;whnf
  rewrite [Nx]
  conv=>lhs;whnf
  rewrite [hs]
  conv=>lhs;whnf
  rewrite [NQ ?hc]
  case hc=>decide
  conv=>lhs;whnf
  exact hK _ _ (λb=>⟨false,λK=>by kernel_rfl⟩)
theorem B0U (hm:m.ok) (hT:Sl T) (hr:PO (rt (L+20) (n+60)) Gr [.agg r0.cs] (Bo false)) {n2:Nat} {c2:List AV} (hP:∃n cs,P= .list n cs) (hN:∃n cs,nds= .list n cs)
 (hp:LS (rt (L+20) (n+60)) ER [P] (.tup [Bo true,I n2])) (hv:LS (rt (L+20) (n+60)) Eg [.agg (Bx id (.list n2 c2) nds u)] (Bo true))
 (hu:PO (rt (L+20) (n+60)) DG [.agg (Cc u)] (Bo true)) (hf:LS (rt (L+20) (n+60)) Gs [.agg (Vo ca cb T ra rb)] (Bo true)):
 CS (rt (L+20) (n+61)) D9 [.agg (DD 2 m u ca cb T ra rb P id (.list n2 c2) nds u r0 0)] (.tup [Bo true,Bo false]):=by
 intro K hK
 obtain⟨h1,h2,h3,h4,h5,h6,h7,h8,h9,h10⟩:=hm
 obtain⟨n1,c1,rfl⟩:=hP
 obtain⟨n3,c3,rfl⟩:=hN
 have hb:∀{z lo hi:Int},lo≤z→z≤hi→PO (rt (L+20) (n+60)) CN [I z,I lo,I hi] (Bo true):= λa b=>(TM a b).o
 rcases hT with rfl|⟨n4,c4,rfl⟩
 all_goals
  rewrite [HZ]
  unfold Gz Ba Bu Ar Ev CK
  try rewrite [zO]
  try rewrite [bO]
  try rewrite [qO]
  try rewrite [cO]
  generalize rt (L+20) (n+60)=R at*
  conv=>lhs;whnf
  rewrite [Tn ?hc]
  case hc=>decide
  conv=>lhs;whnf
  rewrite [hu]
  conv=>lhs;whnf
  rewrite [(hf) false _ _ ?hq]
  case hq=>exact λK=>by kernel_rfl
  conv=>lhs;whnf
  rewrite [hb h1 (by omega)]
  conv=>lhs;whnf
  rewrite [hb h3 (by omega)]
  conv=>lhs;whnf
  rewrite [hb h5 (by omega)]
  conv=>lhs;whnf
  rewrite [hb h7 (by omega)]
  conv=>lhs;whnf
  rewrite [hb h9 (by omega)]
  conv=>lhs;whnf
  rewrite [Fa]
  conv=>lhs;whnf
  rewrite [hr]
  conv=>lhs;whnf
  rewrite [show∀K,eEq Gu BinOp.neq (AV.agg [I r0.k,S r0.a1,S r0.a2,S r0.b1,S r0.b2,S r0.c1,S r0.c2,S r0.d1,S r0.d2]) (AV.agg [zI,zS,zS,zS,zS,zS,zS,zS,zS]) K=K (Bo false) from λK=>by rw[←qO];kernel_rfl]
  conv=>lhs;whnf
  rewrite [B3L ?hc]
  case hc=>decide
  conv=>lhs;whnf
  rewrite [Fa]
  conv=>lhs;whnf
  rewrite [Tn ?hc]
  case hc=>decide
  conv=>lhs;whnf
  rewrite [Fa]
  conv=>lhs;whnf
  rewrite [NQ ?hc]
  case hc=>decide
  conv=>lhs;whnf
  rewrite [Nx]
  conv=>lhs;whnf
  rewrite [Nx]
  conv=>lhs;whnf
  rewrite [(hp) false _ _ ?hq]
  case hq=>exact λK=>by kernel_rfl
  conv=>lhs;whnf
  rewrite [(hv) false _ _ ?hq]
  case hq=>exact λK=>by kernel_rfl
  conv=>lhs;whnf
  rewrite [NQ ?hc]
  case hc=>rfl
  conv=>lhs;whnf
  rewrite [A20 u]
  conv=>lhs;whnf
  exact hK _ _ (λb=>⟨false,λK=>by kernel_rfl⟩)
theorem B0T (hm:m.ok) (hT:Sl T) (hr:PO (rt (L+20) (n+60)) Gr [.agg r.cs] (Bo true)) (hv1:1≤vd) (hv2:vd≤3) {n2:Nat} {c2:List AV} (hP:∃n cs,P= .list n cs) (hN:∃n cs,nds= .list n cs)
 (hp:LS (rt (L+20) (n+60)) ER [P] (.tup [Bo true,I n2])) (hv:LS (rt (L+20) (n+60)) Eg [.agg (Bx id (.list n2 c2) nds u)] (Bo true))
 (hu:PO (rt (L+20) (n+60)) DG [.agg (Cc u)] (Bo true)) (hf:LS (rt (L+20) (n+60)) Gs [.agg (Vo ca cb T ra rb)] (Bo true)):
 CS (rt (L+20) (n+61)) D9 [.agg (DD 3 m u ca cb T ra rb P id (.list n2 c2) nds u r vd)] (.tup [Bo true,Bo true]):=by
 intro K hK
 obtain⟨h1,h2,h3,h4,h5,h6,h7,h8,h9,h10⟩:=hm
 obtain⟨n1,c1,rfl⟩:=hP
 obtain⟨n3,c3,rfl⟩:=hN
 have hb:∀{z lo hi:Int},lo≤z→z≤hi→PO (rt (L+20) (n+60)) CN [I z,I lo,I hi] (Bo true):= λa b=>(TM a b).o
 rcases hT with rfl|⟨n4,c4,rfl⟩
 all_goals
  rewrite [HZ]
  unfold Gz Ba Bu Ar Ev CK
  try rewrite [zO]
  try rewrite [bO]
  try rewrite [qO]
  try rewrite [cO]
  generalize rt (L+20) (n+60)=R at*
  conv=>lhs;whnf
  rewrite [NQ ?hc]
  case hc=>decide
  conv=>lhs;whnf
  rewrite [hu]
  conv=>lhs;whnf
  rewrite [(hf) false _ _ ?hq]
  case hq=>exact λK=>by kernel_rfl
  conv=>lhs;whnf
  rewrite [hb h1 (by omega)]
  conv=>lhs;whnf
  rewrite [hb h3 (by omega)]
  conv=>lhs;whnf
  rewrite [hb h5 (by omega)]
  conv=>lhs;whnf
  rewrite [hb h7 (by omega)]
  conv=>lhs;whnf
  rewrite [hb h9 (by omega)]
  conv=>lhs;whnf
  rewrite [Fa]
  conv=>lhs;whnf
  rewrite [hr]
  conv=>lhs;whnf
  rewrite [hb hv1 hv2]
  conv=>lhs;whnf
  rewrite [Fa]
  conv=>lhs;whnf
  rewrite [Tn ?hc]
  case hc=>decide
  conv=>lhs;whnf
  rewrite [Fa]
  conv=>lhs;whnf
  rewrite [Tn ?hc]
  case hc=>decide
  conv=>lhs;whnf
  rewrite [Fa]
  conv=>lhs;whnf
  rewrite [NQ ?hc]
  case hc=>decide
  conv=>lhs;whnf
  rewrite [Nx]
  conv=>lhs;whnf
  rewrite [(hp) false _ _ ?hq]
  case hq=>exact λK=>by kernel_rfl
  conv=>lhs;whnf
  rewrite [(hv) false _ _ ?hq]
  case hq=>exact λK=>by kernel_rfl
  conv=>lhs;whnf
  rewrite [NQ ?hc]
  case hc=>rfl
  conv=>lhs;whnf
  rewrite [A20 u]
  conv=>lhs;whnf
  exact hK _ _ (λb=>⟨false,λK=>by kernel_rfl⟩)
end
end
end Go.Abs
end
