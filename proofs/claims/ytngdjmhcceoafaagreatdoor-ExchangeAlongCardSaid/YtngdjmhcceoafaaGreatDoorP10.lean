import Derived.Test.YtngdjmhcceoafaaGreatDoorP09
set_option linter.all false
set_option maxHeartbeats 100000000
noncomputable section
namespace Go.Abs
open Go.RowKit Go.Proofs
set_option maxRecDepth 100000
section
variable {v w:AV} {K:AV->Af} {x:Af} {b:Bool} {H:Hp} {s:List UInt8} {L e n:Nat} {R:Rt} {t t':TI}
def B9K {l:List UInt8} {i:Nat} (c:t.d= .string) (h:i<l.length):iA t t' (S l) (I i) K=K (By l[i]):=by
 have e:iA t t' (S l) (I i) K=iN (i:Int) λn=>B60 (Di n l) K:=by
  obtain⟨a,b,d,z⟩:=t;simp only at c;subst c;rfl
 rw[e,JW,C6,vA h];show fN l[i].toNat (λn=>K (.v (.int .u8 (.ofNat n))))=_;rw[DT];rfl
def PG {l:List UInt8} (c:t.d= .string):Bq t (S l) K=K (I l.length):=by
 have:Bq t (S l) K=HI l 0 λn=>K (.v (.int .i64 (.ofNat n))):=by
  obtain⟨a,b,d,z⟩:=t;simp only at c;subst c;rfl
 rw[this,Co,JQ];rfl
def Lb {e sz n:Nat} {cs:List AV} {f g:Nat} (c:t.d= .slice f g) (h:B2 H e sz v n cs):Bq t v K=K (I n):=by
 obtain⟨a,b,d,z⟩:=t;simp only at c;subst c;rcases h with⟨rfl,rfl,_⟩|⟨r,q,rfl,_⟩<;>rfl
def B1M {l:List UInt8} (b:UInt8) (h:B2 H Bt 1 v l.length (Ml l)) (w:Wf H) (hn:l.length<1000000000000):
 ∃d a,(∀K:KV,(Hf Bt 1 Bi 1 [(0,1,By b)] H λv1 j=>E9 Bt 1 Bi AU v v1 j K)=K d a)/\B2 a Bt 1 d (l++[b]).length (Ml (l++[b]))/\Wf a/\Ao H<=Ao a/\(∀s x,Aj H s=some x->¬A8 v s->Aj a s=some x)/\(∀s,A8 d s->Ao H<=s):=by
 have i:B2 ((Ao H,.cells false Bt [By b])::H) Bt 1 v l.length (Ml l):=h.lat w (Lat.cons H _ (λ_=>False)) (λ_ _ h=>h);have c:=N9 (H:=H) (e:=Bt) (n:=1) (cs:=[By b]) rfl;obtain⟨d,a,h1,h2,k,m⟩:=apt (ie:=Bi) (i2:=AU) i (λK=>Rg (K:=K) c) rfl rfl (by decide) rfl rfl (by show(l.length+1)*1<=_;omega) (by omega);have f:=(Lat.cons H (.cells false Bt [By b]) (A8 v)).trans m (R:=A8 v) (λ_ _ h=>h) (λ_ _ h=>h);refine⟨d,a,λK=> ?_,by rw[EY,<-S!];exact h2,f.wf w,f.nx,λs x g hn=>f.keep w s x g hn,λs g=> ?_⟩
 ·rw[uL (z:=By 0) (λ_=>rfl) (λ_=>rfl) rfl];exact h1 K
 ·rw[k s g];exact l1u _
def dZ (n:Nat):Nat:=(119-n%64)%64
def dA (n i:Nat):UInt8:=UInt8.ofNat (8*n/2^(8*i))
def pre (s:List UInt8):List UInt8:=s++[128]++List.replicate (dZ s.length) 0
def ext (s:List UInt8):List UInt8:=pre s++[dA s.length 7,dA s.length 6,dA s.length 5,dA s.length 4,dA s.length 3,dA s.length 2,dA s.length 1,dA s.length 0]
def B9A {K:KV} {k:AV->AV->AV->AV->Hp->Af} (u:s.length<100000000000) (g:∀v H,B2 H Bt 1 v s.length (Ml s)->Wf H->k (S s) v (I s.length) w H=x):
 ∀(f i:Nat) (v:AV) (H:Hp),i<=s.length->s.length-i<f->B2 H Bt 1 v (s.take i).length (Ml (s.take i))->Wf H->NC L R K k f (S s) v (I i) w H=x:=by
 intro f
 induction f with
 |zero=>intro i v H _ h;omega
 |succ f ih=>
  intro i v H r q hv a;rw[Zc];unfold NG A0;rw[PG rfl,Ej,F8];by_cases h:i<s.length
  ·rw[Dj (by simpa using h)];rw[B9K rfl h];obtain⟨j,c,h1,h2,d,m,p,_⟩:=B1M s[i] hv a (by simp;omega);rw[h1];simp(disch:=omega) only[Dm,CW];refine ih (i+1) j c (by omega) (by omega) ?_ d;rw[kY h];exact h2
  ·rw[C4 (by simpa using h)];have:i=s.length:=by omega
   subst this;exact g _ _ (by simpa using hv) a
def uC {j:TI} {a k:Nat} (c:k<=64):Ap j .shr (I a) (I k) K=K (I (a/2^k:Nat)):=by
 have:Ap j .shr (I a) (I k) K=ck (oR 0 (k:Int)) (fI ((a:Int).fdiv (2^(min (k:Int).toNat 64))) λz=>K (.v (.int .i64 z))):=rfl;rw[this,UZ];have h1:oR 0 (k:Int)=true:=by rw[Lw];simp
 have h2:(a:Int).fdiv (2^(min (k:Int).toNat 64))=((a/2^k:Nat):Int):=by
  rw[kV,l22 c];have:((2:Int)^k)=((2^k:Nat):Int):=by simp
  rw[this,Int.fdiv_eq_ediv_of_nonneg _ (Int.natCast_nonneg _)];exact(Int.natCast_ediv _ _).symm
 rw[h1,h2];rfl
def A1J {m:Nat} (c:t'.d= .int .u8):Jc t t' (I m) K=K (By (UInt8.ofNat m)):=by
 have:Jc t t' (I m) K=Og .u8 (m:Int) λz=>K (.v (.int .u8 z)):=by
  obtain⟨a,b,d,z⟩:=t';simp only at c;subst c;rfl
 rw[this,IQ,ZD rfl];have:(m:Int)%(2^IntKind.u8.bits:Nat)=((UInt8.ofNat m).toNat:Int):=by
  rw[UInt8.toNat_ofNat'];exact(Int.natCast_emod _ _).symm
 rw[this]
def Xw (n:Nat):Nat->List UInt8
 |0=>[]
 |i+1=>dA n i::Xw n i
def xM (n i:Nat):(Xw n i).length=i:=by
 induction i with
 |zero=>rfl
 |succ i ih=>simp[Xw,ih]
def B9B {K:KV} {k:AV->AV->AV->Hp->Af} {w1 d u:AV} (C:s.length<100000000000) (q:∀v H,B2 H Bt 1 v (pre s).length (Ml (pre s))->Wf H->k w1 v d H=x):
 ∀(f j:Nat) (v:AV) (H:Hp),j<=dZ s.length->dZ s.length-j<f->B2 H Bt 1 v (s++[128]++List.replicate j 0).length (Ml (s++[128]++List.replicate j 0))->Wf H->XA6 L R K k f w1 v d u H=x:=by
 intro f
 induction f with
 |zero=>intro j v H _ h;omega
 |succ f ih=>
  intro j v H m B hv c;rw[Zd];unfold NH A0;have a:(s++[128]++List.replicate j (0:UInt8)).length=s.length+1+j:=by simp;omega
  have hz:dZ s.length<64:=by unfold dZ;omega
  rw[Lb rfl hv,Vd (by decide),IS,F8];have hm:((s++[128]++List.replicate j (0:UInt8)).length:Int).tmod 64=(((s.length+1+j)%64:Nat):Int):=by rw[a];exact(Int.ofNat_tmod _ _).symm
  rw[hm];by_cases h:j=dZ s.length
  ·subst h;have:(s.length+1+dZ s.length)%64=56:=by unfold dZ;omega
   rw[this];simp only[X!,decide_eq_false_iff_not];rw[C4 (by simp)];exact q _ _ hv c
  ·have p:(s.length+1+j)%64≠56:=by unfold dZ at h m;omega
   rw[Dj (by simp;omega)];obtain⟨r,g,h1,h2,i,y,A,_⟩:=B1M (0:UInt8) hv c (by omega);have e:(AV.v (.int .u8 0))=By 0:=rfl;rw[e];rw[h1];refine ih (j+1) r g (by omega) (by omega) ?_ i;rw[List.replicate_succ',<-dW];exact h2
def B9C {K:KV} {k:AV->Hp->Af} (J:s.length<100000000000) (y:∀v H,B2 H Bt 1 v (pre s++Xw s.length 8).length (Ml (pre s++Xw s.length 8))->Wf H->k v H=x):
 ∀(f i:Nat) (l:List UInt8) (v:AV) (H:Hp),i<=8->i<f->l++Xw s.length i=pre s++Xw s.length 8->B2 H Bt 1 v l.length (Ml l)->Wf H->KU L R K k f (S s) v w (I ((i:Int)-1)) H=x:=by
 have hz:dZ s.length<64:=by unfold dZ;omega
 intro f
 induction f with
 |zero=>intro i l v H _ h;omega
 |succ f ih=>
  intro i l v H F D c hv g;have u:l.length<=s.length+1+64+8:=by
   have:=congrArg List.length c;simp[pre,xM] at this;omega
  rw[Ze];unfold NI A0;rw[L7,F8];cases i with
  |zero=>
   rw[C4 (by simp)];have:l=pre s++Xw s.length 8:=by simpa [Xw] using c
   subst this;exact y _ _ hv g
  |succ i=>
   rw[Dj (by simp)];have m:((i+1:Nat):Int)-1=(i:Int):=by omega
   rw[m];rw[PG rfl,Qm,Qm,CW (by omega) (by omega),CW (by omega) (by omega)];have p:(8:Int)*(s.length:Int)=((8*s.length:Nat):Int):=by omega
   have q:(8:Int)*(i:Int)=((8*i:Nat):Int):=by omega
   rw[p,q,uC (by omega)];rw[A1J rfl];obtain⟨A,j,h1,h2,r,B,C,_⟩:=B1M (dA s.length i) hv g (by omega);simp(disch:=omega) only[K7,CW];have h1:=h1 (λd a=>KU L R K k f (S s) d w (I ((i:Int)-1)) a);unfold dA at h1;rw[h1];refine ih i (l++[dA s.length i]) A j (by omega) (by omega) ?_ h2 r;rw[dW];exact c
def WK (l:List UInt8):AV:= .list l.length (Ml l)
def M! {cs:List AV} (h:B2 H e 1 v n cs) (hn:n≠0) {α:Type} (f:α->Value) (l:List α) (hc:cs=l.map λx=> .v (f x)):Fx b depth v (.list n cs) H true:=by
 subst hc;rcases h with⟨_,h2,_⟩|⟨r,q,rfl,h2,a⟩
 ·exact absurd h2 hn
 ·exact WU (q':=false) h2 a (KO f l)
def B9v {l:List UInt8} (h:B2 H Bt 1 v l.length (Ml l)) (a:l≠[]):Fx b depth v (WK l) H true:=
 M! h (λh=>a (mL h)) (λb:UInt8=>Value.int .u8 (b.toNat:Int)) l rfl
def fx1 {x:Value}:Rr true depth [.v x] [.v x] H false:=Am (q:=false) (q':=false) C7 AJ
def A2Y (s:List UInt8) (c:s.length<100000000000) (k:s.length+100<L):CS (rt L (n+1)) PD [S s] (WK (ext s)):=by
 intro K g;rw[ZS];unfold Pi A0;simp only[BK];refine B9A c ?_ L 0 _ [] (by omega) (by omega) (.inl ⟨rfl,rfl,rfl⟩) Fk;intro v H hv a;obtain⟨h,d,h1,h2,f,i,j,_⟩:=B1M (128:UInt8) hv a (by omega);have e:(AV.v (.int .u8 128))=By 128:=rfl;rw[e,h1];refine B9B c ?_ L 0 h d (by omega) (by have:dZ s.length<64:=(by unfold dZ;omega);omega) (by simpa using h2) f;intro v H hv a;refine B9C c ?_ L 8 (pre s) v H (by omega) (by omega) rfl hv a;intro v H hv a;exact g _ _ (λb=>⟨true,B9v (l:=ext s) hv (by simp[ext])⟩)
end
section
variable {K:AV->Af} {q:Bool} {H:Hp} {L e k n p r:Nat} {t:TI} {x:Value}
def KF (x:BitVec 32) (k:Nat):BitVec 32:=(x>>>k)|||(x<<<(32-k))
def C2F {x y:Value}:Rr true depth [.v x,.v y] [.v x,.v y] H false:=Am (q:=false) (q':=false) C7 fx1
def fxq {b:Bool}:Fx b depth (.v x) (.v x) H false:=C7
def A6k (x:BitVec 32) (k:Nat) (d:k<=32):PS (rt L (n+1)) Dv [W x,I k] (W (KF x k)):=by
 refine CS.ps (λK c=> ?_) (λH=>C2F);rw[fH];unfold Qt Lo;have a:((32:Int)-(k:Int))=((32-k:Nat):Int):=by omega
 simp(disch:=omega) only[JF rfl d,B1p,K7,CW,a,L6 rfl (show 32-k<=32 by omega),iC];exact c _ _ (λb=>⟨false,fxq⟩)
def kk:List (BitVec 32):=[0x428a2f98,0x71374491,0xb5c0fbcf,0xe9b5dba5,0x3956c25b,0x59f111f1,0x923f82a4,0xab1c5ed5,
 0xd807aa98,0x12835b01,0x243185be,0x550c7dc3,0x72be5d74,0x80deb1fe,0x9bdc06a7,0xc19bf174,
 0xe49b69c1,0xefbe4786,0x0fc19dc6,0x240ca1cc,0x2de92c6f,0x4a7484aa,0x5cb0a9dc,0x76f988da,
 0x983e5152,0xa831c66d,0xb00327c8,0xbf597fc7,0xc6e00bf3,0xd5a79147,0x06ca6351,0x14292967,
 0x27b70a85,0x2e1b2138,0x4d2c6dfc,0x53380d13,0x650a7354,0x766a0abb,0x81c2c92e,0x92722c85,
 0xa2bfe8a1,0xa81a664b,0xc24b8b70,0xc76c51a3,0xd192e819,0xd6990624,0xf40e3585,0x106aa070,
 0x19a4c116,0x1e376c08,0x2748774c,0x34b0bcb5,0x391c0cb3,0x4ed8aa4a,0x5b9cca4f,0x682e6ff3,
 0x748f82ee,0x78a5636f,0x84c87814,0x8cc70208,0x90befffa,0xa4506ceb,0xbef9a3f7,0xc67178f2]
def A3w:kk.length=64:=rfl
def A0u:CS (rt L (n+1)) On [] (.list 64 (DU kk)):=by
 intro K a;rw[Zg];have e:NP L (rt L n) [] K=K (.sl 1 0 0 64) [(0,.cells false Cg (DU kk))]:=by kernel_rfl
 rw[e];exact a _ _ (λb=>⟨true,M! (e:=Cg) (.inr ⟨0,false,rfl,rfl,rfl⟩) (by decide) (λx:BitVec 32=>Value.int .u32 (x.toNat:Int)) kk rfl⟩)
def B1C {l:List UInt8} (h:k<l.length):(Ml l).getD k .dk=By (l.getD k 0):=by
 simp[Ml,Vl,h]
def Mp {l:List (BitVec 32)} (h:k<l.length):(DU l).getD k .dk=W (l.getD k 0):=by
 simp[DU,Vl,h]
def HR (l:List (BitVec 32)):(DU l).length=l.length:=by simp[DU]
def B2i (a b:List (BitVec 32)):DU a++DU b=DU (a++b):=by simp[DU]
def YB (l:List (BitVec 32)):(DU l).all AV.one=true:=by simp[DU,AV.one,Value.oneCell']
def dL {cs:List AV} {z:Int} (g:t.d= .slice e 1) (hc:cs.length=n) (s:0<=z) (h1:z<n):Dw t (.list n cs) (I z) K=K (.iptr [cs.getD z.toNat .dk]):=by
 obtain⟨m,rfl⟩:=Int.eq_ofNat_of_zero_le s;have h:Dw t (.list n cs) (I (m:Int)) K=iN (m:Int) λm=>ck (Nat.blt m n) (SB 1 (Di (Nat.mul m 1) cs) λc=>K (.iptr c)):=by
  obtain⟨a,b,d,z⟩:=t;simp only at g;subst g;rfl
 have hm:m<n:=by omega
 rw[h,JW,C6,Oh];have:Nat.blt m n=true:=by rw[Wj];exact hm
 rw[this];have i:Nat.mul m 1=m:=pL m;have j:(cs.drop m).take 1=[cs.getD m .dk]:=by
  have f:m<cs.length:=by omega
  rw[vA f,Vl,K9 f];rfl
 rw[i,j];rfl
def P_ {z:Int} (c:t.d= .slice e 1) (h:0<=z) (h1:z<n):Dw t (.sl 1 r 0 n) (I z) K=K (.ptr r z.toNat 0):=by
 obtain⟨m,rfl⟩:=Int.eq_ofNat_of_zero_le h;have f:Dw t (.sl 1 r 0 n) (I (m:Int)) K=iN (m:Int) λm=>ck (Nat.blt m n) (fN (Nat.add 0 (Nat.mul m 1)) λp=>K (.ptr r p 0)):=by
  obtain⟨a,b,d,z⟩:=t;simp only at c;subst c;rfl
 have hm:m<n:=by omega
 rw[f,JW,DT];have:Nat.blt m n=true:=by rw[Wj];exact hm
 have g:Nat.add 0 (Nat.mul m 1)=m:=by show 0+m*1=m;omega
 rw[this,g];rfl
def O0 {c:AV} (h:t.d.isAgg=false):AF t (.iptr [c]) H K=K c:=by
 have:AF t (.iptr [c]) H K=@Bool.rec (λ_=>Af) (K c) (E8 t.size [c] λc=>K (.agg c)) t.d.isAgg:=rfl;rw[this,h]
def B14 {cs:List AV} (h:t.d.isAgg=false) (b:Aj H r=some (.cells q e cs)) (a:p<cs.length):AF t (.ptr r p 0) H K=K (cs.getD p .dk):=by
 have:AF t (.ptr r p 0) H K=IJ H r λx=>JV x λ_ cs=>@Bool.rec (λ_=>Af) (hdK (Di (Nat.add p 0) cs) K) (E8 t.size (Di (Nat.add p 0) cs) λc=>K (.agg c)) t.d.isAgg:=rfl;rw[this,h,Bf b];show hdK (Di p cs) K=_;rw[C6,vA a,Vl,K9 a];rfl
def B17 {l:List UInt8} {z:Int} (a:0<=z) (h1:z<l.length):Dw AU (WK l) (I z) K=K (.iptr [By (l.getD z.toNat 0)]):=by
 unfold WK;rw[dL rfl (PW l) a h1,B1C (by omega)]
def C2X {z:Int} (a:0<=z) (h1:z<n):Dw AD (.sl 1 r 0 n) (I z) K=K (.ptr r z.toNat 0):=P_ rfl a h1
def C2W {l:List (BitVec 32)} (b:Aj H r=some (.cells q e (DU l))) (a:p<l.length):AF Ak (.ptr r p 0) H K=K (W (l.getD p 0)):=by
 rw[B14 rfl b (by rw[HR];exact a),Mp a]
def yW {b:UInt8}:Jc Bi Ak (By b) K=K (W (BitVec.ofNat 32 b.toNat)):=B1e
def C3m {v:AV} {l:List (BitVec 32)} (b:BitVec 32) (h:B2 H Cg 1 v l.length (DU l)) (w:Wf H) (hn:l.length<1000000000000):
 ∃r q a,(∀K:KV,(Ef (Hf Cg 1 Ak 1 [(0,1,W b)] H λv H=>some (v,H)) λv1 i=>Ef (E9 Cg 1 Ak AD v v1 i λv H=>some (v,H)) K)=K (.sl 1 r 0 (l.length+1)) a)/\Aj a r=some (.cells q Cg (DU (l++[b])))/\Wf a/\Ao H<=Ao a/\(∀s x,Aj H s=some x->¬A8 v s->Aj a s=some x)/\Ao H<=r:=by
 have f:B2 ((Ao H,.cells false Cg [W b])::H) Cg 1 v l.length (DU l):=h.lat w (Lat.cons H _ (λ_=>False)) (λ_ _ h=>h);have c:=N9 (H:=H) (e:=Cg) (n:=1) (cs:=[W b]) rfl;obtain⟨A,a,h1,h2,j,m⟩:=apt (ie:=Ak) (i2:=AD) f (λK=>Rg (K:=K) c) rfl rfl (by decide) rfl rfl (by show(l.length+1)*4<=_;omega) (by omega);have d:=(Lat.cons H (.cells false Cg [W b]) (A8 v)).trans m (R:=A8 v) (λ_ _ h=>h) (λ_ _ h=>h);rcases h2 with⟨_,g,_⟩|⟨r,q,rfl,g,y⟩
 ·omega
 ·refine⟨r,q,a,λK=> ?_,by rw[<-B2i];exact g,d.wf w,d.nx,λs x u hn=>d.keep w s x u hn,?_⟩
  ·rw[uL (z:=W 0) (λ_=>rfl) (λ_=>rfl) rfl,A44,h1 (λv H=>some (v,H)),A44]
  ·rw[j r ⟨_,_,_,rfl⟩];exact l1u _
end
section
variable {v:AV} {H:Hp}
def O9 {K:AV->Af}:Aq (some (v,H)) K=K v:=B1p
def SK {K:KV}:Ef (some (v,H)) K=K v H:=A44
def Z5 {L n:Nat} {x:BitVec 32} {z:Int} (k:Nat) (a:z=(k:Int)) (h:k<=32) {K:AV->Af}:An (rt L (n+1)) Dv [W x,I z] H K=K (W (KF x k)):=by
 subst a;exact A6k x k (by omega) H K
def A4g {l:List (BitVec 32)} {n:Nat} (b:BitVec 32) (d:l.length=n) (h:B2 H Cg 1 v n (DU l)) (w:Wf H) (hn:n<1000000000000):
 ∃r q a,(∀K:KV,(Ef (Hf Cg 1 Ak 1 [(0,1,W b)] H λv H=>some (v,H)) λv1 c=>Ef (E9 Cg 1 Ak AD v v1 c λv H=>some (v,H)) K)=K (.sl 1 r 0 (n+1)) a)/\Aj a r=some (.cells q Cg (DU (l++[b])))/\Wf a/\Ao H<=Ao a/\(∀s x,Aj H s=some x->¬A8 v s->Aj a s=some x)/\Ao H<=r:=by
 subst d;exact C3m b h w hn
def bw (l:List UInt8) (i:Nat):BitVec 32:=BitVec.ofNat 32 (l.getD i 0).toNat
def A4z (l:List UInt8) (i:Nat):BitVec 32:=bw l (4*i)<<<24|||bw l (4*i+1)<<<16|||bw l (4*i+2)<<<8|||bw l (4*i+3)
def w16 (l:List UInt8) (n:Nat):List (BitVec 32):=(List.range n).map (A4z l)
def sg0 (x:BitVec 32):BitVec 32:=KF x 7^^^KF x 18^^^x>>>3
def sg1 (x:BitVec 32):BitVec 32:=KF x 17^^^KF x 19^^^x>>>10
def Nr (l:List UInt8):Nat->List (BitVec 32)
 |0=>w16 l 16
 |i+1=>Nr l i++[(Nr l i).getD i 0+sg0 ((Nr l i).getD (i+1) 0)+(Nr l i).getD (i+9) 0+sg1 ((Nr l i).getD (i+14) 0)]
def eI (l:List UInt8) (n:Nat):(w16 l n).length=n:=by simp[w16]
def R7 (l:List UInt8) (i:Nat):(Nr l i).length=16+i:=by
 induction i with
 |zero=>simp[Nr,eI]
 |succ i ih=>simp[Nr,ih];omega
structure S8 where
 a:BitVec 32
 b:BitVec 32
 c:BitVec 32
 d:BitVec 32
 e:BitVec 32
 f:BitVec 32
 g:BitVec 32
 h:BitVec 32
def S8.l (s:S8):List (BitVec 32):=[s.a,s.b,s.c,s.d,s.e,s.f,s.g,s.h]
def rt1 (s:S8) (k w:BitVec 32):BitVec 32:=s.h+(KF s.e 6^^^KF s.e 11^^^KF s.e 25)+((s.e&&&s.f)^^^(~~~s.e&&&s.g))+k+w
def rt2 (s:S8):BitVec 32:=(KF s.a 2^^^KF s.a 13^^^KF s.a 22)+((s.a&&&s.b)^^^(s.a&&&s.c)^^^(s.b&&&s.c))
def rnd (s:S8) (k w:BitVec 32):S8:=⟨rt1 s k w+rt2 s,s.a,s.b,s.c,s.d+rt1 s k w,s.e,s.f,s.g⟩
def mW (ws:List (BitVec 32)) (s:S8):Nat->S8
 |0=>s
 |i+1=>rnd (mW ws s i) (kk.getD i 0) (ws.getD i 0)
def C3n (s t:S8):S8:=⟨s.a+t.a,s.b+t.b,s.c+t.c,s.d+t.d,s.e+t.e,s.f+t.f,s.g+t.g,s.h+t.h⟩
def blk (s:S8) (l:List UInt8):S8:=C3n s (mW (Nr l 48) s 64)
variable {L n:Nat} {K:KV} {x:Af}
def A08 (l:List UInt8) (i:Nat):BitVec.ofNat 32 (l.getD (4*i) 0).toNat<<<24|||BitVec.ofNat 32 (l.getD (4*i+1) 0).toNat<<<16|||BitVec.ofNat 32 (l.getD (4*i+2) 0).toNat<<<8|||BitVec.ofNat 32 (l.getD (4*i+3) 0).toNat=A4z l i:=rfl
def A0n (l:List UInt8) (i:Nat):w16 l (i+1)=w16 l i++[A4z l i]:=by simp[w16,List.range_succ]
def B8e (x:BitVec 32):KF x 7^^^KF x 18^^^x>>>3=sg0 x:=rfl
def B8d (x:BitVec 32):KF x 17^^^KF x 19^^^x>>>10=sg1 x:=rfl
def R6 (i:Nat):(i:Int)+1=((i+1:Nat):Int):=rfl
def C0a {k:AV->AV->AV->AV->AV->AV->AV->AV->AV->Hp->Af} {l:List UInt8} {a0 w1 b c d w5 e:AV} (D:l.length=64) (w:∀v H,B2 H Cg 1 v 16 (DU (w16 l 16))->Wf H->k a0 (WK l) v (I 16) b c d w5 e H=x):
 ∀(f i:Nat) (v:AV) (H:Hp),i<=16->16-i<f->B2 H Cg 1 v i (DU (w16 l i))->Wf H->RL L (rt L n) K k f a0 (WK l) v (I i) w1 b c d w5 e H=x:=by
 intro f
 induction f with
 |zero=>intro i v H _ h;omega
 |succ f ih=>
  intro i v H C B hv a;rw[jT];unfold RP OB A0;rw[Ej,F8];by_cases h:i<16
  ·rw[Dj (by simp;omega)];simp(disch:=omega) only[Qm,Dm,CW,O9,B17,O0 (t:=Bi) rfl,yW,L6 (z:=24) (k:=24) rfl (by decide),L6 (z:=16) (k:=16) rfl (by decide),L6 (z:=8) (k:=8) rfl (by decide),iC];have j:((4:Int)*(i:Int)).toNat=4*i:=by omega
   have m:((4:Int)*(i:Int)+1).toNat=4*i+1:=by omega
   have p:((4:Int)*(i:Int)+2).toNat=4*i+2:=by omega
   have s:((4:Int)*(i:Int)+3).toNat=4*i+3:=by omega
   rw[j,m,p,s,A08];obtain⟨r,q,g,h1,h2,u,y,A,_⟩:=A4g (A4z l i) (eI l i) hv a (by omega);rw[h1,R6];refine ih (i+1) _ g (by omega) (by omega) (.inr ⟨r,q,rfl,?_,?_⟩) u
   ·rw[A0n];exact h2
   ·rw[HR,eI];omega
  ·rw[C4 (by simp;omega)];have:i=16:=by omega
   subst this;exact w _ _ hv a
def C0b {k:AV->AV->AV->AV->AV->AV->AV->Hp->Af} {l:List UInt8} {w0 w1 c A B w5 d e:AV} (u:∀r q H,Aj H r=some (.cells q Cg (DU (Nr l 48)))->Wf H->k w0 w1 (.sl 1 r 0 64) c (I 64) d e H=x):
 ∀(f i r:Nat) (q:Bool) (H:Hp),i<=48->48-i<f->Aj H r=some (.cells q Cg (DU (Nr l i)))->Wf H->RM L (rt L (n+1)) K k f w0 w1 (.sl 1 r 0 (16+i)) c (I ((16+i:Nat):Int)) A B w5 d e H=x:=by
 intro f
 induction f with
 |zero=>intro i r q H _ h;omega
 |succ f ih=>
  intro i r q H J F hv b;rw[jU];unfold RQ OB A0;rw[Ej,F8];by_cases h:i<48
  ·rw[Dj (by simp;omega)];have a:=R7 l i;have j:((16+i:Nat):Int)-15=((i+1:Nat):Int):=by omega
   have m:((16+i:Nat):Int)-2=((i+14:Nat):Int):=by omega
   have p:((16+i:Nat):Int)-16=((i:Nat):Int):=by omega
   have s:((16+i:Nat):Int)-7=((i+9:Nat):Int):=by omega
   simp(disch:=omega) only[K7,CW,O9,j,m,p,s,C2X,kV,C2W hv,Z5 (z:=7) 7 rfl (by decide),Z5 (z:=18) 18 rfl (by decide),Z5 (z:=17) 17 rfl (by decide),Z5 (z:=19) 19 rfl (by decide),Vc,JF (z:=3) (k:=3) rfl (by decide),JF (z:=10) (k:=10) rfl (by decide),PI];rw[B8e,B8d];obtain⟨y,w,g,h1,h2,t,C,D,_⟩:=A4g ((Nr l i).getD i 0+sg0 ((Nr l i).getD (i+1) 0)+(Nr l i).getD (i+9) 0+sg1 ((Nr l i).getD (i+14) 0)) (v:= .sl 1 r 0 (16+i)) a (.inr ⟨r,q,rfl,hv,by rw[HR,a];omega⟩) b (by omega);rw[h1];simp(disch:=omega) only[Dm,CW];rw[R6];exact ih (i+1) y w g (by omega) (by omega) h2 t
  ·rw[C4 (by simp;omega)];have:i=48:=by omega
   subst this;exact u _ _ _ hv b
end
section
variable {v:AV} {H:Hp} {t:TI}
def Rd (H:Hp) (v:AV) (n:Nat) (cs:List AV):Prop:=cs.length=n/\(v= .list n cs\/∃r q e,v= .sl 1 r 0 n/\Aj H r=some (.cells q e cs))
def rdp (v:AV) (i:Nat):AV:=match v with
 | .list _ cs=> .iptr [cs.getD i .dk]
 | .sl _ r _ _=> .ptr r i 0
 |_=> .dk
def B2.rd {H:Hp} {e n:Nat} {v:AV} {cs:List AV} (h:B2 H e 1 v n cs) (hn:n≠0):Rd H v n cs:=by
 rcases h with⟨_,h,_⟩|⟨r,q,h1,h2,a⟩
 ·exact absurd h hn
 ·exact⟨by omega,.inr ⟨r,q,e,h1,h2⟩⟩
def pG {n:Nat} {cs:List AV} (h:cs.length=n):Rd H (.list n cs) n cs:=⟨h,.inl rfl⟩
def PH {e n:Nat} {cs:List AV} (h:Rd H v n cs) (a:t.d= .slice e 1) {z:Int} (k:Nat) (hz:z=k) (c:k<n) {K:AV->Af}:Dw t v (I z) K=K (rdp v k):=by
 subst hz;rcases h with⟨b,rfl|⟨r,q,e,rfl,h2⟩⟩
 ·rw[dL a b (by omega) (by omega)];rfl
 ·rw[P_ a (by omega) (by omega)];rfl
def lP {n:Nat} {cs:List AV} (h:Rd H v n cs) (a:t.d.isAgg=false) {k:Nat} (c:k<n) {K:AV->Af}:AF t (rdp v k) H K=K (cs.getD k .dk):=by
 rcases h with⟨b,rfl|⟨r,q,e,rfl,h2⟩⟩
 ·exact O0 a
 ·exact B14 a h2 (by omega)
def C1W {a b c d e f g h:BitVec 32} (K:KV):Hf Cg 1 Ak 8 [(0,1,W a),(1,1,W b),(2,1,W c),(3,1,W d),(4,1,W e),(5,1,W f),(6,1,W g),(7,1,W h)] H K=K (.sl 1 (Ao H) 0 8) ((Ao H,.cells false Cg (DU [a,b,c,d,e,f,g,h]))::H):=by
 have i:Hf Cg 1 Ak 8 [(0,1,W a),(1,1,W b),(2,1,W c),(3,1,W d),(4,1,W e),(5,1,W f),(6,1,W g),(7,1,W h)] H K=Ig H λs=>K (.sl 1 s 0 8) ((s,.cells false Cg (DU [a,b,c,d,e,f,g,h]))::H):=rfl;rw[i,BV]
def yT {x:BitVec 32} {K:AV->Af}:Mg .xor (W x) K=K (W (~~~x)):=B0T
def B5J {k:Nat} (h:k<64):(DU kk).getD k .dk=W (kk.getD k 0):=Mp (by rw[A3w];exact h)
variable {L n:Nat} {K:KV} {x:Af}
def A8Z (s:S8) (k w:BitVec 32):[s.h+(KF s.e 6^^^KF s.e 11^^^KF s.e 25)+((s.e&&&s.f)^^^(~~~s.e&&&s.g))+k+w+((KF s.a 2^^^KF s.a 13^^^KF s.a 22)+((s.a&&&s.b)^^^(s.a&&&s.c)^^^(s.b&&&s.c))),s.a,s.b,s.c,s.d+(s.h+(KF s.e 6^^^KF s.e 11^^^KF s.e 25)+((s.e&&&s.f)^^^(~~~s.e&&&s.g))+k+w),s.e,s.f,s.g]=(rnd s k w).l:=rfl
def C0c {k:AV->AV->AV->AV->AV->AV->AV->AV->Hp->Af} {ws:List (BitVec 32)} {s0:S8} {rw:Nat} {w0 w1 w y w6 w7:AV} (r:ws.length=64) (Q:∀v q H,B2 H Cg 1 v 8 (DU (mW ws s0 64).l)->Aj H rw=some (.cells q Cg (DU ws))->Wf H->k w0 w1 (.sl 1 rw 0 64) w y (.list 64 (DU kk)) v (I 64) H=x):
 ∀(f i:Nat) (v:AV) (q:Bool) (H:Hp),i<=64->64-i<f->B2 H Cg 1 v 8 (DU (mW ws s0 i).l)->Aj H rw=some (.cells q Cg (DU ws))->Wf H->RN L (rt L (n+1)) K k f w0 w1 (.sl 1 rw 0 64) w y (.list 64 (DU kk)) v (I i) w6 w7 H=x:=by
 intro f
 induction f with
 |zero=>intro i v q H _ h;omega
 |succ f ih=>
  intro i v q H hi hf hv hr p;rw[jV];unfold RR OB A0;rw[Ej,F8];by_cases h:i<64
  ·rw[Dj (by simp;omega)];have rv:=hv.rd (by decide);have u:Rd H (.list 64 (DU kk)) 64 (DU kk):=pG (by rw[HR,A3w]);have rs:Rd H (.sl 1 rw 0 64) 64 (DU ws):=⟨by rw[HR,r],.inr ⟨rw,q,Cg,rfl,hr⟩⟩
   generalize P:mW ws s0 i=s at rv hv;have A:(DU s.l).getD 0 .dk=W s.a:=id rfl;have B:(DU s.l).getD 1 .dk=W s.b:=id rfl;have C:(DU s.l).getD 2 .dk=W s.c:=id rfl;have D:(DU s.l).getD 3 .dk=W s.d:=id rfl;have F:(DU s.l).getD 4 .dk=W s.e:=id rfl;have J:(DU s.l).getD 5 .dk=W s.f:=id rfl;have M:(DU s.l).getD 6 .dk=W s.g:=id rfl;have N:(DU s.l).getD 7 .dk=W s.h:=id rfl;have O:(DU ws).getD i .dk=W (ws.getD i 0):=Mp (by omega);have R:= λK=>PH (t:=AD) rv rfl (z:=0) 0 rfl (by decide) (K:=K);have i1:= λK=>PH (t:=AD) rv rfl (z:=1) 1 rfl (by decide) (K:=K);have i2:= λK=>PH (t:=AD) rv rfl (z:=2) 2 rfl (by decide) (K:=K);have V:= λK=>PH (t:=AD) rv rfl (z:=3) 3 rfl (by decide) (K:=K);have X:= λK=>PH (t:=AD) rv rfl (z:=4) 4 rfl (by decide) (K:=K);have Y:= λK=>PH (t:=AD) rv rfl (z:=5) 5 rfl (by decide) (K:=K);have Z:= λK=>PH (t:=AD) rv rfl (z:=6) 6 rfl (by decide) (K:=K);have i7:= λK=>PH (t:=AD) rv rfl (z:=7) 7 rfl (by decide) (K:=K);have ik:= λK=>PH (t:=AD) u rfl (z:=i) i rfl h (K:=K);have iw:= λK=>PH (t:=AD) rs rfl (z:=i) i rfl h (K:=K);have lv:= λk j K=>lP (t:=Ak) rv rfl (k:=k) j (K:=K);have lk:= λk j K=>lP (t:=Ak) u rfl (k:=k) j (K:=K);have lw:= λk j K=>lP (t:=Ak) rs rfl (k:=k) j (K:=K);simp(disch:=omega) only[O9,R,i1,i2,V,X,Y,Z,i7,ik,iw,lv,lk,lw,A,B,C,D,F,J,M,N,O,B5J h,Vc,yX,PI,yT,
    Z5 (z:=6) 6 rfl (by decide),Z5 (z:=11) 11 rfl (by decide),Z5 (z:=25) 25 rfl (by decide),Z5 (z:=2) 2 rfl (by decide),Z5 (z:=13) 13 rfl (by decide),Z5 (z:=22) 22 rfl (by decide)]
   rw[C1W,SK,Dm,CW (by omega) (by omega),A8Z,R6];have m:mW ws s0 (i+1)=rnd s (kk.getD i 0) (ws.getD i 0):=by rw[<-P];rfl
   rw[<-m];exact ih (i+1) _ q _ (by omega) (by omega) (N9 rfl) (A4 (p.lt hr) hr) (AI p)
  ·rw[C4 (by simp;omega)];have:i=64:=by omega
   subst this;exact Q _ _ _ hv hr p
def iM (a b:List (BitVec 32)) (i:Nat):List (BitVec 32):=(List.range i).map λi=>a.getD i 0+b.getD i 0
def SQ (a b:List (BitVec 32)) (i:Nat):(iM a b i).length=i:=by simp[iM]
def zH (a b:List (BitVec 32)) (i:Nat):iM a b (i+1)=iM a b i++[a.getD i 0+b.getD i 0]:=by simp[iM,List.range_succ]
def C0k (s t:S8):iM s.l t.l 8=(C3n s t).l:=rfl
def C0d {k:AV->Hp->Af} {a b:List (BitVec 32)} {A B w1 w2 w3 w4 w5 w7:AV} (V:∀v H,B2 H Cg 1 v 8 (DU (iM a b 8))->Wf H->k v H=x) (w:A= .list 8 (DU a)) (P:a.length=8) (hb:b.length=8):
 ∀(f i:Nat) (v:AV) (H:Hp),i<=8->8-i<f->B2 H Cg 1 v i (DU (iM a b i))->B2 H Cg 1 B 8 (DU b)->(∀s,A8 v s->¬A8 B s)->Wf H->RO L (rt L n) K k f A w1 w2 w3 w4 w5 B w7 v (I i) H=x:=by
 intro f
 induction f with
 |zero=>intro i v H _ h;omega
 |succ f ih=>
  intro i v H hi hf hv c Q y;rw[jW];unfold RS OB A0;rw[Ej,F8];by_cases h:i<8
  ·rw[Dj (by simp;omega)];have C:Rd H A 8 (DU a):=by subst w;exact pG (by rw[HR,P])
   have D:=c.rd (by decide);have J:(DU a).getD i .dk=W (a.getD i 0):=Mp (by omega);have M:(DU b).getD i .dk=W (b.getD i 0):=Mp (by omega);have ia:= λK=>PH (t:=AD) C rfl (z:=i) i rfl h (K:=K);have X:= λK=>PH (t:=AD) D rfl (z:=i) i rfl h (K:=K);have Y:= λK=>lP (t:=Ak) C rfl (k:=i) h (K:=K);have Z:= λK=>lP (t:=Ak) D rfl (k:=i) h (K:=K);simp only[O9,ia,X,Y,Z,J,M,PI];obtain⟨r,q,F,h1,h2,N,h4,O,h6⟩:=A4g (a.getD i 0+b.getD i 0) (SQ a b i) hv y (by omega);rw[h1,Dm,CW (by omega) (by omega),R6];refine ih (i+1) _ F (by omega) (by omega) (.inr ⟨r,q,rfl,?_,?_⟩) ?_ ?_ N
   ·rw[zH];exact h2
   ·rw[HR,SQ];omega
   ·rcases c with⟨d,e,g⟩|⟨r2,q2,d,e,g⟩
    ·exact .inl ⟨d,e,g⟩
    ·exact .inr ⟨r2,q2,d,O _ _ e (λR=>Q _ R ⟨1,0,8,d⟩),g⟩
   ·intro s ⟨p,o,m,j⟩ u;injection j with _ j
    subst j;have:=c.lt y u;omega
  ·rw[C4 (by simp;omega)];have:i=8:=by omega
   subst this;exact V _ _ hv y
def B3j {s:S8} {l:List UInt8} (k:l.length=64) (u:100<L):CS (rt L (n+2)) Uh [.list 8 (DU s.l),WK l] (.list 8 (DU (blk s l).l)):=by
 intro K j;rw[oF];unfold TS A0;simp only[BK];refine C0a k ?_ L 0 _ [] (by omega) (by omega) (.inl ⟨rfl,rfl,rfl⟩) Fk;intro v H hv c;rcases hv with⟨_,h,_⟩|⟨r,q,rfl,h2,i⟩
 ·exact absurd h (by decide)
 refine C0b ?_ L 0 r q H (by omega) (by omega) h2 c;intro r q H hr c;rw[AQ A0u AJ];obtain⟨p,g,h1,h2,i,f⟩:=apt (ie:=Ak) (i2:=AD) (H:=H) (e:=Cg) (sz:=1) (n:=0) (m:=8) (v:= .v (.slice none 0 0)) (src:= .list 8 (DU s.l)) (cs:=[]) (ys:=DU s.l) (.inl ⟨rfl,rfl,rfl⟩) (λK=>Va) rfl (YB _) (by decide) rfl rfl (by decide) (by decide);rw[h1];have d:=f.keep c r _ hr (λ⟨_,_,_,h⟩=>by cases h);refine C0c (s0:=s) (by rw[R7]) ?_ L 0 p q g (by omega) (by omega) h2 d (f.wf c);intro v q H hv hr c;refine C0d (a:=s.l) (b:=(mW (Nr l 48) s 64).l) ?_ rfl rfl rfl L 0 _ H (by omega) (by omega) (.inl ⟨rfl,rfl,rfl⟩) hv (λs ⟨_,_,_,h⟩=>by cases h) c;intro v H hv c;rw[C0k] at hv;exact j _ _ (λb=>⟨true,M! hv (by decide) (λx:BitVec 32=>Value.int .u32 (x.toNat:Int)) _ rfl⟩)
end
section
variable {v:AV} {H:Hp} {s:List UInt8} {e m:Nat}
def A1x {t:TI} {cs:List AV} {x y:Int} (a b:Nat) {K:AV->Af} (f:t.d= .slice e 1) (i:x=a) (j:y=b) (h1:a<=b) (h2:b<=m):Ee t (.list m cs) (some (I x)) (some (I y)) none K=K (.list (b-a) ((cs.drop a).take (b-a))):=by
 subst i j;have g:Ee t (.list m cs) (some (I a)) (some (I b)) none K=iN (a:Int) λl=>iN (b:Int) λh=>fN m λx=>ck ((true||(some (I (b:Int))).isSome)&&(Nat.ble l h&&(Nat.ble h x&&Nat.ble x m))) (fN (Nat.sub h l) λn=>SB (Nat.mul n 1) (Di (Nat.mul l 1) cs) λc=>K (.list n c)):=by
  obtain⟨_,_,d,z⟩:=t;simp only at f;subst f;rfl
 rw[g,JW,JW,DT];have c:((true||(some (I (b:Int))).isSome)&&(Nat.ble a b&&(Nat.ble b m&&Nat.ble m m)))=true:=by simp only[Bool.true_or,X',Kw,iS];omega
 rw[c];show fN (Nat.sub b a) (λn=>SB (Nat.mul n 1) (Di (Nat.mul a 1) cs) λc=>K (.list n c))=_;rw[DT,Oh,C6];show K (.list (b-a) ((cs.drop (a*1)).take ((b-a)*1)))=_;rw[pL,pL]
def iv:S8:=⟨1779033703,3144134277,1013904242,2773480762,1359893119,2600822924,528734635,1541459225⟩
def dN (s:List UInt8):Nat->S8
 |0=>iv
 |i+1=>blk (dN s i) ((s.drop (64*i)).take 64)
def wb (w:BitVec 32):List UInt8:=[UInt8.ofNat (w.toNat/2^24),UInt8.ofNat (w.toNat/2^16),UInt8.ofNat (w.toNat/2^8),UInt8.ofNat w.toNat]
def XJ (l:List (BitVec 32)):Nat->List UInt8
 |0=>[]
 |i+1=>XJ l i++wb (l.getD i 0)
def XI (l:List (BitVec 32)) (i:Nat):(XJ l i).length=4*i:=by
 induction i with
 |zero=>rfl
 |succ i ih=>simp[XJ,ih,wb];omega
def sha (s:List UInt8):List UInt8:=XJ (dN (ext s) ((ext s).length/64)).l 8
variable {L n:Nat} {K:KV} {x:Af}
def C2G {l:List (BitVec 32)} (h:Rd H v n (DU l)):∃q,Fx true depth v (.list n (DU l)) H q:=by
 rcases h with⟨a,rfl|⟨r,q,e,rfl,h2⟩⟩
 ·exact⟨_,Of⟩
 ·exact⟨_,WU (q':=false) h2 (by omega) (KO (λx:BitVec 32=>Value.int .u32 (x.toNat:Int)) l)⟩
def B89 {k:AV->AV->AV->Hp->Af} {u w:AV} (hm:s.length=64*m) (B:s.length<200000000000) (r:100<L) (a:m≠0) (t:∀j,k (.list 8 (DU (dN s m).l)) (WK s) j H=x):
 ∀(f i:Nat) (v:AV),i<=m->m-i<f->Rd H v 8 (DU (dN s i).l)->(i≠0->v= .list 8 (DU (dN s i).l))->VA L (rt L (n+2)) K k f v (WK s) (I ((64*i:Nat):Int)) u w H=x:=by
 intro f
 induction f with
 |zero=>intro i v _ h;omega
 |succ f ih=>
  intro i v A y hv b;rw[rR];unfold VC A0;have p:∀K,Bq AU (WK s) K=K (I (s.length:Int)):= λ_=>id rfl;rw[p,Ej,F8];by_cases h:i<m
  ·rw[Dj (by simp;omega)];simp(disch:=omega) only[Dm,CW];have c:((64*i:Nat):Int)+64=((64*(i+1):Nat):Int):=by omega
   unfold WK;rw[c,A1x (64*i) (64*(i+1)) rfl rfl rfl (by omega) (by omega)];have d:64*(i+1)-64*i=64:=by omega
   have g:AV.list 64 (((Ml s).drop (64*i)).take 64)=WK ((s.drop (64*i)).take 64):=by
    unfold WK Ml;have:((s.drop (64*i)).take 64).length=64:=by simp;omega
    rw[this,List.map_take,List.map_drop]
   rw[d,g];obtain⟨q,hq⟩:=C2G hv;rw[AQ (B3j (n:=n) (s:=dN s i) (l:=(s.drop (64*i)).take 64) (by simp;omega) r) (Am hq (Am (by unfold WK;exact Of) AJ))];exact ih (i+1) _ (by omega) (by omega) (pG (by rw[HR];rfl)) (λ_=>rfl)
  ·rw[C4 (by simp;omega)];have:i=m:=by omega
   subst this;rw[b a];exact t _
def yV {w:BitVec 32} {K:AV->Af}:Jc Ak Bi (W w) K=K (By (UInt8.ofNat w.toNat)):=B1d
def C1X {a b c d:UInt8} (K:KV):Hf Bt 1 Bi 4 [(0,1,By a),(1,1,By b),(2,1,By c),(3,1,By d)] H K=K (.sl 1 (Ao H) 0 4) ((Ao H,.cells false Bt (Ml [a,b,c,d]))::H):=by
 have f:Hf Bt 1 Bi 4 [(0,1,By a),(1,1,By b),(2,1,By c),(3,1,By d)] H K=Ig H λs=>K (.sl 1 s 0 4) ((s,.cells false Bt (Ml [a,b,c,d]))::H):=rfl;rw[f,BV]
def B4w (l:List UInt8):∀K:List UInt8->Af,fu8 (Ml l) K=K l:=by
 induction l with
 |nil=>intro K;rfl
 |cons b l ih=>
  intro K;have e:fu8 (Ml (b::l)) K=iN (b.toNat:Int) λn=>fu8 (Ml l) λl=>K (UInt8.ofNat n::l):=rfl;rw[e,JW,ih];simp
def A5x {l:List UInt8} {K:AV->Af} (h:B2 H e 1 v n (Ml l)):wY v H K=K (S l):=by
 have a:wY v H K=Ta H v λm cs=>HI cs 0 λk=>ck (Nat.beq k m) (fu8 cs λl=>K (.v (.string ⟨⟨l⟩⟩))):=by
  rcases h with⟨rfl,_⟩|⟨r,q,rfl,_⟩<;>rfl
 have hn:(Ml l).length=n:=by
  rcases h with⟨_,rfl,h⟩|⟨r,q,_,_,h⟩
  ·rw[h];rfl
  ·omega
 rw[a,Rg h,Co,JQ,hn,mK];exact B4w l _
def B8a {k:AV->Hp->Af} {s:S8} {v w1 C:AV} (A:∀u H,B2 H Bt 1 u 32 (Ml (XJ s.l 8))->k u H=x):
 ∀(f i:Nat) (u:AV) (H:Hp),i<=8->8-i<f->B2 H Bt 1 u (4*i) (Ml (XJ s.l i))->v= .list 8 (DU s.l)->Wf H->VB L (rt L n) K k f v w1 C u (I i) H=x:=by
 intro f
 induction f with
 |zero=>intro i v H _ h;omega
 |succ f ih=>
  intro i u H J F j hv p;rw[rS];unfold VD OB A0;rw[Ej,F8];by_cases h:i<8
  ·rw[Dj (by simp;omega)];have q:Rd H v 8 (DU s.l):=by subst hv;exact pG (by rw[HR];rfl)
   have w:(DU s.l).getD i .dk=W (s.l.getD i 0):=Mp h;have ia:= λK=>PH (t:=AD) q rfl (z:=i) i rfl h (K:=K);have B:= λK=>lP (t:=Ak) q rfl (k:=i) h (K:=K);simp only[O9,ia,B,w,JF (z:=24) (k:=24) rfl (by decide),JF (z:=16) (k:=16) rfl (by decide),JF (z:=8) (k:=8) rfl (by decide),yV,C1X,SK];generalize hc:[UInt8.ofNat (s.l.getD i 0>>>24).toNat,UInt8.ofNat (s.l.getD i 0>>>16).toNat,UInt8.ofNat (s.l.getD i 0>>>8).toNat,UInt8.ofNat (s.l.getD i 0).toNat]=c;have a:c.length=4:=by rw[<-hc];rfl
   have d:c=wb (s.l.getD i 0):=by rw[<-hc];unfold wb;simp only[BitVec.toNat_ushiftRight,Nat.shiftRight_eq_div_pow]
   have g:B2 ((Ao H,.cells false Bt (Ml c))::H) Bt 1 u (4*i) (Ml (XJ s.l i)):=j.lat p (Lat.cons H _ (λ_=>False)) (λ_ _ h=>h);have b:=N9 (H:=H) (e:=Bt) (n:=4) (cs:=Ml c) (by rw[PW,a]);obtain⟨M,r,h1,h2,D,y⟩:=apt (ie:=Bi) (i2:=AU) g (λK=>Rg (K:=K) b) (by rw[PW,a]) (A5C _) (by decide) rfl rfl (by show(4*i+4)*1<=_;omega) (by omega);rw[h1,SK,Dm,CW (by omega) (by omega),R6];refine ih (i+1) _ r (by omega) (by omega) ?_ hv (y.wf (AI p));rw[S!,d] at h2;exact h2
  ·rw[C4 (by simp;omega)];have:i=8:=by omega
   subst this;exact A _ _ j
def A5r (s:List UInt8):∃m,(ext s).length=64*m/\64*m<=s.length+73:=by
 refine⟨(ext s).length/64,?_,?_⟩
 ·have:(ext s).length=s.length+1+dZ s.length+8:=by simp[ext,pre];omega
  unfold dZ at this;omega
 ·have:(ext s).length=s.length+1+dZ s.length+8:=by simp[ext,pre];omega
  unfold dZ at this;omega
def B5o (r:s.length<100000000000) (w:s.length+200<L):CS (rt L (n+3)) Yn [S s] (S (sha s)):=by
 intro K p;rw[wI];unfold XS A0;simp only[BK];obtain⟨m,hm,q⟩:=A5r s;have i:∀K:KV,Hf Cg 1 Ak 8 [(0,1,(AV.v (.int .u32 1779033703))),(1,1,(AV.v (.int .u32 3144134277))),(2,1,(AV.v (.int .u32 1013904242))),(3,1,(AV.v (.int .u32 2773480762))),(4,1,(AV.v (.int .u32 1359893119))),(5,1,(AV.v (.int .u32 2600822924))),(6,1,(AV.v (.int .u32 528734635))),(7,1,(AV.v (.int .u32 1541459225)))] [] K=K (.sl 1 0 0 8) [(0,.cells false Cg (DU iv.l))]:= λK=>C1W (H:=[]) (a:=1779033703) (b:=3144134277) (c:=1013904242) (d:=2773480762) (e:=1359893119) (f:=2600822924) (g:=528734635) (h:=1541459225) K;rw[i,AQ (A2Y (n:=n+1) s r (by omega)) fx1];have k:m≠0:= λh=>by subst h;simp[ext] at hm
 refine B89 (n:=n) (m:=m) hm (by omega) (by omega) k ?_ L 0 _ (by omega) (by omega) ((N9 (H:=[]) rfl).rd (by decide)) (λh=>absurd rfl h);intro j;refine B8a (n:=n+2) (s:=dN (ext s) m) ?_ L 0 _ _ (by omega) (by omega) (.inl ⟨rfl,rfl,rfl⟩) rfl (AI Fk);intro u H t;rw[A5x t];have e:XJ (dN (ext s) m).l 8=sha s:=by
  unfold sha;have:(ext s).length/64=m:=by omega
  rw[this]
 rw[e];exact p _ _ (λb=>⟨false,C7⟩)
end
section
variable {w:BitVec 32} {H:Hp} {ks:List Nat} {k r:Nat}
def U (n:Nat):AV:= .v (.int .u64 (n:Int))
def B3r {x:BitVec 32} (g:1<=k) (h:k<32) {L n:Nat} {K:KV}:(rt L (n+1)).call Hl [W x,I (-(k:Int))] H K=K (W (KF x k)) H:=by
 rw[Sh];unfold J6 Lo;have a:∀K:AV->Af,(Jc Ab Gx (I (-(k:Int))) λv1=>Ap Gx .and v1 (AV.v (.int .u64 31)) λf=>K f)=K (U (32-k)):=by
  intro K;have:k=1\/k=2\/k=3\/k=4\/k=5\/k=6\/k=7\/k=8\/k=9\/k=10\/k=11\/k=12\/k=13\/k=14\/k=15\/k=16\/k=17\/k=18\/k=19\/k=20\/k=21\/k=22\/k=23\/k=24\/k=25\/k=26\/k=27\/k=28\/k=29\/k=30\/k=31:=by omega
  rcases this with rfl|rfl|rfl|rfl|rfl|rfl|rfl|rfl|rfl|rfl|rfl|rfl|rfl|rfl|rfl|rfl|rfl|rfl|rfl|rfl|rfl|rfl|rfl|rfl|rfl|rfl|rfl|rfl|rfl|rfl|rfl<;>rfl
 rw[a];have b:∀K:AV->Af,Ap Gx .sub (AV.v (.int .u64 32)) (U (32-k)) K=K (U k):=by
  intro K;have e:Ap Gx .sub (AV.v (.int .u64 32)) (U (32-k)) K=Og .u64 ((32:Int)-((32-k:Nat):Int)) λz=>K (.v (.int .u64 z)):=rfl;rw[e,IQ];have:(32:Int)-((32-k:Nat):Int)=(k:Int):=by omega
  rw[this,ZD rfl];have:(k:Int)%(2^IntKind.u64.bits:Nat)=(k:Int):=Int.emod_eq_of_lt (by omega) (by show(k:Int)<(18446744073709551616:Int);omega);rw[this];rfl
 have c:∀K:AV->Af,Ap Ak .shl (W x) (U (32-k)) K=K (W (x<<<(32-k))):= λK=>L6 rfl (by omega);have d:∀K:AV->Af,Ap Ak .shr (W x) (U k) K=K (W (x>>>k)):= λK=>JF rfl (by omega);rw[c,b,d,iC];have:x<<<(32-k)|||x>>>k=KF x k:=by unfold KF;exact BitVec.or_comm _ _
 rw[this]
def B8h {L n:Nat} {x:BitVec 32} (a:1<=k) (h:k<32):PS (rt L (n+1)) Hl [W x,I (-(k:Int))] (W (KF x k)):=by
 refine CS.ps (λK c=> ?_) (λH=>C2F);rw[B3r a h];exact c _ _ (λb=>⟨false,fxq⟩)
def Yd (ks:List Nat):List AV:=ks.map λk:Nat=> .v (.int .i64 (k:Int))
def A6R {l:List Nat} (h:k<l.length):(Yd l).getD k .dk=I (l[k]:Nat):=by
 simp[Yd,Vl,h]
def SZ (x:BitVec 32) (ks:List Nat):BitVec 32:=ks.foldl (λa k=>a^^^KF x k) 0
def A72 (a:k<32) {K:AV->Af}:Mg .neg (I k) K=K (I (-(k:Int))):=by
 have e:Mg .neg (I k) K=Og .i64 (0-(k:Int)) λz=>K (.v (.int .i64 z)):=rfl;rw[e,IQ,Int.zero_sub,CW (by omega) (by omega)]
variable {L n:Nat} {K:KV} {x:Af}
def B00 {k:AV->Hp->Af} (b:∀k∈ks,1<=k/\k<32) (j:ks.length<32) (c:k (W (SZ w ks)) H=x):
 ∀(f i:Nat),i<=ks.length->ks.length-i<f->QC L (rt L (n+1)) K k f (W w) (W (SZ w (ks.take i))) (.list ks.length (Yd ks)) (I ks.length) (I i) H=x:=by
 intro f
 induction f with
 |zero=>intro i _ h;omega
 |succ f ih=>
  intro i g d;rw[iE];unfold QD Iv A0;rw[Ej,F8];by_cases h:i<ks.length
  ·rw[Dj (by simp;omega)];have a:=b ks[i] (Qe h);rw[dL rfl (by simp[Yd]) (by omega) (by omega),kV,O0 rfl,A6R h,A72 a.2,B8h a.1 a.2,Vc,Dm,CW (by omega) (by omega),R6];have e:SZ w (ks.take (i+1))=SZ w (ks.take i)^^^KF w ks[i]:=by
    unfold SZ;rw[kY h,List.foldl_append];rfl
   rw[<-e];exact ih (i+1) (by omega) (by omega)
  ·rw[C4 (by simp;omega)];have:i=ks.length:=by omega
   subst this;rw[vB];exact c
def B3i (c:∀k∈ks,1<=k/\k<32) (d:ks.length<32) (f:32<L):CS (rt L (n+2)) EI [W w,.list ks.length (Yd ks)] (W (SZ w ks)):=by
 intro K a;rw[kQ];unfold So A0;simp only[BK];have e:∀K,Bq B4 (.list ks.length (Yd ks)) K=K (I ks.length):= λK=>id rfl;rw[e];refine B00 c d ?_ L 0 (by omega) (by omega);exact a _ _ (λb=>⟨false,C7⟩)
def C1Q:SZ w [7,18]^^^w>>>3=sg0 w:=by simp[SZ,sg0]
def C1P:SZ w [17,19]^^^w>>>10=sg1 w:=by simp[SZ,sg1]
def pad (l:List (BitVec 32)) (n:Nat):List (BitVec 32):=l++List.replicate (n-l.length) 0
def A4Y {l:List (BitVec 32)} (h:l.length<=n):(pad l n).length=n:=by simp[pad];omega
def A4X {l:List (BitVec 32)} (w:BitVec 32) (a:l.length=k) (h:k<n):(DU (pad l n)).set k (W w)=DU (pad (l++[w]) n):=by
 subst a;have e:n-l.length=(n-(l.length+1))+1:=by omega
 simp[pad,DU,e,l1c,List.set_append_right]
def A9N {l:List (BitVec 32)} (h:k<l.length):(DU (pad l n)).getD k .dk=W (l.getD k 0):=by
 simp[pad,DU,Vl,h,List.getElem?_append]
def A9O {l:List (BitVec 32)} (h:l.length=n):pad l n=l:=by simp[pad,h]
def B5F (a b:Nat) (K:AV->Af):Yr 1 Ab 2 [(0,1,I a),(1,1,I b)] K=K (.list 2 (Yd [a,b])):=id rfl
def B5E (a b c:Nat) (K:AV->Af):Yr 1 Ab 3 [(0,1,I a),(1,1,I b),(2,1,I c)] K=K (.list 3 (Yd [a,b,c])):=id rfl
def I? {K:AV->Af} (b:∀k∈ks,1<=k/\k<32) (c:ks.length<32) (a:32<L):An (rt L (n+2)) EI [W w,.list ks.length (Yd ks)] H K=K (W (SZ w ks)):=
 AQ (B3i b c a) (Am C7 (Am Of AJ))
def B8f {k:AV->AV->AV->Hp->Af} {l:List UInt8} {w:AV} (p:l.length=64) (g:∀q H,Aj H r=some (.cells q De (DU (pad (w16 l 16) 64)))->Wf H->k (WK l) (.ptr r 0 0) (I 16) H=x):
 ∀(f i:Nat) (q:Bool) (H:Hp),i<=16->16-i<f->Aj H r=some (.cells q De (DU (pad (w16 l i) 64)))->Wf H->Nb L (rt L n) K k f (WK l) (.ptr r 0 0) w (I i) H=x:=by
 intro f
 induction f with
 |zero=>intro i q H _ h;omega
 |succ f ih=>
  intro i q H m j hr a;rw[Ys];unfold Nf OB A0;rw[Ej,F8];by_cases h:i<16
  ·rw[Dj (by simp;omega)];simp(disch:=omega) only[Qm,Dm,CW,O9,B17,O0 (t:=Bi) rfl,yW,L6 (z:=24) (k:=24) rfl (by decide),L6 (z:=16) (k:=16) rfl (by decide),L6 (z:=8) (k:=8) rfl (by decide),iC];have b:((4:Int)*(i:Int)).toNat=4*i:=by omega
   have c:((4:Int)*(i:Int)+1).toNat=4*i+1:=by omega
   have d:((4:Int)*(i:Int)+2).toNat=4*i+2:=by omega
   have e:((4:Int)*(i:Int)+3).toNat=4*i+3:=by omega
   rw[b,c,d,e,A08,EJ i rfl rfl (by omega),O9,Ed hr (by rw[HR,A4Y (by rw[eI];omega)];omega) rfl rfl rfl,SK,A4X _ (eI l i) (by omega),<-A0n,R6];exact ih (i+1) q _ (by omega) (by omega) (AC hr) (Bn a)
  ·rw[C4 (by simp;omega)];have:i=16:=by omega
   subst this;exact g _ _ hr a
def B8g {k:AV->Hp->Af} {l:List UInt8} {w0 w1:AV} (B:100<L) (u:∀q H,Aj H r=some (.cells q De (DU (Nr l 48)))->Wf H->k (.ptr r 0 0) H=x):
 ∀(f i:Nat) (q:Bool) (H:Hp),i<=48->48-i<f->Aj H r=some (.cells q De (DU (pad (Nr l i) 64)))->Wf H->Nc L (rt L (n+2)) K k f w0 (.ptr r 0 0) (I ((16+i:Nat):Int)) w1 H=x:=by
 intro f
 induction f with
 |zero=>intro i q H _ h;omega
 |succ f ih=>
  intro i q H D C hr d;rw[Yt];unfold Ng OB A0;rw[Ej,F8];have c:=R7 l i;by_cases h:i<48
  ·rw[Dj (by simp;omega)];have F:(DU (pad (Nr l i) 64)).length=64:=by rw[HR,A4Y (by rw[c];omega)]
   have e:((16+i:Nat):Int)-15=((i+1:Nat):Int):=by omega
   have g:((16+i:Nat):Int)-2=((i+14:Nat):Int):=by omega
   have j:((16+i:Nat):Int)-16=((i:Nat):Int):=by omega
   have m:((16+i:Nat):Int)-7=((i+9:Nat):Int):=by omega
   have ia:= λ(k:Nat) a K=>EJ (t:=Ck) (s:=r) (z:=(k:Int)) k (K:=K) rfl rfl a;have y:= λk a K=>AP (t:=Ak) (p:=k) (K:=K) rfl hr a;have b:= λk a=>A9N (n:=64) (l:=Nr l i) (k:=k) a;simp(disch:=omega) only[K7,CW,O9,e,g,j,m,ia,y,b];have i1:∀K,Yr 1 Ab 2 [(0,1,.v (.int .i64 7)),(1,1,.v (.int .i64 18))] K=K (.list 2 (Yd [7,18])):= λK=>B5F 7 18 K;have i2:∀K,Yr 1 Ab 2 [(0,1,.v (.int .i64 17)),(1,1,.v (.int .i64 19))] K=K (.list 2 (Yd [17,19])):= λK=>B5F 17 19 K;have m1:∀w K,An (rt L (n+2)) EI [W w,.list 2 (Yd [7,18])] H K=K (W (SZ w [7,18])):= λw K=>I? (ks:=[7,18]) (by decide) (by decide) (by omega);have A:∀w K,An (rt L (n+2)) EI [W w,.list 2 (Yd [17,19])] H K=K (W (SZ w [17,19])):= λw K=>I? (ks:=[17,19]) (by decide) (by decide) (by omega);simp(disch:=omega) only[O9,b,i1,i2,m1,A,JF (z:=3) (k:=3) rfl (by decide),JF (z:=10) (k:=10) rfl (by decide),Vc,PI,C1Q,C1P];rw[Ed hr (by omega) rfl rfl rfl,SK,A4X _ c (by omega),Dm,CW (by omega) (by omega),R6];exact ih (i+1) q _ (by omega) (by omega) (AC hr) (Bn d)
  ·rw[C4 (by simp;omega)];have:i=48:=by omega
   subst this;rw[A9O (by rw[R7])] at hr;exact u _ _ hr d
def arr (l:List (BitVec 32)):AV:= .agg (DU l)
def A2X {l:List UInt8} (a:l.length=64) (e:100<L):CS (rt L (n+3)) Ow [WK l] (arr (Nr l 48)):=by
 intro K d;rw[Zr];unfold Oc A0;simp only[BK];rw[B1 (cs:=DU (pad (w16 l 0) 64)) rfl];refine B8f a ?_ L 0 true _ (by omega) (by omega) (Aw (by simp)) (AI Fk);intro q H hr c;refine B8g (n:=n) (l:=l) e ?_ L 0 q H (by omega) (by omega) hr c;intro q H hr c;have a:(DU (Nr l 48)).length=64:=by rw[HR,R7]
 rw[Bu rfl a.symm hr,Cc hr rfl a.symm (YB _),Bu rfl a.symm (AC hr)];exact d _ _ (λb=>⟨false,Lx (KO (λx:BitVec 32=>Value.int .u32 (x.toNat:Int)) _)⟩)
end
section
variable {q q0:Bool} {H H' H0:Hp} {D e0 r r8 s0:Nat} {P:Nat->Prop} {y:Row}
def Wq {b:Bool} {sz s o n:Nat} {e:TypeId} {cs cs':List AV} {q':Bool} (g:Aj H s=some (.cells q e cs)) (hn:o+n*sz<=cs.length) (h:Rr b D ((cs.drop o).take (n*sz)) cs' H q'):Fx b (D+1) (.sl sz s o n) (.list n cs') H true:= λK=>by
 have d:HP b H (D+1) (.sl sz s o n) K=IJ H s λx=>JV x λ_ cs=>E8 (Nat.mul n sz) (Di o cs) λc=>IB (HP b H D) c λ_ a=>K true (.list n a):=rfl;rw[d,Bf g];have f:(JV (.cells q e cs) λ_ cs=>E8 (Nat.mul n sz) (Di o cs) λc=>IB (HP b H D) c λ_ a=>K true (.list n a))=E8 (n*sz) (Di o cs) λc=>IB (HP b H D) c λ_ a=>K true (.list n a):=rfl;rw[f,C6,KA _ _ _ (by simp;omega),h]
def B0W {r o n e:Nat} {cs:List AV} {K:Nat->List AV->Af} (a:Aj H r=some (.cells q e cs)) (hn:o+n<=cs.length):Ta H (.sl 1 r o n) K=K n ((cs.drop o).take n):=by
 have:Ta H (.sl 1 r o n) K=IJ H r λx=>JV x λ_ cs=>E8 (Nat.mul n 1) (Di o cs) λc=>K n c:=rfl;rw[this,Bf a];show E8 (Nat.mul n 1) (Di o cs) (λc=>K n c)=_;have e:Nat.mul n 1=n:=pL n;rw[e,C6,KA _ _ _ (by simp;omega)]
def A3M {n r e:Nat} (a b:Nat) {cs:List AV} {d c:Option AV} {K:AV->Af} (g:∀K:Nat->Af,Xh d 0 K=K a) (f:∀K:Nat->Af,Xh c n K=K b) (j:Aj H r=some (.cells q e cs)) (hn:n<=cs.length) (h1:a<=b) (h2:b<=n):wX n 1 (.ptr r 0 0) d c H K=K (.sl 1 r a (b-a)):=by
 have i:wX n 1 (.ptr r 0 0) d c H K=IJ H r λy=>JV y λ_ cs=>HI cs 0 λcl=>ck (Nat.ble (Nat.add 0 (Nat.mul n 1)) cl) (Xh d 0 λl=>Xh c n λh=>ck (Nat.ble l h&&Nat.ble h n) (fN (Nat.add 0 (Nat.mul l 1)) λk=>fN (Nat.sub h l) λm=>K (.sl 1 r k m))):=rfl;rw[i,Bf j];show HI cs 0 _=_;rw[Co,g,f,DT,DT];have f1:Nat.ble (Nat.add 0 (Nat.mul n 1)) (0+cs.length)=true:=by rw[iS];show 0+n*1<=_;omega
 have f2:(Nat.ble a b&&Nat.ble b n)=true:=by simp only[Kw,iS];omega
 have f3:Nat.add 0 (Nat.mul a 1)=a:=by show 0+a*1=a;omega
 rw[f1,f2,f3];rfl
def B9N {r o n m e:Nat} {cs ys:List AV} {src:AV} {K:KV} (c:∀K:Nat->List AV->Af,Ta H src K=K m ys) (d:ys.length=m) (hm:m<=n) (hn:0<n) (h1:ys.all AV.one=true) (a:Tf 1 src=true) (b:Aj H r=some (.cells q e cs)) (f:o+m<=cs.length):A1I 1 (.sl 1 r o n) src H K=K (I m) (upd H r (.cells q e (splice cs o ys))):=by
 unfold A1I;rw[c,Co];have f1:(Nat.beq (0+ys.length) (Nat.mul m 1)&&(Nat.beq 1 1&&(Nat.blt 0 n&&(Nat.ble m n&&(Nu ys&&Tf 1 src)))))=true:=by
  have:Nat.mul m 1=m:=pL m;rw[FI,h1,a,d,this,JQ,mK];simp only[X',l1g,mK,Kw,Wj,iS];omega
 simp only[f1];show IJ H r _=_;rw[Bf b];show El o ys cs _=_;rw[Il _ _ _ _ (by omega),Dh];rfl
def Lat.upd_new (k:Lat H H' P) (hr:Ao H<=r):Lat H (Go.Abs.upd H' r y) P:=
 ⟨λw=>Bn (k.wf w),by rw[BC];exact k.nx,λw s x a hn=>by rw[Ag (by have:=w.lt a;omega)];exact k.keep w s x a hn⟩
def Lat.new (k:Lat H H' P):Lat H ((Ao H',y)::H') P:=k.trans (Lat.cons H' y P) (λ_ _ h=>h) (λ_ _ h=>h)
def Lat.upd_old (k:Lat H H' P) (hr:P r):Lat H (Go.Abs.upd H' r y) P:=k.trans (Lat.upd H' r y hr) (λ_ _ h=>h) (λ_ _ h=>h)
def Chk (H:Hp) (v:AV) (l:List UInt8):Prop:=v=WK l\/∃r o q e cs,v= .sl 1 r o l.length/\Aj H r=some (.cells q e cs)/\o+l.length<=cs.length/\(cs.drop o).take l.length=Ml l
def B4r {b:Bool} (l:List UInt8):Rr b D (Ml l) (Ml l) H false:=KO (λb:UInt8=>Value.int .u8 (b.toNat:Int)) l
def Chk.fx {v:AV} {l:List UInt8} (h:Chk H v l):∃q,Fx true depth v (WK l) H q:=by
 rcases h with rfl|⟨r,o,q,e,cs,rfl,h1,h2,a⟩
 ·exact⟨_,Of⟩
 ·exact⟨_,Wq h1 (by omega) (by rw[pL,a];exact B4r l)⟩
variable {L n:Nat} {K:KV} {x:Af}
def C47 (s:S8) (k w:BitVec 32):(DU [s.h+SZ s.e [6,11,25]+((s.e&&&s.f)^^^(~~~s.e&&&s.g))+k+w+(SZ s.a [2,13,22]+((s.a&&&s.b)^^^(s.a&&&s.c)^^^(s.b&&&s.c))),s.a,s.b,s.c,s.d+(s.h+SZ s.e [6,11,25]+((s.e&&&s.f)^^^(~~~s.e&&&s.g))+k+w),s.e,s.f,s.g])=DU (rnd s k w).l:=by
 have i:SZ s.e [6,11,25]=KF s.e 6^^^KF s.e 11^^^KF s.e 25:=by simp[SZ]
 have j:SZ s.a [2,13,22]=KF s.a 2^^^KF s.a 13^^^KF s.a 22:=by simp[SZ]
 rw[i,j,A8Z]
def C0i {k:AV->AV->AV->AV->AV->Hp->Af} {ws:List (BitVec 32)} {s0:S8} {r2 r8:Nat} {v0 w5:AV} (aa:ws.length=64) (hL:100<L) (h2:Ao H0<=r2) (R:Ao H0<=r8) (F:r2≠r8)
 (hx:∀A u H,Aj H r8=some (.cells A u (DU (mW ws s0 64).l))->Lat H0 H (λ_=>False)->Wf H->k v0 (.ptr r2 0 0) (.ptr r8 0 0) (arr kk) (I 64) H=x):
 ∀(f i:Nat) (q2:Bool) (Q:Nat) (A:Bool) (u:Nat) (H:Hp),i<=64->64-i<f->Aj H r2=some (.cells q2 Q (DU ws))->Aj H r8=some (.cells A u (DU (mW ws s0 i).l))->Lat H0 H (λ_=>False)->Wf H->
  KG L (rt L (n+2)) K k f v0 (.ptr r2 0 0) (.ptr r8 0 0) (arr kk) (I i) w5 H=x:=by
 intro f
 induction f with
 |zero=>intro i _ _ _ _ H _ h;omega
 |succ f ih=>
  intro i q2 Q A u H hi hf M j J hw;rw[UJ];unfold KI OB A0;rw[Ej,F8];by_cases h:i<64
  ·rw[Dj (by simp;omega)];generalize hs:mW ws s0 i=s at j;have g0:(DU s.l).getD 0 .dk=W s.a:=id rfl;have g1:(DU s.l).getD 1 .dk=W s.b:=id rfl;have g2:(DU s.l).getD 2 .dk=W s.c:=id rfl;have g4:(DU s.l).getD 4 .dk=W s.e:=id rfl;have g5:(DU s.l).getD 5 .dk=W s.f:=id rfl;have g6:(DU s.l).getD 6 .dk=W s.g:=id rfl;have g7:(DU s.l).getD 7 .dk=W s.h:=id rfl;have gw:(DU ws).getD i .dk=W (ws.getD i 0):=Mp (by omega);have i0:= λK=>EJ (t:=AO) (s:=r8) (z:=0) 0 (K:=K) rfl rfl (by decide);have i1:= λK=>EJ (t:=AO) (s:=r8) (z:=1) 1 (K:=K) rfl rfl (by decide);have i2:= λK=>EJ (t:=AO) (s:=r8) (z:=2) 2 (K:=K) rfl rfl (by decide);have i4:= λK=>EJ (t:=AO) (s:=r8) (z:=4) 4 (K:=K) rfl rfl (by decide);have i5:= λK=>EJ (t:=AO) (s:=r8) (z:=5) 5 (K:=K) rfl rfl (by decide);have i6:= λK=>EJ (t:=AO) (s:=r8) (z:=6) 6 (K:=K) rfl rfl (by decide);have i7:= λK=>EJ (t:=AO) (s:=r8) (z:=7) 7 (K:=K) rfl rfl (by decide);have iw:= λK=>EJ (t:=Ck) (s:=r2) (z:=(i:Int)) i (K:=K) rfl rfl h;have l8:(DU s.l).length=8:=rfl;have lw:(DU ws).length=64:=by rw[HR,aa]
   have j1:∀K,Yr 1 Ab 3 [(0,1,.v (.int .i64 6)),(1,1,.v (.int .i64 11)),(2,1,.v (.int .i64 25))] K=K (.list 3 (Yd [6,11,25])):= λK=>B5E 6 11 25 K;have j2:∀K,Yr 1 Ab 3 [(0,1,.v (.int .i64 2)),(1,1,.v (.int .i64 13)),(2,1,.v (.int .i64 22))] K=K (.list 3 (Yd [2,13,22])):= λK=>B5E 2 13 22 K;have m1:∀w K,An (rt L (n+2)) EI [W w,.list 3 (Yd [6,11,25])] H K=K (W (SZ w [6,11,25])):= λw K=>I? (ks:=[6,11,25]) (by decide) (by decide) (by omega);have m2:∀w K,An (rt L (n+2)) EI [W w,.list 3 (Yd [2,13,22])] H K=K (W (SZ w [2,13,22])):= λw K=>I? (ks:=[2,13,22]) (by decide) (by decide) (by omega);have la:= λ(k:Nat) V K=>AP (t:=Ak) (p:=k) (K:=K) rfl j V;have O:= λ(k:Nat) V K=>AP (t:=Ak) (p:=k) (K:=K) rfl M V;have ki:∀K,iA Ck Ak (arr kk) (I i) K=K (W (kk.getD i 0)):= λK=>by
    unfold arr;rw[A5w i rfl rfl rfl h (by rw[HR,A3w];decide),B5J h]
   simp(disch:=omega) only[O9,SK,i0,i1,i2,i4,i5,i6,i7,iw,la,O,g0,g1,g2,g4,g5,g6,g7,gw,ki,j1,j2,m1,m2,Vc,yX,PI,yT];rw[A3M 1 8 (λK=>rfl) (λK=>rfl) j (by omega) (by decide) (by decide),O9,A3M 0 7 (λK=>rfl) (λK=>rfl) j (by omega) (by decide) (by decide),O9];rw[B9N (λK=>B0W j (by omega)) rfl (by decide) (by decide) rfl rfl j (by rw[l8];decide),SK];clear la O j1 j2 m1 m2;have m:=AC (q:=A) (e:=u) (cs:=DU [s.a,s.a,s.b,s.c,s.d,s.e,s.f,s.g]) j;have C:Aj (upd H r8 (.cells A u (DU [s.a,s.a,s.b,s.c,s.d,s.e,s.f,s.g]))) r2=some (.cells q2 Q (DU ws)):=by rw[Ag F];exact M
   have N:=Bn (r:=r8) (y:= .cells A u (DU [s.a,s.a,s.b,s.c,s.d,s.e,s.f,s.g])) hw;have B:=J.upd_new (y:= .cells A u (DU [s.a,s.a,s.b,s.c,s.d,s.e,s.f,s.g])) R;have Y:splice (DU s.l) 1 (((DU s.l).drop 0).take (7-0))=DU [s.a,s.a,s.b,s.c,s.d,s.e,s.f,s.g]:=id rfl;rw[Y];generalize upd H r8 (.cells A u (DU [s.a,s.a,s.b,s.c,s.d,s.e,s.f,s.g]))=H3 at m C N B;rw[AP rfl m (by show 4<8;decide)];have g3:(DU [s.a,s.a,s.b,s.c,s.d,s.e,s.f,s.g]).getD 4 .dk=W s.d:=id rfl;rw[g3,PI,Ed m (by show 0<8;decide) rfl rfl rfl,Ed (AC m) (by rw[List.length_set];show 4<8;decide) rfl rfl rfl,Dm,CW (by omega) (by omega),R6];have X:mW ws s0 (i+1)=rnd s (kk.getD i 0) (ws.getD i 0):=by rw[<-hs];rfl
   have Z:∀a d:BitVec 32,((DU [s.a,s.a,s.b,s.c,s.d,s.e,s.f,s.g]).set 0 (W a)).set 4 (W d)=DU [a,s.a,s.b,s.c,d,s.e,s.f,s.g]:= λ_ _=>id rfl;refine ih (i+1) q2 Q A u _ (by omega) (by omega) ?_ ?_ ((B.upd_new R).upd_new R) (Bn (Bn N))
   ·rw[Ag F,Ag F];exact C
   ·rw[X,<-C47,<-Z];exact AC (AC m)
  ·rw[C4 (by simp;omega)];have:i=64:=by omega
   subst this;exact hx _ _ _ j J hw
def C0j {k:Hp->Af} {a b:List (BitVec 32)} {Q R V:AV} (C:a.length=8) (hb:b.length=8) (j:s0≠r8)
 (J:∀H,Aj H s0=some (.cells q0 e0 (DU (iM a b 8)))->Lat H0 H (λt=>t=s0)->Wf H->k H=x):
 ∀(f i:Nat) (v:Bool) (g:Nat) (H:Hp),i<=8->8-i<f->Aj H s0=some (.cells q0 e0 (DU (iM a b i++a.drop i)))->Aj H r8=some (.cells v g (DU b))->Lat H0 H (λt=>t=s0)->Wf H->
  KH L (rt L n) K k f (.ptr s0 0 0) Q (.ptr r8 0 0) R V (I i) H=x:=by
 intro f
 induction f with
 |zero=>intro i _ _ H _ h;omega
 |succ f ih=>
  intro i v g H Y X c e d w;rw[UK];unfold KJ OB A0;rw[Ej,F8];by_cases h:i<8
  ·rw[Dj (by simp;omega)];have m:(DU (iM a b i++a.drop i)).length=8:=by rw[HR,EY,SQ,l0u,C];omega
   have F:(DU b).length=8:=by rw[HR,hb]
   have A:(DU (iM a b i++a.drop i)).getD i .dk=W (a.getD i 0):=by
    rw[Mp (by rw[HR] at m;omega)]
    congr 1
    rw[Vl,Vl,l0o (by rw[SQ];omega),SQ,Nat.sub_self,tH,Nat.add_zero]
   have B:(DU b).getD i .dk=W (b.getD i 0):=Mp (by omega);have ia:= λK=>EJ (t:=AO) (s:=s0) (z:=(i:Int)) i (K:=K) rfl rfl h;have M:= λK=>EJ (t:=AO) (s:=r8) (z:=(i:Int)) i (K:=K) rfl rfl h;have N:= λK=>AP (t:=Ak) (p:=i) (K:=K) rfl c (by omega);have O:= λK=>AP (t:=Ak) (p:=i) (K:=K) rfl e (by omega);simp only[It,O9,ia,M,N,O,A,B,PI];rw[Ed c (by omega) rfl rfl rfl,SK,Dm,CW (by omega) (by omega),R6];have u:(DU (iM a b i++a.drop i)).set i (W (a.getD i 0+b.getD i 0))=DU (iM a b (i+1)++a.drop (i+1)):=by
    rw[zH,dW];have:a.drop i=a.getD i 0::a.drop (i+1):=by rw[vA (by omega),Vl,K9 (by omega)];rfl
    rw[this];unfold DU;rw[YN,YN,List.set_append_right _ _ (by rw[QI,SQ];omega),QI,SQ,Nat.sub_self];rfl
   refine ih (i+1) v g _ (by omega) (by omega) ?_ ?_ (d.upd_old rfl) (Bn w)
   ·rw[<-u];exact AC c
   ·rw[Ag (Ne.symm j)];exact e
  ·rw[C4 (by simp;omega)];have:i=8:=by omega
   subst this;rw[List.drop_of_length_le (by omega),Wi] at c;exact J _ c d w
def C36 {s:S8} {l:List UInt8} {c:AV} (hl:l.length=64) (Y:100<L) (O:Wf H) (hr:Aj H s0=some (.cells q0 e0 (DU s.l))) (hc:Chk H c l)
 (hx:∀H',Aj H' s0=some (.cells q0 e0 (DU (blk s l).l))->Lat H H' (λt=>t=s0)->Wf H'->K (.tup []) H'=x):(rt L (n+4)).call Lz [.ptr s0 0 0,c] H K=x:=by
 rw[VU];unfold Lr A0;simp only[BK];obtain⟨q,hq⟩:=hc.fx;rw[AQ (A2X (n:=n) hl Y) (Am hq AJ)];have h0:=O.lt hr;rw[B1 (cs:=DU (List.replicate 64 0)) rfl];unfold arr;have v:=Aw (H:=H) (x:= .cells true De (DU (List.replicate 64 0))) (by simp);rw[Cc v (by rw[HR,HR,R7];rfl) (by rw[HR];rfl) (YB _),It];have k:=AC (q:=true) (e:=De) (cs:=DU (Nr l 48)) v;have m:Aj (upd ((Ao H,c_ De (DU (List.replicate 64 0)))::H) (Ao H) (c_ De (DU (Nr l 48)))) s0=some (.cells q0 e0 (DU s.l)):=by
  rw[Ag (by omega)];exact A4 h0 hr
 have g:=Bn (r:=Ao H) (y:= .cells true De (DU (Nr l 48))) (AI (x:= .cells true De (DU (List.replicate 64 0))) O);have i:=((Lat.refl H (λ_=>False)).new (y:= .cells true De (DU (List.replicate 64 0)))).upd_new (r:=Ao H) (y:= .cells true De (DU (Nr l 48))) (Mb _);generalize upd ((Ao H,c_ De (DU (List.replicate 64 0)))::H) (Ao H) (c_ De (DU (Nr l 48)))=f at k m g i;rw[Bu rfl rfl m,B1 (cs:=DU (List.replicate 8 0)) rfl];have A:=Aw (H:=f) (x:= .cells true BH (DU (List.replicate 8 0))) (by simp);rw[Cc (vs:=DU s.l) A rfl rfl (YB _)];have p:=g.lt k;have X:=g.lt m;have B:=AC (q:=true) (e:=BH) (cs:=DU s.l) A;have F:Aj (upd ((Ao f,c_ BH (DU (List.replicate 8 0)))::f) (Ao f) (c_ BH (DU s.l))) (Ao H)=some (c_ De (DU (Nr l 48))):=by
  rw[Ag (by omega)];exact A4 p k
 have J:=Bn (r:=Ao f) (y:= .cells true BH (DU s.l)) (AI (x:= .cells true BH (DU (List.replicate 8 0))) g);have j:=(i.new (y:= .cells true BH (DU (List.replicate 8 0)))).upd_new (r:=Ao f) (y:= .cells true BH (DU s.l)) (by omega);generalize upd ((Ao f,c_ BH (DU (List.replicate 8 0)))::f) (Ao f) (c_ BH (DU s.l))=V at B F J j;have hg:∀K:AV->Af,AF Ck (AV.iptr gl0) V K=K (arr kk):= λK=>by kernel_rfl
 rw[hg];refine C0i (n:=n+1) (ws:=Nr l 48) (s0:=s) (H0:=H) (by rw[R7]) Y (Mb _) (by omega) (by omega) ?_ L 0 true _ true _ V (by omega) (by omega) F B j J;intro q8 e8 Z N d Q;have C:=d.keep O s0 _ hr (λh=>h);refine C0j (a:=s.l) (b:=(mW (Nr l 48) s 64).l) (H0:=H) rfl rfl (by omega) ?_ L 0 q8 e8 Z (by omega) (by omega) C N ⟨d.wf,d.nx,λw t x ht _=>d.keep w t x ht (λh=>h)⟩ Q;intro H6 M u R;exact hx H6 M u R
end
section
variable {q:Bool} {e r:Nat} {s:S8}
def nS (l:List UInt8) (n:Nat):List UInt8:=l++List.replicate (n-l.length) 0
def A9Q {l:List UInt8} {n:Nat} (h:l.length<=n):(nS l n).length=n:=by simp[nS];omega
def A9P {l:List UInt8} {n k:Nat} (w:UInt8) (a:l.length=k) (h:k<n):(Ml (nS l n)).set k (By w)=Ml (nS (l++[w]) n):=by
 subst a;have e:n-l.length=(n-(l.length+1))+1:=by omega
 simp[nS,Ml,e,l1c,List.set_append_right]
def A6B {l:List UInt8} {n:Nat} (h:l.length=n):nS l n=l:=by simp[nS,h]
def B2j (w:BitVec 32) {j:Nat} (h:j<4):(wb w).take (j+1)=(wb w).take j++[UInt8.ofNat (w>>>(24-8*j)).toNat]:=by
 have:j=0\/j=1\/j=2\/j=3:=by omega
 rcases this with rfl|rfl|rfl|rfl<;>simp[wb,BitVec.toNat_ushiftRight,Nat.shiftRight_eq_div_pow]
def B6d (w:BitVec 32):(wb w).length=4:=rfl
variable {L n:Nat} {K:KV} {x:Af}
def B9Q {k:AV->AV->AV->AV->AV->AV->Hp->Af} {w:BitVec 32} {b:List UInt8} {i r e:Nat} {a c:AV} (u:i<8) (hb:b.length=4*i)
 (p:∀H,Aj H r=some (.cells q e (Ml (nS (b++wb w) 32)))->k (.ptr r 0 0) (I i) (W w) a c (I 4) H=x):
 ∀(f j:Nat) (H:Hp),j<=4->4-j<f->Aj H r=some (.cells q e (Ml (nS (b++(wb w).take j) 32)))->Kr L (rt L n) K k f (.ptr r 0 0) (I i) (W w) a c (I j) H=x:=by
 intro f
 induction f with
 |zero=>intro j H _ h;omega
 |succ f ih=>
  intro j H v t hr;rw[Uk];unfold Kt A0;rw[Ej,F8];by_cases h:j<4
  ·rw[Dj (by simp;omega)];have d:(4:Int)*(i:Int)+(j:Int)=((4*i+j:Nat):Int):=by omega
   have g:(24:Int)-8*(j:Int)=((24-8*j:Nat):Int):=by omega
   simp(disch:=omega) only[Qm,Dm,K7,CW,d,g,yV,JF (z:=((24-8*j:Nat):Int)) (k:=24-8*j) rfl (by omega)];have m:(b++(wb w).take j).length=4*i+j:=by rw[EY,hb,l0h,B6d];omega
   rw[EJ (4*i+j) rfl rfl (by omega),Ed hr (by rw[PW,A9Q (by omega)];omega) rfl rfl rfl,A9P _ m (by omega),dW,<-B2j w h,R6];exact ih (j+1) _ (by omega) (by omega) (AC hr)
  ·rw[C4 (by simp;omega)];have:j=4:=by omega
   subst this;exact p _ hr
def B9R {k:AV->Hp->Af} {w0 w1 w5:AV} (c:10<L) (a:∀H,Aj H r=some (.cells q e (Ml (XJ s.l 8)))->k (.ptr r 0 0) H=x):
 ∀(f i:Nat) (w0 w1 w5:AV) (H:Hp),i<=8->8-i<f->Aj H r=some (.cells q e (Ml (nS (XJ s.l i) 32)))->Ks L (rt L n) K k f (.ptr r 0 0) w0 w1 (arr s.l) (I i) w5 H=x:=by
 intro f
 induction f with
 |zero=>intro i _ _ _ H _ h;omega
 |succ f ih=>
  intro i w0 w1 w5 H g d hr;rw[Ul];unfold Ku A0;rw[Ej,F8];by_cases h:i<8
  ·rw[Dj (by simp;omega)];simp only[BK];unfold arr;rw[A5w i rfl rfl rfl h (by show 8<=8;decide),Mp (show i<s.l.length from h)];refine B9Q (b:=XJ s.l i) h (XI _ _) ?_ L 0 H (by omega) (by omega) (by simpa using hr);intro H hr;rw[Dm,CW (by omega) (by omega),R6];exact ih (i+1) _ _ _ H (by omega) (by omega) hr
  ·rw[C4 (by simp;omega)];have:i=8:=by omega
   subst this;rw[A6B (XI _ _)] at hr;exact a _ hr
def A8V (d:10<L):CS (rt L (n+1)) GK [arr s.l] (S (XJ s.l 8)):=by
 intro K c;rw[US];unfold KN A0;simp only[BK];unfold arr;rw[Ei (YB _),B1 (cs:=Ml (nS (XJ s.l 0) 32)) rfl];have a:Aj ((Ao [(Ao [],c_ BH (DU s.l))],c_ Vt (Ml (nS (XJ s.l 0) 32)))::[(Ao [],c_ BH (DU s.l))]) (Ao [])=some (c_ BH (DU s.l)):=id rfl;rw[Bu rfl rfl a];refine B9R (w0:= .dk) (w1:= .dk) (w5:= .dk) d ?_ L 0 _ _ _ _ (by omega) (by omega) (Aw (by simp));intro H hr;have f:(Ml (XJ s.l 8)).length=32:=by rw[PW,XI]
 rw[A3M 0 32 (λK=>rfl) (λK=>rfl) hr (by omega) (by decide) (by decide),A5x (e:=Vt) (.inr ⟨_,_,rfl,hr,by omega⟩)];exact c _ _ (λb=>⟨false,C7⟩)
end
section
variable {q0:Bool} {H:Hp} {e0:Nat} {t:TI}
def A75 {e r o m:Nat} {x y z:Int} (a b c:Nat) {K:AV->Af} (f:t.d= .slice e 1) (i:x=a) (j:y=b) (hz:z=c) (h1:a<=b) (h2:b<=c) (p:c<=m):Ee t (.sl 1 r o m) (some (I x)) (some (I y)) (some (I z)) K=K (.sl 1 r (o+a) (b-a)):=by
 subst i j hz;have g:Ee t (.sl 1 r o m) (some (I a)) (some (I b)) (some (I c)) K=iN (a:Int) λl=>iN (b:Int) λh=>iN (c:Int) λx=>ck (Nat.ble l h&&(Nat.ble h x&&Nat.ble x m)) (fN (Nat.add o (Nat.mul l 1)) λk=>fN (Nat.sub h l) λn=>K (.sl 1 r k n)):=by
  obtain⟨_,_,d,z⟩:=t;simp only at f;subst f;rfl
 rw[g,JW,JW,JW];have f1:(Nat.ble a b&&(Nat.ble b c&&Nat.ble c m))=true:=by simp only[Kw,iS];omega
 have f2:Nat.add o (Nat.mul a 1)=o+a:=by show o+a*1=_;omega
 rw[f1,f2,DT,DT];rfl
def A3K {e r o m:Nat} {x:Int} (a:Nat) {K:AV->Af} (b:t.d= .slice e 1) (f:x=a) (h1:a<=m):Ee t (.sl 1 r o m) (some (I x)) none none K=K (.sl 1 r (o+a) (m-a)):=by
 subst f;have c:Ee t (.sl 1 r o m) (some (I a)) none none K=iN (a:Int) λl=>fN m λh=>fN m λx=>ck (Nat.ble l h&&(Nat.ble h x&&Nat.ble x m)) (fN (Nat.add o (Nat.mul l 1)) λg=>fN (Nat.sub h l) λn=>K (.sl 1 r g n)):=by
  obtain⟨_,_,d,z⟩:=t;simp only at b;subst b;rfl
 rw[c,JW,DT,DT];have f1:(Nat.ble a m&&(Nat.ble m m&&Nat.ble m m))=true:=by simp only[Kw,iS];omega
 have f2:Nat.add o (Nat.mul a 1)=o+a:=by show o+a*1=_;omega
 rw[f1,f2,DT,DT];rfl
def B0Z {x y:Int} (h:x<=y) {K:AV->Af}:eMM true (I x) (I y) K=K (I x):=by
 have:eMM true (I x) (I y) K=ck (decide (IntKind.i64=IntKind.i64)) (@Bool.rec (λ_=>Af) (K (I y)) (K (I x)) (oR x y)):=rfl;rw[this,Lw,Iu h];rfl
def B4T {ty sz r o m:Nat} {K:KV}:Ho ty (.sl sz r o m) H K=K (.ptr (Ao H) 0 0) ((Ao H,c_ ty [.sl sz r o m])::H):=by
 unfold Ho;rw[CI,FI,BV];rfl
def En {b:Bool} {K:AV->Af}:Mg .not (Bo b) K=K (Bo (!b)):=by cases b<;>rfl
variable {L n:Nat} {K:KV} {x:Af}
def lpS (a c2 c3 c4 c5 c6 S' Z' Y_:AV) (p:Option (Option Code)):Row:= .loop 40 [(0,a),(2,c2),(3,c3),(4,c4),(5,c5),(6,c6),(34,S'),(35,Z'),(36,Y_)] (F5).2.1 (F5).2.2.1 (F5).2.2.2 p
def B3m {b c2 c4 c5 c6 S' Z' Y_ c:AV} {s r0:Nat} {t:S8} {l:List UInt8} (J:l.length=64) (D:100<L) (N:Wf H) (hr:Aj H r0=some (.cells q0 e0 (DU t.l))) (hc:Chk H c l) (p:Aj H s=some (lpS b c2 (.ptr r0 0 0) c4 c5 c6 S' Z' Y_ (some none))) (k:∀w,A8 c w->w≠s) (d:r0≠s)
 (O:∀a,Aj a r0=some (.cells q0 e0 (DU (blk t l).l))->Aj a s=some (lpS b c2 (.ptr r0 0 0) c4 c5 c6 S' Z' Y_ (some none))->(∀u y,Aj H u=some y->u≠r0->u≠s->Aj a u=some y)->Wf a->K (Bo true) a=x):
 Cr (E L) (rt L (n+5)) (.yl s) [c] H K=x:=by
 show Nz (rt L (n+5)) s [c] H K=x;rw[OT p (by kernel_rfl)];have i:(rt L (n+5)).run= λA=>OG (E L) (rt L (n+4)) A:=rfl;rw[i,nN,Pb p];have g:=Bn (r:=s) (y:=lpS b c2 (.ptr r0 0 0) c4 c5 c6 S' Z' Y_ none) N;have m:Aj (upd H s (lpS b c2 (.ptr r0 0 0) c4 c5 c6 S' Z' Y_ none)) r0=some (.cells q0 e0 (DU t.l)):=by rw[Ag d];exact hr
 have v:Aj (upd H s (lpS b c2 (.ptr r0 0 0) c4 c5 c6 S' Z' Y_ none)) s=some (lpS b c2 (.ptr r0 0 0) c4 c5 c6 S' Z' Y_ none):=XA1 p;have j:Chk (upd H s (lpS b c2 (.ptr r0 0 0) c4 c5 c6 S' Z' Y_ none)) c l:=by
  rcases hc with h|⟨r,o,q,e,cs,h1,h2,B,C⟩
  ·exact .inl h
  ·refine .inr ⟨r,o,q,e,cs,h1,?_,B,C⟩;rw[Ag (k r ⟨_,_,_,h1⟩)];exact h2
 refine C36 J D g m j ?_;intro a F hb hc;have f:=hb.keep g s _ v (λh=>d h.symm);show E2 a s false (some none) _=_;unfold lpS at f;rw[OZ f];refine O _ ?_ (XA1 f) ?_ (Bn hc)
 ·rw[Ag d];exact F
 ·intro u y M h1 h2;rw[Ag h2];refine hb.keep g u y ?_ h1;rw[Ag h2];exact M
def B9y {k:Hp->Af} {w c2 c4 c5 c6 S' Z' Y_:AV} {s r0 r1 r2 rm m O P em:Nat} {q0 q1 q2 M:Bool} {l:List UInt8} (X:100<L) (hm:l.length=64*m) (hl:l.length<200000000000)
 (N:r0≠s) (d1:r1≠s) (d2:r2≠s) (y:rm≠s) (d:r1≠r0) (a:r2≠r0) (e:rm≠r0)
 (Y:∀H,Aj H r0=some (.cells q0 e0 (DU (dN l m).l))->Aj H s=some (lpS w c2 (.ptr r0 0 0) c4 c5 c6 S' Z' Y_ (some none))->Wf H->k H=x):
 ∀(f i:Nat) (H:Hp),i<=m->m-i<f->Aj H r0=some (.cells q0 e0 (DU (dN l i).l))->Aj H s=some (lpS w c2 (.ptr r0 0 0) c4 c5 c6 S' Z' Y_ (some none))->
  Aj H r1=some (.cells q1 O [.sl 1 rm 0 l.length])->Aj H r2=some (.cells q2 P [I 64])->Aj H rm=some (.cells M em (Ml l))->Wf H->
  FM L (rt L (n+5)) K k f (.yl s) (.ptr r1 0 0) (.ptr r2 0 0) (I ((64*i:Nat):Int)) H=x:=by
 intro f
 induction f with
 |zero=>intro i H _ h;omega
 |succ f ih=>
  intro i H hi hf B C h1 h2 b D;rw[Mt];unfold FN;have F:∀K,AF AU (.ptr r1 0 0) H K=K (.sl 1 rm 0 l.length):= λK=>AP (p:=0) rfl h1 (by simp);have Z:∀K,AF Ab (.ptr r2 0 0) H K=K (I 64):= λK=>AP (p:=0) rfl h2 (by decide);have J:∀k o K,Bq AU (.sl 1 rm o k) K=K (I k):= λ_ _ _=>id rfl;rw[F,J,Ej,F8];by_cases h:i<m
  ·rw[Dj (by simp;omega)];have Q:∀K,Ee AU (.sl 1 rm 0 l.length) (some (I ((64*i:Nat):Int))) none none K=K (.sl 1 rm (0+64*i) (l.length-64*i)):= λK=>A3K _ rfl rfl (by omega);have A:((64*i:Nat):Int)+64=((64*(i+1):Nat):Int):=by omega
   have R:∀K,Ee AU (.sl 1 rm 0 l.length) (some (I ((64*i:Nat):Int))) (some (I ((64*(i+1):Nat):Int))) (some (I ((64*(i+1):Nat):Int))) K=K (.sl 1 rm (0+64*i) (64*(i+1)-64*i)):= λK=>A75 _ _ _ rfl rfl rfl rfl (by omega) (by omega) (by omega);have V:64*(i+1)-64*i=64:=by omega
   simp(disch:=omega) only[O9,F,Z,Q,J,B0Z,Dm,CW,A,R,V,JQ];refine B3m (l:=(l.drop (64*i)).take 64) (by simp;omega) X D B (.inr ⟨rm,64*i,M,em,Ml l,?_,b,?_,?_⟩) C ?_ N ?_
   ·have:((l.drop (64*i)).take 64).length=64:=by simp;omega
    rw[this]
   ·have:((l.drop (64*i)).take 64).length=64:=by simp;omega
    rw[this,PW];omega
   ·have:((l.drop (64*i)).take 64).length=64:=by simp;omega
    rw[this];unfold Ml;rw[List.map_take,List.map_drop]
   ·rintro s' ⟨_,_,_,j⟩;injection j with _ j
    subst j;exact y
   ·intro v g q c r;have u:∀K,AF Ab (.ptr r2 0 0) v K=K (I 64):= λK=>AP (p:=0) rfl (c r2 _ h2 a d2) (by decide);rw[En,F8,C4 (by simp),u,Dm,CW (by omega) (by omega),A];exact ih (i+1) v (by omega) (by omega) g q (c r1 _ h1 d d1) (c r2 _ h2 a d2) (c rm _ b e y) r
  ·rw[C4 (by simp;omega)];have:i=m:=by omega
   subst this;exact Y _ B C D
end
section
variable {k:AV->AV->AV->AV->AV->AV->AV->AV->Hp->Af} {H:Hp} {s:List UInt8} {y:Row}
variable {L n:Nat} {K:KV} {x:Af}
def B1L {v:AV} {l:List UInt8} {r0:Nat} (b:UInt8) (h:B2 H Bt 1 v l.length (Ml l)) (w:Wf H) (hn:l.length<1000000000000) (d:Aj H r0=some y) (j:¬A8 v r0):
 ∃c a,(∀K:KV,(Hf Bt 1 Bi 1 [(0,1,By b)] H λv1 e=>E9 Bt 1 Bi AU v v1 e K)=K c a)/\B2 a Bt 1 c (l++[b]).length (Ml (l++[b]))/\Wf a/\Aj a r0=some y/\¬A8 c r0:=by
 obtain⟨c,a,h1,h2,f,p,g,i⟩:=B1M b h w hn;exact⟨c,a,h1,h2,f,g r0 y d j,λm=>by have:=i r0 m;have:=w.lt d;omega⟩
def C1f {r0:Nat} {w0 w1 g D w5 i m p:AV} (J:s.length<100000000000) (B:∀v H,B2 H Bt 1 v (pre s).length (Ml (pre s))->Wf H->Aj H r0=some y->¬A8 v r0->k w0 w1 g v w5 i m p H=x):
 ∀(f j:Nat) (v:AV) (H:Hp),j<=dZ s.length->dZ s.length-j<f->B2 H Bt 1 v (s++[128]++List.replicate j 0).length (Ml (s++[128]++List.replicate j 0))->Wf H->Aj H r0=some y->¬A8 v r0->
  Um L (rt L n) K k f w0 w1 g v D w5 i m p H=x:=by
 intro f
 induction f with
 |zero=>intro j v H _ h;omega
 |succ f ih=>
  intro j v H w F hv d b c;rw[oU];unfold Un A0;have a:(s++[128]++List.replicate j (0:UInt8)).length=s.length+1+j:=by simp;omega
  have hz:dZ s.length<64:=by unfold dZ;omega
  rw[Lb rfl hv,Vd (by decide),IS,F8];have hm:((s++[128]++List.replicate j (0:UInt8)).length:Int).tmod 64=(((s.length+1+j)%64:Nat):Int):=by rw[a];exact(Int.ofNat_tmod _ _).symm
  rw[hm];by_cases h:j=dZ s.length
  ·subst h;have:(s.length+1+dZ s.length)%64=56:=by unfold dZ;omega
   rw[this];simp only[X!,decide_eq_false_iff_not];rw[C4 (by simp)];exact B _ _ hv d b c
  ·have A:(s.length+1+j)%64≠56:=by unfold dZ at h w;omega
   rw[Dj (by simp;omega)];obtain⟨C,q,h1,h2,r,t,u⟩:=B1L (0:UInt8) hv d (by omega) b c;have e:(AV.v (.int .u8 0))=By 0:=rfl;rw[e];rw[h1];refine ih (j+1) C q (by omega) (by omega) ?_ r t u;rw[List.replicate_succ',<-dW];exact h2
def C1g {r0:Nat} {w1 d w5 q e g:AV} (P:s.length<100000000000) (J:∀v w H,B2 H Bt 1 v (ext s).length (Ml (ext s))->Wf H->Aj H r0=some y->¬A8 v r0->k (S s) w1 d v w w5 e g H=x):
 ∀(f i:Nat) (l:List UInt8) (v:AV) (H:Hp),i<=8->i<f->l++Xw s.length i=ext s->B2 H Bt 1 v l.length (Ml l)->Wf H->Aj H r0=some y->¬A8 v r0->
  PR L (rt L n) K k f (S s) w1 d v (I ((i:Int)-1)) w5 q e g H=x:=by
 have hz:dZ s.length<64:=by unfold dZ;omega
 intro f
 induction f with
 |zero=>intro i l v H _ h;omega
 |succ f ih=>
  intro i l v H O N b hv p j m;have F:l.length<=s.length+1+64+8:=by
   have:=congrArg List.length b;simp[ext,pre,xM] at this;omega
  rw[oV];unfold Uo A0;rw[L7,F8];cases i with
  |zero=>
   rw[C4 (by simp)];have:l=ext s:=by simpa [Xw] using b
   subst this;exact J _ _ _ hv p j m
  |succ i=>
   rw[Dj (by simp)];have t:((i+1:Nat):Int)-1=(i:Int):=by omega
   rw[t];rw[PG rfl,Qm,Qm,CW (by omega) (by omega),CW (by omega) (by omega)];have u:(8:Int)*(s.length:Int)=((8*s.length:Nat):Int):=by omega
   have A:(8:Int)*(i:Int)=((8*i:Nat):Int):=by omega
   rw[u,A,uC (by omega)];rw[A1J rfl];obtain⟨M,r,h1,h2,B,C,D⟩:=B1L (dA s.length i) hv p (by omega) j m;simp(disch:=omega) only[K7,CW];have h1:=h1 (λc a=>PR L (rt L n) K k f (S s) w1 d c (I ((i:Int)-1)) w5 q e g a);unfold dA at h1;rw[h1];refine ih i (l++[dA s.length i]) M r (by omega) (by omega) ?_ h2 B C D;rw[dW];exact b
def A4Q {R:Rt} {N g:Nat} {cap:List AV} {t:Tm} {ps:Array Tmp} {b d:Code} {K:Option (Option Code)->Hp->Af}:mV R N (.fn (.func g) [] cap) t ps b d H K=R.call g (.yl (Ao H)::cap) ((Ao H,.loop N t ps b d (some none))::H) λ_ c=>IJ c (Ao H) λx=>Z6 x λ_ _ _ _ _ a=>LC c (Ao H) .gone λf=>K a f:=by
 have e:mV R N (.fn (.func g) [] cap) t ps b d H K=Ig H λs=>R.call g (.yl s::cap) ((s,.loop N t ps b d (some none))::H) λ_ c=>IJ c s λx=>Z6 x λ_ _ _ _ _ a=>LC c s .gone λf=>K a f:=rfl;rw[e,BV]
def C1l (hs:s.length<100000000000) (hL:s.length+200<L):CS (rt L (n+8)) Ww [S s] (S (sha s)):=by
 intro K hK;rw[sY];unfold Wa A0;simp only[BK];have X:∀K:AV->Af,BZ AO [(0,1,(AV.v (.int .u32 1779033703))),(1,1,(AV.v (.int .u32 3144134277))),(2,1,(AV.v (.int .u32 1013904242))),(3,1,(AV.v (.int .u32 2773480762))),(4,1,(AV.v (.int .u32 1359893119))),(5,1,(AV.v (.int .u32 2600822924))),(6,1,(AV.v (.int .u32 528734635))),(7,1,(AV.v (.int .u32 1541459225)))] K=K (.agg (DU iv.l)):= λK=>by kernel_rfl
 rw[X,B1 (cs:=DU (List.replicate 8 0)) rfl];have O:=Aw (H:=[]) (x:= .cells true BH (DU (List.replicate 8 0))) (by simp);rw[Cc (vs:=DU iv.l) O rfl rfl (YB _)];have B:=AC (q:=true) (e:=BH) (cs:=DU iv.l) O;have J:=Bn (r:=Ao []) (y:= .cells true BH (DU iv.l)) (AI (x:= .cells true BH (DU (List.replicate 8 0))) Fk);generalize upd ((Ao [],c_ BH (DU (List.replicate 8 0)))::[]) (Ao []) (c_ BH (DU iv.l))=t at B J;have P:∀K:KV,A1y Bt (S s) t K=K (.sl 1 (Ao t) 0 s.length) ((Ao t,.cells false Bt (Ml s))::t):= λK=>by
  have e:A1y Bt (S s) t K=HI s 0 λn=>dJ s λcs=>Ig t λr=>K (.sl 1 r 0 n) ((r,.cells false Bt cs)::t):=rfl;rw[e,Co,YQ,BV,JQ];rfl
 rw[P];have Y:=J.lt B;have Z:=A4 (x:= .cells false Bt (Ml s)) Y B;have ad:=AI (x:= .cells false Bt (Ml s)) J;have ac:=N9 (H:=t) (e:=Bt) (n:=s.length) (cs:=Ml s) (PW s);have e:(AV.v (.int .u8 128))=By 128:=rfl;obtain⟨v',H',h1,h2,h3,h4,h5⟩:=B1L (128:UInt8) ac ad (by omega) Z (λ⟨_,_,_,hh⟩=>by injection hh with _ hh;omega);rw[e,h1];have hz:dZ s.length<64:=by unfold dZ;omega
 refine C1f hs ?_ L 0 v' H' (by omega) (by omega) (by simpa using h2) h3 h4 h5;intro v H hv F hr R;refine C1g hs ?_ L 8 (pre s) v H (by omega) (by omega) rfl hv F hr R;intro v w H hv F hr R;obtain⟨m,hm,af⟩:=A5r s;rcases hv with⟨_,h,_⟩|⟨rm,qm,rfl,D,ae⟩
 ·simp[ext] at h
 have V:rm≠Ao []:= λh=>R ⟨_,_,_,by rw[h]⟩;rw[PZ];unfold Iy A0;simp only[BK];rw[B4T,lQ rfl];have j:=A4 (x:= .cells true OW [.sl 1 rm 0 (ext s).length]) (F.lt hr) hr;have c:=A4 (x:= .cells true OW [.sl 1 rm 0 (ext s).length]) (F.lt D) D;have g:=Aw (H:=H) (x:= .cells true OW [.sl 1 rm 0 (ext s).length]) (by simp);have a:=AI (x:= .cells true OW [.sl 1 rm 0 (ext s).length]) F;have a1:=F.lt hr;have a2:=F.lt D;have a3:=a.lt g;generalize ((Ao H,c_ OW [.sl 1 rm 0 (ext s).length])::H)=N at j c g a a3;have C:=A4 (x:= .cells true GZ [I 64]) (a.lt j) j;have f:=A4 (x:= .cells true GZ [I 64]) (a.lt c) c;have A:=A4 (x:= .cells true GZ [I 64]) (a.lt g) g;have i:=Aw (H:=N) (x:= .cells true GZ [I 64]) (by simp);have d:=AI (x:= .cells true GZ [I 64]) a;have a4:=a.lt j;have a5:=a.lt c;have a6:=d.lt i;generalize ((Ao N,c_ GZ [I 64])::N)=u at C f A i d a6;have l2:∀K,AF Ab (.ptr (Ao N) 0 0) u K=K (I 64):= λK=>AP (p:=0) rfl i (by decide);rw[l2,Ej,F8,C4 (by decide),A4Q,MU];unfold Gc A0;simp only[BK];have a7:=d.lt C;have a8:=d.lt f;have a9:=d.lt A;refine B9y (n:=n+1) (m:=m) (l:=ext s) (s:=Ao u) (r0:=Ao []) (r1:=Ao H) (r2:=Ao N) (rm:=rm) (by omega) hm (by omega) (by omega) (by omega) (by omega) (by omega) (by omega) (by omega) V ?_ L 0 _ (by omega) (by omega) (A4 a7 C) (Aw (x:=lpS (S s) (AV.v (.string ⟨⟨[]⟩⟩)) (.ptr (Ao []) 0 0) (.sl 1 rm 0 (ext s).length) _ _ _ _ _ (some none)) (by simp[lpS])) (A4 a9 A) (A4 a6 i) (A4 a8 f) (AI d);intro M h0 aa ag;rw[Bf aa];show LC M (Ao u) .gone _=_;rw[Dh];show AF AO (.ptr (Ao []) 0 0) (upd M (Ao u) .gone) _=_;have Q:Aj (upd M (Ao u) .gone) (Ao [])=some (c_ BH (DU (dN (ext s) m).l)):=by rw[Ag (by omega)];exact h0
 rw[Bu rfl rfl Q];have ab:∀K,An (rt L (n+7)) GK [.agg (DU (dN (ext s) m).l)] (upd M (Ao u) .gone) K=K (S (XJ (dN (ext s) m).l 8)):= λK=>AQ (A8V (L:=L) (n:=n+6) (by omega)) (Am (Lx (KO (λx:BitVec 32=>Value.int .u32 (x.toNat:Int)) _)) AJ);show An (rt L (n+7)) GK [.agg (DU (dN (ext s) m).l)] (upd M (Ao u) .gone) _=_;rw[ab];have e:XJ (dN (ext s) m).l 8=sha s:=by
  unfold sha;have:(ext s).length/64=m:=by omega
  rw[this]
 rw[e];exact hK _ _ (λb=>⟨false,C7⟩)
end
end Go.Abs
end
