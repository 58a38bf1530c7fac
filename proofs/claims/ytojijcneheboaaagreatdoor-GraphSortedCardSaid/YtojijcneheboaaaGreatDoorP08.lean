import Derived.Test.YtojijcneheboaaaGreatDoorP07
set_option linter.all false
set_option maxHeartbeats 0
noncomputable section
namespace Go.Abs
open Go.RowKit Go.Proofs
set_option maxRecDepth 100000
section
variable{v w:AV}{K:K2}{x:Af}{H:Hp}{s:Ha}{L e n:Nat}{R:Rt}{t t':TI}
def B8i{l:Ha}{i:Nat}(c:t.d=.string)(h:i<l.length):dV t t' (S l) (I i) K=K (By l[i]):=by
 have e:dV t t' (S l) (I i) K=iN (i:Int) λn=>B4m (D0 n l) K:=by
  obtain⟨a,b,d,z⟩:=t;simp only at c;subst c;rfl
 rw[e,JH,C9,tK h];show fN l[i].toNat (λn=>K (.v (.int .u8 (.ofNat n))))=_;rw[D5];rfl
def OP{l:Ha}(c:t.d=.string):Bh t (S l) K=K (I l.length):=by
 have:Bh t (S l) K=HD l 0 λn=>K (.v (.int .i64 (.ofNat n))):=by
  obtain⟨a,b,d,z⟩:=t;simp only at c;subst c;rfl
 rw[this,Cs,Kk];rfl
def Kr{e sz n:Nat}{cs:Is}{f g:Nat}(c:t.d=.slice f g)(h:AZ H e sz v n cs):Bh t v K=K (I n):=by
 obtain⟨a,b,d,z⟩:=t;simp only at c;subst c;rcases h with⟨rfl,rfl,_⟩|⟨r,q,rfl,_⟩<;>rfl
def A9V{l:Ha}(b:UInt8)(h:AZ H Bk 1 v l.length (L3 l))(w:Wf H)(hn:l.length<1000000000000):
 ∃d a,(∀K:KV,(Gt Bk 1 AY 1 [(0,1,By b)] H λv1 j=>Ed Bk 1 AY AN v v1 j K)=K d a)/\AZ a Bk 1 d (l++[b]).length (L3 (l++[b]))/\Wf a/\Ax H<=Ax a/\(∀s x,Al H s=some x->¬A6 v s->Al a s=some x)/\(∀s,A6 d s->Ax H<=s):=by
 have i:AZ ((Ax H,.cells false Bk [By b])::H) Bk 1 v l.length (L3 l):=h.lat w (Lat.cons H _ (λ_=>False)) (λ_ _ h=>h);have c:=LC (H:=H) (e:=Bk) (n:=1) (cs:=[By b]) rfl;obtain⟨d,a,h1,h2,k,m⟩:=apt (ie:=AY) (i2:=AN) i (λK=>NQ (K:=K) c) rfl rfl (by decide) rfl rfl (by show(l.length+1)*1<=_;omega) (by omega);have f:=(Lat.cons H (.cells false Bk [By b]) (A6 v)).trans m (R:=A6 v) (λ_ _ h=>h) (λ_ _ h=>h);refine⟨d,a,λK=>?_,by rw[EJ,<-zR];exact h2,f.wf w,f.nx,λs x g hn=>f.keep w s x g hn,λs g=>?_⟩
 ·rw[YZ (z:=By 0) (λ_=>rfl) (λ_=>rfl) rfl];exact h1 K
 ·rw[k s g];exact l1p _
def Zn(n:Nat):Nat:=(119-n%64)%64
def YT(n i:Nat):UInt8:=UInt8.ofNat (8*n/2^(8*i))
def pre(s:Ha):Ha:=s++[128]++List.replicate (Zn s.length) 0
def ext(s:Ha):Ha:=pre s++[YT s.length 7,YT s.length 6,YT s.length 5,YT s.length 4,YT s.length 3,YT s.length 2,YT s.length 1,YT s.length 0]
def B80{K:KV}{k:AV->AV->AV->KV}(u:s.length<100000000000)(g:∀v H,AZ H Bk 1 v s.length (L3 s)->Wf H->k (S s) v (I s.length) w H=x):
 ∀(f i:Nat)(v:AV)(H:Hp),i<=s.length->s.length-i<f->AZ H Bk 1 v (s.take i).length (L3 (s.take i))->Wf H->MY L R K k f (S s) v (I i) w H=x:=by
 intro f
 induction f with
 |zero=>intro i v H _ h;omega
 |succ f ih=>
  intro i v H r q hv a;rw[XP];unfold Na Az;rw[OP rfl,Eh,Fi];by_cases h:i<s.length
  ·rw[CZ (by simpa using h)];rw[B8i rfl h];obtain⟨j,c,h1,h2,d,m,p,_⟩:=A9V s[i] hv a (by simp;omega);rw[h1];simp(disch:=omega) only[CO,Cz];refine ih (i+1) j c (by omega) (by omega) ?_ d;rw[tO h];exact h2
  ·rw[Cr (by simpa using h)];have:i=s.length:=by omega
   subst this;exact g _ _ (by simpa using hv) a
def qY{j:TI}{a k:Nat}(hk:k<=64):Ap j .shr (I a) (I k) K=K (I (a/2^k:Nat)):=by
 have:Ap j .shr (I a) (I k) K=ck (lH 0 (k:Int)) (fI ((a:Int).fdiv (2^(min (k:Int).toNat 64))) λz=>K (.v (.int .i64 z))):=rfl;rw[this,Ug];have h1:lH 0 (k:Int)=true:=by rw[KE];simp
 have h2:(a:Int).fdiv (2^(min (k:Int).toNat 64))=((a/2^k:Nat):Int):=by
  rw[eS,l1x hk];have:((2:Int)^k)=((2^k:Nat):Int):=by simp
  rw[this,Int.fdiv_eq_ediv_of_nonneg _ (Int.natCast_nonneg _)];exact(Int.natCast_ediv _ _).symm
 rw[h1,h2];rfl
def A0x{m:Nat}(c:t'.d=.int .u8):Im t t' (I m) K=K (By (UInt8.ofNat m)):=by
 have:Im t t' (I m) K=N9 .u8 (m:Int) λz=>K (.v (.int .u8 z)):=by
  obtain⟨a,b,d,z⟩:=t';simp only at c;subst c;rfl
 rw[this,HZ,Yy rfl];have:(m:Int)%(2^IntKind.u8.bits:Nat)=((UInt8.ofNat m).toNat:Int):=by
  rw[UInt8.toNat_ofNat'];exact(Int.natCast_emod _ _).symm
 rw[this]
def Wl(n:Nat):Nat->Ha
 |0=>[]
 |i+1=>YT n i::Wl n i
def uK(n i:Nat):(Wl n i).length=i:=by
 induction i with
 |zero=>rfl
 |succ i ih=>simp[Wl,ih]
def B81{K:KV}{k:AV->AV->KV}{w1 d u:AV}(C:s.length<100000000000)(q:∀v H,AZ H Bk 1 v (pre s).length (L3 (pre s))->Wf H->k w1 v d H=x):
 ∀(f j:Nat)(v:AV)(H:Hp),j<=Zn s.length->Zn s.length-j<f->AZ H Bk 1 v (s++[128]++List.replicate j 0).length (L3 (s++[128]++List.replicate j 0))->Wf H->MZ L R K k f w1 v d u H=x:=by
 intro f
 induction f with
 |zero=>intro j v H _ h;omega
 |succ f ih=>
  intro j v H m B hv c;rw[XQ];unfold Nb Az;have a:(s++[128]++List.replicate j (0:UInt8)).length=s.length+1+j:=by simp;omega
  have hz:Zn s.length<64:=by unfold Zn;omega
  rw[Kr rfl hv,Xb (by decide),HF,Fi];have hm:((s++[128]++List.replicate j (0:UInt8)).length:Int).tmod 64=(((s.length+1+j)%64:Nat):Int):=by rw[a];exact(Int.ofNat_tmod _ _).symm
  rw[hm];by_cases h:j=Zn s.length
  ·subst h;have:(s.length+1+Zn s.length)%64=56:=by unfold Zn;omega
   rw[this];simp only[yL,decide_eq_false_iff_not];rw[Cr (by simp)];exact q _ _ hv c
  ·have p:(s.length+1+j)%64≠56:=by unfold Zn at h m;omega
   rw[CZ (by simp;omega)];obtain⟨r,g,h1,h2,i,y,A,_⟩:=A9V (0:UInt8) hv c (by omega);have e:(AV.v (.int .u8 0))=By 0:=rfl;rw[e];rw[h1];refine ih (j+1) r g (by omega) (by omega) ?_ i;rw[List.replicate_succ',<-eU];exact h2
def B82{K:KV}{k:KV}(J:s.length<100000000000)(y:∀v H,AZ H Bk 1 v (pre s++Wl s.length 8).length (L3 (pre s++Wl s.length 8))->Wf H->k v H=x):
 ∀(f i:Nat)(l:Ha)(v:AV)(H:Hp),i<=8->i<f->l++Wl s.length i=pre s++Wl s.length 8->AZ H Bk 1 v l.length (L3 l)->Wf H->Kh L R K k f (S s) v w (I ((i:Int)-1)) H=x:=by
 have hz:Zn s.length<64:=by unfold Zn;omega
 intro f
 induction f with
 |zero=>intro i l v H _ h;omega
 |succ f ih=>
  intro i l v H F D c hv g;have u:l.length<=s.length+1+64+8:=by
   have:=congrArg List.length c;simp[pre,uK]at this;omega
  rw[XR];unfold Nc Az;rw[NT,Fi];cases i with
  |zero=>
   rw[Cr (by simp)];have:l=pre s++Wl s.length 8:=by simpa [Wl] using c
   subst this;exact y _ _ hv g
  |succ i=>
   rw[CZ (by simp)];have m:((i+1:Nat):Int)-1=(i:Int):=by omega
   rw[m];rw[OP rfl,Px,Px,Cz (by omega) (by omega),Cz (by omega) (by omega)];have p:(8:Int)*(s.length:Int)=((8*s.length:Nat):Int):=by omega
   have q:(8:Int)*(i:Int)=((8*i:Nat):Int):=by omega
   rw[p,q,qY (by omega)];rw[A0x rfl];obtain⟨A,j,h1,h2,r,B,C,_⟩:=A9V (YT s.length i) hv g (by omega);simp(disch:=omega) only[IE,Cz];have h1:=h1 (λd a=>Kh L R K k f (S s) d w (I ((i:Int)-1)) a);unfold YT at h1;rw[h1];refine ih i (l++[YT s.length i]) A j (by omega) (by omega) ?_ h2 r;rw[eU];exact c
def V0(l:Ha):AV:=.list l.length (L3 l)
def qM{b:Bool}{cs:Is}(h:AZ H e 1 v n cs)(hn:n≠0){α:Type}(f:α->Value)(l:List α)(hc:cs=l.map λx=>.v (f x)):Fx b depth v (.list n cs) H true:=by
 subst hc;rcases h with⟨_,h2,_⟩|⟨r,q,rfl,h2,a⟩
 ·exact absurd h2 hn
 ·exact WS (q':=false) h2 a (KF f l)
def B7U{b:Bool}{l:Ha}(h:AZ H Bk 1 v l.length (L3 l))(a:l≠[]):Fx b depth v (V0 l) H true:=
 qM h (λh=>a (lX h)) (λb:UInt8=>Value.int .u8 (b.toNat:Int)) l rfl
def fx1{x:Value}:Py true depth [.v x] [.v x] H false:=Aq (q:=false) (q':=false) CG AG
def A1z(s:Ha)(c:s.length<100000000000)(k:s.length+100<L):CS (rt L (n+1)) ON [S s] (V0 (ext s)):=by
 intro K g;rw[YJ];unfold Oz Az;simp only[BJ];refine B80 c ?_ L 0 _ [] (by omega) (by omega) (.inl ⟨rfl,rfl,rfl⟩) E1;intro v H hv a;obtain⟨h,d,h1,h2,f,i,j,_⟩:=A9V (128:UInt8) hv a (by omega);have e:(AV.v (.int .u8 128))=By 128:=rfl;rw[e,h1];refine B81 c ?_ L 0 h d (by omega) (by have:Zn s.length<64:=(by unfold Zn;omega);omega) (by simpa using h2) f;intro v H hv a;refine B82 c ?_ L 8 (pre s) v H (by omega) (by omega) rfl hv a;intro v H hv a;exact g _ _ (λb=>⟨true,B7U (l:=ext s) hv (by simp[ext])⟩)
end
section
variable{K:K2}{q:Bool}{H:Hp}{L e k n p r:Nat}{t:TI}{x:Value}
def JU(x:BitVec 32)(k:Nat):BitVec 32:=(x>>>k)|||(x<<<(32-k))
def C14{x y:Value}:Py true depth [.v x,.v y] [.v x,.v y] H false:=Aq (q:=false) (q':=false) CG fx1
def fxq{b:Bool}:Fx b depth (.v x) (.v x) H false:=CG
def A4T(x:BitVec 32)(k:Nat)(hk:k<=32):PS (rt L (n+1)) CY [W x,I k] (W (JU x k)):=by
 refine CS.ps (λK c=>?_) (λH=>C14);rw[ZN];unfold PK NW;have a:((32:Int)-(k:Int))=((32-k:Nat):Int):=by omega
 simp(disch:=omega) only[IY rfl hk,A9A,IE,Cz,a,KK rfl (show 32-k<=32 by omega),dZ];exact c _ _ (λb=>⟨false,fxq⟩)
def kk:List (BitVec 32):=[0x428a2f98,0x71374491,0xb5c0fbcf,0xe9b5dba5,0x3956c25b,0x59f111f1,0x923f82a4,0xab1c5ed5,
 0xd807aa98,0x12835b01,0x243185be,0x550c7dc3,0x72be5d74,0x80deb1fe,0x9bdc06a7,0xc19bf174,
 0xe49b69c1,0xefbe4786,0x0fc19dc6,0x240ca1cc,0x2de92c6f,0x4a7484aa,0x5cb0a9dc,0x76f988da,
 0x983e5152,0xa831c66d,0xb00327c8,0xbf597fc7,0xc6e00bf3,0xd5a79147,0x06ca6351,0x14292967,
 0x27b70a85,0x2e1b2138,0x4d2c6dfc,0x53380d13,0x650a7354,0x766a0abb,0x81c2c92e,0x92722c85,
 0xa2bfe8a1,0xa81a664b,0xc24b8b70,0xc76c51a3,0xd192e819,0xd6990624,0xf40e3585,0x106aa070,
 0x19a4c116,0x1e376c08,0x2748774c,0x34b0bcb5,0x391c0cb3,0x4ed8aa4a,0x5b9cca4f,0x682e6ff3,
 0x748f82ee,0x78a5636f,0x84c87814,0x8cc70208,0x90befffa,0xa4506ceb,0xbef9a3f7,0xc67178f2]
def A29:kk.length=64:=rfl
def N_:CS (rt L (n+1)) NI [] (.list 64 (DC kk)):=by
 intro K a;rw[XV];have e:Nn L (rt L n) [] K=K (.sl 1 0 0 64) [(0,.cells false BQ (DC kk))]:=by kernel_rfl
 rw[e];exact a _ _ (λb=>⟨true,qM (e:=BQ) (.inr ⟨0,false,rfl,rfl,rfl⟩) (by decide) (λx:BitVec 32=>Value.int .u32 (x.toNat:Int)) kk rfl⟩)
def A9K{l:Ha}(h:k<l.length):(L3 l).getD k .dk=By (l.getD k 0):=by
 simp[L3,T9,h]
def L6{l:List (BitVec 32)}(h:k<l.length):(DC l).getD k .dk=W (l.getD k 0):=by
 simp[DC,T9,h]
def He(l:List (BitVec 32)):(DC l).length=l.length:=by simp[DC]
def B0y(a b:List (BitVec 32)):DC a++DC b=DC (a++b):=by simp[DC]
def Xi(l:List (BitVec 32)):(DC l).all AV.one=true:=by simp[DC,AV.one,Value.oneCell']
def Xa{cs:Is}{z:Int}(g:t.d=.slice e 1)(hc:cs.length=n)(s:0<=z)(h1:z<n):Dh t (.list n cs) (I z) K=K (.iptr [cs.getD z.toNat .dk]):=by
 obtain⟨m,rfl⟩:=Int.eq_ofNat_of_zero_le s;have h:Dh t (.list n cs) (I (m:Int)) K=iN (m:Int) λm=>ck (Nat.blt m n) (RK 1 (D0 (Nat.mul m 1) cs) λc=>K (.iptr c)):=by
  obtain⟨a,b,d,z⟩:=t;simp only at g;subst g;rfl
 have hm:m<n:=by omega
 rw[h,JH,C9,NB];have:Nat.blt m n=true:=by rw[VD];exact hm
 rw[this];have i:Nat.mul m 1=m:=D' m;have j:(cs.drop m).take 1=[cs.getD m .dk]:=by
  have f:m<cs.length:=by omega
  rw[tK f,T9,JC f];rfl
 rw[i,j];rfl
def zH{z:Int}(c:t.d=.slice e 1)(h:0<=z)(h1:z<n):Dh t (.sl 1 r 0 n) (I z) K=K (.ptr r z.toNat 0):=by
 obtain⟨m,rfl⟩:=Int.eq_ofNat_of_zero_le h;have f:Dh t (.sl 1 r 0 n) (I (m:Int)) K=iN (m:Int) λm=>ck (Nat.blt m n) (fN (Nat.add 0 (Nat.mul m 1)) λp=>K (.ptr r p 0)):=by
  obtain⟨a,b,d,z⟩:=t;simp only at c;subst c;rfl
 have hm:m<n:=by omega
 rw[f,JH,D5];have:Nat.blt m n=true:=by rw[VD];exact hm
 have g:Nat.add 0 (Nat.mul m 1)=m:=by show 0+m*1=m;omega
 rw[this,g];rfl
def OQ{c:AV}(h:t.d.isAgg=false):A7 t (.iptr [c]) H K=K c:=by
 have:A7 t (.iptr [c]) H K=@Bool.rec (λ_=>Af) (K c) (FI t.size [c] λc=>K (.agg c)) t.d.isAgg:=rfl;rw[this,h]
def A9m{cs:Is}(h:t.d.isAgg=false)(f:Al H r=some (.cells q e cs))(a:p<cs.length):A7 t (.ptr r p 0) H K=K (cs.getD p .dk):=by
 have:A7 t (.ptr r p 0) H K=IN H r λx=>Ku x λ_ cs=>@Bool.rec (λ_=>Af) (hdK (D0 (Nat.add p 0) cs) K) (FI t.size (D0 (Nat.add p 0) cs) λc=>K (.agg c)) t.d.isAgg:=rfl;rw[this,h,Bq f];show hdK (D0 p cs) K=_;rw[C9,tK a,T9,JC a];rfl
def A9p{l:Ha}{z:Int}(a:0<=z)(h1:z<l.length):Dh AN (V0 l) (I z) K=K (.iptr [By (l.getD z.toNat 0)]):=by
 unfold V0;rw[Xa rfl (Ph l) a h1,A9K (by omega)]
def C1u{z:Int}(a:0<=z)(h1:z<n):Dh A8 (.sl 1 r 0 n) (I z) K=K (.ptr r z.toNat 0):=zH rfl a h1
def C1t{l:List (BitVec 32)}(c:Al H r=some (.cells q e (DC l)))(a:p<l.length):A7 Ak (.ptr r p 0) H K=K (W (l.getD p 0)):=by
 rw[A9m rfl c (by rw[He];exact a),L6 a]
def vT{b:UInt8}:Im AY Ak (By b) K=K (W (BitVec.ofNat 32 b.toNat)):=A9u
def C1T{v:AV}{l:List (BitVec 32)}(b:BitVec 32)(h:AZ H BQ 1 v l.length (DC l))(w:Wf H)(hn:l.length<1000000000000):
 ∃r q a,(∀K:KV,(CP (Gt BQ 1 Ak 1 [(0,1,W b)] H λv H=>some (v,H)) λv1 i=>CP (Ed BQ 1 Ak A8 v v1 i λv H=>some (v,H)) K)=K (.sl 1 r 0 (l.length+1)) a)/\Al a r=some (.cells q BQ (DC (l++[b])))/\Wf a/\Ax H<=Ax a/\(∀s x,Al H s=some x->¬A6 v s->Al a s=some x)/\Ax H<=r:=by
 have f:AZ ((Ax H,.cells false BQ [W b])::H) BQ 1 v l.length (DC l):=h.lat w (Lat.cons H _ (λ_=>False)) (λ_ _ h=>h);have c:=LC (H:=H) (e:=BQ) (n:=1) (cs:=[W b]) rfl;obtain⟨A,a,h1,h2,j,m⟩:=apt (ie:=Ak) (i2:=A8) f (λK=>NQ (K:=K) c) rfl rfl (by decide) rfl rfl (by show(l.length+1)*4<=_;omega) (by omega);have d:=(Lat.cons H (.cells false BQ [W b]) (A6 v)).trans m (R:=A6 v) (λ_ _ h=>h) (λ_ _ h=>h);rcases h2 with⟨_,g,_⟩|⟨r,q,rfl,g,y⟩
 ·omega
 ·refine⟨r,q,a,λK=>?_,by rw[<-B0y];exact g,d.wf w,d.nx,λs x u hn=>d.keep w s x u hn,?_⟩
  ·rw[YZ (z:=W 0) (λ_=>rfl) (λ_=>rfl) rfl,A2M,h1 (λv H=>some (v,H)),A2M]
  ·rw[j r ⟨_,_,_,rfl⟩];exact l1p _
end
section
variable{v:AV}{H:Hp}
def NU{K:K2}:Am (some (v,H)) K=K v:=A9A
def RY{K:KV}:CP (some (v,H)) K=K v H:=A2M
def Ym{L n:Nat}{x:BitVec 32}{z:Int}(k:Nat)(a:z=(k:Int))(h:k<=32){K:K2}:Aj (rt L (n+1)) CY [W x,I z] H K=K (W (JU x k)):=by
 subst a;exact A4T x k (by omega) H K
def A2W{l:List (BitVec 32)}{n:Nat}(b:BitVec 32)(d:l.length=n)(h:AZ H BQ 1 v n (DC l))(w:Wf H)(hn:n<1000000000000):
 ∃r q a,(∀K:KV,(CP (Gt BQ 1 Ak 1 [(0,1,W b)] H λv H=>some (v,H)) λv1 c=>CP (Ed BQ 1 Ak A8 v v1 c λv H=>some (v,H)) K)=K (.sl 1 r 0 (n+1)) a)/\Al a r=some (.cells q BQ (DC (l++[b])))/\Wf a/\Ax H<=Ax a/\(∀s x,Al H s=some x->¬A6 v s->Al a s=some x)/\Ax H<=r:=by
 subst d;exact C1T b h w hn
def bw(l:Ha)(i:Nat):BitVec 32:=BitVec.ofNat 32 (l.getD i 0).toNat
def A3d(l:Ha)(i:Nat):BitVec 32:=bw l (4*i)<<<24|||bw l (4*i+1)<<<16|||bw l (4*i+2)<<<8|||bw l (4*i+3)
def w16(l:Ha)(n:Nat):List (BitVec 32):=(List.range n).map (A3d l)
def sg0(x:BitVec 32):BitVec 32:=JU x 7^^^JU x 18^^^x>>>3
def sg1(x:BitVec 32):BitVec 32:=JU x 17^^^JU x 19^^^x>>>10
def MO(l:Ha):Nat->List (BitVec 32)
 |0=>w16 l 16
 |i+1=>MO l i++[(MO l i).getD i 0+sg0 ((MO l i).getD (i+1) 0)+(MO l i).getD (i+9) 0+sg1 ((MO l i).getD (i+14) 0)]
def Zu(l:Ha)(n:Nat):(w16 l n).length=n:=by simp[w16]
def QK(l:Ha)(i:Nat):(MO l i).length=16+i:=by
 induction i with
 |zero=>simp[MO,Zu]
 |succ i ih=>simp[MO,ih];omega
structure S8 where
 a:BitVec 32
 b:BitVec 32
 c:BitVec 32
 d:BitVec 32
 e:BitVec 32
 f:BitVec 32
 g:BitVec 32
 h:BitVec 32
def S8.l(s:S8):List (BitVec 32):=[s.a,s.b,s.c,s.d,s.e,s.f,s.g,s.h]
def rt1(s:S8)(k w:BitVec 32):BitVec 32:=s.h+(JU s.e 6^^^JU s.e 11^^^JU s.e 25)+((s.e&&&s.f)^^^(~~~s.e&&&s.g))+k+w
def rt2(s:S8):BitVec 32:=(JU s.a 2^^^JU s.a 13^^^JU s.a 22)+((s.a&&&s.b)^^^(s.a&&&s.c)^^^(s.b&&&s.c))
def rnd(s:S8)(k w:BitVec 32):S8:=⟨rt1 s k w+rt2 s,s.a,s.b,s.c,s.d+rt1 s k w,s.e,s.f,s.g⟩
def jU(ws:List (BitVec 32))(s:S8):Nat->S8
 |0=>s
 |i+1=>rnd (jU ws s i) (kk.getD i 0) (ws.getD i 0)
def C1U(s t:S8):S8:=⟨s.a+t.a,s.b+t.b,s.c+t.c,s.d+t.d,s.e+t.e,s.f+t.f,s.g+t.g,s.h+t.h⟩
def VZ(s:S8)(l:Ha):S8:=C1U s (jU (MO l 48) s 64)
variable{L n:Nat}{K:KV}{x:Af}
def I?(l:Ha)(i:Nat):BitVec.ofNat 32 (l.getD (4*i) 0).toNat<<<24|||BitVec.ofNat 32 (l.getD (4*i+1) 0).toNat<<<16|||BitVec.ofNat 32 (l.getD (4*i+2) 0).toNat<<<8|||BitVec.ofNat 32 (l.getD (4*i+3) 0).toNat=A3d l i:=rfl
def L?(l:Ha)(i:Nat):w16 l (i+1)=w16 l i++[A3d l i]:=by simp[w16,List.range_succ]
def B6y(x:BitVec 32):JU x 7^^^JU x 18^^^x>>>3=sg0 x:=rfl
def B6x(x:BitVec 32):JU x 17^^^JU x 19^^^x>>>10=sg1 x:=rfl
def QI(i:Nat):(i:Int)+1=((i+1:Nat):Int):=rfl
def B8B{k:AV->AV->AV->AV->AV->AV->AV->AV->KV}{l:Ha}{a0 w1 c d e w5 g:AV}(F:l.length=64)(y:∀v H,AZ H BQ 1 v 16 (DC (w16 l 16))->Wf H->k a0 (V0 l) v (I 16) c d e w5 g H=x):
 ∀(f i:Nat)(v:AV)(H:Hp),i<=16->16-i<f->AZ H BQ 1 v i (DC (w16 l i))->Wf H->QW L (rt L n) K k f a0 (V0 l) v (I i) w1 c d e w5 g H=x:=by
 intro f
 induction f with
 |zero=>intro i v H _ h;omega
 |succ f ih=>
  intro i v H D C hv a;rw[fP];unfold Ra Lo Az;rw[Eh,Fi];by_cases h:i<16
  ·rw[CZ (by simp;omega)];simp(disch:=omega) only[Px,CO,Cz,NU,A9p,OQ (t:=AY) rfl,vT,KK (z:=24) (k:=24) rfl (by decide),KK (z:=16) (k:=16) rfl (by decide),KK (z:=8) (k:=8) rfl (by decide),dZ];have m:((4:Int)*(i:Int)).toNat=4*i:=by omega
   have p:((4:Int)*(i:Int)+1).toNat=4*i+1:=by omega
   have s:((4:Int)*(i:Int)+2).toNat=4*i+2:=by omega
   have u:((4:Int)*(i:Int)+3).toNat=4*i+3:=by omega
   rw[m,p,s,u,I?];obtain⟨r,q,j,h1,h2,w,A,B,_⟩:=A2W (A3d l i) (Zu l i) hv a (by omega);rw[h1,QI];refine ih (i+1) _ j (by omega) (by omega) (.inr ⟨r,q,rfl,?_,?_⟩) w
   ·rw[L?];exact h2
   ·rw[He,Zu];omega
  ·rw[Cr (by simp;omega)];have:i=16:=by omega
   subst this;exact y _ _ hv a
def B8C{k:AV->AV->AV->AV->AV->AV->KV}{l:Ha}{w0 w1 d B C w5 e g:AV}(w:∀r q H,Al H r=some (.cells q BQ (DC (MO l 48)))->Wf H->k w0 w1 (.sl 1 r 0 64) d (I 64) e g H=x):
 ∀(f i r:Nat)(q:Bool)(H:Hp),i<=48->48-i<f->Al H r=some (.cells q BQ (DC (MO l i)))->Wf H->QX L (rt L (n+1)) K k f w0 w1 (.sl 1 r 0 (16+i)) d (I ((16+i:Nat):Int)) B C w5 e g H=x:=by
 intro f
 induction f with
 |zero=>intro i r q H _ h;omega
 |succ f ih=>
  intro i r q H M J hv c;rw[fQ];unfold Rb Lo Az;rw[Eh,Fi];by_cases h:i<48
  ·rw[CZ (by simp;omega)];have a:=QK l i;have m:((16+i:Nat):Int)-15=((i+1:Nat):Int):=by omega
   have p:((16+i:Nat):Int)-2=((i+14:Nat):Int):=by omega
   have s:((16+i:Nat):Int)-16=((i:Nat):Int):=by omega
   have t:((16+i:Nat):Int)-7=((i+9:Nat):Int):=by omega
   simp(disch:=omega) only[IE,Cz,NU,m,p,s,t,C1u,eS,C1t hv,Ym (z:=7) 7 rfl (by decide),Ym (z:=18) 18 rfl (by decide),Ym (z:=17) 17 rfl (by decide),Ym (z:=19) 19 rfl (by decide),Uk,IY (z:=3) (k:=3) rfl (by decide),IY (z:=10) (k:=10) rfl (by decide),OT];rw[B6y,B6x];obtain⟨A,y,j,h1,h2,u,D,F,_⟩:=A2W ((MO l i).getD i 0+sg0 ((MO l i).getD (i+1) 0)+(MO l i).getD (i+9) 0+sg1 ((MO l i).getD (i+14) 0)) (v:=.sl 1 r 0 (16+i)) a (.inr ⟨r,q,rfl,hv,by rw[He,a];omega⟩) c (by omega);rw[h1];simp(disch:=omega) only[CO,Cz];rw[QI];exact ih (i+1) A y j (by omega) (by omega) h2 u
  ·rw[Cr (by simp;omega)];have:i=48:=by omega
   subst this;exact w _ _ _ hv c
end
section
variable{v:AV}{H:Hp}{t:TI}
def Rd(H:Hp)(v:AV)(n:Nat)(cs:Is):Prop:=cs.length=n/\(v=.list n cs\/∃r q e,v=.sl 1 r 0 n/\Al H r=some (.cells q e cs))
def rdp(v:AV)(i:Nat):AV:=match v with
 |.list _ cs=>.iptr [cs.getD i .dk]
 |.sl _ r _ _=>.ptr r i 0
 |_=>.dk
def AZ.rd{H:Hp}{e n:Nat}{v:AV}{cs:Is}(h:AZ H e 1 v n cs)(hn:n≠0):Rd H v n cs:=by
 rcases h with⟨_,h,_⟩|⟨r,q,h1,h2,a⟩
 ·exact absurd h hn
 ·exact⟨by omega,.inr ⟨r,q,e,h1,h2⟩⟩
def lU{n:Nat}{cs:Is}(h:cs.length=n):Rd H (.list n cs) n cs:=⟨h,.inl rfl⟩
def OR{e n:Nat}{cs:Is}(h:Rd H v n cs)(a:t.d=.slice e 1){z:Int}(k:Nat)(hz:z=k)(hk:k<n){K:K2}:Dh t v (I z) K=K (rdp v k):=by
 subst hz;rcases h with⟨c,rfl|⟨r,q,e,rfl,h2⟩⟩
 ·rw[Xa a c (by omega) (by omega)];rfl
 ·rw[zH a (by omega) (by omega)];rfl
def iL{n:Nat}{cs:Is}(h:Rd H v n cs)(a:t.d.isAgg=false){k:Nat}(hk:k<n){K:K2}:A7 t (rdp v k) H K=K (cs.getD k .dk):=by
 rcases h with⟨c,rfl|⟨r,q,e,rfl,h2⟩⟩
 ·exact OQ a
 ·exact A9m a h2 (by omega)
def C0r{a b c d e f g h:BitVec 32}(K:KV):Gt BQ 1 Ak 8 [(0,1,W a),(1,1,W b),(2,1,W c),(3,1,W d),(4,1,W e),(5,1,W f),(6,1,W g),(7,1,W h)] H K=K (.sl 1 (Ax H) 0 8) ((Ax H,.cells false BQ (DC [a,b,c,d,e,f,g,h]))::H):=by
 have i:Gt BQ 1 Ak 8 [(0,1,W a),(1,1,W b),(2,1,W c),(3,1,W d),(4,1,W e),(5,1,W f),(6,1,W g),(7,1,W h)] H K=HV H λs=>K (.sl 1 s 0 8) ((s,.cells false BQ (DC [a,b,c,d,e,f,g,h]))::H):=rfl;rw[i,BW]
def vP{x:BitVec 32}{K:K2}:PA .xor (W x) K=K (W (~~~x)):=A99
def B42{k:Nat}(h:k<64):(DC kk).getD k .dk=W (kk.getD k 0):=L6 (by rw[A29];exact h)
variable{L n:Nat}{K:KV}{x:Af}
def A7d(s:S8)(k w:BitVec 32):[s.h+(JU s.e 6^^^JU s.e 11^^^JU s.e 25)+((s.e&&&s.f)^^^(~~~s.e&&&s.g))+k+w+((JU s.a 2^^^JU s.a 13^^^JU s.a 22)+((s.a&&&s.b)^^^(s.a&&&s.c)^^^(s.b&&&s.c))),s.a,s.b,s.c,s.d+(s.h+(JU s.e 6^^^JU s.e 11^^^JU s.e 25)+((s.e&&&s.f)^^^(~~~s.e&&&s.g))+k+w),s.e,s.f,s.g]=(rnd s k w).l:=rfl
def B8D{k:AV->AV->AV->AV->AV->AV->AV->KV}{ws:List (BitVec 32)}{s0:S8}{rw:Nat}{w0 w1 u w w6 w7:AV}(p:ws.length=64)(P:∀v q H,AZ H BQ 1 v 8 (DC (jU ws s0 64).l)->Al H rw=some (.cells q BQ (DC ws))->Wf H->k w0 w1 (.sl 1 rw 0 64) u w (.list 64 (DC kk)) v (I 64) H=x):
 ∀(f i:Nat)(v:AV)(q:Bool)(H:Hp),i<=64->64-i<f->AZ H BQ 1 v 8 (DC (jU ws s0 i).l)->Al H rw=some (.cells q BQ (DC ws))->Wf H->QY L (rt L (n+1)) K k f w0 w1 (.sl 1 rw 0 64) u w (.list 64 (DC kk)) v (I i) w6 w7 H=x:=by
 intro f
 induction f with
 |zero=>intro i v q H _ h;omega
 |succ f ih=>
  intro i v q H hi hf hv hr m;rw[fR];unfold Re Lo Az;rw[Eh,Fi];by_cases h:i<64
  ·rw[CZ (by simp;omega)];have rv:=hv.rd (by decide);have r:Rd H (.list 64 (DC kk)) 64 (DC kk):=lU (by rw[He,A29]);have rs:Rd H (.sl 1 rw 0 64) 64 (DC ws):=⟨by rw[He,p],.inr ⟨rw,q,BQ,rfl,hr⟩⟩
   generalize O:jU ws s0 i=s at rv hv;have y:(DC s.l).getD 0 .dk=W s.a:=id rfl;have A:(DC s.l).getD 1 .dk=W s.b:=id rfl;have B:(DC s.l).getD 2 .dk=W s.c:=id rfl;have C:(DC s.l).getD 3 .dk=W s.d:=id rfl;have D:(DC s.l).getD 4 .dk=W s.e:=id rfl;have F:(DC s.l).getD 5 .dk=W s.f:=id rfl;have J:(DC s.l).getD 6 .dk=W s.g:=id rfl;have M:(DC s.l).getD 7 .dk=W s.h:=id rfl;have N:(DC ws).getD i .dk=W (ws.getD i 0):=L6 (by omega);have Q:=λK=>OR (t:=A8) rv rfl (z:=0) 0 rfl (by decide) (K:=K);have i1:=λK=>OR (t:=A8) rv rfl (z:=1) 1 rfl (by decide) (K:=K);have i2:=λK=>OR (t:=A8) rv rfl (z:=2) 2 rfl (by decide) (K:=K);have R:=λK=>OR (t:=A8) rv rfl (z:=3) 3 rfl (by decide) (K:=K);have V:=λK=>OR (t:=A8) rv rfl (z:=4) 4 rfl (by decide) (K:=K);have X:=λK=>OR (t:=A8) rv rfl (z:=5) 5 rfl (by decide) (K:=K);have Y:=λK=>OR (t:=A8) rv rfl (z:=6) 6 rfl (by decide) (K:=K);have Z:=λK=>OR (t:=A8) rv rfl (z:=7) 7 rfl (by decide) (K:=K);have ik:=λK=>OR (t:=A8) r rfl (z:=i) i rfl h (K:=K);have iw:=λK=>OR (t:=A8) rs rfl (z:=i) i rfl h (K:=K);have lv:=λk hk K=>iL (t:=Ak) rv rfl (k:=k) hk (K:=K);have lk:=λk hk K=>iL (t:=Ak) r rfl (k:=k) hk (K:=K);have lw:=λk hk K=>iL (t:=Ak) rs rfl (k:=k) hk (K:=K);simp(disch:=omega) only[NU,Q,i1,i2,R,V,X,Y,Z,ik,iw,lv,lk,lw,y,A,B,C,D,F,J,M,N,B42 h,Uk,vU,OT,vP,
    Ym (z:=6) 6 rfl (by decide),Ym (z:=11) 11 rfl (by decide),Ym (z:=25) 25 rfl (by decide),Ym (z:=2) 2 rfl (by decide),Ym (z:=13) 13 rfl (by decide),Ym (z:=22) 22 rfl (by decide)]
   rw[C0r,RY,CO,Cz (by omega) (by omega),A7d,QI];have j:jU ws s0 (i+1)=rnd s (kk.getD i 0) (ws.getD i 0):=by rw[<-O];rfl
   rw[<-j];exact ih (i+1) _ q _ (by omega) (by omega) (LC rfl) (AK (m.lt hr) hr) (AM m)
  ·rw[Cr (by simp;omega)];have:i=64:=by omega
   subst this;exact P _ _ _ hv hr m
def eN(a b:List (BitVec 32))(i:Nat):List (BitVec 32):=(List.range i).map λi=>a.getD i 0+b.getD i 0
def Se(a b:List (BitVec 32))(i:Nat):(eN a b i).length=i:=by simp[eN]
def wH(a b:List (BitVec 32))(i:Nat):eN a b (i+1)=eN a b i++[a.getD i 0+b.getD i 0]:=by simp[eN,List.range_succ]
def B8M(s t:S8):eN s.l t.l 8=(C1U s t).l:=rfl
def B8E{k:KV}{a b:List (BitVec 32)}{A B w1 w2 w3 w4 w5 w7:AV}(V:∀v H,AZ H BQ 1 v 8 (DC (eN a b 8))->Wf H->k v H=x)(w:A=.list 8 (DC a))(P:a.length=8)(hb:b.length=8):
 ∀(f i:Nat)(v:AV)(H:Hp),i<=8->8-i<f->AZ H BQ 1 v i (DC (eN a b i))->AZ H BQ 1 B 8 (DC b)->(∀s,A6 v s->¬A6 B s)->Wf H->QZ L (rt L n) K k f A w1 w2 w3 w4 w5 B w7 v (I i) H=x:=by
 intro f
 induction f with
 |zero=>intro i v H _ h;omega
 |succ f ih=>
  intro i v H hi hf hv c Q y;rw[fS];unfold Rf Lo Az;rw[Eh,Fi];by_cases h:i<8
  ·rw[CZ (by simp;omega)];have C:Rd H A 8 (DC a):=by subst w;exact lU (by rw[He,P])
   have D:=c.rd (by decide);have J:(DC a).getD i .dk=W (a.getD i 0):=L6 (by omega);have M:(DC b).getD i .dk=W (b.getD i 0):=L6 (by omega);have ia:=λK=>OR (t:=A8) C rfl (z:=i) i rfl h (K:=K);have X:=λK=>OR (t:=A8) D rfl (z:=i) i rfl h (K:=K);have Y:=λK=>iL (t:=Ak) C rfl (k:=i) h (K:=K);have Z:=λK=>iL (t:=Ak) D rfl (k:=i) h (K:=K);simp only[NU,ia,X,Y,Z,J,M,OT];obtain⟨r,q,F,h1,h2,N,h4,O,h6⟩:=A2W (a.getD i 0+b.getD i 0) (Se a b i) hv y (by omega);rw[h1,CO,Cz (by omega) (by omega),QI];refine ih (i+1) _ F (by omega) (by omega) (.inr ⟨r,q,rfl,?_,?_⟩) ?_ ?_ N
   ·rw[wH];exact h2
   ·rw[He,Se];omega
   ·rcases c with⟨d,e,g⟩|⟨r2,q2,d,e,g⟩
    ·exact .inl ⟨d,e,g⟩
    ·exact .inr ⟨r2,q2,d,O _ _ e (λR=>Q _ R ⟨1,0,8,d⟩),g⟩
   ·intro s ⟨p,o,m,j⟩ u;injection j with _ j
    subst j;have:=c.lt y u;omega
  ·rw[Cr (by simp;omega)];have:i=8:=by omega
   subst this;exact V _ _ hv y
def S8.len(s:S8):s.l.length=8:=rfl
def B1y{s:S8}{l:Ha}(k:l.length=64)(u:100<L):CS (rt L (n+2)) Tr [.list 8 (DC s.l),V0 l] (.list 8 (DC (VZ s l).l)):=by
 intro K j;rw[kS];unfold Th Az;simp only[BJ];refine B8B k ?_ L 0 _ [] (by omega) (by omega) (.inl ⟨rfl,rfl,rfl⟩) E1;intro v H hv c;rcases hv with⟨_,h,_⟩|⟨r,q,rfl,h2,i⟩
 ·exact absurd h (by decide)
 refine B8C ?_ L 0 r q H (by omega) (by omega) h2 c;intro r q H hr c;rw[AE N_ AG];obtain⟨p,g,h1,h2,i,f⟩:=apt (ie:=Ak) (i2:=A8) (H:=H) (e:=BQ) (sz:=1) (n:=0) (m:=8) (v:=.v (.slice none 0 0)) (src:=.list 8 (DC s.l)) (cs:=[]) (ys:=DC s.l) (.inl ⟨rfl,rfl,rfl⟩) (λK=>Uh) rfl (Xi _) (by decide) rfl rfl (by decide) (by decide);rw[h1];have d:=f.keep c r _ hr (λ⟨_,_,_,h⟩=>by cases h);refine B8D (s0:=s) (by rw[QK]) ?_ L 0 p q g (by omega) (by omega) h2 d (f.wf c);intro v q H hv hr c;refine B8E (a:=s.l) (b:=(jU (MO l 48) s 64).l) ?_ rfl rfl rfl L 0 _ H (by omega) (by omega) (.inl ⟨rfl,rfl,rfl⟩) hv (λs ⟨_,_,_,h⟩=>by cases h) c;intro v H hv c;rw[B8M]at hv;exact j _ _ (λb=>⟨true,qM hv (by decide) (λx:BitVec 32=>Value.int .u32 (x.toNat:Int)) _ rfl⟩)
end
section
variable{v:AV}{H:Hp}{s:Ha}{e m:Nat}
def A0k{t:TI}{cs:Is}{x y:Int}(a b:Nat){K:K2}(f:t.d=.slice e 1)(i:x=a)(j:y=b)(h1:a<=b)(h2:b<=m):EI t (.list m cs) (some (I x)) (some (I y)) none K=K (.list (b-a) ((cs.drop a).take (b-a))):=by
 subst i j;have g:EI t (.list m cs) (some (I a)) (some (I b)) none K=iN (a:Int) λl=>iN (b:Int) λh=>fN m λx=>ck ((true||(some (I (b:Int))).isSome)&&(Nat.ble l h&&(Nat.ble h x&&Nat.ble x m))) (fN (Nat.sub h l) λn=>RK (Nat.mul n 1) (D0 (Nat.mul l 1) cs) λc=>K (.list n c)):=by
  obtain⟨_,_,d,z⟩:=t;simp only at f;subst f;rfl
 rw[g,JH,JH,D5];have c:((true||(some (I (b:Int))).isSome)&&(Nat.ble a b&&(Nat.ble b m&&Nat.ble m m)))=true:=by simp only[Bool.true_or,D_,J2,eT];omega
 rw[c];show fN (Nat.sub b a) (λn=>RK (Nat.mul n 1) (D0 (Nat.mul a 1) cs) λc=>K (.list n c))=_;rw[D5,NB,C9];show K (.list (b-a) ((cs.drop (a*1)).take ((b-a)*1)))=_;rw[D',D']
def iv:S8:=⟨1779033703,3144134277,1013904242,2773480762,1359893119,2600822924,528734635,1541459225⟩
def Zb(s:Ha):Nat->S8
 |0=>iv
 |i+1=>VZ (Zb s i) ((s.drop (64*i)).take 64)
def wb(w:BitVec 32):Ha:=[UInt8.ofNat (w.toNat/2^24),UInt8.ofNat (w.toNat/2^16),UInt8.ofNat (w.toNat/2^8),UInt8.ofNat w.toNat]
def W9(l:List (BitVec 32)):Nat->Ha
 |0=>[]
 |i+1=>W9 l i++wb (l.getD i 0)
def W8(l:List (BitVec 32))(i:Nat):(W9 l i).length=4*i:=by
 induction i with
 |zero=>rfl
 |succ i ih=>simp[W9,ih,wb];omega
def sha(s:Ha):Ha:=W9 (Zb (ext s) ((ext s).length/64)).l 8
variable{L n:Nat}{K:KV}{x:Af}
def C15{l:List (BitVec 32)}(h:Rd H v n (DC l)):∃q,Fx true depth v (.list n (DC l)) H q:=by
 rcases h with⟨a,rfl|⟨r,q,e,rfl,h2⟩⟩
 ·exact⟨_,Pc⟩
 ·exact⟨_,WS (q':=false) h2 (by omega) (KF (λx:BitVec 32=>Value.int .u32 (x.toNat:Int)) l)⟩
def B6u{k:AV->AV->KV}{w y:AV}(hm:s.length=64*m)(C:s.length<200000000000)(t:100<L)(a:m≠0)(u:∀j,k (.list 8 (DC (Zb s m).l)) (V0 s) j H=x):
 ∀(f i:Nat)(v:AV),i<=m->m-i<f->Rd H v 8 (DC (Zb s i).l)->(i≠0->v=.list 8 (DC (Zb s i).l))->UJ L (rt L (n+2)) K k f v (V0 s) (I ((64*i:Nat):Int)) w y H=x:=by
 intro f
 induction f with
 |zero=>intro i v _ h;omega
 |succ f ih=>
  intro i v B A hv c;rw[oM];unfold UL Az;have r:∀K,Bh AN (V0 s) K=K (I (s.length:Int)):=λ_=>id rfl;rw[r,Eh,Fi];by_cases h:i<m
  ·rw[CZ (by simp;omega)];simp(disch:=omega) only[CO,Cz];have d:((64*i:Nat):Int)+64=((64*(i+1):Nat):Int):=by omega
   unfold V0;rw[d,A0k (64*i) (64*(i+1)) rfl rfl rfl (by omega) (by omega)];have g:64*(i+1)-64*i=64:=by omega
   have p:AV.list 64 (((L3 s).drop (64*i)).take 64)=V0 ((s.drop (64*i)).take 64):=by
    unfold V0 L3;have:((s.drop (64*i)).take 64).length=64:=by simp;omega
    rw[this,List.map_take,List.map_drop]
   rw[g,p];obtain⟨q,hq⟩:=C15 hv;rw[AE (B1y (n:=n) (s:=Zb s i) (l:=(s.drop (64*i)).take 64) (by simp;omega) t) (Aq hq (Aq (by unfold V0;exact Pc) AG))];exact ih (i+1) _ (by omega) (by omega) (lU (by rw[He];rfl)) (λ_=>rfl)
  ·rw[Cr (by simp;omega)];have:i=m:=by omega
   subst this;rw[c a];exact u _
def vS{w:BitVec 32}{K:K2}:Im Ak AY (W w) K=K (By (UInt8.ofNat w.toNat)):=A9t
def C0s{a b c d:UInt8}(K:KV):Gt Bk 1 AY 4 [(0,1,By a),(1,1,By b),(2,1,By c),(3,1,By d)] H K=K (.sl 1 (Ax H) 0 4) ((Ax H,.cells false Bk (L3 [a,b,c,d]))::H):=by
 have f:Gt Bk 1 AY 4 [(0,1,By a),(1,1,By b),(2,1,By c),(3,1,By d)] H K=HV H λs=>K (.sl 1 s 0 4) ((s,.cells false Bk (L3 [a,b,c,d]))::H):=rfl;rw[f,BW]
def B2P(l:Ha):∀K:Ha->Af,fu8 (L3 l) K=K l:=by
 induction l with
 |nil=>intro K;rfl
 |cons b l ih=>
  intro K;have e:fu8 (L3 (b::l)) K=iN (b.toNat:Int) λn=>fu8 (L3 l) λl=>K (UInt8.ofNat n::l):=rfl;rw[e,JH,ih];simp
def A47{l:Ha}{K:K2}(h:AZ H e 1 v n (L3 l)):tU v H K=K (S l):=by
 have a:tU v H K=Ui H v λm cs=>HD cs 0 λk=>ck (Nat.beq k m) (fu8 cs λl=>K (.v (.string ⟨⟨l⟩⟩))):=by
  rcases h with⟨rfl,_⟩|⟨r,q,rfl,_⟩<;>rfl
 have hn:(L3 l).length=n:=by
  rcases h with⟨_,rfl,h⟩|⟨r,q,_,_,h⟩
  ·rw[h];rfl
  ·omega
 rw[a,NQ h,Cs,Kk,hn,ZX];exact B2P l _
def B6v{k:KV}{s:S8}{v w1 D:AV}(B:∀u H,AZ H Bk 1 u 32 (L3 (W9 s.l 8))->k u H=x):
 ∀(f i:Nat)(u:AV)(H:Hp),i<=8->8-i<f->AZ H Bk 1 u (4*i) (L3 (W9 s.l i))->v=.list 8 (DC s.l)->Wf H->UK L (rt L n) K k f v w1 D u (I i) H=x:=by
 intro f
 induction f with
 |zero=>intro i v H _ h;omega
 |succ f ih=>
  intro i u H M J p hv q;rw[oN];unfold UM Lo Az;rw[Eh,Fi];by_cases h:i<8
  ·rw[CZ (by simp;omega)];have r:Rd H v 8 (DC s.l):=by subst hv;exact lU (by rw[He];rfl)
   have y:(DC s.l).getD i .dk=W (s.l.getD i 0):=L6 h;have ia:=λK=>OR (t:=A8) r rfl (z:=i) i rfl h (K:=K);have C:=λK=>iL (t:=Ak) r rfl (k:=i) h (K:=K);simp only[NU,ia,C,y,IY (z:=24) (k:=24) rfl (by decide),IY (z:=16) (k:=16) rfl (by decide),IY (z:=8) (k:=8) rfl (by decide),vS,C0s,RY];generalize hc:[UInt8.ofNat (s.l.getD i 0>>>24).toNat,UInt8.ofNat (s.l.getD i 0>>>16).toNat,UInt8.ofNat (s.l.getD i 0>>>8).toNat,UInt8.ofNat (s.l.getD i 0).toNat]=c;have a:c.length=4:=by rw[<-hc];rfl
   have g:c=wb (s.l.getD i 0):=by rw[<-hc];unfold wb;simp only[BitVec.toNat_ushiftRight,Nat.shiftRight_eq_div_pow]
   have j:AZ ((Ax H,.cells false Bk (L3 c))::H) Bk 1 u (4*i) (L3 (W9 s.l i)):=p.lat q (Lat.cons H _ (λ_=>False)) (λ_ _ h=>h);have d:=LC (H:=H) (e:=Bk) (n:=4) (cs:=L3 c) (by rw[Ph,a]);obtain⟨N,w,h1,h2,F,A⟩:=apt (ie:=AY) (i2:=AN) j (λK=>NQ (K:=K) d) (by rw[Ph,a]) (A4c _) (by decide) rfl rfl (by show(4*i+4)*1<=_;omega) (by omega);rw[h1,RY,CO,Cz (by omega) (by omega),QI];refine ih (i+1) _ w (by omega) (by omega) ?_ hv (A.wf (AM q));rw[zR,g]at h2;exact h2
  ·rw[Cr (by simp;omega)];have:i=8:=by omega
   subst this;exact B _ _ p
def A42(s:Ha):∃m,(ext s).length=64*m/\64*m<=s.length+73:=by
 refine⟨(ext s).length/64,?_,?_⟩
 ·have:(ext s).length=s.length+1+Zn s.length+8:=by simp[ext,pre];omega
  unfold Zn at this;omega
 ·have:(ext s).length=s.length+1+Zn s.length+8:=by simp[ext,pre];omega
  unfold Zn at this;omega
def B3I(r:s.length<100000000000)(w:s.length+200<L):CS (rt L (n+3)) WY [S s] (S (sha s)):=by
 intro K p;rw[tD];unfold WH Az;simp only[BJ];obtain⟨m,hm,q⟩:=A42 s;have i:∀K:KV,Gt BQ 1 Ak 8 [(0,1,(AV.v (.int .u32 1779033703))),(1,1,(AV.v (.int .u32 3144134277))),(2,1,(AV.v (.int .u32 1013904242))),(3,1,(AV.v (.int .u32 2773480762))),(4,1,(AV.v (.int .u32 1359893119))),(5,1,(AV.v (.int .u32 2600822924))),(6,1,(AV.v (.int .u32 528734635))),(7,1,(AV.v (.int .u32 1541459225)))] [] K=K (.sl 1 0 0 8) [(0,.cells false BQ (DC iv.l))]:=λK=>C0r (H:=[]) (a:=1779033703) (b:=3144134277) (c:=1013904242) (d:=2773480762) (e:=1359893119) (f:=2600822924) (g:=528734635) (h:=1541459225) K;rw[i,AE (A1z (n:=n+1) s r (by omega)) fx1];have k:m≠0:=λh=>by subst h;simp[ext]at hm
 refine B6u (n:=n) (m:=m) hm (by omega) (by omega) k ?_ L 0 _ (by omega) (by omega) ((LC (H:=[]) rfl).rd (by decide)) (λh=>absurd rfl h);intro j;refine B6v (n:=n+2) (s:=Zb (ext s) m) ?_ L 0 _ _ (by omega) (by omega) (.inl ⟨rfl,rfl,rfl⟩) rfl (AM E1);intro u H t;rw[A47 t];have e:W9 (Zb (ext s) m).l 8=sha s:=by
  unfold sha;have:(ext s).length/64=m:=by omega
  rw[this]
 rw[e];exact p _ _ (λb=>⟨false,CG⟩)
end
section
variable{w:BitVec 32}{H:Hp}{ks:Hb}{k r:Nat}
def U(n:Nat):AV:=.v (.int .u64 (n:Int))
def B1I{x:BitVec 32}(i:1<=k)(h:k<32){L n:Nat}{K:KV}:(rt L (n+1)).call Gx [W x,I (-(k:Int))] H K=K (W (JU x k)) H:=by
 rw[Rr];unfold II NW;have a:∀K:K2,(Im Ac FQ (I (-(k:Int))) λv1=>Ap FQ .and v1 (AV.v (.int .u64 31)) λg=>K g)=K (U (32-k)):=by
  intro K;have:k=1\/k=2\/k=3\/k=4\/k=5\/k=6\/k=7\/k=8\/k=9\/k=10\/k=11\/k=12\/k=13\/k=14\/k=15\/k=16\/k=17\/k=18\/k=19\/k=20\/k=21\/k=22\/k=23\/k=24\/k=25\/k=26\/k=27\/k=28\/k=29\/k=30\/k=31:=by omega
  rcases this with rfl|rfl|rfl|rfl|rfl|rfl|rfl|rfl|rfl|rfl|rfl|rfl|rfl|rfl|rfl|rfl|rfl|rfl|rfl|rfl|rfl|rfl|rfl|rfl|rfl|rfl|rfl|rfl|rfl|rfl|rfl<;>rfl
 rw[a];have c:∀K:K2,Ap FQ .sub (AV.v (.int .u64 32)) (U (32-k)) K=K (U k):=by
  intro K;have e:Ap FQ .sub (AV.v (.int .u64 32)) (U (32-k)) K=N9 .u64 ((32:Int)-((32-k:Nat):Int)) λz=>K (.v (.int .u64 z)):=rfl;rw[e,HZ];have:(32:Int)-((32-k:Nat):Int)=(k:Int):=by omega
  rw[this,Yy rfl];have:(k:Int)%(2^IntKind.u64.bits:Nat)=(k:Int):=Int.emod_eq_of_lt (by omega) (by show(k:Int)<(18446744073709551616:Int);omega);rw[this];rfl
 have d:∀K:K2,Ap Ak .shl (W x) (U (32-k)) K=K (W (x<<<(32-k))):=λK=>KK rfl (by omega);have f:∀K:K2,Ap Ak .shr (W x) (U k) K=K (W (x>>>k)):=λK=>IY rfl (by omega);rw[d,c,f,dZ];have:x<<<(32-k)|||x>>>k=JU x k:=by unfold JU;exact BitVec.or_comm _ _
 rw[this]
def B6F{L n:Nat}{x:BitVec 32}(a:1<=k)(h:k<32):PS (rt L (n+1)) Gx [W x,I (-(k:Int))] (W (JU x k)):=by
 refine CS.ps (λK c=>?_) (λH=>C14);rw[B1I a h];exact c _ _ (λb=>⟨false,fxq⟩)
def WQ(ks:Hb):Is:=ks.map λk:Nat=>.v (.int .i64 (k:Int))
def A5k{l:Hb}(h:k<l.length):(WQ l).getD k .dk=I (l[k]:Nat):=by
 simp[WQ,T9,h]
def Sk(x:BitVec 32)(ks:Hb):BitVec 32:=ks.foldl (λa k=>a^^^JU x k) 0
def A5v(hk:k<32){K:K2}:PA .neg (I k) K=K (I (-(k:Int))):=by
 have e:PA .neg (I k) K=N9 .i64 (0-(k:Int)) λz=>K (.v (.int .i64 z)):=rfl;rw[e,HZ,Int.zero_sub,Cz (by omega) (by omega)]
variable{L n:Nat}{K:KV}{x:Af}
def A8i{k:KV}(hk:∀k∈ks,1<=k/\k<32)(j:ks.length<32)(c:k (W (Sk w ks)) H=x):
 ∀(f i:Nat),i<=ks.length->ks.length-i<f->PX L (rt L (n+1)) K k f (W w) (W (Sk w (ks.take i))) (.list ks.length (WQ ks)) (I ks.length) (I i) H=x:=by
 intro f
 induction f with
 |zero=>intro i _ h;omega
 |succ f ih=>
  intro i g d;rw[eB];unfold PY HN Az;rw[Eh,Fi];by_cases h:i<ks.length
  ·rw[CZ (by simp;omega)];have a:=hk ks[i] (Of h);rw[Xa rfl (by simp[WQ]) (by omega) (by omega),eS,OQ rfl,A5k h,A5v a.2,B6F a.1 a.2,Uk,CO,Cz (by omega) (by omega),QI];have e:Sk w (ks.take (i+1))=Sk w (ks.take i)^^^JU w ks[i]:=by
    unfold Sk;rw[tO h,List.foldl_append];rfl
   rw[<-e];exact ih (i+1) (by omega) (by omega)
  ·rw[Cr (by simp;omega)];have:i=ks.length:=by omega
   subst this;rw[tN];exact c
def B1s(hk:∀k∈ks,1<=k/\k<32)(c:ks.length<32)(d:32<L):CS (rt L (n+2)) Ev [W w,.list ks.length (WQ ks)] (W (Sk w ks)):=by
 intro K a;rw[gL];unfold Rx Az;simp only[BJ];have e:∀K,Bh AO (.list ks.length (WQ ks)) K=K (I ks.length):=λK=>id rfl;rw[e];refine A8i hk c ?_ L 0 (by omega) (by omega);exact a _ _ (λb=>⟨false,CG⟩)
def C0l:Sk w [7,18]^^^w>>>3=sg0 w:=by simp[Sk,sg0]
def C0k:Sk w [17,19]^^^w>>>10=sg1 w:=by simp[Sk,sg1]
def pad(l:List (BitVec 32))(n:Nat):List (BitVec 32):=l++List.replicate (n-l.length) 0
def A3C{l:List (BitVec 32)}(h:l.length<=n):(pad l n).length=n:=by simp[pad];omega
def A3B{l:List (BitVec 32)}(w:BitVec 32)(hk:l.length=k)(h:k<n):(DC (pad l n)).set k (W w)=DC (pad (l++[w]) n):=by
 subst hk;have e:n-l.length=(n-(l.length+1))+1:=by omega
 simp[pad,DC,e,l17,List.set_append_right]
def A80{l:List (BitVec 32)}(h:k<l.length):(DC (pad l n)).getD k .dk=W (l.getD k 0):=by
 simp[pad,DC,T9,h,List.getElem?_append]
def A81{l:List (BitVec 32)}(h:l.length=n):pad l n=l:=by simp[pad,h]
def B3Y(a b:Nat)(K:K2):Tu 1 Ac 2 [(0,1,I a),(1,1,I b)] K=K (.list 2 (WQ [a,b])):=id rfl
def B3X(a b c:Nat)(K:K2):Tu 1 Ac 3 [(0,1,I a),(1,1,I b),(2,1,I c)] K=K (.list 3 (WQ [a,b,c])):=id rfl
def xZ{K:K2}(hk:∀k∈ks,1<=k/\k<32)(c:ks.length<32)(a:32<L):Aj (rt L (n+2)) Ev [W w,.list ks.length (WQ ks)] H K=K (W (Sk w ks)):=
 AE (B1s hk c a) (Aq CG (Aq Pc AG))
def B6z{k:AV->AV->KV}{l:Ha}{w:AV}(s:l.length=64)(j:∀q H,Al H r=some (.cells q CE (DC (pad (w16 l 16) 64)))->Wf H->k (V0 l) (.ptr r 0 0) (I 16) H=x):
 ∀(f i:Nat)(q:Bool)(H:Hp),i<=16->16-i<f->Al H r=some (.cells q CE (DC (pad (w16 l i) 64)))->Wf H->Mz L (rt L n) K k f (V0 l) (.ptr r 0 0) w (I i) H=x:=by
 intro f
 induction f with
 |zero=>intro i q H _ h;omega
 |succ f ih=>
  intro i q H p m hr a;rw[Xc];unfold MA Lo Az;rw[Eh,Fi];by_cases h:i<16
  ·rw[CZ (by simp;omega)];simp(disch:=omega) only[Px,CO,Cz,NU,A9p,OQ (t:=AY) rfl,vT,KK (z:=24) (k:=24) rfl (by decide),KK (z:=16) (k:=16) rfl (by decide),KK (z:=8) (k:=8) rfl (by decide),dZ];have c:((4:Int)*(i:Int)).toNat=4*i:=by omega
   have d:((4:Int)*(i:Int)+1).toNat=4*i+1:=by omega
   have e:((4:Int)*(i:Int)+2).toNat=4*i+2:=by omega
   have g:((4:Int)*(i:Int)+3).toNat=4*i+3:=by omega
   rw[c,d,e,g,I?,Ey i rfl rfl (by omega),NU,Em hr (by rw[He,A3C (by rw[Zu];omega)];omega) rfl rfl rfl,RY,A3B _ (Zu l i) (by omega),<-L?,QI];exact ih (i+1) q _ (by omega) (by omega) (A5 hr) (Bs a)
  ·rw[Cr (by simp;omega)];have:i=16:=by omega
   subst this;exact j _ _ hr a
def B6A{k:KV}{l:Ha}{w0 w1:AV}(B:100<L)(u:∀q H,Al H r=some (.cells q CE (DC (MO l 48)))->Wf H->k (.ptr r 0 0) H=x):
 ∀(f i:Nat)(q:Bool)(H:Hp),i<=48->48-i<f->Al H r=some (.cells q CE (DC (pad (MO l i) 64)))->Wf H->M0 L (rt L (n+2)) K k f w0 (.ptr r 0 0) (I ((16+i:Nat):Int)) w1 H=x:=by
 intro f
 induction f with
 |zero=>intro i q H _ h;omega
 |succ f ih=>
  intro i q H D C hr d;rw[Xd];unfold MB Lo Az;rw[Eh,Fi];have c:=QK l i;by_cases h:i<48
  ·rw[CZ (by simp;omega)];have F:(DC (pad (MO l i) 64)).length=64:=by rw[He,A3C (by rw[c];omega)]
   have e:((16+i:Nat):Int)-15=((i+1:Nat):Int):=by omega
   have g:((16+i:Nat):Int)-2=((i+14:Nat):Int):=by omega
   have j:((16+i:Nat):Int)-16=((i:Nat):Int):=by omega
   have m:((16+i:Nat):Int)-7=((i+9:Nat):Int):=by omega
   have ia:=λ(k:Nat)hk K=>Ey (t:=BS) (s:=r) (z:=(k:Int)) k (K:=K) rfl rfl hk;have y:=λk hk K=>AH (t:=Ak) (p:=k) (K:=K) rfl hr hk;have a:=λk hk=>A80 (n:=64) (l:=MO l i) (k:=k) hk;simp(disch:=omega) only[IE,Cz,NU,e,g,j,m,ia,y,a];have i1:∀K,Tu 1 Ac 2 [(0,1,.v (.int .i64 7)),(1,1,.v (.int .i64 18))] K=K (.list 2 (WQ [7,18])):=λK=>B3Y 7 18 K;have i2:∀K,Tu 1 Ac 2 [(0,1,.v (.int .i64 17)),(1,1,.v (.int .i64 19))] K=K (.list 2 (WQ [17,19])):=λK=>B3Y 17 19 K;have m1:∀w K,Aj (rt L (n+2)) Ev [W w,.list 2 (WQ [7,18])] H K=K (W (Sk w [7,18])):=λw K=>xZ (ks:=[7,18]) (by decide) (by decide) (by omega);have A:∀w K,Aj (rt L (n+2)) Ev [W w,.list 2 (WQ [17,19])] H K=K (W (Sk w [17,19])):=λw K=>xZ (ks:=[17,19]) (by decide) (by decide) (by omega);simp(disch:=omega) only[NU,a,i1,i2,m1,A,IY (z:=3) (k:=3) rfl (by decide),IY (z:=10) (k:=10) rfl (by decide),Uk,OT,C0l,C0k];rw[Em hr (by omega) rfl rfl rfl,RY,A3B _ c (by omega),CO,Cz (by omega) (by omega),QI];exact ih (i+1) q _ (by omega) (by omega) (A5 hr) (Bs d)
  ·rw[Cr (by simp;omega)];have:i=48:=by omega
   subst this;rw[A81 (by rw[QK])]at hr;exact u _ _ hr d
def arr(l:List (BitVec 32)):AV:=.agg (DC l)
def A1y{l:Ha}(a:l.length=64)(e:100<L):CS (rt L (n+3)) NN [V0 l] (arr (MO l 48)):=by
 intro K d;rw[Yg];unfold Nz Az;simp only[BJ];rw[AP (cs:=DC (pad (w16 l 0) 64)) rfl];refine B6z a ?_ L 0 true _ (by omega) (by omega) (Av (by simp)) (AM E1);intro q H hr c;refine B6A (n:=n) (l:=l) e ?_ L 0 q H (by omega) (by omega) hr c;intro q H hr c;have a:(DC (MO l 48)).length=64:=by rw[He,QK]
 rw[AX rfl a.symm hr,Bv hr rfl a.symm (Xi _),AX rfl a.symm (A5 hr)];exact d _ _ (λb=>⟨false,PR (KF (λx:BitVec 32=>Value.int .u32 (x.toNat:Int)) _)⟩)
end
section
variable{q q0:Bool}{H H' H0:Hp}{D e0 r r8 s0:Nat}{P:Nat->Prop}{y:Row}
def A2h{b:Bool}{sz s o n:Nat}{e:TypeId}{cs cs':Is}{q':Bool}(g:Al H s=some (.cells q e cs))(hn:o+n*sz<=cs.length)(h:Py b D ((cs.drop o).take (n*sz)) cs' H q'):Fx b (D+1) (.sl sz s o n) (.list n cs') H true:=λK=>by
 have d:I5 b H (D+1) (.sl sz s o n) K=IN H s λx=>Ku x λ_ cs=>FI (Nat.mul n sz) (D0 o cs) λc=>Il (I5 b H D) c λ_ a=>K true (.list n a):=rfl;rw[d,Bq g];have f:(Ku (.cells q e cs) λ_ cs=>FI (Nat.mul n sz) (D0 o cs) λc=>Il (I5 b H D) c λ_ a=>K true (.list n a))=FI (n*sz) (D0 o cs) λc=>Il (I5 b H D) c λ_ a=>K true (.list n a):=rfl;rw[f,C9,MH _ _ _ (by simp;omega),h]
def A9d{r o n e:Nat}{cs:Is}{K:Nat->Is->Af}(a:Al H r=some (.cells q e cs))(hn:o+n<=cs.length):Ui H (.sl 1 r o n) K=K n ((cs.drop o).take n):=by
 have:Ui H (.sl 1 r o n) K=IN H r λx=>Ku x λ_ cs=>FI (Nat.mul n 1) (D0 o cs) λc=>K n c:=rfl;rw[this,Bq a];show FI (Nat.mul n 1) (D0 o cs) (λc=>K n c)=_;have e:Nat.mul n 1=n:=D' n;rw[e,C9,MH _ _ _ (by simp;omega)]
def A2t{n r e:Nat}(a b:Nat){cs:Is}{d c:Option AV}{K:K2}(g:∀K:Nat->Af,VT d 0 K=K a)(f:∀K:Nat->Af,VT c n K=K b)(j:Al H r=some (.cells q e cs))(hn:n<=cs.length)(h1:a<=b)(h2:b<=n):tS n 1 (.ptr r 0 0) d c H K=K (.sl 1 r a (b-a)):=by
 have i:tS n 1 (.ptr r 0 0) d c H K=IN H r λy=>Ku y λ_ cs=>HD cs 0 λcl=>ck (Nat.ble (Nat.add 0 (Nat.mul n 1)) cl) (VT d 0 λl=>VT c n λh=>ck (Nat.ble l h&&Nat.ble h n) (fN (Nat.add 0 (Nat.mul l 1)) λk=>fN (Nat.sub h l) λm=>K (.sl 1 r k m))):=rfl;rw[i,Bq j];show HD cs 0 _=_;rw[Cs,g,f,D5,D5];have f1:Nat.ble (Nat.add 0 (Nat.mul n 1)) (0+cs.length)=true:=by rw[eT];show 0+n*1<=_;omega
 have f2:(Nat.ble a b&&Nat.ble b n)=true:=by simp only[J2,eT];omega
 have f3:Nat.add 0 (Nat.mul a 1)=a:=by show 0+a*1=a;omega
 rw[f1,f2,f3];rfl
def B8l{r o n m e:Nat}{cs ys:Is}{src:AV}{K:KV}(c:∀K:Nat->Is->Af,Ui H src K=K m ys)(d:ys.length=m)(hm:m<=n)(hn:0<n)(h1:ys.all AV.one=true)(hk:V3 1 src=true)(a:Al H r=some (.cells q e cs))(f:o+m<=cs.length):A0w 1 (.sl 1 r o n) src H K=K (I m) (upd H r (.cells q e (splice cs o ys))):=by
 unfold A0w;rw[c,Cs];have f1:(Nat.beq (0+ys.length) (Nat.mul m 1)&&(Nat.beq 1 1&&(Nat.blt 0 n&&(Nat.ble m n&&(PI ys&&V3 1 src)))))=true:=by
  have:Nat.mul m 1=m:=D' m;rw[Gu,h1,hk,d,this,Kk,ZX];simp only[D_,D?,ZX,J2,VD,eT];omega
 simp only[f1];show IN H r _=_;rw[Bq a];show DN o ys cs _=_;rw[IP _ _ _ _ (by omega),C5];rfl
def Lat.upd_new(k:Lat H H' P)(hr:Ax H<=r):Lat H (Go.Abs.upd H' r y) P:=
 ⟨λw=>Bs (k.wf w),by rw[BV];exact k.nx,λw s x a hn=>by rw[Ah (by have:=w.lt a;omega)];exact k.keep w s x a hn⟩
def Lat.new(k:Lat H H' P):Lat H ((Ax H',y)::H') P:=k.trans (Lat.cons H' y P) (λ_ _ h=>h) (λ_ _ h=>h)
def Lat.upd_old(k:Lat H H' P)(hr:P r):Lat H (Go.Abs.upd H' r y) P:=k.trans (Lat.upd H' r y hr) (λ_ _ h=>h) (λ_ _ h=>h)
def Chk(H:Hp)(v:AV)(l:Ha):Prop:=v=V0 l\/∃r o q e cs,v=.sl 1 r o l.length/\Al H r=some (.cells q e cs)/\o+l.length<=cs.length/\(cs.drop o).take l.length=L3 l
def B2K{b:Bool}(l:Ha):Py b D (L3 l) (L3 l) H false:=KF (λb:UInt8=>Value.int .u8 (b.toNat:Int)) l
def Chk.fx{v:AV}{l:Ha}(h:Chk H v l):∃q,Fx true depth v (V0 l) H q:=by
 rcases h with rfl|⟨r,o,q,e,cs,rfl,h1,h2,a⟩
 ·exact⟨_,Pc⟩
 ·exact⟨_,A2h h1 (by omega) (by rw[D',a];exact B2K l)⟩
variable{L n:Nat}{K:KV}{x:Af}
def C2L(s:S8)(k w:BitVec 32):(DC [s.h+Sk s.e [6,11,25]+((s.e&&&s.f)^^^(~~~s.e&&&s.g))+k+w+(Sk s.a [2,13,22]+((s.a&&&s.b)^^^(s.a&&&s.c)^^^(s.b&&&s.c))),s.a,s.b,s.c,s.d+(s.h+Sk s.e [6,11,25]+((s.e&&&s.f)^^^(~~~s.e&&&s.g))+k+w),s.e,s.f,s.g])=DC (rnd s k w).l:=by
 have i:Sk s.e [6,11,25]=JU s.e 6^^^JU s.e 11^^^JU s.e 25:=by simp[Sk]
 have j:Sk s.a [2,13,22]=JU s.a 2^^^JU s.a 13^^^JU s.a 22:=by simp[Sk]
 rw[i,j,A7d]
def B8K{k:AV->AV->AV->AV->KV}{ws:List (BitVec 32)}{s0:S8}{r2 r8:Nat}{v0 w5:AV}(Z:ws.length=64)(hL:100<L)(h2:Ax H0<=r2)(R:Ax H0<=r8)(F:r2≠r8)(hx:∀A u H,Al H r8=some (.cells A u (DC (jU ws s0 64).l))->Lat H0 H (λ_=>False)->Wf H->k v0 (.ptr r2 0 0) (.ptr r8 0 0) (arr kk) (I 64) H=x):
 ∀(f i:Nat)(q2:Bool)(Q:Nat)(A:Bool)(u:Nat)(H:Hp),i<=64->64-i<f->Al H r2=some (.cells q2 Q (DC ws))->Al H r8=some (.cells A u (DC (jU ws s0 i).l))->Lat H0 H (λ_=>False)->Wf H->
  JV L (rt L (n+2)) K k f v0 (.ptr r2 0 0) (.ptr r8 0 0) (arr kk) (I i) w5 H=x:=by
 intro f
 induction f with
 |zero=>intro i _ _ _ _ H _ h;omega
 |succ f ih=>
  intro i q2 Q A u H hi hf M j J hw;rw[TR];unfold JX Lo Az;rw[Eh,Fi];by_cases h:i<64
  ·rw[CZ (by simp;omega)];generalize hs:jU ws s0 i=s at j;have g0:(DC s.l).getD 0 .dk=W s.a:=id rfl;have g1:(DC s.l).getD 1 .dk=W s.b:=id rfl;have g2:(DC s.l).getD 2 .dk=W s.c:=id rfl;have g4:(DC s.l).getD 4 .dk=W s.e:=id rfl;have g5:(DC s.l).getD 5 .dk=W s.f:=id rfl;have g6:(DC s.l).getD 6 .dk=W s.g:=id rfl;have g7:(DC s.l).getD 7 .dk=W s.h:=id rfl;have gw:(DC ws).getD i .dk=W (ws.getD i 0):=L6 (by omega);have i0:=λK=>Ey (t:=AF) (s:=r8) (z:=0) 0 (K:=K) rfl rfl (by decide);have i1:=λK=>Ey (t:=AF) (s:=r8) (z:=1) 1 (K:=K) rfl rfl (by decide);have i2:=λK=>Ey (t:=AF) (s:=r8) (z:=2) 2 (K:=K) rfl rfl (by decide);have i4:=λK=>Ey (t:=AF) (s:=r8) (z:=4) 4 (K:=K) rfl rfl (by decide);have i5:=λK=>Ey (t:=AF) (s:=r8) (z:=5) 5 (K:=K) rfl rfl (by decide);have i6:=λK=>Ey (t:=AF) (s:=r8) (z:=6) 6 (K:=K) rfl rfl (by decide);have i7:=λK=>Ey (t:=AF) (s:=r8) (z:=7) 7 (K:=K) rfl rfl (by decide);have iw:=λK=>Ey (t:=BS) (s:=r2) (z:=(i:Int)) i (K:=K) rfl rfl h;have l8:(DC s.l).length=8:=rfl;have lw:(DC ws).length=64:=by rw[He,Z]
   have j1:∀K,Tu 1 Ac 3 [(0,1,.v (.int .i64 6)),(1,1,.v (.int .i64 11)),(2,1,.v (.int .i64 25))] K=K (.list 3 (WQ [6,11,25])):=λK=>B3X 6 11 25 K;have j2:∀K,Tu 1 Ac 3 [(0,1,.v (.int .i64 2)),(1,1,.v (.int .i64 13)),(2,1,.v (.int .i64 22))] K=K (.list 3 (WQ [2,13,22])):=λK=>B3X 2 13 22 K;have m1:∀w K,Aj (rt L (n+2)) Ev [W w,.list 3 (WQ [6,11,25])] H K=K (W (Sk w [6,11,25])):=λw K=>xZ (ks:=[6,11,25]) (by decide) (by decide) (by omega);have m2:∀w K,Aj (rt L (n+2)) Ev [W w,.list 3 (WQ [2,13,22])] H K=K (W (Sk w [2,13,22])):=λw K=>xZ (ks:=[2,13,22]) (by decide) (by decide) (by omega);have la:=λ(k:Nat)hk K=>AH (t:=Ak) (p:=k) (K:=K) rfl j hk;have O:=λ(k:Nat)hk K=>AH (t:=Ak) (p:=k) (K:=K) rfl M hk;have ki:∀K,dV BS Ak (arr kk) (I i) K=K (W (kk.getD i 0)):=λK=>by
    unfold arr;rw[A46 i rfl rfl rfl h (by rw[He,A29];decide),B42 h]
   simp(disch:=omega) only[NU,RY,i0,i1,i2,i4,i5,i6,i7,iw,la,O,g0,g1,g2,g4,g5,g6,g7,gw,ki,j1,j2,m1,m2,Uk,vU,OT,vP];rw[A2t 1 8 (λK=>rfl) (λK=>rfl) j (by omega) (by decide) (by decide),NU,A2t 0 7 (λK=>rfl) (λK=>rfl) j (by omega) (by decide) (by decide),NU];rw[B8l (λK=>A9d j (by omega)) rfl (by decide) (by decide) rfl rfl j (by rw[l8];decide),RY];clear la O j1 j2 m1 m2;have m:=A5 (q:=A) (e:=u) (cs:=DC [s.a,s.a,s.b,s.c,s.d,s.e,s.f,s.g]) j;have C:Al (upd H r8 (.cells A u (DC [s.a,s.a,s.b,s.c,s.d,s.e,s.f,s.g]))) r2=some (.cells q2 Q (DC ws)):=by rw[Ah F];exact M
   have N:=Bs (r:=r8) (y:=.cells A u (DC [s.a,s.a,s.b,s.c,s.d,s.e,s.f,s.g])) hw;have B:=J.upd_new (y:=.cells A u (DC [s.a,s.a,s.b,s.c,s.d,s.e,s.f,s.g])) R;have X:splice (DC s.l) 1 (((DC s.l).drop 0).take (7-0))=DC [s.a,s.a,s.b,s.c,s.d,s.e,s.f,s.g]:=id rfl;rw[X];generalize upd H r8 (.cells A u (DC [s.a,s.a,s.b,s.c,s.d,s.e,s.f,s.g]))=H3 at m C N B;rw[AH rfl m (by show 4<8;decide)];have g3:(DC [s.a,s.a,s.b,s.c,s.d,s.e,s.f,s.g]).getD 4 .dk=W s.d:=id rfl;rw[g3,OT,Em m (by show 0<8;decide) rfl rfl rfl,Em (A5 m) (by rw[List.length_set];show 4<8;decide) rfl rfl rfl,CO,Cz (by omega) (by omega),QI];have V:jU ws s0 (i+1)=rnd s (kk.getD i 0) (ws.getD i 0):=by rw[<-hs];rfl
   have Y:∀a d:BitVec 32,((DC [s.a,s.a,s.b,s.c,s.d,s.e,s.f,s.g]).set 0 (W a)).set 4 (W d)=DC [a,s.a,s.b,s.c,d,s.e,s.f,s.g]:=λ_ _=>id rfl;refine ih (i+1) q2 Q A u _ (by omega) (by omega) ?_ ?_ ((B.upd_new R).upd_new R) (Bs (Bs N))
   ·rw[Ah F,Ah F];exact C
   ·rw[V,<-C2L,<-Y];exact A5 (A5 m)
  ·rw[Cr (by simp;omega)];have:i=64:=by omega
   subst this;exact hx _ _ _ j J hw
def B8L{k:Ru}{a b:List (BitVec 32)}{Q R V:AV}(C:a.length=8)(hb:b.length=8)(j:s0≠r8)(J:∀H,Al H s0=some (.cells q0 e0 (DC (eN a b 8)))->Lat H0 H (λt=>t=s0)->Wf H->k H=x):
 ∀(f i:Nat)(v:Bool)(g:Nat)(H:Hp),i<=8->8-i<f->Al H s0=some (.cells q0 e0 (DC (eN a b i++a.drop i)))->Al H r8=some (.cells v g (DC b))->Lat H0 H (λt=>t=s0)->Wf H->
  JW L (rt L n) K k f (.ptr s0 0 0) Q (.ptr r8 0 0) R V (I i) H=x:=by
 intro f
 induction f with
 |zero=>intro i _ _ H _ h;omega
 |succ f ih=>
  intro i v g H Y X c e d w;rw[TS];unfold JY Lo Az;rw[Eh,Fi];by_cases h:i<8
  ·rw[CZ (by simp;omega)];have m:(DC (eN a b i++a.drop i)).length=8:=by rw[He,EJ,Se,l0t,C];omega
   have F:(DC b).length=8:=by rw[He,hb]
   have A:(DC (eN a b i++a.drop i)).getD i .dk=W (a.getD i 0):=by
    rw[L6 (by rw[He]at m;omega)]
    congr 1
    rw[T9,T9,l0n (by rw[Se];omega),Se,Nat.sub_self,lY,Nat.add_zero]
   have B:(DC b).getD i .dk=W (b.getD i 0):=L6 (by omega);have ia:=λK=>Ey (t:=AF) (s:=s0) (z:=(i:Int)) i (K:=K) rfl rfl h;have M:=λK=>Ey (t:=AF) (s:=r8) (z:=(i:Int)) i (K:=K) rfl rfl h;have N:=λK=>AH (t:=Ak) (p:=i) (K:=K) rfl c (by omega);have O:=λK=>AH (t:=Ak) (p:=i) (K:=K) rfl e (by omega);simp only[I2,NU,ia,M,N,O,A,B,OT];rw[Em c (by omega) rfl rfl rfl,RY,CO,Cz (by omega) (by omega),QI];have u:(DC (eN a b i++a.drop i)).set i (W (a.getD i 0+b.getD i 0))=DC (eN a b (i+1)++a.drop (i+1)):=by
    rw[wH,eU];have:a.drop i=a.getD i 0::a.drop (i+1):=by rw[tK (by omega),T9,JC (by omega)];rfl
    rw[this];unfold DC;rw[Yr,Yr,List.set_append_right _ _ (by rw[Ub,Se];omega),Ub,Se,Nat.sub_self];rfl
   refine ih (i+1) v g _ (by omega) (by omega) ?_ ?_ (d.upd_old rfl) (Bs w)
   ·rw[<-u];exact A5 c
   ·rw[Ah (Ne.symm j)];exact e
  ·rw[Cr (by simp;omega)];have:i=8:=by omega
   subst this;rw[List.drop_of_length_le (by omega),YV]at c;exact J _ c d w
def C1z{s:S8}{l:Ha}{c:AV}(hl:l.length=64)(Y:100<L)(O:Wf H)(hr:Al H s0=some (.cells q0 e0 (DC s.l)))(hc:Chk H c l)(hx:∀H',Al H' s0=some (.cells q0 e0 (DC (VZ s l).l))->Lat H H' (λt=>t=s0)->Wf H'->K (.tup []) H'=x):(rt L (n+4)).call KI [.ptr s0 0 0,c] H K=x:=by
 rw[Vb];unfold K9 Az;simp only[BJ];obtain⟨q,hq⟩:=hc.fx;rw[AE (A1y (n:=n) hl Y) (Aq hq AG)];have h0:=O.lt hr;rw[AP (cs:=DC (List.replicate 64 0)) rfl];unfold arr;have v:=Av (H:=H) (x:=.cells true CE (DC (List.replicate 64 0))) (by simp);rw[Bv v (by rw[He,He,QK];rfl) (by rw[He];rfl) (Xi _),I2];have k:=A5 (q:=true) (e:=CE) (cs:=DC (MO l 48)) v;have m:Al (upd ((Ax H,c_ CE (DC (List.replicate 64 0)))::H) (Ax H) (c_ CE (DC (MO l 48)))) s0=some (.cells q0 e0 (DC s.l)):=by
  rw[Ah (by omega)];exact AK h0 hr
 have g:=Bs (r:=Ax H) (y:=.cells true CE (DC (MO l 48))) (AM (x:=.cells true CE (DC (List.replicate 64 0))) O);have i:=((Lat.refl H (λ_=>False)).new (y:=.cells true CE (DC (List.replicate 64 0)))).upd_new (r:=Ax H) (y:=.cells true CE (DC (MO l 48))) (Oj _);generalize upd ((Ax H,c_ CE (DC (List.replicate 64 0)))::H) (Ax H) (c_ CE (DC (MO l 48)))=f at k m g i;rw[AX rfl rfl m,AP (cs:=DC (List.replicate 8 0)) rfl];have A:=Av (H:=f) (x:=.cells true B7 (DC (List.replicate 8 0))) (by simp);rw[Bv (vs:=DC s.l) A rfl rfl (Xi _)];have p:=g.lt k;have X:=g.lt m;have B:=A5 (q:=true) (e:=B7) (cs:=DC s.l) A;have F:Al (upd ((Ax f,c_ B7 (DC (List.replicate 8 0)))::f) (Ax f) (c_ B7 (DC s.l))) (Ax H)=some (c_ CE (DC (MO l 48))):=by
  rw[Ah (by omega)];exact AK p k
 have J:=Bs (r:=Ax f) (y:=.cells true B7 (DC s.l)) (AM (x:=.cells true B7 (DC (List.replicate 8 0))) g);have j:=(i.new (y:=.cells true B7 (DC (List.replicate 8 0)))).upd_new (r:=Ax f) (y:=.cells true B7 (DC s.l)) (by omega);generalize upd ((Ax f,c_ B7 (DC (List.replicate 8 0)))::f) (Ax f) (c_ B7 (DC s.l))=V at B F J j;have hg:∀K:K2,A7 BS (AV.iptr gl0) V K=K (arr kk):=λK=>by kernel_rfl
 rw[hg];refine B8K (n:=n+1) (ws:=MO l 48) (s0:=s) (H0:=H) (by rw[QK]) Y (Oj _) (by omega) (by omega) ?_ L 0 true _ true _ V (by omega) (by omega) F B j J;intro q8 e8 Z N d Q;have C:=d.keep O s0 _ hr (λh=>h);refine B8L (a:=s.l) (b:=(jU (MO l 48) s 64).l) (H0:=H) rfl rfl (by omega) ?_ L 0 q8 e8 Z (by omega) (by omega) C N ⟨d.wf,d.nx,λw t x ht _=>d.keep w t x ht (λh=>h)⟩ Q;intro H6 M u R;exact hx H6 M u R
end
section
variable{q:Bool}{e r:Nat}{s:S8}
def kG(l:Ha)(n:Nat):Ha:=l++List.replicate (n-l.length) 0
def A83{l:Ha}{n:Nat}(h:l.length<=n):(kG l n).length=n:=by simp[kG];omega
def A82{l:Ha}{n k:Nat}(w:UInt8)(hk:l.length=k)(h:k<n):(L3 (kG l n)).set k (By w)=L3 (kG (l++[w]) n):=by
 subst hk;have e:n-l.length=(n-(l.length+1))+1:=by omega
 simp[kG,L3,e,l17,List.set_append_right]
def A57{l:Ha}{n:Nat}(h:l.length=n):kG l n=l:=by simp[kG,h]
def B0z(w:BitVec 32){j:Nat}(h:j<4):(wb w).take (j+1)=(wb w).take j++[UInt8.ofNat (w>>>(24-8*j)).toNat]:=by
 have:j=0\/j=1\/j=2\/j=3:=by omega
 rcases this with rfl|rfl|rfl|rfl<;>simp[wb,BitVec.toNat_ushiftRight,Nat.shiftRight_eq_div_pow]
def B4z(w:BitVec 32):(wb w).length=4:=rfl
variable{L n:Nat}{K:KV}{x:Af}
def B8q{k:AV->AV->AV->AV->AV->KV}{w:BitVec 32}{b:Ha}{i r e:Nat}{a c:AV}(u:i<8)(hb:b.length=4*i)(p:∀H,Al H r=some (.cells q e (L3 (kG (b++wb w) 32)))->k (.ptr r 0 0) (I i) (W w) a c (I 4) H=x):
 ∀(f j:Nat)(H:Hp),j<=4->4-j<f->Al H r=some (.cells q e (L3 (kG (b++(wb w).take j) 32)))->J6 L (rt L n) K k f (.ptr r 0 0) (I i) (W w) a c (I j) H=x:=by
 intro f
 induction f with
 |zero=>intro j H _ h;omega
 |succ f ih=>
  intro j H v t hr;rw[Tv];unfold J8 Az;rw[Eh,Fi];by_cases h:j<4
  ·rw[CZ (by simp;omega)];have d:(4:Int)*(i:Int)+(j:Int)=((4*i+j:Nat):Int):=by omega
   have g:(24:Int)-8*(j:Int)=((24-8*j:Nat):Int):=by omega
   simp(disch:=omega) only[Px,CO,IE,Cz,d,g,vS,IY (z:=((24-8*j:Nat):Int)) (k:=24-8*j) rfl (by omega)];have m:(b++(wb w).take j).length=4*i+j:=by rw[EJ,hb,E',B4z];omega
   rw[Ey (4*i+j) rfl rfl (by omega),Em hr (by rw[Ph,A83 (by omega)];omega) rfl rfl rfl,A82 _ m (by omega),eU,<-B0z w h,QI];exact ih (j+1) _ (by omega) (by omega) (A5 hr)
  ·rw[Cr (by simp;omega)];have:j=4:=by omega
   subst this;exact p _ hr
def B8r{k:KV}{w0 w1 w5:AV}(c:10<L)(a:∀H,Al H r=some (.cells q e (L3 (W9 s.l 8)))->k (.ptr r 0 0) H=x):
 ∀(f i:Nat)(w0 w1 w5:AV)(H:Hp),i<=8->8-i<f->Al H r=some (.cells q e (L3 (kG (W9 s.l i) 32)))->J7 L (rt L n) K k f (.ptr r 0 0) w0 w1 (arr s.l) (I i) w5 H=x:=by
 intro f
 induction f with
 |zero=>intro i _ _ _ H _ h;omega
 |succ f ih=>
  intro i w0 w1 w5 H g d hr;rw[Tw];unfold J9 Az;rw[Eh,Fi];by_cases h:i<8
  ·rw[CZ (by simp;omega)];simp only[BJ];unfold arr;rw[A46 i rfl rfl rfl h (by show 8<=8;decide),L6 (show i<s.l.length from h)];refine B8q (b:=W9 s.l i) h (W8 _ _) ?_ L 0 H (by omega) (by omega) (by simpa using hr);intro H hr;rw[CO,Cz (by omega) (by omega),QI];exact ih (i+1) _ _ _ H (by omega) (by omega) hr
  ·rw[Cr (by simp;omega)];have:i=8:=by omega
   subst this;rw[A57 (W8 _ _)]at hr;exact a _ hr
def A79(d:10<L):CS (rt L (n+1)) Gc [arr s.l] (S (W9 s.l 8)):=by
 intro K c;rw[TY];unfold Kc Az;simp only[BJ];unfold arr;rw[Fb (Xi _),AP (cs:=L3 (kG (W9 s.l 0) 32)) rfl];have a:Al ((Ax [(Ax [],c_ B7 (DC s.l))],c_ U9 (L3 (kG (W9 s.l 0) 32)))::[(Ax [],c_ B7 (DC s.l))]) (Ax [])=some (c_ B7 (DC s.l)):=id rfl;rw[AX rfl rfl a];refine B8r (w0:=.dk) (w1:=.dk) (w5:=.dk) d ?_ L 0 _ _ _ _ (by omega) (by omega) (Av (by simp));intro H hr;have f:(L3 (W9 s.l 8)).length=32:=by rw[Ph,W8]
 rw[A2t 0 32 (λK=>rfl) (λK=>rfl) hr (by omega) (by decide) (by decide),A47 (e:=U9) (.inr ⟨_,_,rfl,hr,by omega⟩)];exact c _ _ (λb=>⟨false,CG⟩)
end
section
variable{q0:Bool}{H:Hp}{e0:Nat}{t:TI}
def A5y{e r o m:Nat}{x y z:Int}(a b c:Nat){K:K2}(f:t.d=.slice e 1)(i:x=a)(j:y=b)(hz:z=c)(h1:a<=b)(h2:b<=c)(p:c<=m):EI t (.sl 1 r o m) (some (I x)) (some (I y)) (some (I z)) K=K (.sl 1 r (o+a) (b-a)):=by
 subst i j hz;have g:EI t (.sl 1 r o m) (some (I a)) (some (I b)) (some (I c)) K=iN (a:Int) λl=>iN (b:Int) λh=>iN (c:Int) λx=>ck (Nat.ble l h&&(Nat.ble h x&&Nat.ble x m)) (fN (Nat.add o (Nat.mul l 1)) λk=>fN (Nat.sub h l) λn=>K (.sl 1 r k n)):=by
  obtain⟨_,_,d,z⟩:=t;simp only at f;subst f;rfl
 rw[g,JH,JH,JH];have f1:(Nat.ble a b&&(Nat.ble b c&&Nat.ble c m))=true:=by simp only[J2,eT];omega
 have f2:Nat.add o (Nat.mul a 1)=o+a:=by show o+a*1=_;omega
 rw[f1,f2,D5,D5];rfl
def A2r{e r o m:Nat}{x:Int}(a:Nat){K:K2}(c:t.d=.slice e 1)(g:x=a)(h1:a<=m):EI t (.sl 1 r o m) (some (I x)) none none K=K (.sl 1 r (o+a) (m-a)):=by
 subst g;have f:EI t (.sl 1 r o m) (some (I a)) none none K=iN (a:Int) λl=>fN m λh=>fN m λx=>ck (Nat.ble l h&&(Nat.ble h x&&Nat.ble x m)) (fN (Nat.add o (Nat.mul l 1)) λi=>fN (Nat.sub h l) λn=>K (.sl 1 r i n)):=by
  obtain⟨_,_,d,z⟩:=t;simp only at c;subst c;rfl
 rw[f,JH,D5,D5];have f1:(Nat.ble a m&&(Nat.ble m m&&Nat.ble m m))=true:=by simp only[J2,eT];omega
 have f2:Nat.add o (Nat.mul a 1)=o+a:=by show o+a*1=_;omega
 rw[f1,f2,D5,D5];rfl
def B8e{x y:Int}(h:x<=y){K:K2}:zF true (I x) (I y) K=K (I x):=by
 have:zF true (I x) (I y) K=ck (decide (IntKind.i64=IntKind.i64)) (@Bool.rec (λ_=>Af) (K (I y)) (K (I x)) (lH x y)):=rfl;rw[this,KE,Ki h];rfl
def B3l{ty sz r o m:Nat}{K:KV}:Hd ty (.sl sz r o m) H K=K (.ptr (Ax H) 0 0) ((Ax H,c_ ty [.sl sz r o m])::H):=by
 unfold Hd;rw[CQ,Gu,BW];rfl
def Jm{b:Bool}{K:K2}:PA .not (Bo b) K=K (Bo (!b)):=by cases b<;>rfl
variable{L n:Nat}{K:KV}{x:Af}
def lpS(a c2 c3 c4 c5 c6 F_ F? F! :AV)(p:Option (Option Code)):Row:=.loop 40 [(0,a),(2,c2),(3,c3),(4,c4),(5,c5),(6,c6),(34,F_),(35,F?),(36,F!)] (XA1).2.1 (XA1).2.2.1 (XA1).2.2.2 p
def B1D{d c2 c4 c5 c6 F_ F? F! c:AV}{s r0:Nat}{t:S8}{l:Ha}(M:l.length=64)(F:100<L)(O:Wf H)(hr:Al H r0=some (.cells q0 e0 (DC t.l)))(hc:Chk H c l)(v:Al H s=some (lpS d c2 (.ptr r0 0 0) c4 c5 c6 F_ F? F! (some none)))(m:∀A,A6 c A->A≠s)(f:r0≠s)(P:∀a,Al a r0=some (.cells q0 e0 (DC (VZ t l).l))->Al a s=some (lpS d c2 (.ptr r0 0 0) c4 c5 c6 F_ F? F! (some none))->(∀u y,Al H u=some y->u≠r0->u≠s->Al a u=some y)->Wf a->K (Bo true) a=x):
 C7 (E L) (rt L (n+5)) (.yl s) [c] H K=x:=by
 show Ol (rt L (n+5)) s [c] H K=x;rw[Qw v (by kernel_rfl)];have j:(rt L (n+5)).run= λB=>Jr (E L) (rt L (n+4)) B:=rfl;rw[j,kE,Qz v];have i:=Bs (r:=s) (y:=lpS d c2 (.ptr r0 0 0) c4 c5 c6 F_ F? F! none) O;have p:Al (upd H s (lpS d c2 (.ptr r0 0 0) c4 c5 c6 F_ F? F! none)) r0=some (.cells q0 e0 (DC t.l)):=by rw[Ah f];exact hr
 have w:Al (upd H s (lpS d c2 (.ptr r0 0 0) c4 c5 c6 F_ F? F! none)) s=some (lpS d c2 (.ptr r0 0 0) c4 c5 c6 F_ F? F! none):=FE v;have k:Chk (upd H s (lpS d c2 (.ptr r0 0 0) c4 c5 c6 F_ F? F! none)) c l:=by
  rcases hc with h|⟨r,o,q,e,cs,h1,h2,C,D⟩
  ·exact .inl h
  ·refine .inr ⟨r,o,q,e,cs,h1,?_,C,D⟩;rw[Ah (m r ⟨_,_,_,h1⟩)];exact h2
 refine C1z M F i p k ?_;intro a J hb hc;have g:=hb.keep i s _ w (λh=>f h.symm);show Ek a s false (some none) _=_;unfold lpS at g;rw[Qy g];refine P _ ?_ (FE g) ?_ (Bs hc)
 ·rw[Ah f];exact J
 ·intro u y N h1 h2;rw[Ah h2];refine hb.keep i u y ?_ h1;rw[Ah h2];exact N
def B7X{k:Ru}{w c2 c4 c5 c6 F_ F? F! :AV}{s r0 r1 r2 rm m N O em:Nat}{q0 q1 q2 J:Bool}{l:Ha}(V:100<L)(hm:l.length=64*m)(hl:l.length<200000000000)(M:r0≠s)(d1:r1≠s)(d2:r2≠s)(dm:rm≠s)(d:r1≠r0)(a:r2≠r0)(e:rm≠r0)(X:∀H,Al H r0=some (.cells q0 e0 (DC (Zb l m).l))->Al H s=some (lpS w c2 (.ptr r0 0 0) c4 c5 c6 F_ F? F! (some none))->Wf H->k H=x):
 ∀(f i:Nat)(H:Hp),i<=m->m-i<f->Al H r0=some (.cells q0 e0 (DC (Zb l i).l))->Al H s=some (lpS w c2 (.ptr r0 0 0) c4 c5 c6 F_ F? F! (some none))->
  Al H r1=some (.cells q1 N [.sl 1 rm 0 l.length])->Al H r2=some (.cells q2 O [I 64])->Al H rm=some (.cells J em (L3 l))->Wf H->
  Fy L (rt L (n+5)) K k f (.yl s) (.ptr r1 0 0) (.ptr r2 0 0) (I ((64*i:Nat):Int)) H=x:=by
 intro f
 induction f with
 |zero=>intro i H _ h;omega
 |succ f ih=>
  intro i H hi Z A B h1 h2 c C;rw[LB];unfold Fz;have D:∀K,A7 AN (.ptr r1 0 0) H K=K (.sl 1 rm 0 l.length):=λK=>AH (p:=0) rfl h1 (by simp);have Y:∀K,A7 Ac (.ptr r2 0 0) H K=K (I 64):=λK=>AH (p:=0) rfl h2 (by decide);have F:∀k o K,Bh AN (.sl 1 rm o k) K=K (I k):=λ_ _ _=>id rfl;rw[D,F,Eh,Fi];by_cases h:i<m
  ·rw[CZ (by simp;omega)];have P:∀K,EI AN (.sl 1 rm 0 l.length) (some (I ((64*i:Nat):Int))) none none K=K (.sl 1 rm (0+64*i) (l.length-64*i)):=λK=>A2r _ rfl rfl (by omega);have y:((64*i:Nat):Int)+64=((64*(i+1):Nat):Int):=by omega
   have Q:∀K,EI AN (.sl 1 rm 0 l.length) (some (I ((64*i:Nat):Int))) (some (I ((64*(i+1):Nat):Int))) (some (I ((64*(i+1):Nat):Int))) K=K (.sl 1 rm (0+64*i) (64*(i+1)-64*i)):=λK=>A5y _ _ _ rfl rfl rfl rfl (by omega) (by omega) (by omega);have R:64*(i+1)-64*i=64:=by omega
   simp(disch:=omega) only[NU,D,Y,P,F,B8e,CO,Cz,y,Q,R,Kk];refine B1D (l:=(l.drop (64*i)).take 64) (by simp;omega) V C A (.inr ⟨rm,64*i,J,em,L3 l,?_,c,?_,?_⟩) B ?_ M ?_
   ·have:((l.drop (64*i)).take 64).length=64:=by simp;omega
    rw[this]
   ·have:((l.drop (64*i)).take 64).length=64:=by simp;omega
    rw[this,Ph];omega
   ·have:((l.drop (64*i)).take 64).length=64:=by simp;omega
    rw[this];unfold L3;rw[List.map_take,List.map_drop]
   ·rintro s' ⟨_,_,_,j⟩;injection j with _ j
    subst j;exact dm
   ·intro v g q hk r;have u:∀K,A7 Ac (.ptr r2 0 0) v K=K (I 64):=λK=>AH (p:=0) rfl (hk r2 _ h2 a d2) (by decide);rw[Jm,Fi,Cr (by simp),u,CO,Cz (by omega) (by omega),y];exact ih (i+1) v (by omega) (by omega) g q (hk r1 _ h1 d d1) (hk r2 _ h2 a d2) (hk rm _ c e dm) r
  ·rw[Cr (by simp;omega)];have:i=m:=by omega
   subst this;exact X _ A B C
end
section
variable{k:AV->AV->AV->AV->AV->AV->AV->KV}{H:Hp}{s:Ha}{y:Row}
variable{L n:Nat}{K:KV}{x:Af}
def A9U{v:AV}{l:Ha}{r0:Nat}(b:UInt8)(h:AZ H Bk 1 v l.length (L3 l))(w:Wf H)(hn:l.length<1000000000000)(d:Al H r0=some y)(j:¬A6 v r0):
 ∃c a,(∀K:KV,(Gt Bk 1 AY 1 [(0,1,By b)] H λv1 e=>Ed Bk 1 AY AN v v1 e K)=K c a)/\AZ a Bk 1 c (l++[b]).length (L3 (l++[b]))/\Wf a/\Al a r0=some y/\¬A6 c r0:=by
 obtain⟨c,a,h1,h2,f,p,g,i⟩:=A9V b h w hn;exact⟨c,a,h1,h2,f,g r0 y d j,λm=>by have:=i r0 m;have:=w.lt d;omega⟩
def B9G{r0:Nat}{w0 w1 i F w5 m p q:AV}(M:s.length<100000000000)(C:∀v H,AZ H Bk 1 v (pre s).length (L3 (pre s))->Wf H->Al H r0=some y->¬A6 v r0->k w0 w1 i v w5 m p q H=x):
 ∀(f j:Nat)(v:AV)(H:Hp),j<=Zn s.length->Zn s.length-j<f->AZ H Bk 1 v (s++[128]++List.replicate j 0).length (L3 (s++[128]++List.replicate j 0))->Wf H->Al H r0=some y->¬A6 v r0->
  Tx L (rt L n) K k f w0 w1 i v F w5 m p q H=x:=by
 intro f
 induction f with
 |zero=>intro j v H _ h;omega
 |succ f ih=>
  intro j v H A J hv g c d;rw[lJ];unfold Tz Az;have a:(s++[128]++List.replicate j (0:UInt8)).length=s.length+1+j:=by simp;omega
  have hz:Zn s.length<64:=by unfold Zn;omega
  rw[Kr rfl hv,Xb (by decide),HF,Fi];have hm:((s++[128]++List.replicate j (0:UInt8)).length:Int).tmod 64=(((s.length+1+j)%64:Nat):Int):=by rw[a];exact(Int.ofNat_tmod _ _).symm
  rw[hm];by_cases h:j=Zn s.length
  ·subst h;have:(s.length+1+Zn s.length)%64=56:=by unfold Zn;omega
   rw[this];simp only[yL,decide_eq_false_iff_not];rw[Cr (by simp)];exact C _ _ hv g c d
  ·have B:(s.length+1+j)%64≠56:=by unfold Zn at h A;omega
   rw[CZ (by simp;omega)];obtain⟨D,r,h1,h2,t,u,w⟩:=A9U (0:UInt8) hv g (by omega) c d;have e:(AV.v (.int .u8 0))=By 0:=rfl;rw[e];rw[h1];refine ih (j+1) D r (by omega) (by omega) ?_ t u w;rw[List.replicate_succ',<-eU];exact h2
def B9H{r0:Nat}{w1 e w5 r g j:AV}(Q:s.length<100000000000)(M:∀v w H,AZ H Bk 1 v (ext s).length (L3 (ext s))->Wf H->Al H r0=some y->¬A6 v r0->k (S s) w1 e v w w5 g j H=x):
 ∀(f i:Nat)(l:Ha)(v:AV)(H:Hp),i<=8->i<f->l++Wl s.length i=ext s->AZ H Bk 1 v l.length (L3 l)->Wf H->Al H r0=some y->¬A6 v r0->
  Pf L (rt L n) K k f (S s) w1 e v (I ((i:Int)-1)) w5 r g j H=x:=by
 have hz:Zn s.length<64:=by unfold Zn;omega
 intro f
 induction f with
 |zero=>intro i l v H _ h;omega
 |succ f ih=>
  intro i l v H P O c hv q m p;have J:l.length<=s.length+1+64+8:=by
   have:=congrArg List.length c;simp[ext,pre,uK]at this;omega
  rw[lK];unfold T2 Az;rw[NT,Fi];cases i with
  |zero=>
   rw[Cr (by simp)];have:l=ext s:=by simpa [Wl] using c
   subst this;exact M _ _ _ hv q m p
  |succ i=>
   rw[CZ (by simp)];have u:((i+1:Nat):Int)-1=(i:Int):=by omega
   rw[u];rw[OP rfl,Px,Px,Cz (by omega) (by omega),Cz (by omega) (by omega)];have A:(8:Int)*(s.length:Int)=((8*s.length:Nat):Int):=by omega
   have B:(8:Int)*(i:Int)=((8*i:Nat):Int):=by omega
   rw[A,B,qY (by omega)];rw[A0x rfl];obtain⟨N,t,h1,h2,C,D,F⟩:=A9U (YT s.length i) hv q (by omega) m p;simp(disch:=omega) only[IE,Cz];have h1:=h1 (λd a=>Pf L (rt L n) K k f (S s) w1 e d (I ((i:Int)-1)) w5 r g j a);unfold YT at h1;rw[h1];refine ih i (l++[YT s.length i]) N t (by omega) (by omega) ?_ h2 C D F;rw[eU];exact c
def A3u{R:Rt}{N g:Nat}{cap:Is}{t:Tm}{ps:Array Tmp}{c f:Code}{K:Option (Option Code)->Ru}:oH R N (.fn (.func g) [] cap) t ps c f H K=R.call g (.yl (Ax H)::cap) ((Ax H,.loop N t ps c f (some none))::H) λ_ d=>IN d (Ax H) λx=>Yo x λ_ _ _ _ _ a=>JI d (Ax H) .gone λh=>K a h:=by
 have e:oH R N (.fn (.func g) [] cap) t ps c f H K=HV H λs=>R.call g (.yl s::cap) ((s,.loop N t ps c f (some none))::H) λ_ d=>IN d s λx=>Yo x λ_ _ _ _ _ a=>JI d s .gone λh=>K a h:=rfl;rw[e,BW]
def B9R(hs:s.length<100000000000)(hL:s.length+200<L):CS (rt L (n+8)) Vw [S s] (S (sha s)):=by
 intro K hK;rw[qA];unfold Vg Az;simp only[BJ];have X:∀K:K2,BZ AF [(0,1,(AV.v (.int .u32 1779033703))),(1,1,(AV.v (.int .u32 3144134277))),(2,1,(AV.v (.int .u32 1013904242))),(3,1,(AV.v (.int .u32 2773480762))),(4,1,(AV.v (.int .u32 1359893119))),(5,1,(AV.v (.int .u32 2600822924))),(6,1,(AV.v (.int .u32 528734635))),(7,1,(AV.v (.int .u32 1541459225)))] K=K (.agg (DC iv.l)):=λK=>by kernel_rfl
 rw[X,AP (cs:=DC (List.replicate 8 0)) rfl];have O:=Av (H:=[]) (x:=.cells true B7 (DC (List.replicate 8 0))) (by simp);rw[Bv (vs:=DC iv.l) O rfl rfl (Xi _)];have B:=A5 (q:=true) (e:=B7) (cs:=DC iv.l) O;have J:=Bs (r:=Ax []) (y:=.cells true B7 (DC iv.l)) (AM (x:=.cells true B7 (DC (List.replicate 8 0))) E1);generalize upd ((Ax [],c_ B7 (DC (List.replicate 8 0)))::[]) (Ax []) (c_ B7 (DC iv.l))=t at B J;have P:∀K:KV,A0l Bk (S s) t K=K (.sl 1 (Ax t) 0 s.length) ((Ax t,.cells false Bk (L3 s))::t):=λK=>by
  have e:A0l Bk (S s) t K=HD s 0 λn=>YY s λcs=>HV t λr=>K (.sl 1 r 0 n) ((r,.cells false Bk cs)::t):=rfl;rw[e,Cs,XC,BW,Kk];rfl
 rw[P];have Y:=J.lt B;have Z:=AK (x:=.cells false Bk (L3 s)) Y B;have ad:=AM (x:=.cells false Bk (L3 s)) J;have ac:=LC (H:=t) (e:=Bk) (n:=s.length) (cs:=L3 s) (Ph s);have e:(AV.v (.int .u8 128))=By 128:=rfl;obtain⟨v',H',h1,h2,h3,h4,h5⟩:=A9U (128:UInt8) ac ad (by omega) Z (λ⟨_,_,_,hh⟩=>by injection hh with _ hh;omega);rw[e,h1];have hz:Zn s.length<64:=by unfold Zn;omega
 refine B9G hs ?_ L 0 v' H' (by omega) (by omega) (by simpa using h2) h3 h4 h5;intro v H hv F hr R;refine B9H hs ?_ L 8 (pre s) v H (by omega) (by omega) rfl hv F hr R;intro v w H hv F hr R;obtain⟨m,hm,af⟩:=A42 s;rcases hv with⟨_,h,_⟩|⟨rm,qm,rfl,D,ae⟩
 ·simp[ext]at h
 have V:rm≠Ax []:=λh=>R ⟨_,_,_,by rw[h]⟩;rw[Pj];unfold HG Az;simp only[BJ];rw[B3l,zJ rfl];have j:=AK (x:=.cells true Oq [.sl 1 rm 0 (ext s).length]) (F.lt hr) hr;have c:=AK (x:=.cells true Oq [.sl 1 rm 0 (ext s).length]) (F.lt D) D;have g:=Av (H:=H) (x:=.cells true Oq [.sl 1 rm 0 (ext s).length]) (by simp);have a:=AM (x:=.cells true Oq [.sl 1 rm 0 (ext s).length]) F;have a1:=F.lt hr;have a2:=F.lt D;have a3:=a.lt g;generalize ((Ax H,c_ Oq [.sl 1 rm 0 (ext s).length])::H)=N at j c g a a3;have C:=AK (x:=.cells true Gq [I 64]) (a.lt j) j;have f:=AK (x:=.cells true Gq [I 64]) (a.lt c) c;have A:=AK (x:=.cells true Gq [I 64]) (a.lt g) g;have i:=Av (H:=N) (x:=.cells true Gq [I 64]) (by simp);have d:=AM (x:=.cells true Gq [I 64]) a;have a4:=a.lt j;have a5:=a.lt c;have a6:=d.lt i;generalize ((Ax N,c_ Gq [I 64])::N)=u at C f A i d a6;have l2:∀K,A7 Ac (.ptr (Ax N) 0 0) u K=K (I 64):=λK=>AH (p:=0) rfl i (by decide);rw[l2,Eh,Fi,Cr (by decide),A3u,Mm];unfold FB Az;simp only[BJ];have a7:=d.lt C;have a8:=d.lt f;have a9:=d.lt A;refine B7X (n:=n+1) (m:=m) (l:=ext s) (s:=Ax u) (r0:=Ax []) (r1:=Ax H) (r2:=Ax N) (rm:=rm) (by omega) hm (by omega) (by omega) (by omega) (by omega) (by omega) (by omega) (by omega) V ?_ L 0 _ (by omega) (by omega) (AK a7 C) (Av (x:=lpS (S s) (AV.v (.string ⟨⟨[]⟩⟩)) (.ptr (Ax []) 0 0) (.sl 1 rm 0 (ext s).length) _ _ _ _ _ (some none)) (by simp[lpS])) (AK a9 A) (AK a6 i) (AK a8 f) (AM d);intro M h0 aa ag;rw[Bq aa];show JI M (Ax u) .gone _=_;rw[C5];show A7 AF (.ptr (Ax []) 0 0) (upd M (Ax u) .gone) _=_;have Q:Al (upd M (Ax u) .gone) (Ax [])=some (c_ B7 (DC (Zb (ext s) m).l)):=by rw[Ah (by omega)];exact h0
 rw[AX rfl rfl Q];have ab:∀K,Aj (rt L (n+7)) Gc [.agg (DC (Zb (ext s) m).l)] (upd M (Ax u) .gone) K=K (S (W9 (Zb (ext s) m).l 8)):=λK=>AE (A79 (L:=L) (n:=n+6) (by omega)) (Aq (PR (KF (λx:BitVec 32=>Value.int .u32 (x.toNat:Int)) _)) AG);show Aj (rt L (n+7)) Gc [.agg (DC (Zb (ext s) m).l)] (upd M (Ax u) .gone) _=_;rw[ab];have e:W9 (Zb (ext s) m).l 8=sha s:=by
  unfold sha;have:(ext s).length/64=m:=by omega
  rw[this]
 rw[e];exact hK _ _ (λb=>⟨false,CG⟩)
end
end Go.Abs
end
