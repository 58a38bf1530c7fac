import Derived.Test.YthfokedilloheaaGreatDoorP08
set_option linter.all false
set_option maxHeartbeats 100000000
noncomputable section
namespace Go.Abs
open Go.RowKit Go.Proofs
set_option maxRecDepth 100000
section
variable{v w:AV}{K:K2}{x:Af}{b:Bool}{H:Hp}{s:Ha}{L e n:Nat}{R:Rt}{t t':TI}
def C0A{l:Ha}{i:Nat}(c:t.d=.string)(h:i<l.length):jI t t' (S l) (I i) K=K (By l[i]):=by
 have e:jI t t' (S l) (I i) K=iN (i:Int) λn=>B6N (Do n l) K:=by
  obtain⟨a,b,d,z⟩:=t;simp only at c;subst c;rfl
 rw[e,Kr,C9,rF h];show fN l[i].toNat (λn=>K (.v (.int .u8 (.ofNat n))))=_;rw[Ef];rfl
def Qf{l:Ha}(c:t.d=.string):Bp t (S l) K=K (I l.length):=by
 have:Bp t (S l) K=HQ l 0 λn=>K (.v (.int .i64 (.ofNat n))):=by
  obtain⟨a,b,d,z⟩:=t;simp only at c;subst c;rfl
 rw[this,Cs,Kk];rfl
def Ly{e sz n:Nat}{cs:Is}{f g:Nat}(c:t.d=.slice f g)(h:AU H e sz v n cs):Bp t v K=K (I n):=by
 obtain⟨a,b,d,z⟩:=t;simp only at c;subst c;rcases h with⟨rfl,rfl,_⟩|⟨r,q,rfl,_⟩<;>rfl
def B2o{l:Ha}(b:UInt8)(h:AU H Bj 1 v l.length (L3 l))(w:Wf H)(hn:l.length<1000000000000):
 ∃d a,(∀K:KV,(FV Bj 1 AT 1 [(0,1,By b)] H λv1 j=>Dy Bj 1 AT AS v v1 j K)=K d a)/\AU a Bj 1 d (l++[b]).length (L3 (l++[b]))/\Wf a/\Ar H<=Ar a/\(∀s x,Ai H s=some x->¬A4 v s->Ai a s=some x)/\(∀s,A4 d s->Ar H<=s):=by
 have i:AU ((Ar H,.cells false Bj [By b])::H) Bj 1 v l.length (L3 l):=h.lat w (Lat.cons H _ (λ_=>False)) (λ_ _ h=>h);have c:=NY (H:=H) (e:=Bj) (n:=1) (cs:=[By b]) rfl;obtain⟨d,a,h1,h2,k,m⟩:=apt (ie:=AT) (i2:=AS) i (λK=>OT (K:=K) c) rfl rfl (by decide) rfl rfl (by show(l.length+1)*1<=_;omega) (by omega);have f:=(Lat.cons H (.cells false Bj [By b]) (A4 v)).trans m (R:=A4 v) (λ_ _ h=>h) (λ_ _ h=>h);refine⟨d,a,λK=>?_,by rw[Ez,<-jP];exact h2,f.wf w,f.nx,λs x g hn=>f.keep w s x g hn,λs g=>?_⟩
 ·rw[nQ (z:=By 0) (λ_=>rfl) (λ_=>rfl) rfl];exact h1 K
 ·rw[k s g];exact l1u _
def fM(n:Nat):Nat:=(119-n%64)%64
def eJ(n i:Nat):UInt8:=UInt8.ofNat (8*n/2^(8*i))
def pre(s:Ha):Ha:=s++[128]++List.replicate (fM s.length) 0
def ext(s:Ha):Ha:=pre s++[eJ s.length 7,eJ s.length 6,eJ s.length 5,eJ s.length 4,eJ s.length 3,eJ s.length 2,eJ s.length 1,eJ s.length 0]
def C0q{K:KV}{k:AV->AV->AV->KV}(r:s.length<100000000000)(g:∀v H,AU H Bj 1 v s.length (L3 s)->Wf H->k (S s) v (I s.length) w H=x):
 ∀(f i:Nat)(v:AV)(H:Hp),i<=s.length->s.length-i<f->AU H Bj 1 v (s.take i).length (L3 (s.take i))->Wf H->Ob L R K k f (S s) v (I i) w H=x:=by
 intro f
 induction f with
 |zero=>intro i v H _ h;omega
 |succ f ih=>
  intro i v H hi q hv a;rw[ZJ];unfold Od A2;rw[Qf rfl,Dk,Fa];by_cases h:i<s.length
  ·rw[Dr (by simpa using h)];rw[C0A rfl h];obtain⟨j,c,h1,h2,d,m,p,_⟩:=B2o s[i] hv a (by simp;omega);rw[h1];simp(disch:=omega) only[Dl,CX];refine ih (i+1) j c (by omega) (by omega) ?_ d;rw[oJ h];exact h2
  ·rw[CD (by simpa using h)];have:i=s.length:=by omega
   subst this;exact g _ _ (by simpa using hv) a
def vL{j:TI}{a k:Nat}(c:k<=64):As j .shr (I a) (I k) K=K (I (a/2^k:Nat)):=by
 have:As j .shr (I a) (I k) K=ck (qL 0 (k:Int)) (fI ((a:Int).fdiv (2^(min (k:Int).toNat 64))) λz=>K (.v (.int .i64 z))):=rfl;rw[this,VC];have h1:qL 0 (k:Int)=true:=by rw[LI];simp
 have h2:(a:Int).fdiv (2^(min (k:Int).toNat 64))=((a/2^k:Nat):Int):=by
  rw[mI,l22 c];have:((2:Int)^k)=((2^k:Nat):Int):=by simp
  rw[this,Int.fdiv_eq_ediv_of_nonneg _ (Int.natCast_nonneg _)];exact(Int.natCast_ediv _ _).symm
 rw[h1,h2];rfl
def A29{m:Nat}(c:t'.d=.int .u8):Hj t t' (I m) K=K (By (UInt8.ofNat m)):=by
 have:Hj t t' (I m) K=MQ .u8 (m:Int) λz=>K (.v (.int .u8 z)):=by
  obtain⟨a,b,d,z⟩:=t';simp only at c;subst c;rfl
 rw[this,HP,Ye rfl];have:(m:Int)%(2^IntKind.u8.bits:Nat)=((UInt8.ofNat m).toNat:Int):=by
  rw[UInt8.toNat_ofNat'];exact(Int.natCast_emod _ _).symm
 rw[this]
def Yk(n:Nat):Nat->Ha
 |0=>[]
 |i+1=>eJ n i::Yk n i
def yP(n i:Nat):(Yk n i).length=i:=by
 induction i with
 |zero=>rfl
 |succ i ih=>simp[Yk,ih]
def C0r{K:KV}{k:AV->AV->KV}{w1 d u:AV}(C:s.length<100000000000)(q:∀v H,AU H Bj 1 v (pre s).length (L3 (pre s))->Wf H->k w1 v d H=x):
 ∀(f j:Nat)(v:AV)(H:Hp),j<=fM s.length->fM s.length-j<f->AU H Bj 1 v (s++[128]++List.replicate j 0).length (L3 (s++[128]++List.replicate j 0))->Wf H->Oc L R K k f w1 v d u H=x:=by
 intro f
 induction f with
 |zero=>intro j v H _ h;omega
 |succ f ih=>
  intro j v H m B hv c;rw[ZK];unfold Oe A2;have a:(s++[128]++List.replicate j (0:UInt8)).length=s.length+1+j:=by simp;omega
  have hz:fM s.length<64:=by unfold fM;omega
  rw[Ly rfl hv,Q9 (by decide),I6,Fa];have hm:((s++[128]++List.replicate j (0:UInt8)).length:Int).tmod 64=(((s.length+1+j)%64:Nat):Int):=by rw[a];exact(Int.ofNat_tmod _ _).symm
  rw[hm];by_cases h:j=fM s.length
  ·subst h;have:(s.length+1+fM s.length)%64=56:=by unfold fM;omega
   rw[this];simp only[l19,decide_eq_false_iff_not];rw[CD (by simp)];exact q _ _ hv c
  ·have p:(s.length+1+j)%64≠56:=by unfold fM at h m;omega
   rw[Dr (by simp;omega)];obtain⟨r,g,h1,h2,i,y,A,_⟩:=B2o (0:UInt8) hv c (by omega);have e:(AV.v (.int .u8 0))=By 0:=rfl;rw[e];rw[h1];refine ih (j+1) r g (by omega) (by omega) ?_ i;rw[List.replicate_succ',<-eK];exact h2
def C0s{K:KV}{k:KV}(F:s.length<100000000000)(y:∀v H,AU H Bj 1 v (pre s++Yk s.length 8).length (L3 (pre s++Yk s.length 8))->Wf H->k v H=x):
 ∀(f i:Nat)(l:Ha)(v:AV)(H:Hp),i<=8->i<f->l++Yk s.length i=pre s++Yk s.length 8->AU H Bj 1 v l.length (L3 l)->Wf H->Lq L R K k f (S s) v w (I ((i:Int)-1)) H=x:=by
 have hz:fM s.length<64:=by unfold fM;omega
 intro f
 induction f with
 |zero=>intro i l v H _ h;omega
 |succ f ih=>
  intro i l v H hi D c hv g;have u:l.length<=s.length+1+64+8:=by
   have:=congrArg List.length c;simp[pre,yP]at this;omega
  rw[ZL];unfold Of A2;rw[KX,Fa];cases i with
  |zero=>
   rw[CD (by simp)];have:l=pre s++Yk s.length 8:=by simpa [Yk] using c
   subst this;exact y _ _ hv g
  |succ i=>
   rw[Dr (by simp)];have m:((i+1:Nat):Int)-1=(i:Int):=by omega
   rw[m];rw[Qf rfl,OU,OU,CX (by omega) (by omega),CX (by omega) (by omega)];have p:(8:Int)*(s.length:Int)=((8*s.length:Nat):Int):=by omega
   have q:(8:Int)*(i:Int)=((8*i:Nat):Int):=by omega
   rw[p,q,vL (by omega)];rw[A29 rfl];obtain⟨A,j,h1,h2,r,B,C,_⟩:=B2o (eJ s.length i) hv g (by omega);simp(disch:=omega) only[J6,CX];have h1:=h1 (λd a=>Lq L R K k f (S s) d w (I ((i:Int)-1)) a);unfold eJ at h1;rw[h1];refine ih i (l++[eJ s.length i]) A j (by omega) (by omega) ?_ h2 r;rw[eK];exact c
def Xw(l:Ha):AV:=.list l.length (L3 l)
def S?{cs:Is}(h:AU H e 1 v n cs)(hn:n≠0){α:Type}(f:α->Value)(l:List α)(hc:cs=l.map λx=>.v (f x)):Fx b depth v (.list n cs) H true:=by
 subst hc;rcases h with⟨_,h2,_⟩|⟨r,q,rfl,h2,a⟩
 ·exact absurd h2 hn
 ·exact VA (q':=false) h2 a (K7 f l)
def C0j{l:Ha}(h:AU H Bj 1 v l.length (L3 l))(a:l≠[]):Fx b depth v (Xw l) H true:=
 S? h (λh=>a (kC h)) (λb:UInt8=>Value.int .u8 (b.toNat:Int)) l rfl
def fx1{x:Value}:Rm true depth [.v x] [.v x] H false:=Ao (q:=false) (q':=false) CA AI
def A3u(s:Ha)(c:s.length<100000000000)(k:s.length+100<L):CS (rt L (n+1)) Qc [S s] (Xw (ext s)):=by
 intro K g;rw[dZ];unfold PF A2;simp only[BH];refine C0q c ?_ L 0 _ [] (by omega) (by omega) (.inl ⟨rfl,rfl,rfl⟩) Fq;intro v H hv a;obtain⟨h,d,h1,h2,f,i,j,_⟩:=B2o (128:UInt8) hv a (by omega);have e:(AV.v (.int .u8 128))=By 128:=rfl;rw[e,h1];refine C0r c ?_ L 0 h d (by omega) (by have:fM s.length<64:=(by unfold fM;omega);omega) (by simpa using h2) f;intro v H hv a;refine C0s c ?_ L 8 (pre s) v H (by omega) (by omega) rfl hv a;intro v H hv a;exact g _ _ (λb=>⟨true,C0j (l:=ext s) hv (by simp[ext])⟩)
end
section
variable{K:K2}{q:Bool}{H:Hp}{L e k n p r:Nat}{t:TI}{x:Value}
def Lf(x:BitVec 32)(k:Nat):BitVec 32:=(x>>>k)|||(x<<<(32-k))
def C3D{x y:Value}:Rm true depth [.v x,.v y] [.v x,.v y] H false:=Ao (q:=false) (q':=false) CA fx1
def fxq{b:Bool}:Fx b depth (.v x) (.v x) H false:=CA
def A6Y(x:BitVec 32)(k:Nat)(d:k<=32):PS (rt L (n+1)) D0 [W x,I k] (W (Lf x k)):=by
 refine CS.ps (λK c=>?_) (λH=>C3D);rw[hJ];unfold QL L8;have a:((32:Int)-(k:Int))=((32-k:Nat):Int):=by omega
 simp(disch:=omega) only[JM rfl d,B1Y,J6,CX,a,LY rfl (show 32-k<=32 by omega),jK];exact c _ _ (λb=>⟨false,fxq⟩)
def kk:List (BitVec 32):=[0x428a2f98,0x71374491,0xb5c0fbcf,0xe9b5dba5,0x3956c25b,0x59f111f1,0x923f82a4,0xab1c5ed5,
 0xd807aa98,0x12835b01,0x243185be,0x550c7dc3,0x72be5d74,0x80deb1fe,0x9bdc06a7,0xc19bf174,
 0xe49b69c1,0xefbe4786,0x0fc19dc6,0x240ca1cc,0x2de92c6f,0x4a7484aa,0x5cb0a9dc,0x76f988da,
 0x983e5152,0xa831c66d,0xb00327c8,0xbf597fc7,0xc6e00bf3,0xd5a79147,0x06ca6351,0x14292967,
 0x27b70a85,0x2e1b2138,0x4d2c6dfc,0x53380d13,0x650a7354,0x766a0abb,0x81c2c92e,0x92722c85,
 0xa2bfe8a1,0xa81a664b,0xc24b8b70,0xc76c51a3,0xd192e819,0xd6990624,0xf40e3585,0x106aa070,
 0x19a4c116,0x1e376c08,0x2748774c,0x34b0bcb5,0x391c0cb3,0x4ed8aa4a,0x5b9cca4f,0x682e6ff3,
 0x748f82ee,0x78a5636f,0x84c87814,0x8cc70208,0x90befffa,0xa4506ceb,0xbef9a3f7,0xc67178f2]
def A42:kk.length=64:=rfl
def A0S:CS (rt L (n+1)) OK [] (.list 64 (Eg kk)):=by
 intro K a;rw[ZN];have e:On L (rt L n) [] K=K (.sl 1 0 0 64) [(0,.cells false Cj (Eg kk))]:=by kernel_rfl
 rw[e];exact a _ _ (λb=>⟨true,S? (e:=Cj) (.inr ⟨0,false,rfl,rfl,rfl⟩) (by decide) (λx:BitVec 32=>Value.int .u32 (x.toNat:Int)) kk rfl⟩)
def B2d{l:Ha}(h:k<l.length):(L3 l).getD k .dk=By (l.getD k 0):=by
 simp[L3,UT,h]
def MH{l:List (BitVec 32)}(h:k<l.length):(Eg l).getD k .dk=W (l.getD k 0):=by
 simp[Eg,UT,h]
def Ib(l:List (BitVec 32)):(Eg l).length=l.length:=by simp[Eg]
def B30(a b:List (BitVec 32)):Eg a++Eg b=Eg (a++b):=by simp[Eg]
def Zm(l:List (BitVec 32)):(Eg l).all AV.one=true:=by simp[Eg,AV.one,Value.oneCell']
def eV{cs:Is}{z:Int}(g:t.d=.slice e 1)(hc:cs.length=n)(s:0<=z)(h1:z<n):D1 t (.list n cs) (I z) K=K (.iptr [cs.getD z.toNat .dk]):=by
 obtain⟨m,rfl⟩:=Int.eq_ofNat_of_zero_le s;have h:D1 t (.list n cs) (I (m:Int)) K=iN (m:Int) λm=>ck (Nat.blt m n) (SY 1 (Do (Nat.mul m 1) cs) λc=>K (.iptr c)):=by
  obtain⟨a,b,d,z⟩:=t;simp only at g;subst g;rfl
 have hm:m<n:=by omega
 rw[h,Kr,C9,OE];have:Nat.blt m n=true:=by rw[Xe];exact hm
 rw[this];have i:Nat.mul m 1=m:=oI m;have j:(cs.drop m).take 1=[cs.getD m .dk]:=by
  have f:m<cs.length:=by omega
  rw[rF f,UT,KL f];rfl
 rw[i,j];rfl
def W!{z:Int}(c:t.d=.slice e 1)(h:0<=z)(h1:z<n):D1 t (.sl 1 r 0 n) (I z) K=K (.ptr r z.toNat 0):=by
 obtain⟨m,rfl⟩:=Int.eq_ofNat_of_zero_le h;have f:D1 t (.sl 1 r 0 n) (I (m:Int)) K=iN (m:Int) λm=>ck (Nat.blt m n) (fN (Nat.add 0 (Nat.mul m 1)) λp=>K (.ptr r p 0)):=by
  obtain⟨a,b,d,z⟩:=t;simp only at c;subst c;rfl
 have hm:m<n:=by omega
 rw[f,Kr,Ef];have:Nat.blt m n=true:=by rw[Xe];exact hm
 have g:Nat.add 0 (Nat.mul m 1)=m:=by show 0+m*1=m;omega
 rw[this,g];rfl
def Ny{c:AV}(h:t.d.isAgg=false):AE t (.iptr [c]) H K=K c:=by
 have:AE t (.iptr [c]) H K=@Bool.rec (λ_=>Af) (K c) (EL t.size [c] λc=>K (.agg c)) t.d.isAgg:=rfl;rw[this,h]
def B1G{cs:Is}(h:t.d.isAgg=false)(b:Ai H r=some (.cells q e cs))(a:p<cs.length):AE t (.ptr r p 0) H K=K (cs.getD p .dk):=by
 have:AE t (.ptr r p 0) H K=IQ H r λx=>Kq x λ_ cs=>@Bool.rec (λ_=>Af) (hdK (Do (Nat.add p 0) cs) K) (EL t.size (Do (Nat.add p 0) cs) λc=>K (.agg c)) t.d.isAgg:=rfl;rw[this,h,Bn b];show hdK (Do p cs) K=_;rw[C9,rF a,UT,KL a];rfl
def B1J{l:Ha}{z:Int}(a:0<=z)(h1:z<l.length):D1 AS (Xw l) (I z) K=K (.iptr [By (l.getD z.toNat 0)]):=by
 unfold Xw;rw[eV rfl (Qo l) a h1,B2d (by omega)]
def C3V{z:Int}(a:0<=z)(h1:z<n):D1 AG (.sl 1 r 0 n) (I z) K=K (.ptr r z.toNat 0):=W! rfl a h1
def C3U{l:List (BitVec 32)}(b:Ai H r=some (.cells q e (Eg l)))(a:p<l.length):AE Am (.ptr r p 0) H K=K (W (l.getD p 0)):=by
 rw[B1G rfl b (by rw[Ib];exact a),MH a]
def A_{b:UInt8}:Hj AT Am (By b) K=K (W (BitVec.ofNat 32 b.toNat)):=B1P
def C4k{v:AV}{l:List (BitVec 32)}(b:BitVec 32)(h:AU H Cj 1 v l.length (Eg l))(w:Wf H)(hn:l.length<1000000000000):
 ∃r q a,(∀K:KV,(D6 (FV Cj 1 Am 1 [(0,1,W b)] H λv H=>some (v,H)) λv1 i=>D6 (Dy Cj 1 Am AG v v1 i λv H=>some (v,H)) K)=K (.sl 1 r 0 (l.length+1)) a)/\Ai a r=some (.cells q Cj (Eg (l++[b])))/\Wf a/\Ar H<=Ar a/\(∀s x,Ai H s=some x->¬A4 v s->Ai a s=some x)/\Ar H<=r:=by
 have f:AU ((Ar H,.cells false Cj [W b])::H) Cj 1 v l.length (Eg l):=h.lat w (Lat.cons H _ (λ_=>False)) (λ_ _ h=>h);have c:=NY (H:=H) (e:=Cj) (n:=1) (cs:=[W b]) rfl;obtain⟨A,a,h1,h2,j,m⟩:=apt (ie:=Am) (i2:=AG) f (λK=>OT (K:=K) c) rfl rfl (by decide) rfl rfl (by show(l.length+1)*4<=_;omega) (by omega);have d:=(Lat.cons H (.cells false Cj [W b]) (A4 v)).trans m (R:=A4 v) (λ_ _ h=>h) (λ_ _ h=>h);rcases h2 with⟨_,g,_⟩|⟨r,q,rfl,g,y⟩
 ·omega
 ·refine⟨r,q,a,λK=>?_,by rw[<-B30];exact g,d.wf w,d.nx,λs x u hn=>d.keep w s x u hn,?_⟩
  ·rw[nQ (z:=W 0) (λ_=>rfl) (λ_=>rfl) rfl,A4D,h1 (λv H=>some (v,H)),A4D]
  ·rw[j r ⟨_,_,_,rfl⟩];exact l1u _
end
section
variable{v:AV}{H:Hp}
def OW{K:K2}:Au (some (v,H)) K=K v:=B1Y
def Tj{K:KV}:D6 (some (v,H)) K=K v H:=A4D
def dH{L n:Nat}{x:BitVec 32}{z:Int}(k:Nat)(a:z=(k:Int))(h:k<=32){K:K2}:Aq (rt L (n+1)) D0 [W x,I z] H K=K (W (Lf x k)):=by
 subst a;exact A6Y x k (by omega) H K
def A4P{l:List (BitVec 32)}{n:Nat}(b:BitVec 32)(d:l.length=n)(h:AU H Cj 1 v n (Eg l))(w:Wf H)(hn:n<1000000000000):
 ∃r q a,(∀K:KV,(D6 (FV Cj 1 Am 1 [(0,1,W b)] H λv H=>some (v,H)) λv1 c=>D6 (Dy Cj 1 Am AG v v1 c λv H=>some (v,H)) K)=K (.sl 1 r 0 (n+1)) a)/\Ai a r=some (.cells q Cj (Eg (l++[b])))/\Wf a/\Ar H<=Ar a/\(∀s x,Ai H s=some x->¬A4 v s->Ai a s=some x)/\Ar H<=r:=by
 subst d;exact C4k b h w hn
def bw(l:Ha)(i:Nat):BitVec 32:=BitVec.ofNat 32 (l.getD i 0).toNat
def A58(l:Ha)(i:Nat):BitVec 32:=bw l (4*i)<<<24|||bw l (4*i+1)<<<16|||bw l (4*i+2)<<<8|||bw l (4*i+3)
def w16(l:Ha)(n:Nat):List (BitVec 32):=(List.range n).map (A58 l)
def sg0(x:BitVec 32):BitVec 32:=Lf x 7^^^Lf x 18^^^x>>>3
def sg1(x:BitVec 32):BitVec 32:=Lf x 17^^^Lf x 19^^^x>>>10
def NN(l:Ha):Nat->List (BitVec 32)
 |0=>w16 l 16
 |i+1=>NN l i++[(NN l i).getD i 0+sg0 ((NN l i).getD (i+1) 0)+(NN l i).getD (i+9) 0+sg1 ((NN l i).getD (i+14) 0)]
def fY(l:Ha)(n:Nat):(w16 l n).length=n:=by simp[w16]
def RX(l:Ha)(i:Nat):(NN l i).length=16+i:=by
 induction i with
 |zero=>simp[NN,fY]
 |succ i ih=>simp[NN,ih];omega
structure S8 where
 a:BitVec 32
 b:BitVec 32
 c:BitVec 32
 d:BitVec 32
 e:BitVec 32
 f:BitVec 32
 g:BitVec 32
 h:BitVec 32
def S8.l(s:S8):List (BitVec 32):=[s.a,s.b,s.c,s.d,s.e,s.f,s.g,s.h]
def rt1(s:S8)(k w:BitVec 32):BitVec 32:=s.h+(Lf s.e 6^^^Lf s.e 11^^^Lf s.e 25)+((s.e&&&s.f)^^^(~~~s.e&&&s.g))+k+w
def rt2(s:S8):BitVec 32:=(Lf s.a 2^^^Lf s.a 13^^^Lf s.a 22)+((s.a&&&s.b)^^^(s.a&&&s.c)^^^(s.b&&&s.c))
def rnd(s:S8)(k w:BitVec 32):S8:=⟨rt1 s k w+rt2 s,s.a,s.b,s.c,s.d+rt1 s k w,s.e,s.f,s.g⟩
def oZ(ws:List (BitVec 32))(s:S8):Nat->S8
 |0=>s
 |i+1=>rnd (oZ ws s i) (kk.getD i 0) (ws.getD i 0)
def C4l(s t:S8):S8:=⟨s.a+t.a,s.b+t.b,s.c+t.c,s.d+t.d,s.e+t.e,s.f+t.f,s.g+t.g,s.h+t.h⟩
def blk(s:S8)(l:Ha):S8:=C4l s (oZ (NN l 48) s 64)
variable{L n:Nat}{K:KV}{x:Af}
def A0x(l:Ha)(i:Nat):BitVec.ofNat 32 (l.getD (4*i) 0).toNat<<<24|||BitVec.ofNat 32 (l.getD (4*i+1) 0).toNat<<<16|||BitVec.ofNat 32 (l.getD (4*i+2) 0).toNat<<<8|||BitVec.ofNat 32 (l.getD (4*i+3) 0).toNat=A58 l i:=rfl
def A0L(l:Ha)(i:Nat):w16 l (i+1)=w16 l i++[A58 l i]:=by simp[w16,List.range_succ]
def B8Z(x:BitVec 32):Lf x 7^^^Lf x 18^^^x>>>3=sg0 x:=rfl
def B8Y(x:BitVec 32):Lf x 17^^^Lf x 19^^^x>>>10=sg1 x:=rfl
def RU(i:Nat):(i:Int)+1=((i+1:Nat):Int):=rfl
def C11{k:AV->AV->AV->AV->AV->AV->AV->AV->KV}{l:Ha}{a0 w1 b c d w5 e:AV}(C:l.length=64)(w:∀v H,AU H Cj 1 v 16 (Eg (w16 l 16))->Wf H->k a0 (Xw l) v (I 16) b c d w5 e H=x):
 ∀(f i:Nat)(v:AV)(H:Hp),i<=16->16-i<f->AU H Cj 1 v i (Eg (w16 l i))->Wf H->Sj L (rt L n) K k f a0 (Xw l) v (I i) w1 b c d w5 e H=x:=by
 intro f
 induction f with
 |zero=>intro i v H _ h;omega
 |succ f ih=>
  intro i v H hi B hv a;rw[lD];unfold Sp Nc A2;rw[Dk,Fa];by_cases h:i<16
  ·rw[Dr (by simp;omega)];simp(disch:=omega) only[OU,Dl,CX,OW,B1J,Ny (t:=AT) rfl,A_,LY (z:=24) (k:=24) rfl (by decide),LY (z:=16) (k:=16) rfl (by decide),LY (z:=8) (k:=8) rfl (by decide),jK];have j:((4:Int)*(i:Int)).toNat=4*i:=by omega
   have m:((4:Int)*(i:Int)+1).toNat=4*i+1:=by omega
   have p:((4:Int)*(i:Int)+2).toNat=4*i+2:=by omega
   have s:((4:Int)*(i:Int)+3).toNat=4*i+3:=by omega
   rw[j,m,p,s,A0x];obtain⟨r,q,g,h1,h2,u,y,A,_⟩:=A4P (A58 l i) (fY l i) hv a (by omega);rw[h1,RU];refine ih (i+1) _ g (by omega) (by omega) (.inr ⟨r,q,rfl,?_,?_⟩) u
   ·rw[A0L];exact h2
   ·rw[Ib,fY];omega
  ·rw[CD (by simp;omega)];have:i=16:=by omega
   subst this;exact w _ _ hv a
def C12{k:AV->AV->AV->AV->AV->AV->KV}{l:Ha}{w0 w1 c A B w5 d e:AV}(u:∀r q H,Ai H r=some (.cells q Cj (Eg (NN l 48)))->Wf H->k w0 w1 (.sl 1 r 0 64) c (I 64) d e H=x):
 ∀(f i r:Nat)(q:Bool)(H:Hp),i<=48->48-i<f->Ai H r=some (.cells q Cj (Eg (NN l i)))->Wf H->Sk L (rt L (n+1)) K k f w0 w1 (.sl 1 r 0 (16+i)) c (I ((16+i:Nat):Int)) A B w5 d e H=x:=by
 intro f
 induction f with
 |zero=>intro i r q H _ h;omega
 |succ f ih=>
  intro i r q H hi F hv b;rw[lE];unfold Sq Nc A2;rw[Dk,Fa];by_cases h:i<48
  ·rw[Dr (by simp;omega)];have a:=RX l i;have j:((16+i:Nat):Int)-15=((i+1:Nat):Int):=by omega
   have m:((16+i:Nat):Int)-2=((i+14:Nat):Int):=by omega
   have p:((16+i:Nat):Int)-16=((i:Nat):Int):=by omega
   have s:((16+i:Nat):Int)-7=((i+9:Nat):Int):=by omega
   simp(disch:=omega) only[J6,CX,OW,j,m,p,s,C3V,mI,C3U hv,dH (z:=7) 7 rfl (by decide),dH (z:=18) 18 rfl (by decide),dH (z:=17) 17 rfl (by decide),dH (z:=19) 19 rfl (by decide),VG,JM (z:=3) (k:=3) rfl (by decide),JM (z:=10) (k:=10) rfl (by decide),Qh];rw[B8Z,B8Y];obtain⟨y,w,g,h1,h2,t,C,D,_⟩:=A4P ((NN l i).getD i 0+sg0 ((NN l i).getD (i+1) 0)+(NN l i).getD (i+9) 0+sg1 ((NN l i).getD (i+14) 0)) (v:=.sl 1 r 0 (16+i)) a (.inr ⟨r,q,rfl,hv,by rw[Ib,a];omega⟩) b (by omega);rw[h1];simp(disch:=omega) only[Dl,CX];rw[RU];exact ih (i+1) y w g (by omega) (by omega) h2 t
  ·rw[CD (by simp;omega)];have:i=48:=by omega
   subst this;exact u _ _ _ hv b
end
section
variable{v:AV}{H:Hp}{t:TI}
def Rd(H:Hp)(v:AV)(n:Nat)(cs:Is):Prop:=cs.length=n/\(v=.list n cs\/∃r q e,v=.sl 1 r 0 n/\Ai H r=some (.cells q e cs))
def rdp(v:AV)(i:Nat):AV:=match v with
 |.list _ cs=>.iptr [cs.getD i .dk]
 |.sl _ r _ _=>.ptr r i 0
 |_=>.dk
def AU.rd{H:Hp}{e n:Nat}{v:AV}{cs:Is}(h:AU H e 1 v n cs)(hn:n≠0):Rd H v n cs:=by
 rcases h with⟨_,h,_⟩|⟨r,q,h1,h2,a⟩
 ·exact absurd h hn
 ·exact⟨by omega,.inr ⟨r,q,e,h1,h2⟩⟩
def qY{n:Nat}{cs:Is}(h:cs.length=n):Rd H (.list n cs) n cs:=⟨h,.inl rfl⟩
def Qg{e n:Nat}{cs:Is}(h:Rd H v n cs)(a:t.d=.slice e 1){z:Int}(k:Nat)(hz:z=k)(c:k<n){K:K2}:D1 t v (I z) K=K (rdp v k):=by
 subst hz;rcases h with⟨b,rfl|⟨r,q,e,rfl,h2⟩⟩
 ·rw[eV a b (by omega) (by omega)];rfl
 ·rw[W! a (by omega) (by omega)];rfl
def mZ{n:Nat}{cs:Is}(h:Rd H v n cs)(a:t.d.isAgg=false){k:Nat}(c:k<n){K:K2}:AE t (rdp v k) H K=K (cs.getD k .dk):=by
 rcases h with⟨b,rfl|⟨r,q,e,rfl,h2⟩⟩
 ·exact Ny a
 ·exact B1G a h2 (by omega)
def C2U{a b c d e f g h:BitVec 32}(K:KV):FV Cj 1 Am 8 [(0,1,W a),(1,1,W b),(2,1,W c),(3,1,W d),(4,1,W e),(5,1,W f),(6,1,W g),(7,1,W h)] H K=K (.sl 1 (Ar H) 0 8) ((Ar H,.cells false Cj (Eg [a,b,c,d,e,f,g,h]))::H):=by
 have i:FV Cj 1 Am 8 [(0,1,W a),(1,1,W b),(2,1,W c),(3,1,W d),(4,1,W e),(5,1,W f),(6,1,W g),(7,1,W h)] H K=It H λs=>K (.sl 1 s 0 8) ((s,.cells false Cj (Eg [a,b,c,d,e,f,g,h]))::H):=rfl;rw[i,Ca]
def zY{x:BitVec 32}{K:K2}:MB .xor (W x) K=K (W (~~~x)):=B1v
def B6s{k:Nat}(h:k<64):(Eg kk).getD k .dk=W (kk.getD k 0):=MH (by rw[A42];exact h)
variable{L n:Nat}{K:KV}{x:Af}
def A9G(s:S8)(k w:BitVec 32):[s.h+(Lf s.e 6^^^Lf s.e 11^^^Lf s.e 25)+((s.e&&&s.f)^^^(~~~s.e&&&s.g))+k+w+((Lf s.a 2^^^Lf s.a 13^^^Lf s.a 22)+((s.a&&&s.b)^^^(s.a&&&s.c)^^^(s.b&&&s.c))),s.a,s.b,s.c,s.d+(s.h+(Lf s.e 6^^^Lf s.e 11^^^Lf s.e 25)+((s.e&&&s.f)^^^(~~~s.e&&&s.g))+k+w),s.e,s.f,s.g]=(rnd s k w).l:=rfl
def C13{k:AV->AV->AV->AV->AV->AV->AV->KV}{ws:List (BitVec 32)}{s0:S8}{rw:Nat}{w0 w1 w y w6 w7:AV}(r:ws.length=64)(Q:∀v q H,AU H Cj 1 v 8 (Eg (oZ ws s0 64).l)->Ai H rw=some (.cells q Cj (Eg ws))->Wf H->k w0 w1 (.sl 1 rw 0 64) w y (.list 64 (Eg kk)) v (I 64) H=x):
 ∀(f i:Nat)(v:AV)(q:Bool)(H:Hp),i<=64->64-i<f->AU H Cj 1 v 8 (Eg (oZ ws s0 i).l)->Ai H rw=some (.cells q Cj (Eg ws))->Wf H->Sm L (rt L (n+1)) K k f w0 w1 (.sl 1 rw 0 64) w y (.list 64 (Eg kk)) v (I i) w6 w7 H=x:=by
 intro f
 induction f with
 |zero=>intro i v q H _ h;omega
 |succ f ih=>
  intro i v q H hi hf hv hr p;rw[lG];unfold Ss Nc A2;rw[Dk,Fa];by_cases h:i<64
  ·rw[Dr (by simp;omega)];have rv:=hv.rd (by decide);have u:Rd H (.list 64 (Eg kk)) 64 (Eg kk):=qY (by rw[Ib,A42]);have rs:Rd H (.sl 1 rw 0 64) 64 (Eg ws):=⟨by rw[Ib,r],.inr ⟨rw,q,Cj,rfl,hr⟩⟩
   generalize P:oZ ws s0 i=s at rv hv;have A:(Eg s.l).getD 0 .dk=W s.a:=id rfl;have B:(Eg s.l).getD 1 .dk=W s.b:=id rfl;have C:(Eg s.l).getD 2 .dk=W s.c:=id rfl;have D:(Eg s.l).getD 3 .dk=W s.d:=id rfl;have F:(Eg s.l).getD 4 .dk=W s.e:=id rfl;have J:(Eg s.l).getD 5 .dk=W s.f:=id rfl;have M:(Eg s.l).getD 6 .dk=W s.g:=id rfl;have N:(Eg s.l).getD 7 .dk=W s.h:=id rfl;have O:(Eg ws).getD i .dk=W (ws.getD i 0):=MH (by omega);have R:=λK=>Qg (t:=AG) rv rfl (z:=0) 0 rfl (by decide) (K:=K);have i1:=λK=>Qg (t:=AG) rv rfl (z:=1) 1 rfl (by decide) (K:=K);have i2:=λK=>Qg (t:=AG) rv rfl (z:=2) 2 rfl (by decide) (K:=K);have V:=λK=>Qg (t:=AG) rv rfl (z:=3) 3 rfl (by decide) (K:=K);have X:=λK=>Qg (t:=AG) rv rfl (z:=4) 4 rfl (by decide) (K:=K);have Y:=λK=>Qg (t:=AG) rv rfl (z:=5) 5 rfl (by decide) (K:=K);have Z:=λK=>Qg (t:=AG) rv rfl (z:=6) 6 rfl (by decide) (K:=K);have i7:=λK=>Qg (t:=AG) rv rfl (z:=7) 7 rfl (by decide) (K:=K);have ik:=λK=>Qg (t:=AG) u rfl (z:=i) i rfl h (K:=K);have iw:=λK=>Qg (t:=AG) rs rfl (z:=i) i rfl h (K:=K);have lv:=λk j K=>mZ (t:=Am) rv rfl (k:=k) j (K:=K);have lk:=λk j K=>mZ (t:=Am) u rfl (k:=k) j (K:=K);have lw:=λk j K=>mZ (t:=Am) rs rfl (k:=k) j (K:=K);simp(disch:=omega) only[OW,R,i1,i2,V,X,Y,Z,i7,ik,iw,lv,lk,lw,A,B,C,D,F,J,M,N,O,B6s h,VG,B',Qh,zY,
    dH (z:=6) 6 rfl (by decide),dH (z:=11) 11 rfl (by decide),dH (z:=25) 25 rfl (by decide),dH (z:=2) 2 rfl (by decide),dH (z:=13) 13 rfl (by decide),dH (z:=22) 22 rfl (by decide)]
   rw[C2U,Tj,Dl,CX (by omega) (by omega),A9G,RU];have m:oZ ws s0 (i+1)=rnd s (kk.getD i 0) (ws.getD i 0):=by rw[<-P];rfl
   rw[<-m];exact ih (i+1) _ q _ (by omega) (by omega) (NY rfl) (A6 (p.lt hr) hr) (AF p)
  ·rw[CD (by simp;omega)];have:i=64:=by omega
   subst this;exact Q _ _ _ hv hr p
def jV(a b:List (BitVec 32))(i:Nat):List (BitVec 32):=(List.range i).map λi=>a.getD i 0+b.getD i 0
def Tr(a b:List (BitVec 32))(i:Nat):(jV a b i).length=i:=by simp[jV]
def D_(a b:List (BitVec 32))(i:Nat):jV a b (i+1)=jV a b i++[a.getD i 0+b.getD i 0]:=by simp[jV,List.range_succ]
def C1d(s t:S8):jV s.l t.l 8=(C4l s t).l:=rfl
def C14{k:KV}{a b:List (BitVec 32)}{A B w1 w2 w3 w4 w5 w7:AV}(V:∀v H,AU H Cj 1 v 8 (Eg (jV a b 8))->Wf H->k v H=x)(w:A=.list 8 (Eg a))(P:a.length=8)(hb:b.length=8):
 ∀(f i:Nat)(v:AV)(H:Hp),i<=8->8-i<f->AU H Cj 1 v i (Eg (jV a b i))->AU H Cj 1 B 8 (Eg b)->(∀s,A4 v s->¬A4 B s)->Wf H->So L (rt L n) K k f A w1 w2 w3 w4 w5 B w7 v (I i) H=x:=by
 intro f
 induction f with
 |zero=>intro i v H _ h;omega
 |succ f ih=>
  intro i v H hi hf hv c Q y;rw[lH];unfold Su Nc A2;rw[Dk,Fa];by_cases h:i<8
  ·rw[Dr (by simp;omega)];have C:Rd H A 8 (Eg a):=by subst w;exact qY (by rw[Ib,P])
   have D:=c.rd (by decide);have J:(Eg a).getD i .dk=W (a.getD i 0):=MH (by omega);have M:(Eg b).getD i .dk=W (b.getD i 0):=MH (by omega);have ia:=λK=>Qg (t:=AG) C rfl (z:=i) i rfl h (K:=K);have X:=λK=>Qg (t:=AG) D rfl (z:=i) i rfl h (K:=K);have Y:=λK=>mZ (t:=Am) C rfl (k:=i) h (K:=K);have Z:=λK=>mZ (t:=Am) D rfl (k:=i) h (K:=K);simp only[OW,ia,X,Y,Z,J,M,Qh];obtain⟨r,q,F,h1,h2,N,h4,O,h6⟩:=A4P (a.getD i 0+b.getD i 0) (Tr a b i) hv y (by omega);rw[h1,Dl,CX (by omega) (by omega),RU];refine ih (i+1) _ F (by omega) (by omega) (.inr ⟨r,q,rfl,?_,?_⟩) ?_ ?_ N
   ·rw[D_];exact h2
   ·rw[Ib,Tr];omega
   ·rcases c with⟨d,e,g⟩|⟨r2,q2,d,e,g⟩
    ·exact .inl ⟨d,e,g⟩
    ·exact .inr ⟨r2,q2,d,O _ _ e (λR=>Q _ R ⟨1,0,8,d⟩),g⟩
   ·intro s ⟨p,o,m,j⟩ u;injection j with _ j
    subst j;have:=c.lt y u;omega
  ·rw[CD (by simp;omega)];have:i=8:=by omega
   subst this;exact V _ _ hv y
def S8.len(s:S8):s.l.length=8:=rfl
def B40{s:S8}{l:Ha}(k:l.length=64)(u:100<L):CS (rt L (n+2)) UG [.list 8 (Eg s.l),Xw l] (.list 8 (Eg (blk s l).l)):=by
 intro K j;rw[qA];unfold Us A2;simp only[BH];refine C11 k ?_ L 0 _ [] (by omega) (by omega) (.inl ⟨rfl,rfl,rfl⟩) Fq;intro v H hv c;rcases hv with⟨_,h,_⟩|⟨r,q,rfl,h2,i⟩
 ·exact absurd h (by decide)
 refine C12 ?_ L 0 r q H (by omega) (by omega) h2 c;intro r q H hr c;rw[AQ A0S AI];obtain⟨p,g,h1,h2,i,f⟩:=apt (ie:=Am) (i2:=AG) (H:=H) (e:=Cj) (sz:=1) (n:=0) (m:=8) (v:=.v (.slice none 0 0)) (src:=.list 8 (Eg s.l)) (cs:=[]) (ys:=Eg s.l) (.inl ⟨rfl,rfl,rfl⟩) (λK=>VD) rfl (Zm _) (by decide) rfl rfl (by decide) (by decide);rw[h1];have d:=f.keep c r _ hr (λ⟨_,_,_,h⟩=>by cases h);refine C13 (s0:=s) (by rw[RX]) ?_ L 0 p q g (by omega) (by omega) h2 d (f.wf c);intro v q H hv hr c;refine C14 (a:=s.l) (b:=(oZ (NN l 48) s 64).l) ?_ rfl rfl rfl L 0 _ H (by omega) (by omega) (.inl ⟨rfl,rfl,rfl⟩) hv (λs ⟨_,_,_,h⟩=>by cases h) c;intro v H hv c;rw[C1d]at hv;exact j _ _ (λb=>⟨true,S? hv (by decide) (λx:BitVec 32=>Value.int .u32 (x.toNat:Int)) _ rfl⟩)
end
section
variable{v:AV}{H:Hp}{s:Ha}{e m:Nat}
def A1X{t:TI}{cs:Is}{x y:Int}(a b:Nat){K:K2}(f:t.d=.slice e 1)(i:x=a)(j:y=b)(h1:a<=b)(h2:b<=m):DS t (.list m cs) (some (I x)) (some (I y)) none K=K (.list (b-a) ((cs.drop a).take (b-a))):=by
 subst i j;have g:DS t (.list m cs) (some (I a)) (some (I b)) none K=iN (a:Int) λl=>iN (b:Int) λh=>fN m λx=>ck ((true||(some (I (b:Int))).isSome)&&(Nat.ble l h&&(Nat.ble h x&&Nat.ble x m))) (fN (Nat.sub h l) λn=>SY (Nat.mul n 1) (Do (Nat.mul l 1) cs) λc=>K (.list n c)):=by
  obtain⟨_,_,d,z⟩:=t;simp only at f;subst f;rfl
 rw[g,Kr,Kr,Ef];have c:((true||(some (I (b:Int))).isSome)&&(Nat.ble a b&&(Nat.ble b m&&Nat.ble m m)))=true:=by simp only[Bool.true_or,l1b,KK,kD];omega
 rw[c];show fN (Nat.sub b a) (λn=>SY (Nat.mul n 1) (Do (Nat.mul a 1) cs) λc=>K (.list n c))=_;rw[Ef,OE,C9];show K (.list (b-a) ((cs.drop (a*1)).take ((b-a)*1)))=_;rw[oI,oI]
def iv:S8:=⟨1779033703,3144134277,1013904242,2773480762,1359893119,2600822924,528734635,1541459225⟩
def eY(s:Ha):Nat->S8
 |0=>iv
 |i+1=>blk (eY s i) ((s.drop (64*i)).take 64)
def wb(w:BitVec 32):Ha:=[UInt8.ofNat (w.toNat/2^24),UInt8.ofNat (w.toNat/2^16),UInt8.ofNat (w.toNat/2^8),UInt8.ofNat w.toNat]
def Yx(l:List (BitVec 32)):Nat->Ha
 |0=>[]
 |i+1=>Yx l i++wb (l.getD i 0)
def Yw(l:List (BitVec 32))(i:Nat):(Yx l i).length=4*i:=by
 induction i with
 |zero=>rfl
 |succ i ih=>simp[Yx,ih,wb];omega
def sha(s:Ha):Ha:=Yx (eY (ext s) ((ext s).length/64)).l 8
variable{L n:Nat}{K:KV}{x:Af}
def C3E{l:List (BitVec 32)}(h:Rd H v n (Eg l)):∃q,Fx true depth v (.list n (Eg l)) H q:=by
 rcases h with⟨a,rfl|⟨r,q,e,rfl,h2⟩⟩
 ·exact⟨_,OD⟩
 ·exact⟨_,VA (q':=false) h2 (by omega) (K7 (λx:BitVec 32=>Value.int .u32 (x.toNat:Int)) l)⟩
def B8V{k:AV->AV->KV}{t u:AV}(hm:s.length=64*m)(y:s.length<200000000000)(p:100<L)(a:m≠0)(r:∀j,k (.list 8 (Eg (eY s m).l)) (Xw s) j H=x):
 ∀(f i:Nat)(v:AV),i<=m->m-i<f->Rd H v 8 (Eg (eY s i).l)->(i≠0->v=.list 8 (Eg (eY s i).l))->Wg L (rt L (n+2)) K k f v (Xw s) (I ((64*i:Nat):Int)) t u H=x:=by
 intro f
 induction f with
 |zero=>intro i v _ h;omega
 |succ f ih=>
  intro i v hi w hv b;rw[tE];unfold Wi A2;have el:∀K,Bp AS (Xw s) K=K (I (s.length:Int)):=λ_=>id rfl;rw[el,Dk,Fa];by_cases h:i<m
  ·rw[Dr (by simp;omega)];simp(disch:=omega) only[Dl,CX];have c:((64*i:Nat):Int)+64=((64*(i+1):Nat):Int):=by omega
   unfold Xw;rw[c,A1X (64*i) (64*(i+1)) rfl rfl rfl (by omega) (by omega)];have d:64*(i+1)-64*i=64:=by omega
   have g:AV.list 64 (((L3 s).drop (64*i)).take 64)=Xw ((s.drop (64*i)).take 64):=by
    unfold Xw L3;have:((s.drop (64*i)).take 64).length=64:=by simp;omega
    rw[this,List.map_take,List.map_drop]
   rw[d,g];obtain⟨q,hq⟩:=C3E hv;rw[AQ (B40 (n:=n) (s:=eY s i) (l:=(s.drop (64*i)).take 64) (by simp;omega) p) (Ao hq (Ao (by unfold Xw;exact OD) AI))];exact ih (i+1) _ (by omega) (by omega) (qY (by rw[Ib];rfl)) (λ_=>rfl)
  ·rw[CD (by simp;omega)];have:i=m:=by omega
   subst this;rw[b a];exact r _
def A?{w:BitVec 32}{K:K2}:Hj Am AT (W w) K=K (By (UInt8.ofNat w.toNat)):=B1O
def C2V{a b c d:UInt8}(K:KV):FV Bj 1 AT 4 [(0,1,By a),(1,1,By b),(2,1,By c),(3,1,By d)] H K=K (.sl 1 (Ar H) 0 4) ((Ar H,.cells false Bj (L3 [a,b,c,d]))::H):=by
 have f:FV Bj 1 AT 4 [(0,1,By a),(1,1,By b),(2,1,By c),(3,1,By d)] H K=It H λs=>K (.sl 1 s 0 4) ((s,.cells false Bj (L3 [a,b,c,d]))::H):=rfl;rw[f,Ca]
def B5f(l:Ha):∀K:Ha->Af,fu8 (L3 l) K=K l:=by
 induction l with
 |nil=>intro K;rfl
 |cons b l ih=>
  intro K;have e:fu8 (L3 (b::l)) K=iN (b.toNat:Int) λn=>fu8 (L3 l) λl=>K (UInt8.ofNat n::l):=rfl;rw[e,Kr,ih];simp
def W_{l:Ha}{K:K2}(h:AU H e 1 v n (L3 l)):vM v H K=K (S l):=by
 have a:vM v H K=T7 H v λm cs=>HQ cs 0 λk=>ck (Nat.beq k m) (fu8 cs λl=>K (.v (.string ⟨⟨l⟩⟩))):=by
  rcases h with⟨rfl,_⟩|⟨r,q,rfl,_⟩<;>rfl
 have hn:(L3 l).length=n:=by
  rcases h with⟨_,rfl,h⟩|⟨r,q,_,_,h⟩
  ·rw[h];rfl
  ·omega
 rw[a,OT h,Cs,Kk,hn,oH];exact B5f l _
def B8W{k:KV}{s:S8}{v w1 C:AV}(A:∀u H,AU H Bj 1 u 32 (L3 (Yx s.l 8))->k u H=x):
 ∀(f i:Nat)(u:AV)(H:Hp),i<=8->8-i<f->AU H Bj 1 u (4*i) (L3 (Yx s.l i))->v=.list 8 (Eg s.l)->Wf H->Wh L (rt L n) K k f v w1 C u (I i) H=x:=by
 intro f
 induction f with
 |zero=>intro i v H _ h;omega
 |succ f ih=>
  intro i u H hi F j hv p;rw[tF];unfold Wj Nc A2;rw[Dk,Fa];by_cases h:i<8
  ·rw[Dr (by simp;omega)];have q:Rd H v 8 (Eg s.l):=by subst hv;exact qY (by rw[Ib];rfl)
   have w:(Eg s.l).getD i .dk=W (s.l.getD i 0):=MH h;have ia:=λK=>Qg (t:=AG) q rfl (z:=i) i rfl h (K:=K);have B:=λK=>mZ (t:=Am) q rfl (k:=i) h (K:=K);simp only[OW,ia,B,w,JM (z:=24) (k:=24) rfl (by decide),JM (z:=16) (k:=16) rfl (by decide),JM (z:=8) (k:=8) rfl (by decide),A?,C2V,Tj];generalize hc:[UInt8.ofNat (s.l.getD i 0>>>24).toNat,UInt8.ofNat (s.l.getD i 0>>>16).toNat,UInt8.ofNat (s.l.getD i 0>>>8).toNat,UInt8.ofNat (s.l.getD i 0).toNat]=c;have a:c.length=4:=by rw[<-hc];rfl
   have d:c=wb (s.l.getD i 0):=by rw[<-hc];unfold wb;simp only[BitVec.toNat_ushiftRight,Nat.shiftRight_eq_div_pow]
   have g:AU ((Ar H,.cells false Bj (L3 c))::H) Bj 1 u (4*i) (L3 (Yx s.l i)):=j.lat p (Lat.cons H _ (λ_=>False)) (λ_ _ h=>h);have b:=NY (H:=H) (e:=Bj) (n:=4) (cs:=L3 c) (by rw[Qo,a]);obtain⟨J,r,h1,h2,D,y⟩:=apt (ie:=AT) (i2:=AS) g (λK=>OT (K:=K) b) (by rw[Qo,a]) (A6e _) (by decide) rfl rfl (by show(4*i+4)*1<=_;omega) (by omega);rw[h1,Tj,Dl,CX (by omega) (by omega),RU];refine ih (i+1) _ r (by omega) (by omega) ?_ hv (y.wf (AF p));rw[jP,d]at h2;exact h2
  ·rw[CD (by simp;omega)];have:i=8:=by omega
   subst this;exact A _ _ j
def A64(s:Ha):∃m,(ext s).length=64*m/\64*m<=s.length+73:=by
 refine⟨(ext s).length/64,?_,?_⟩
 ·have:(ext s).length=s.length+1+fM s.length+8:=by simp[ext,pre];omega
  unfold fM at this;omega
 ·have:(ext s).length=s.length+1+fM s.length+8:=by simp[ext,pre];omega
  unfold fM at this;omega
def A9A(r:s.length<100000000000)(w:s.length+200<L):CS (rt L (n+3)) YY [S s] (S (sha s)):=by
 intro K p;rw[xL];unfold YH A2;simp only[BH];obtain⟨m,hm,q⟩:=A64 s;have i:∀K:KV,FV Cj 1 Am 8 [(0,1,(AV.v (.int .u32 1779033703))),(1,1,(AV.v (.int .u32 3144134277))),(2,1,(AV.v (.int .u32 1013904242))),(3,1,(AV.v (.int .u32 2773480762))),(4,1,(AV.v (.int .u32 1359893119))),(5,1,(AV.v (.int .u32 2600822924))),(6,1,(AV.v (.int .u32 528734635))),(7,1,(AV.v (.int .u32 1541459225)))] [] K=K (.sl 1 0 0 8) [(0,.cells false Cj (Eg iv.l))]:=λK=>C2U (H:=[]) (a:=1779033703) (b:=3144134277) (c:=1013904242) (d:=2773480762) (e:=1359893119) (f:=2600822924) (g:=528734635) (h:=1541459225) K;rw[i,AQ (A3u (n:=n+1) s r (by omega)) fx1];have k:m≠0:=λh=>by subst h;simp[ext]at hm
 refine B8V (n:=n) (m:=m) hm (by omega) (by omega) k ?_ L 0 _ (by omega) (by omega) ((NY (H:=[]) rfl).rd (by decide)) (λh=>absurd rfl h);intro j;refine B8W (n:=n+2) (s:=eY (ext s) m) ?_ L 0 _ _ (by omega) (by omega) (.inl ⟨rfl,rfl,rfl⟩) rfl (AF Fq);intro u H t;rw[W_ t];have e:Yx (eY (ext s) m).l 8=sha s:=by
  unfold sha;have:(ext s).length/64=m:=by omega
  rw[this]
 rw[e];exact p _ _ (λb=>⟨false,CA⟩)
end
section
variable{w:BitVec 32}{H:Hp}{ks:Hb}{k r:Nat}
def U(n:Nat):AV:=.v (.int .u64 (n:Int))
def B48{x:BitVec 32}(g:1<=k)(h:k<32){L n:Nat}{K:KV}:(rt L (n+1)).call Hr [W x,I (-(k:Int))] H K=K (W (Lf x k)) H:=by
 rw[SG];unfold JD L8;have a:∀K:K2,(Hj Ac CE (I (-(k:Int))) λv1=>As CE .and v1 (AV.v (.int .u64 31)) λf=>K f)=K (U (32-k)):=by
  intro K;have:k=1\/k=2\/k=3\/k=4\/k=5\/k=6\/k=7\/k=8\/k=9\/k=10\/k=11\/k=12\/k=13\/k=14\/k=15\/k=16\/k=17\/k=18\/k=19\/k=20\/k=21\/k=22\/k=23\/k=24\/k=25\/k=26\/k=27\/k=28\/k=29\/k=30\/k=31:=by omega
  rcases this with rfl|rfl|rfl|rfl|rfl|rfl|rfl|rfl|rfl|rfl|rfl|rfl|rfl|rfl|rfl|rfl|rfl|rfl|rfl|rfl|rfl|rfl|rfl|rfl|rfl|rfl|rfl|rfl|rfl|rfl|rfl<;>rfl
 rw[a];have b:∀K:K2,As CE .sub (AV.v (.int .u64 32)) (U (32-k)) K=K (U k):=by
  intro K;have e:As CE .sub (AV.v (.int .u64 32)) (U (32-k)) K=MQ .u64 ((32:Int)-((32-k:Nat):Int)) λz=>K (.v (.int .u64 z)):=rfl;rw[e,HP];have:(32:Int)-((32-k:Nat):Int)=(k:Int):=by omega
  rw[this,Ye rfl];have:(k:Int)%(2^IntKind.u64.bits:Nat)=(k:Int):=Int.emod_eq_of_lt (by omega) (by show(k:Int)<(18446744073709551616:Int);omega);rw[this];rfl
 have c:∀K:K2,As Am .shl (W x) (U (32-k)) K=K (W (x<<<(32-k))):=λK=>LY rfl (by omega);have d:∀K:K2,As Am .shr (W x) (U k) K=K (W (x>>>k)):=λK=>JM rfl (by omega);rw[c,b,d,jK];have:x<<<(32-k)|||x>>>k=Lf x k:=by unfold Lf;exact BitVec.or_comm _ _
 rw[this]
def B92{L n:Nat}{x:BitVec 32}(a:1<=k)(h:k<32):PS (rt L (n+1)) Hr [W x,I (-(k:Int))] (W (Lf x k)):=by
 refine CS.ps (λK c=>?_) (λH=>C3D);rw[B48 a h];exact c _ _ (λb=>⟨false,fxq⟩)
def YP(ks:Hb):Is:=ks.map λk:Nat=>.v (.int .i64 (k:Int))
def A7w{l:Hb}(h:k<l.length):(YP l).getD k .dk=I (l[k]:Nat):=by
 simp[YP,UT,h]
def T2(x:BitVec 32)(ks:Hb):BitVec 32:=ks.foldl (λa k=>a^^^Lf x k) 0
def A7J(a:k<32){K:K2}:MB .neg (I k) K=K (I (-(k:Int))):=by
 have e:MB .neg (I k) K=MQ .i64 (0-(k:Int)) λz=>K (.v (.int .i64 z)):=rfl;rw[e,HP,Int.zero_sub,CX (by omega) (by omega)]
variable{L n:Nat}{K:KV}{x:Af}
def B0G{k:KV}(b:∀k∈ks,1<=k/\k<32)(g:ks.length<32)(c:k (W (T2 w ks)) H=x):
 ∀(f i:Nat),i<=ks.length->ks.length-i<f->Rc L (rt L (n+1)) K k f (W w) (W (T2 w (ks.take i))) (.list ks.length (YP ks)) (I ks.length) (I i) H=x:=by
 intro f
 induction f with
 |zero=>intro i _ h;omega
 |succ f ih=>
  intro i hi d;rw[jM];unfold Re HV A2;rw[Dk,Fa];by_cases h:i<ks.length
  ·rw[Dr (by simp;omega)];have a:=b ks[i] (NT h);rw[eV rfl (by simp[YP]) (by omega) (by omega),mI,Ny rfl,A7w h,A7J a.2,B92 a.1 a.2,VG,Dl,CX (by omega) (by omega),RU];have e:T2 w (ks.take (i+1))=T2 w (ks.take i)^^^Lf w ks[i]:=by
    unfold T2;rw[oJ h,List.foldl_append];rfl
   rw[<-e];exact ih (i+1) (by omega) (by omega)
  ·rw[CD (by simp;omega)];have:i=ks.length:=by omega
   subst this;rw[wC];exact c
def B3Z(c:∀k∈ks,1<=k/\k<32)(d:ks.length<32)(f:32<L):CS (rt L (n+2)) EN [W w,.list ks.length (YP ks)] (W (T2 w ks)):=by
 intro K a;rw[mD];unfold SM A2;simp only[BH];have e:∀K,Bp Bs (.list ks.length (YP ks)) K=K (I ks.length):=λK=>id rfl;rw[e];refine B0G c d ?_ L 0 (by omega) (by omega);exact a _ _ (λb=>⟨false,CA⟩)
def C2O:T2 w [7,18]^^^w>>>3=sg0 w:=by simp[T2,sg0]
def C2N:T2 w [17,19]^^^w>>>10=sg1 w:=by simp[T2,sg1]
def pad(l:List (BitVec 32))(n:Nat):List (BitVec 32):=l++List.replicate (n-l.length) 0
def A5B{l:List (BitVec 32)}(h:l.length<=n):(pad l n).length=n:=by simp[pad];omega
def A5A{l:List (BitVec 32)}(w:BitVec 32)(a:l.length=k)(h:k<n):(Eg (pad l n)).set k (W w)=Eg (pad (l++[w]) n):=by
 subst a;have e:n-l.length=(n-(l.length+1))+1:=by omega
 simp[pad,Eg,e,l1c,List.set_append_right]
def B0u{l:List (BitVec 32)}(h:k<l.length):(Eg (pad l n)).getD k .dk=W (l.getD k 0):=by
 simp[pad,Eg,UT,h,List.getElem?_append]
def B0v{l:List (BitVec 32)}(h:l.length=n):pad l n=l:=by simp[pad,h]
def B6p(a b:Nat)(K:K2):Zc 1 Ac 2 [(0,1,I a),(1,1,I b)] K=K (.list 2 (YP [a,b])):=id rfl
def B6o(a b c:Nat)(K:K2):Zc 1 Ac 3 [(0,1,I a),(1,1,I b),(2,1,I c)] K=K (.list 3 (YP [a,b,c])):=id rfl
def O_{K:K2}(b:∀k∈ks,1<=k/\k<32)(c:ks.length<32)(a:32<L):Aq (rt L (n+2)) EN [W w,.list ks.length (YP ks)] H K=K (W (T2 w ks)):=
 AQ (B3Z b c a) (Ao CA (Ao OD AI))
def B90{k:AV->AV->KV}{l:Ha}{w:AV}(m:l.length=64)(g:∀q H,Ai H r=some (.cells q Di (Eg (pad (w16 l 16) 64)))->Wf H->k (Xw l) (.ptr r 0 0) (I 16) H=x):
 ∀(f i:Nat)(q:Bool)(H:Hp),i<=16->16-i<f->Ai H r=some (.cells q Di (Eg (pad (w16 l i) 64)))->Wf H->Nz L (rt L n) K k f (Xw l) (.ptr r 0 0) w (I i) H=x:=by
 intro f
 induction f with
 |zero=>intro i q H _ h;omega
 |succ f ih=>
  intro i q H hi j hr a;rw[Zd];unfold N8 Nc A2;rw[Dk,Fa];by_cases h:i<16
  ·rw[Dr (by simp;omega)];simp(disch:=omega) only[OU,Dl,CX,OW,B1J,Ny (t:=AT) rfl,A_,LY (z:=24) (k:=24) rfl (by decide),LY (z:=16) (k:=16) rfl (by decide),LY (z:=8) (k:=8) rfl (by decide),jK];have b:((4:Int)*(i:Int)).toNat=4*i:=by omega
   have c:((4:Int)*(i:Int)+1).toNat=4*i+1:=by omega
   have d:((4:Int)*(i:Int)+2).toNat=4*i+2:=by omega
   have e:((4:Int)*(i:Int)+3).toNat=4*i+3:=by omega
   rw[b,c,d,e,A0x,EO i rfl rfl (by omega),OW,D5 hr (by rw[Ib,A5B (by rw[fY];omega)];omega) rfl rfl rfl,Tj,A5A _ (fY l i) (by omega),<-A0L,RU];exact ih (i+1) q _ (by omega) (by omega) (AC hr) (Bi a)
  ·rw[CD (by simp;omega)];have:i=16:=by omega
   subst this;exact g _ _ hr a
def B91{k:KV}{l:Ha}{w0 w1:AV}(B:100<L)(u:∀q H,Ai H r=some (.cells q Di (Eg (NN l 48)))->Wf H->k (.ptr r 0 0) H=x):
 ∀(f i:Nat)(q:Bool)(H:Hp),i<=48->48-i<f->Ai H r=some (.cells q Di (Eg (pad (NN l i) 64)))->Wf H->N0 L (rt L (n+2)) K k f w0 (.ptr r 0 0) (I ((16+i:Nat):Int)) w1 H=x:=by
 intro f
 induction f with
 |zero=>intro i q H _ h;omega
 |succ f ih=>
  intro i q H hi C hr d;rw[Ze];unfold N9 Nc A2;rw[Dk,Fa];have c:=RX l i;by_cases h:i<48
  ·rw[Dr (by simp;omega)];have D:(Eg (pad (NN l i) 64)).length=64:=by rw[Ib,A5B (by rw[c];omega)]
   have e:((16+i:Nat):Int)-15=((i+1:Nat):Int):=by omega
   have g:((16+i:Nat):Int)-2=((i+14:Nat):Int):=by omega
   have j:((16+i:Nat):Int)-16=((i:Nat):Int):=by omega
   have m:((16+i:Nat):Int)-7=((i+9:Nat):Int):=by omega
   have ia:=λ(k:Nat)a K=>EO (t:=Cm) (s:=r) (z:=(k:Int)) k (K:=K) rfl rfl a;have y:=λk a K=>AL (t:=Am) (p:=k) (K:=K) rfl hr a;have b:=λk a=>B0u (n:=64) (l:=NN l i) (k:=k) a;simp(disch:=omega) only[J6,CX,OW,e,g,j,m,ia,y,b];have i1:∀K,Zc 1 Ac 2 [(0,1,.v (.int .i64 7)),(1,1,.v (.int .i64 18))] K=K (.list 2 (YP [7,18])):=λK=>B6p 7 18 K;have i2:∀K,Zc 1 Ac 2 [(0,1,.v (.int .i64 17)),(1,1,.v (.int .i64 19))] K=K (.list 2 (YP [17,19])):=λK=>B6p 17 19 K;have m1:∀w K,Aq (rt L (n+2)) EN [W w,.list 2 (YP [7,18])] H K=K (W (T2 w [7,18])):=λw K=>O_ (ks:=[7,18]) (by decide) (by decide) (by omega);have A:∀w K,Aq (rt L (n+2)) EN [W w,.list 2 (YP [17,19])] H K=K (W (T2 w [17,19])):=λw K=>O_ (ks:=[17,19]) (by decide) (by decide) (by omega);simp(disch:=omega) only[OW,b,i1,i2,m1,A,JM (z:=3) (k:=3) rfl (by decide),JM (z:=10) (k:=10) rfl (by decide),VG,Qh,C2O,C2N];rw[D5 hr (by omega) rfl rfl rfl,Tj,A5A _ c (by omega),Dl,CX (by omega) (by omega),RU];exact ih (i+1) q _ (by omega) (by omega) (AC hr) (Bi d)
  ·rw[CD (by simp;omega)];have:i=48:=by omega
   subst this;rw[B0v (by rw[RX])]at hr;exact u _ _ hr d
def arr(l:List (BitVec 32)):AV:=.agg (Eg l)
def A3t{l:Ha}(a:l.length=64)(e:100<L):CS (rt L (n+3)) OP [Xw l] (arr (NN l 48)):=by
 intro K d;rw[ZY];unfold OA A2;simp only[BH];rw[Bv (cs:=Eg (pad (w16 l 0) 64)) rfl];refine B90 a ?_ L 0 true _ (by omega) (by omega) (Ax (by simp)) (AF Fq);intro q H hr c;refine B91 (n:=n) (l:=l) e ?_ L 0 q H (by omega) (by omega) hr c;intro q H hr c;have a:(Eg (NN l 48)).length=64:=by rw[Ib,RX]
 rw[Br rfl a.symm hr,BQ hr rfl a.symm (Zm _),Br rfl a.symm (AC hr)];exact d _ _ (λb=>⟨false,LL (K7 (λx:BitVec 32=>Value.int .u32 (x.toNat:Int)) _)⟩)
end
section
variable{q q0:Bool}{H H' H0:Hp}{D e0 r r8 s0:Nat}{P:Nat->Prop}{y:Row}
def Xj{b:Bool}{sz s o n:Nat}{e:TypeId}{cs cs':Is}{q':Bool}(g:Ai H s=some (.cells q e cs))(hn:o+n*sz<=cs.length)(h:Rm b D ((cs.drop o).take (n*sz)) cs' H q'):Fx b (D+1) (.sl sz s o n) (.list n cs') H true:=λK=>by
 have d:Ia b H (D+1) (.sl sz s o n) K=IQ H s λx=>Kq x λ_ cs=>EL (Nat.mul n sz) (Do o cs) λc=>IK (Ia b H D) c λ_ a=>K true (.list n a):=rfl;rw[d,Bn g];have f:(Kq (.cells q e cs) λ_ cs=>EL (Nat.mul n sz) (Do o cs) λc=>IK (Ia b H D) c λ_ a=>K true (.list n a))=EL (n*sz) (Do o cs) λc=>IK (Ia b H D) c λ_ a=>K true (.list n a):=rfl;rw[f,C9,KZ _ _ _ (by simp;omega),h]
def B1y{r o n e:Nat}{cs:Is}{K:Nat->Is->Af}(a:Ai H r=some (.cells q e cs))(hn:o+n<=cs.length):T7 H (.sl 1 r o n) K=K n ((cs.drop o).take n):=by
 have:T7 H (.sl 1 r o n) K=IQ H r λx=>Kq x λ_ cs=>EL (Nat.mul n 1) (Do o cs) λc=>K n c:=rfl;rw[this,Bn a];show EL (Nat.mul n 1) (Do o cs) (λc=>K n c)=_;have e:Nat.mul n 1=n:=oI n;rw[e,C9,KZ _ _ _ (by simp;omega)]
def A4k{n r e:Nat}(a b:Nat){cs:Is}{c hi:Option AV}{K:K2}(f:∀K:Nat->Af,XV c 0 K=K a)(d:∀K:Nat->Af,XV hi n K=K b)(i:Ai H r=some (.cells q e cs))(hn:n<=cs.length)(h1:a<=b)(h2:b<=n):xZ n 1 (.ptr r 0 0) c hi H K=K (.sl 1 r a (b-a)):=by
 have g:xZ n 1 (.ptr r 0 0) c hi H K=IQ H r λy=>Kq y λ_ cs=>HQ cs 0 λcl=>ck (Nat.ble (Nat.add 0 (Nat.mul n 1)) cl) (XV c 0 λl=>XV hi n λh=>ck (Nat.ble l h&&Nat.ble h n) (fN (Nat.add 0 (Nat.mul l 1)) λj=>fN (Nat.sub h l) λm=>K (.sl 1 r j m))):=rfl;rw[g,Bn i];show HQ cs 0 _=_;rw[Cs,f,d,Ef,Ef];have f1:Nat.ble (Nat.add 0 (Nat.mul n 1)) (0+cs.length)=true:=by rw[kD];show 0+n*1<=_;omega
 have f2:(Nat.ble a b&&Nat.ble b n)=true:=by simp only[KK,kD];omega
 have f3:Nat.add 0 (Nat.mul a 1)=a:=by show 0+a*1=a;omega
 rw[f1,f2,f3];rfl
def C0D{r o n m e:Nat}{cs ys:Is}{src:AV}{K:KV}(c:∀K:Nat->Is->Af,T7 H src K=K m ys)(d:ys.length=m)(hm:m<=n)(hn:0<n)(h1:ys.all AV.one=true)(a:RW 1 src=true)(b:Ai H r=some (.cells q e cs))(f:o+m<=cs.length):A28 1 (.sl 1 r o n) src H K=K (I m) (upd H r (.cells q e (splice cs o ys))):=by
 unfold A28;rw[c,Cs];have f1:(Nat.beq (0+ys.length) (Nat.mul m 1)&&(Nat.beq 1 1&&(Nat.blt 0 n&&(Nat.ble m n&&(NQ ys&&RW 1 src)))))=true:=by
  have:Nat.mul m 1=m:=oI m;rw[FN,h1,a,d,this,Kk,oH];simp only[l1b,l1g,oH,KK,Xe,kD];omega
 simp only[f1];show IQ H r _=_;rw[Bn b];show Ey o ys cs _=_;rw[Ix _ _ _ _ (by omega),Dg];rfl
def Lat.upd_new(k:Lat H H' P)(hr:Ar H<=r):Lat H (Go.Abs.upd H' r y) P:=
 ⟨λw=>Bi (k.wf w),by rw[B1];exact k.nx,λw s x a hn=>by rw[Ag (by have:=w.lt a;omega)];exact k.keep w s x a hn⟩
def Lat.new(k:Lat H H' P):Lat H ((Ar H',y)::H') P:=k.trans (Lat.cons H' y P) (λ_ _ h=>h) (λ_ _ h=>h)
def Lat.upd_old(k:Lat H H' P)(hr:P r):Lat H (Go.Abs.upd H' r y) P:=k.trans (Lat.upd H' r y hr) (λ_ _ h=>h) (λ_ _ h=>h)
def Chk(H:Hp)(v:AV)(l:Ha):Prop:=v=Xw l\/∃r o q e cs,v=.sl 1 r o l.length/\Ai H r=some (.cells q e cs)/\o+l.length<=cs.length/\(cs.drop o).take l.length=L3 l
def B5a{b:Bool}(l:Ha):Rm b D (L3 l) (L3 l) H false:=K7 (λb:UInt8=>Value.int .u8 (b.toNat:Int)) l
def Chk.fx{v:AV}{l:Ha}(h:Chk H v l):∃q,Fx true depth v (Xw l) H q:=by
 rcases h with rfl|⟨r,o,q,e,cs,rfl,h1,h2,a⟩
 ·exact⟨_,OD⟩
 ·exact⟨_,Xj h1 (by omega) (by rw[oI,a];exact B5a l)⟩
variable{L n:Nat}{K:KV}{x:Af}
def C54(s:S8)(k w:BitVec 32):(Eg [s.h+T2 s.e [6,11,25]+((s.e&&&s.f)^^^(~~~s.e&&&s.g))+k+w+(T2 s.a [2,13,22]+((s.a&&&s.b)^^^(s.a&&&s.c)^^^(s.b&&&s.c))),s.a,s.b,s.c,s.d+(s.h+T2 s.e [6,11,25]+((s.e&&&s.f)^^^(~~~s.e&&&s.g))+k+w),s.e,s.f,s.g])=Eg (rnd s k w).l:=by
 have i:T2 s.e [6,11,25]=Lf s.e 6^^^Lf s.e 11^^^Lf s.e 25:=by simp[T2]
 have j:T2 s.a [2,13,22]=Lf s.a 2^^^Lf s.a 13^^^Lf s.a 22:=by simp[T2]
 rw[i,j,A9G]
def C1b{k:AV->AV->AV->AV->KV}{ws:List (BitVec 32)}{s0:S8}{r2 r8:Nat}{v0 w5:AV}(aa:ws.length=64)(hL:100<L)(h2:Ar H0<=r2)(R:Ar H0<=r8)(F:r2≠r8)(hx:∀A u H,Ai H r8=some (.cells A u (Eg (oZ ws s0 64).l))->Lat H0 H (λ_=>False)->Wf H->k v0 (.ptr r2 0 0) (.ptr r8 0 0) (arr kk) (I 64) H=x):
 ∀(f i:Nat)(q2:Bool)(Q:Nat)(A:Bool)(u:Nat)(H:Hp),i<=64->64-i<f->Ai H r2=some (.cells q2 Q (Eg ws))->Ai H r8=some (.cells A u (Eg (oZ ws s0 i).l))->Lat H0 H (λ_=>False)->Wf H->
  Lg L (rt L (n+2)) K k f v0 (.ptr r2 0 0) (.ptr r8 0 0) (arr kk) (I i) w5 H=x:=by
 intro f
 induction f with
 |zero=>intro i _ _ _ _ H _ h;omega
 |succ f ih=>
  intro i q2 Q A u H hi hf M j J hw;rw[Vn];unfold Li Nc A2;rw[Dk,Fa];by_cases h:i<64
  ·rw[Dr (by simp;omega)];generalize hs:oZ ws s0 i=s at j;have g0:(Eg s.l).getD 0 .dk=W s.a:=id rfl;have g1:(Eg s.l).getD 1 .dk=W s.b:=id rfl;have g2:(Eg s.l).getD 2 .dk=W s.c:=id rfl;have g4:(Eg s.l).getD 4 .dk=W s.e:=id rfl;have g5:(Eg s.l).getD 5 .dk=W s.f:=id rfl;have g6:(Eg s.l).getD 6 .dk=W s.g:=id rfl;have g7:(Eg s.l).getD 7 .dk=W s.h:=id rfl;have gw:(Eg ws).getD i .dk=W (ws.getD i 0):=MH (by omega);have i0:=λK=>EO (t:=AO) (s:=r8) (z:=0) 0 (K:=K) rfl rfl (by decide);have i1:=λK=>EO (t:=AO) (s:=r8) (z:=1) 1 (K:=K) rfl rfl (by decide);have i2:=λK=>EO (t:=AO) (s:=r8) (z:=2) 2 (K:=K) rfl rfl (by decide);have i4:=λK=>EO (t:=AO) (s:=r8) (z:=4) 4 (K:=K) rfl rfl (by decide);have i5:=λK=>EO (t:=AO) (s:=r8) (z:=5) 5 (K:=K) rfl rfl (by decide);have i6:=λK=>EO (t:=AO) (s:=r8) (z:=6) 6 (K:=K) rfl rfl (by decide);have i7:=λK=>EO (t:=AO) (s:=r8) (z:=7) 7 (K:=K) rfl rfl (by decide);have iw:=λK=>EO (t:=Cm) (s:=r2) (z:=(i:Int)) i (K:=K) rfl rfl h;have l8:(Eg s.l).length=8:=rfl;have lw:(Eg ws).length=64:=by rw[Ib,aa]
   have j1:∀K,Zc 1 Ac 3 [(0,1,.v (.int .i64 6)),(1,1,.v (.int .i64 11)),(2,1,.v (.int .i64 25))] K=K (.list 3 (YP [6,11,25])):=λK=>B6o 6 11 25 K;have j2:∀K,Zc 1 Ac 3 [(0,1,.v (.int .i64 2)),(1,1,.v (.int .i64 13)),(2,1,.v (.int .i64 22))] K=K (.list 3 (YP [2,13,22])):=λK=>B6o 2 13 22 K;have m1:∀w K,Aq (rt L (n+2)) EN [W w,.list 3 (YP [6,11,25])] H K=K (W (T2 w [6,11,25])):=λw K=>O_ (ks:=[6,11,25]) (by decide) (by decide) (by omega);have m2:∀w K,Aq (rt L (n+2)) EN [W w,.list 3 (YP [2,13,22])] H K=K (W (T2 w [2,13,22])):=λw K=>O_ (ks:=[2,13,22]) (by decide) (by decide) (by omega);have la:=λ(k:Nat)V K=>AL (t:=Am) (p:=k) (K:=K) rfl j V;have O:=λ(k:Nat)V K=>AL (t:=Am) (p:=k) (K:=K) rfl M V;have ki:∀K,jI Cm Am (arr kk) (I i) K=K (W (kk.getD i 0)):=λK=>by
    unfold arr;rw[A69 i rfl rfl rfl h (by rw[Ib,A42];decide),B6s h]
   simp(disch:=omega) only[OW,Tj,i0,i1,i2,i4,i5,i6,i7,iw,la,O,g0,g1,g2,g4,g5,g6,g7,gw,ki,j1,j2,m1,m2,VG,B',Qh,zY];rw[A4k 1 8 (λK=>rfl) (λK=>rfl) j (by omega) (by decide) (by decide),OW,A4k 0 7 (λK=>rfl) (λK=>rfl) j (by omega) (by decide) (by decide),OW];rw[C0D (λK=>B1y j (by omega)) rfl (by decide) (by decide) rfl rfl j (by rw[l8];decide),Tj];clear la O j1 j2 m1 m2;have m:=AC (q:=A) (e:=u) (cs:=Eg [s.a,s.a,s.b,s.c,s.d,s.e,s.f,s.g]) j;have C:Ai (upd H r8 (.cells A u (Eg [s.a,s.a,s.b,s.c,s.d,s.e,s.f,s.g]))) r2=some (.cells q2 Q (Eg ws)):=by rw[Ag F];exact M
   have N:=Bi (r:=r8) (y:=.cells A u (Eg [s.a,s.a,s.b,s.c,s.d,s.e,s.f,s.g])) hw;have B:=J.upd_new (y:=.cells A u (Eg [s.a,s.a,s.b,s.c,s.d,s.e,s.f,s.g])) R;have Y:splice (Eg s.l) 1 (((Eg s.l).drop 0).take (7-0))=Eg [s.a,s.a,s.b,s.c,s.d,s.e,s.f,s.g]:=id rfl;rw[Y];generalize upd H r8 (.cells A u (Eg [s.a,s.a,s.b,s.c,s.d,s.e,s.f,s.g]))=H3 at m C N B;rw[AL rfl m (by show 4<8;decide)];have g3:(Eg [s.a,s.a,s.b,s.c,s.d,s.e,s.f,s.g]).getD 4 .dk=W s.d:=id rfl;rw[g3,Qh,D5 m (by show 0<8;decide) rfl rfl rfl,D5 (AC m) (by rw[List.length_set];show 4<8;decide) rfl rfl rfl,Dl,CX (by omega) (by omega),RU];have X:oZ ws s0 (i+1)=rnd s (kk.getD i 0) (ws.getD i 0):=by rw[<-hs];rfl
   have Z:∀a d:BitVec 32,((Eg [s.a,s.a,s.b,s.c,s.d,s.e,s.f,s.g]).set 0 (W a)).set 4 (W d)=Eg [a,s.a,s.b,s.c,d,s.e,s.f,s.g]:=λ_ _=>id rfl;refine ih (i+1) q2 Q A u _ (by omega) (by omega) ?_ ?_ ((B.upd_new R).upd_new R) (Bi (Bi N))
   ·rw[Ag F,Ag F];exact C
   ·rw[X,<-C54,<-Z];exact AC (AC m)
  ·rw[CD (by simp;omega)];have:i=64:=by omega
   subst this;exact hx _ _ _ j J hw
def C1c{k:Ru}{a b:List (BitVec 32)}{Q R V:AV}(C:a.length=8)(hb:b.length=8)(j:s0≠r8)(J:∀H,Ai H s0=some (.cells q0 e0 (Eg (jV a b 8)))->Lat H0 H (λt=>t=s0)->Wf H->k H=x):
 ∀(f i:Nat)(v:Bool)(g:Nat)(H:Hp),i<=8->8-i<f->Ai H s0=some (.cells q0 e0 (Eg (jV a b i++a.drop i)))->Ai H r8=some (.cells v g (Eg b))->Lat H0 H (λt=>t=s0)->Wf H->
  Lh L (rt L n) K k f (.ptr s0 0 0) Q (.ptr r8 0 0) R V (I i) H=x:=by
 intro f
 induction f with
 |zero=>intro i _ _ H _ h;omega
 |succ f ih=>
  intro i v g H hi X c e d w;rw[Vo];unfold Lj Nc A2;rw[Dk,Fa];by_cases h:i<8
  ·rw[Dr (by simp;omega)];have m:(Eg (jV a b i++a.drop i)).length=8:=by rw[Ib,Ez,Tr,l0u,C];omega
   have F:(Eg b).length=8:=by rw[Ib,hb]
   have A:(Eg (jV a b i++a.drop i)).getD i .dk=W (a.getD i 0):=by
    rw[MH (by rw[Ib]at m;omega)]
    congr 1
    rw[UT,UT,l0o (by rw[Tr];omega),Tr,Nat.sub_self,qJ,Nat.add_zero]
   have B:(Eg b).getD i .dk=W (b.getD i 0):=MH (by omega);have ia:=λK=>EO (t:=AO) (s:=s0) (z:=(i:Int)) i (K:=K) rfl rfl h;have M:=λK=>EO (t:=AO) (s:=r8) (z:=(i:Int)) i (K:=K) rfl rfl h;have N:=λK=>AL (t:=Am) (p:=i) (K:=K) rfl c (by omega);have O:=λK=>AL (t:=Am) (p:=i) (K:=K) rfl e (by omega);simp only[I3,OW,ia,M,N,O,A,B,Qh];rw[D5 c (by omega) rfl rfl rfl,Tj,Dl,CX (by omega) (by omega),RU];have u:(Eg (jV a b i++a.drop i)).set i (W (a.getD i 0+b.getD i 0))=Eg (jV a b (i+1)++a.drop (i+1)):=by
    rw[D_,eK];have:a.drop i=a.getD i 0::a.drop (i+1):=by rw[rF (by omega),UT,KL (by omega)];rfl
    rw[this];unfold Eg;rw[XS,XS,List.set_append_right _ _ (by rw[Po,Tr];omega),Po,Tr,Nat.sub_self];rfl
   refine ih (i+1) v g _ (by omega) (by omega) ?_ ?_ (d.upd_old rfl) (Bi w)
   ·rw[<-u];exact AC c
   ·rw[Ag (Ne.symm j)];exact e
  ·rw[CD (by simp;omega)];have:i=8:=by omega
   subst this;rw[List.drop_of_length_le (by omega),US]at c;exact J _ c d w
def C45{s:S8}{l:Ha}{c:AV}(hl:l.length=64)(Y:100<L)(O:Wf H)(hr:Ai H s0=some (.cells q0 e0 (Eg s.l)))(hc:Chk H c l)(hx:∀H',Ai H' s0=some (.cells q0 e0 (Eg (blk s l).l))->Lat H H' (λt=>t=s0)->Wf H'->K (.tup []) H'=x):(rt L (n+4)).call LP [.ptr s0 0 0,c] H K=x:=by
 rw[WQ];unfold LD A2;simp only[BH];obtain⟨q,hq⟩:=hc.fx;rw[AQ (A3t (n:=n) hl Y) (Ao hq AI)];have h0:=O.lt hr;rw[Bv (cs:=Eg (List.replicate 64 0)) rfl];unfold arr;have v:=Ax (H:=H) (x:=.cells true Di (Eg (List.replicate 64 0))) (by simp);rw[BQ v (by rw[Ib,Ib,RX];rfl) (by rw[Ib];rfl) (Zm _),I3];have k:=AC (q:=true) (e:=Di) (cs:=Eg (NN l 48)) v;have m:Ai (upd ((Ar H,c_ Di (Eg (List.replicate 64 0)))::H) (Ar H) (c_ Di (Eg (NN l 48)))) s0=some (.cells q0 e0 (Eg s.l)):=by
  rw[Ag (by omega)];exact A6 h0 hr
 have g:=Bi (r:=Ar H) (y:=.cells true Di (Eg (NN l 48))) (AF (x:=.cells true Di (Eg (List.replicate 64 0))) O);have i:=((Lat.refl H (λ_=>False)).new (y:=.cells true Di (Eg (List.replicate 64 0)))).upd_new (r:=Ar H) (y:=.cells true Di (Eg (NN l 48))) (LH _);generalize upd ((Ar H,c_ Di (Eg (List.replicate 64 0)))::H) (Ar H) (c_ Di (Eg (NN l 48)))=f at k m g i;rw[Br rfl rfl m,Bv (cs:=Eg (List.replicate 8 0)) rfl];have A:=Ax (H:=f) (x:=.cells true BK (Eg (List.replicate 8 0))) (by simp);rw[BQ (vs:=Eg s.l) A rfl rfl (Zm _)];have p:=g.lt k;have X:=g.lt m;have B:=AC (q:=true) (e:=BK) (cs:=Eg s.l) A;have F:Ai (upd ((Ar f,c_ BK (Eg (List.replicate 8 0)))::f) (Ar f) (c_ BK (Eg s.l))) (Ar H)=some (c_ Di (Eg (NN l 48))):=by
  rw[Ag (by omega)];exact A6 p k
 have J:=Bi (r:=Ar f) (y:=.cells true BK (Eg s.l)) (AF (x:=.cells true BK (Eg (List.replicate 8 0))) g);have j:=(i.new (y:=.cells true BK (Eg (List.replicate 8 0)))).upd_new (r:=Ar f) (y:=.cells true BK (Eg s.l)) (by omega);generalize upd ((Ar f,c_ BK (Eg (List.replicate 8 0)))::f) (Ar f) (c_ BK (Eg s.l))=V at B F J j;have hg:∀K:K2,AE Cm (AV.iptr gl0) V K=K (arr kk):=λK=>by kernel_rfl
 rw[hg];refine C1b (n:=n+1) (ws:=NN l 48) (s0:=s) (H0:=H) (by rw[RX]) Y (LH _) (by omega) (by omega) ?_ L 0 true _ true _ V (by omega) (by omega) F B j J;intro q8 e8 Z N d Q;have C:=d.keep O s0 _ hr (λh=>h);refine C1c (a:=s.l) (b:=(oZ (NN l 48) s 64).l) (H0:=H) rfl rfl (by omega) ?_ L 0 q8 e8 Z (by omega) (by omega) C N ⟨d.wf,d.nx,λw t x ht _=>d.keep w t x ht (λh=>h)⟩ Q;intro H6 M u R;exact hx H6 M u R
end
section
variable{q:Bool}{e r:Nat}{s:S8}
def pO(l:Ha)(n:Nat):Ha:=l++List.replicate (n-l.length) 0
def B0x{l:Ha}{n:Nat}(h:l.length<=n):(pO l n).length=n:=by simp[pO];omega
def B0w{l:Ha}{n k:Nat}(w:UInt8)(a:l.length=k)(h:k<n):(L3 (pO l n)).set k (By w)=L3 (pO (l++[w]) n):=by
 subst a;have e:n-l.length=(n-(l.length+1))+1:=by omega
 simp[pO,L3,e,l1c,List.set_append_right]
def A7f{l:Ha}{n:Nat}(h:l.length=n):pO l n=l:=by simp[pO,h]
def B31(w:BitVec 32){j:Nat}(h:j<4):(wb w).take (j+1)=(wb w).take j++[UInt8.ofNat (w>>>(24-8*j)).toNat]:=by
 have:j=0\/j=1\/j=2\/j=3:=by omega
 rcases this with rfl|rfl|rfl|rfl<;>simp[wb,BitVec.toNat_ushiftRight,Nat.shiftRight_eq_div_pow]
def B71(w:BitVec 32):(wb w).length=4:=rfl
variable{L n:Nat}{K:KV}{x:Af}
def C0G{k:AV->AV->AV->AV->AV->KV}{w:BitVec 32}{b:Ha}{i r e:Nat}{a c:AV}(hi:i<8)(hb:b.length=4*i)(p:∀H,Ai H r=some (.cells q e (L3 (pO (b++wb w) 32)))->k (.ptr r 0 0) (I i) (W w) a c (I 4) H=x):
 ∀(f j:Nat)(H:Hp),j<=4->4-j<f->Ai H r=some (.cells q e (L3 (pO (b++(wb w).take j) 32)))->KE L (rt L n) K k f (.ptr r 0 0) (I i) (W w) a c (I j) H=x:=by
 intro f
 induction f with
 |zero=>intro j H _ h;omega
 |succ f ih=>
  intro j H u t hr;rw[UK];unfold KG A2;rw[Dk,Fa];by_cases h:j<4
  ·rw[Dr (by simp;omega)];have d:(4:Int)*(i:Int)+(j:Int)=((4*i+j:Nat):Int):=by omega
   have g:(24:Int)-8*(j:Int)=((24-8*j:Nat):Int):=by omega
   simp(disch:=omega) only[OU,Dl,J6,CX,d,g,A?,JM (z:=((24-8*j:Nat):Int)) (k:=24-8*j) rfl (by omega)];have m:(b++(wb w).take j).length=4*i+j:=by rw[Ez,hb,zF,B71];omega
   rw[EO (4*i+j) rfl rfl (by omega),D5 hr (by rw[Qo,B0x (by omega)];omega) rfl rfl rfl,B0w _ m (by omega),eK,<-B31 w h,RU];exact ih (j+1) _ (by omega) (by omega) (AC hr)
  ·rw[CD (by simp;omega)];have:j=4:=by omega
   subst this;exact p _ hr
def C0H{k:KV}{w0 w1 w5:AV}(c:10<L)(a:∀H,Ai H r=some (.cells q e (L3 (Yx s.l 8)))->k (.ptr r 0 0) H=x):
 ∀(f i:Nat)(w0 w1 w5:AV)(H:Hp),i<=8->8-i<f->Ai H r=some (.cells q e (L3 (pO (Yx s.l i) 32)))->KF L (rt L n) K k f (.ptr r 0 0) w0 w1 (arr s.l) (I i) w5 H=x:=by
 intro f
 induction f with
 |zero=>intro i _ _ _ H _ h;omega
 |succ f ih=>
  intro i w0 w1 w5 H hi d hr;rw[UL];unfold KH A2;rw[Dk,Fa];by_cases h:i<8
  ·rw[Dr (by simp;omega)];simp only[BH];unfold arr;rw[A69 i rfl rfl rfl h (by show 8<=8;decide),MH (show i<s.l.length from h)];refine C0G (b:=Yx s.l i) h (Yw _ _) ?_ L 0 H (by omega) (by omega) (by simpa using hr);intro H hr;rw[Dl,CX (by omega) (by omega),RU];exact ih (i+1) _ _ _ H (by omega) (by omega) hr
  ·rw[CD (by simp;omega)];have:i=8:=by omega
   subst this;rw[A7f (Yw _ _)]at hr;exact a _ hr
def A9C(d:10<L):CS (rt L (n+1)) GP [arr s.l] (S (Yx s.l 8)):=by
 intro K c;rw[Vv];unfold Ln A2;simp only[BH];unfold arr;rw[Es (Zm _),Bv (cs:=L3 (pO (Yx s.l 0) 32)) rfl];have a:Ai ((Ar [(Ar [],c_ BK (Eg s.l))],c_ VX (L3 (pO (Yx s.l 0) 32)))::[(Ar [],c_ BK (Eg s.l))]) (Ar [])=some (c_ BK (Eg s.l)):=id rfl;rw[Br rfl rfl a];refine C0H (w0:=.dk) (w1:=.dk) (w5:=.dk) d ?_ L 0 _ _ _ _ (by omega) (by omega) (Ax (by simp));intro H hr;have f:(L3 (Yx s.l 8)).length=32:=by rw[Qo,Yw]
 rw[A4k 0 32 (λK=>rfl) (λK=>rfl) hr (by omega) (by decide) (by decide),W_ (e:=VX) (.inr ⟨_,_,rfl,hr,by omega⟩)];exact c _ _ (λb=>⟨false,CA⟩)
end
section
variable{q0:Bool}{H:Hp}{e0:Nat}{t:TI}
def A7M{e r o m:Nat}{x y z:Int}(a b c:Nat){K:K2}(f:t.d=.slice e 1)(i:x=a)(j:y=b)(hz:z=c)(h1:a<=b)(h2:b<=c)(p:c<=m):DS t (.sl 1 r o m) (some (I x)) (some (I y)) (some (I z)) K=K (.sl 1 r (o+a) (b-a)):=by
 subst i j hz;have g:DS t (.sl 1 r o m) (some (I a)) (some (I b)) (some (I c)) K=iN (a:Int) λl=>iN (b:Int) λh=>iN (c:Int) λx=>ck (Nat.ble l h&&(Nat.ble h x&&Nat.ble x m)) (fN (Nat.add o (Nat.mul l 1)) λk=>fN (Nat.sub h l) λn=>K (.sl 1 r k n)):=by
  obtain⟨_,_,d,z⟩:=t;simp only at f;subst f;rfl
 rw[g,Kr,Kr,Kr];have f1:(Nat.ble a b&&(Nat.ble b c&&Nat.ble c m))=true:=by simp only[KK,kD];omega
 have f2:Nat.add o (Nat.mul a 1)=o+a:=by show o+a*1=_;omega
 rw[f1,f2,Ef,Ef];rfl
def A4i{e r o m:Nat}{x:Int}(a:Nat){K:K2}(b:t.d=.slice e 1)(f:x=a)(h1:a<=m):DS t (.sl 1 r o m) (some (I x)) none none K=K (.sl 1 r (o+a) (m-a)):=by
 subst f;have c:DS t (.sl 1 r o m) (some (I a)) none none K=iN (a:Int) λl=>fN m λh=>fN m λx=>ck (Nat.ble l h&&(Nat.ble h x&&Nat.ble x m)) (fN (Nat.add o (Nat.mul l 1)) λg=>fN (Nat.sub h l) λn=>K (.sl 1 r g n)):=by
  obtain⟨_,_,d,z⟩:=t;simp only at b;subst b;rfl
 rw[c,Kr,Ef,Ef];have f1:(Nat.ble a m&&(Nat.ble m m&&Nat.ble m m))=true:=by simp only[KK,kD];omega
 have f2:Nat.add o (Nat.mul a 1)=o+a:=by show o+a*1=_;omega
 rw[f1,f2,Ef,Ef];rfl
def B1B{x y:Int}(h:x<=y){K:K2}:eMM true (I x) (I y) K=K (I x):=by
 have:eMM true (I x) (I y) K=ck (decide (IntKind.i64=IntKind.i64)) (@Bool.rec (λ_=>Af) (K (I y)) (K (I x)) (qL x y)):=rfl;rw[this,LI,GI h];rfl
def B5E{ty sz r o m:Nat}{K:KV}:GZ ty (.sl sz r o m) H K=K (.ptr (Ar H) 0 0) ((Ar H,c_ ty [.sl sz r o m])::H):=by
 unfold GZ;rw[CM,FN,Ca];rfl
def DR{b:Bool}{K:K2}:MB .not (Bo b) K=K (Bo (!b)):=by cases b<;>rfl
variable{L n:Nat}{K:KV}{x:Af}
def lpS(a c2 c3 c4 c5 c6 c34 c35 c36:AV)(p:Option (Option Code)):Row:=.loop 40 [(0,a),(2,c2),(3,c3),(4,c4),(5,c5),(6,c6),(34,c34),(35,c35),(36,c36)] (F9).2.1 (F9).2.2.1 (F9).2.2.2 p
def B43{b c2 c4 c5 c6 c34 c35 c36 c:AV}{s r0:Nat}{t:S8}{l:Ha}(J:l.length=64)(D:100<L)(N:Wf H)(hr:Ai H r0=some (.cells q0 e0 (Eg t.l)))(hc:Chk H c l)(p:Ai H s=some (lpS b c2 (.ptr r0 0 0) c4 c5 c6 c34 c35 c36 (some none)))(k:∀w,A4 c w->w≠s)(d:r0≠s)(O:∀a,Ai a r0=some (.cells q0 e0 (Eg (blk t l).l))->Ai a s=some (lpS b c2 (.ptr r0 0 0) c4 c5 c6 c34 c35 c36 (some none))->(∀u y,Ai H u=some y->u≠r0->u≠s->Ai a u=some y)->Wf a->K (Bo true) a=x):
 Cw (E L) (rt L (n+5)) (.yl s) [c] H K=x:=by
 show NV (rt L (n+5)) s [c] H K=x;rw[Pq p (by kernel_rfl)];have i:(rt L (n+5)).run= λA=>Pt (E L) (rt L (n+4)) A:=rfl;rw[i,pK,P0 p];have g:=Bi (r:=s) (y:=lpS b c2 (.ptr r0 0 0) c4 c5 c6 c34 c35 c36 none) N;have m:Ai (upd H s (lpS b c2 (.ptr r0 0 0) c4 c5 c6 c34 c35 c36 none)) r0=some (.cells q0 e0 (Eg t.l)):=by rw[Ag d];exact hr
 have v:Ai (upd H s (lpS b c2 (.ptr r0 0 0) c4 c5 c6 c34 c35 c36 none)) s=some (lpS b c2 (.ptr r0 0 0) c4 c5 c6 c34 c35 c36 none):=Fg p;have j:Chk (upd H s (lpS b c2 (.ptr r0 0 0) c4 c5 c6 c34 c35 c36 none)) c l:=by
  rcases hc with h|⟨r,o,q,e,cs,h1,h2,B,C⟩
  ·exact .inl h
  ·refine .inr ⟨r,o,q,e,cs,h1,?_,B,C⟩;rw[Ag (k r ⟨_,_,_,h1⟩)];exact h2
 refine C45 J D g m j ?_;intro a F hb hc;have f:=hb.keep g s _ v (λh=>d h.symm);show EB a s false (some none) _=_;unfold lpS at f;rw[Pz f];refine O _ ?_ (Fg f) ?_ (Bi hc)
 ·rw[Ag d];exact F
 ·intro u y M h1 h2;rw[Ag h2];refine hb.keep g u y ?_ h1;rw[Ag h2];exact M
def C0n{k:Ru}{w c2 c4 c5 c6 c34 c35 c36:AV}{s r0 r1 r2 rm m N O em:Nat}{q0 q1 q2 M:Bool}{l:Ha}(V:100<L)(hm:l.length=64*m)(hl:l.length<200000000000)(d0:r0≠s)(d1:r1≠s)(d2:r2≠s)(y:rm≠s)(d:r1≠r0)(a:r2≠r0)(e:rm≠r0)(X:∀H,Ai H r0=some (.cells q0 e0 (Eg (eY l m).l))->Ai H s=some (lpS w c2 (.ptr r0 0 0) c4 c5 c6 c34 c35 c36 (some none))->Wf H->k H=x):
 ∀(f i:Nat)(H:Hp),i<=m->m-i<f->Ai H r0=some (.cells q0 e0 (Eg (eY l i).l))->Ai H s=some (lpS w c2 (.ptr r0 0 0) c4 c5 c6 c34 c35 c36 (some none))->
  Ai H r1=some (.cells q1 N [.sl 1 rm 0 l.length])->Ai H r2=some (.cells q2 O [I 64])->Ai H rm=some (.cells M em (L3 l))->Wf H->
  FR L (rt L (n+5)) K k f (.yl s) (.ptr r1 0 0) (.ptr r2 0 0) (I ((64*i:Nat):Int)) H=x:=by
 intro f
 induction f with
 |zero=>intro i H _ h;omega
 |succ f ih=>
  intro i H hi Z B C h1 h2 b D;rw[MK];unfold FT;have F:∀K,AE AS (.ptr r1 0 0) H K=K (.sl 1 rm 0 l.length):=λK=>AL (p:=0) rfl h1 (by simp);have Y:∀K,AE Ac (.ptr r2 0 0) H K=K (I 64):=λK=>AL (p:=0) rfl h2 (by decide);have J:∀k o K,Bp AS (.sl 1 rm o k) K=K (I k):=λ_ _ _=>id rfl;rw[F,J,Dk,Fa];by_cases h:i<m
  ·rw[Dr (by simp;omega)];have P:∀K,DS AS (.sl 1 rm 0 l.length) (some (I ((64*i:Nat):Int))) none none K=K (.sl 1 rm (0+64*i) (l.length-64*i)):=λK=>A4i _ rfl rfl (by omega);have A:((64*i:Nat):Int)+64=((64*(i+1):Nat):Int):=by omega
   have Q:∀K,DS AS (.sl 1 rm 0 l.length) (some (I ((64*i:Nat):Int))) (some (I ((64*(i+1):Nat):Int))) (some (I ((64*(i+1):Nat):Int))) K=K (.sl 1 rm (0+64*i) (64*(i+1)-64*i)):=λK=>A7M _ _ _ rfl rfl rfl rfl (by omega) (by omega) (by omega);have R:64*(i+1)-64*i=64:=by omega
   simp(disch:=omega) only[OW,F,Y,P,J,B1B,Dl,CX,A,Q,R,Kk];refine B43 (l:=(l.drop (64*i)).take 64) (by simp;omega) V D B (.inr ⟨rm,64*i,M,em,L3 l,?_,b,?_,?_⟩) C ?_ d0 ?_
   ·have:((l.drop (64*i)).take 64).length=64:=by simp;omega
    rw[this]
   ·have:((l.drop (64*i)).take 64).length=64:=by simp;omega
    rw[this,Qo];omega
   ·have:((l.drop (64*i)).take 64).length=64:=by simp;omega
    rw[this];unfold L3;rw[List.map_take,List.map_drop]
   ·rintro s' ⟨_,_,_,j⟩;injection j with _ j
    subst j;exact y
   ·intro v g q c r;have u:∀K,AE Ac (.ptr r2 0 0) v K=K (I 64):=λK=>AL (p:=0) rfl (c r2 _ h2 a d2) (by decide);rw[DR,Fa,CD (by simp),u,Dl,CX (by omega) (by omega),A];exact ih (i+1) v (by omega) (by omega) g q (c r1 _ h1 d d1) (c r2 _ h2 a d2) (c rm _ b e y) r
  ·rw[CD (by simp;omega)];have:i=m:=by omega
   subst this;exact X _ B C D
end
section
variable{k:AV->AV->AV->AV->AV->AV->AV->KV}{H:Hp}{s:Ha}{y:Row}
variable{L n:Nat}{K:KV}{x:Af}
def B2n{v:AV}{l:Ha}{r0:Nat}(b:UInt8)(h:AU H Bj 1 v l.length (L3 l))(w:Wf H)(hn:l.length<1000000000000)(d:Ai H r0=some y)(j:¬A4 v r0):
 ∃c a,(∀K:KV,(FV Bj 1 AT 1 [(0,1,By b)] H λv1 e=>Dy Bj 1 AT AS v v1 e K)=K c a)/\AU a Bj 1 c (l++[b]).length (L3 (l++[b]))/\Wf a/\Ai a r0=some y/\¬A4 c r0:=by
 obtain⟨c,a,h1,h2,f,p,g,i⟩:=B2o b h w hn;exact⟨c,a,h1,h2,f,g r0 y d j,λm=>by have:=i r0 m;have:=w.lt d;omega⟩
def C2c{r0:Nat}{w0 w1 g D w5 i m p:AV}(J:s.length<100000000000)(B:∀v H,AU H Bj 1 v (pre s).length (L3 (pre s))->Wf H->Ai H r0=some y->¬A4 v r0->k w0 w1 g v w5 i m p H=x):
 ∀(f j:Nat)(v:AV)(H:Hp),j<=fM s.length->fM s.length-j<f->AU H Bj 1 v (s++[128]++List.replicate j 0).length (L3 (s++[128]++List.replicate j 0))->Wf H->Ai H r0=some y->¬A4 v r0->
  UM L (rt L n) K k f w0 w1 g v D w5 i m p H=x:=by
 intro f
 induction f with
 |zero=>intro j v H _ h;omega
 |succ f ih=>
  intro j v H w F hv d b c;rw[qN];unfold UN A2;have a:(s++[128]++List.replicate j (0:UInt8)).length=s.length+1+j:=by simp;omega
  have hz:fM s.length<64:=by unfold fM;omega
  rw[Ly rfl hv,Q9 (by decide),I6,Fa];have hm:((s++[128]++List.replicate j (0:UInt8)).length:Int).tmod 64=(((s.length+1+j)%64:Nat):Int):=by rw[a];exact(Int.ofNat_tmod _ _).symm
  rw[hm];by_cases h:j=fM s.length
  ·subst h;have:(s.length+1+fM s.length)%64=56:=by unfold fM;omega
   rw[this];simp only[l19,decide_eq_false_iff_not];rw[CD (by simp)];exact B _ _ hv d b c
  ·have A:(s.length+1+j)%64≠56:=by unfold fM at h w;omega
   rw[Dr (by simp;omega)];obtain⟨C,q,h1,h2,r,t,u⟩:=B2n (0:UInt8) hv d (by omega) b c;have e:(AV.v (.int .u8 0))=By 0:=rfl;rw[e];rw[h1];refine ih (j+1) C q (by omega) (by omega) ?_ r t u;rw[List.replicate_succ',<-eK];exact h2
def C2d{r0:Nat}{w1 d w5 q e g:AV}(O:s.length<100000000000)(J:∀v w H,AU H Bj 1 v (ext s).length (L3 (ext s))->Wf H->Ai H r0=some y->¬A4 v r0->k (S s) w1 d v w w5 e g H=x):
 ∀(f i:Nat)(l:Ha)(v:AV)(H:Hp),i<=8->i<f->l++Yk s.length i=ext s->AU H Bj 1 v l.length (L3 l)->Wf H->Ai H r0=some y->¬A4 v r0->
  Qm L (rt L n) K k f (S s) w1 d v (I ((i:Int)-1)) w5 q e g H=x:=by
 have hz:fM s.length<64:=by unfold fM;omega
 intro f
 induction f with
 |zero=>intro i l v H _ h;omega
 |succ f ih=>
  intro i l v H hi N b hv p j m;have F:l.length<=s.length+1+64+8:=by
   have:=congrArg List.length b;simp[ext,pre,yP]at this;omega
  rw[qP];unfold UO A2;rw[KX,Fa];cases i with
  |zero=>
   rw[CD (by simp)];have:l=ext s:=by simpa [Yk] using b
   subst this;exact J _ _ _ hv p j m
  |succ i=>
   rw[Dr (by simp)];have t:((i+1:Nat):Int)-1=(i:Int):=by omega
   rw[t];rw[Qf rfl,OU,OU,CX (by omega) (by omega),CX (by omega) (by omega)];have u:(8:Int)*(s.length:Int)=((8*s.length:Nat):Int):=by omega
   have A:(8:Int)*(i:Int)=((8*i:Nat):Int):=by omega
   rw[u,A,vL (by omega)];rw[A29 rfl];obtain⟨M,r,h1,h2,B,C,D⟩:=B2n (eJ s.length i) hv p (by omega) j m;simp(disch:=omega) only[J6,CX];have h1:=h1 (λc a=>Qm L (rt L n) K k f (S s) w1 d c (I ((i:Int)-1)) w5 q e g a);unfold eJ at h1;rw[h1];refine ih i (l++[eJ s.length i]) M r (by omega) (by omega) ?_ h2 B C D;rw[eK];exact b
def A5q{R:Rt}{N g:Nat}{cap:Is}{t:Tm}{ps:Array Tmp}{b d:Code}{K:Option (Option Code)->Ru}:oY R N (.fn (.func g) [] cap) t ps b d H K=R.call g (.yl (Ar H)::cap) ((Ar H,.loop N t ps b d (some none))::H) λ_ c=>IQ c (Ar H) λx=>dI x λ_ _ _ _ _ a=>LJ c (Ar H) .gone λf=>K a f:=by
 have e:oY R N (.fn (.func g) [] cap) t ps b d H K=It H λs=>R.call g (.yl s::cap) ((s,.loop N t ps b d (some none))::H) λ_ c=>IQ c s λx=>dI x λ_ _ _ _ _ a=>LJ c s .gone λf=>K a f:=rfl;rw[e,Ca]
def C2i(hs:s.length<100000000000)(hL:s.length+200<L):CS (rt L (n+8)) Xp [S s] (S (sha s)):=by
 intro K hK;rw[uH];unfold WV A2;simp only[BH];have X:∀K:K2,BR AO [(0,1,(AV.v (.int .u32 1779033703))),(1,1,(AV.v (.int .u32 3144134277))),(2,1,(AV.v (.int .u32 1013904242))),(3,1,(AV.v (.int .u32 2773480762))),(4,1,(AV.v (.int .u32 1359893119))),(5,1,(AV.v (.int .u32 2600822924))),(6,1,(AV.v (.int .u32 528734635))),(7,1,(AV.v (.int .u32 1541459225)))] K=K (.agg (Eg iv.l)):=λK=>by kernel_rfl
 rw[X,Bv (cs:=Eg (List.replicate 8 0)) rfl];have O:=Ax (H:=[]) (x:=.cells true BK (Eg (List.replicate 8 0))) (by simp);rw[BQ (vs:=Eg iv.l) O rfl rfl (Zm _)];have B:=AC (q:=true) (e:=BK) (cs:=Eg iv.l) O;have J:=Bi (r:=Ar []) (y:=.cells true BK (Eg iv.l)) (AF (x:=.cells true BK (Eg (List.replicate 8 0))) Fq);generalize upd ((Ar [],c_ BK (Eg (List.replicate 8 0)))::[]) (Ar []) (c_ BK (Eg iv.l))=t at B J;have P:∀K:KV,A1Y Bj (S s) t K=K (.sl 1 (Ar t) 0 s.length) ((Ar t,.cells false Bj (L3 s))::t):=λK=>by
  have e:A1Y Bj (S s) t K=HQ s 0 λn=>eU s λcs=>It t λr=>K (.sl 1 r 0 n) ((r,.cells false Bj cs)::t):=rfl;rw[e,Cs,Z7,Ca,Kk];rfl
 rw[P];have Y:=J.lt B;have Z:=A6 (x:=.cells false Bj (L3 s)) Y B;have ad:=AF (x:=.cells false Bj (L3 s)) J;have ac:=NY (H:=t) (e:=Bj) (n:=s.length) (cs:=L3 s) (Qo s);have e:(AV.v (.int .u8 128))=By 128:=rfl;obtain⟨v',H',h1,h2,h3,h4,h5⟩:=B2n (128:UInt8) ac ad (by omega) Z (λ⟨_,_,_,hh⟩=>by injection hh with _ hh;omega);rw[e,h1];have hz:fM s.length<64:=by unfold fM;omega
 refine C2c hs ?_ L 0 v' H' (by omega) (by omega) (by simpa using h2) h3 h4 h5;intro v H hv F hr R;refine C2d hs ?_ L 8 (pre s) v H (by omega) (by omega) rfl hv F hr R;intro v w H hv F hr R;obtain⟨m,hm,af⟩:=A64 s;rcases hv with⟨_,h,_⟩|⟨rm,qm,rfl,D,ae⟩
 ·simp[ext]at h
 have V:rm≠Ar []:=λh=>R ⟨_,_,_,by rw[h]⟩;rw[Qr];unfold I8 A2;simp only[BH];rw[B5E,nI rfl];have j:=A6 (x:=.cells true Pw [.sl 1 rm 0 (ext s).length]) (F.lt hr) hr;have c:=A6 (x:=.cells true Pw [.sl 1 rm 0 (ext s).length]) (F.lt D) D;have g:=Ax (H:=H) (x:=.cells true Pw [.sl 1 rm 0 (ext s).length]) (by simp);have a:=AF (x:=.cells true Pw [.sl 1 rm 0 (ext s).length]) F;have a1:=F.lt hr;have a2:=F.lt D;have a3:=a.lt g;generalize ((Ar H,c_ Pw [.sl 1 rm 0 (ext s).length])::H)=N at j c g a a3;have C:=A6 (x:=.cells true GL [I 64]) (a.lt j) j;have f:=A6 (x:=.cells true GL [I 64]) (a.lt c) c;have A:=A6 (x:=.cells true GL [I 64]) (a.lt g) g;have i:=Ax (H:=N) (x:=.cells true GL [I 64]) (by simp);have d:=AF (x:=.cells true GL [I 64]) a;have a4:=a.lt j;have a5:=a.lt c;have a6:=d.lt i;generalize ((Ar N,c_ GL [I 64])::N)=u at C f A i d a6;have l2:∀K,AE Ac (.ptr (Ar N) 0 0) u K=K (I 64):=λK=>AL (p:=0) rfl i (by decide);rw[l2,Dk,Fa,CD (by decide),A5q,Ns];unfold Gg A2;simp only[BH];have a7:=d.lt C;have a8:=d.lt f;have a9:=d.lt A;refine C0n (n:=n+1) (m:=m) (l:=ext s) (s:=Ar u) (r0:=Ar []) (r1:=Ar H) (r2:=Ar N) (rm:=rm) (by omega) hm (by omega) (by omega) (by omega) (by omega) (by omega) (by omega) (by omega) V ?_ L 0 _ (by omega) (by omega) (A6 a7 C) (Ax (x:=lpS (S s) (AV.v (.string ⟨⟨[]⟩⟩)) (.ptr (Ar []) 0 0) (.sl 1 rm 0 (ext s).length) _ _ _ _ _ (some none)) (by simp[lpS])) (A6 a9 A) (A6 a6 i) (A6 a8 f) (AF d);intro M h0 aa ag;rw[Bn aa];show LJ M (Ar u) .gone _=_;rw[Dg];show AE AO (.ptr (Ar []) 0 0) (upd M (Ar u) .gone) _=_;have Q:Ai (upd M (Ar u) .gone) (Ar [])=some (c_ BK (Eg (eY (ext s) m).l)):=by rw[Ag (by omega)];exact h0
 rw[Br rfl rfl Q];have ab:∀K,Aq (rt L (n+7)) GP [.agg (Eg (eY (ext s) m).l)] (upd M (Ar u) .gone) K=K (S (Yx (eY (ext s) m).l 8)):=λK=>AQ (A9C (L:=L) (n:=n+6) (by omega)) (Ao (LL (K7 (λx:BitVec 32=>Value.int .u32 (x.toNat:Int)) _)) AI);show Aq (rt L (n+7)) GP [.agg (Eg (eY (ext s) m).l)] (upd M (Ar u) .gone) _=_;rw[ab];have e:Yx (eY (ext s) m).l 8=sha s:=by
  unfold sha;have:(ext s).length/64=m:=by omega
  rw[this]
 rw[e];exact hK _ _ (λb=>⟨false,CA⟩)
end
end Go.Abs
end
