import Derived.Test.YtdaajghondabnaaGreatDoorP08
set_option linter.all false
set_option maxHeartbeats 100000000
noncomputable section
namespace Go.Abs
open Go.RowKit Go.Proofs
set_option maxRecDepth 100000
section
variable{v w:AV}{K:K2}{x:Af}{b:Bool}{H:Hp}{s:Ha}{L e n:Nat}{R:Rt}{t t':TI}
def C0A{l:Ha}{i:Nat}(c:t.d=.string)(h:i<l.length):jK t t' (S l) (I i) K=K (By l[i]):=by
 have e:jK t t' (S l) (I i) K=iN (i:Int) λn=>B6L (Dn n l) K:=by
  obtain⟨a,b,d,z⟩:=t;simp only at c;subst c;rfl
 rw[e,Kk,CA,uZ h];show fN l[i].toNat (λn=>K (.v (.int .u8 (.ofNat n))))=_;rw[Ee];rfl
def Qf{l:Ha}(c:t.d=.string):Bh t (S l) K=K (I l.length):=by
 have:Bh t (S l) K=HK l 0 λn=>K (.v (.int .i64 (.ofNat n))):=by
  obtain⟨a,b,d,z⟩:=t;simp only at c;subst c;rfl
 rw[this,Cy,Kd];rfl
def Lr{e sz n:Nat}{cs:Is}{f g:Nat}(c:t.d=.slice f g)(h:Bk H e sz v n cs):Bh t v K=K (I n):=by
 obtain⟨a,b,d,z⟩:=t;simp only at c;subst c;rcases h with⟨rfl,rfl,_⟩|⟨r,q,rfl,_⟩<;>rfl
def B2j{l:Ha}(b:UInt8)(h:Bk H Bl 1 v l.length (Lw l))(w:Wf H)(hn:l.length<1000000000000):
 ∃d a,(∀K:KV,(FU Bl 1 AW 1 [(0,1,By b)] H λv1 j=>DK Bl 1 AW AU v v1 j K)=K d a)/\Bk a Bl 1 d (l++[b]).length (Lw (l++[b]))/\Wf a/\As H<=As a/\(∀s x,Ai H s=some x->¬A9 v s->Ai a s=some x)/\(∀s,A9 d s->As H<=s):=by
 have i:Bk ((As H,.cells false Bl [By b])::H) Bl 1 v l.length (Lw l):=h.lat w (Lat.cons H _ (λ_=>False)) (λ_ _ h=>h);have c:=Ob (H:=H) (e:=Bl) (n:=1) (cs:=[By b]) rfl;obtain⟨d,a,h1,h2,k,m⟩:=apt (ie:=AW) (i2:=AU) i (λK=>R4 (K:=K) c) rfl rfl (by decide) rfl rfl (by show(l.length+1)*1<=_;omega) (by omega);have f:=(Lat.cons H (.cells false Bl [By b]) (A9 v)).trans m (R:=A9 v) (λ_ _ h=>h) (λ_ _ h=>h);refine⟨d,a,λK=>?_,by rw[EK,<-jS];exact h2,f.wf w,f.nx,λs x g hn=>f.keep w s x g hn,λs g=>?_⟩
 ·rw[nP (z:=By 0) (λ_=>rfl) (λ_=>rfl) rfl];exact h1 K
 ·rw[k s g];exact l1u _
def fW(n:Nat):Nat:=(119-n%64)%64
def eS(n i:Nat):UInt8:=UInt8.ofNat (8*n/2^(8*i))
def pre(s:Ha):Ha:=s++[128]++List.replicate (fW s.length) 0
def ext(s:Ha):Ha:=pre s++[eS s.length 7,eS s.length 6,eS s.length 5,eS s.length 4,eS s.length 3,eS s.length 2,eS s.length 1,eS s.length 0]
def C0p{K:KV}{k:AV->AV->AV->KV}(u:s.length<100000000000)(g:∀v H,Bk H Bl 1 v s.length (Lw s)->Wf H->k (S s) v (I s.length) w H=x):
 ∀(f i:Nat)(v:AV)(H:Hp),i<=s.length->s.length-i<f->Bk H Bl 1 v (s.take i).length (Lw (s.take i))->Wf H->Oe L R K k f (S s) v (I i) w H=x:=by
 intro f
 induction f with
 |zero=>intro i v H _ h;omega
 |succ f ih=>
  intro i v H r q hv a;rw[ZM];unfold Og A3;rw[Qf rfl,D8,Ff];by_cases h:i<s.length
  ·rw[Dq (by simpa using h)];rw[C0A rfl h];obtain⟨j,c,h1,h2,d,m,p,_⟩:=B2j s[i] hv a (by simp;omega);rw[h1];simp(disch:=omega) only[CY,CQ];refine ih (i+1) j c (by omega) (by omega) ?_ d;rw[oH h];exact h2
  ·rw[CF (by simpa using h)];have:i=s.length:=by omega
   subst this;exact g _ _ (by simpa using hv) a
def vU{j:TI}{a k:Nat}(c:k<=64):Ar j .shr (I a) (I k) K=K (I (a/2^k:Nat)):=by
 have:Ar j .shr (I a) (I k) K=ck (qJ 0 (k:Int)) (fI ((a:Int).fdiv (2^(min (k:Int).toNat 64))) λz=>K (.v (.int .i64 z))):=rfl;rw[this,VG];have h1:qJ 0 (k:Int)=true:=by rw[LD];simp
 have h2:(a:Int).fdiv (2^(min (k:Int).toNat 64))=((a/2^k:Nat):Int):=by
  rw[mG,l22 c];have:((2:Int)^k)=((2^k:Nat):Int):=by simp
  rw[this,Int.fdiv_eq_ediv_of_nonneg _ (Int.natCast_nonneg _)];exact(Int.natCast_ediv _ _).symm
 rw[h1,h2];rfl
def A2m{m:Nat}(c:t'.d=.int .u8):Hg t t' (I m) K=K (By (UInt8.ofNat m)):=by
 have:Hg t t' (I m) K=MM .u8 (m:Int) λz=>K (.v (.int .u8 z)):=by
  obtain⟨a,b,d,z⟩:=t';simp only at c;subst c;rfl
 rw[this,HJ,Yh rfl];have:(m:Int)%(2^IntKind.u8.bits:Nat)=((UInt8.ofNat m).toNat:Int):=by
  rw[UInt8.toNat_ofNat'];exact(Int.natCast_emod _ _).symm
 rw[this]
def Yn(n:Nat):Nat->Ha
 |0=>[]
 |i+1=>eS n i::Yn n i
def zA(n i:Nat):(Yn n i).length=i:=by
 induction i with
 |zero=>rfl
 |succ i ih=>simp[Yn,ih]
def C0q{K:KV}{k:AV->AV->KV}{w1 d u:AV}(C:s.length<100000000000)(q:∀v H,Bk H Bl 1 v (pre s).length (Lw (pre s))->Wf H->k w1 v d H=x):
 ∀(f j:Nat)(v:AV)(H:Hp),j<=fW s.length->fW s.length-j<f->Bk H Bl 1 v (s++[128]++List.replicate j 0).length (Lw (s++[128]++List.replicate j 0))->Wf H->Of L R K k f w1 v d u H=x:=by
 intro f
 induction f with
 |zero=>intro j v H _ h;omega
 |succ f ih=>
  intro j v H m B hv c;rw[ZN];unfold Oh A3;have a:(s++[128]++List.replicate j (0:UInt8)).length=s.length+1+j:=by simp;omega
  have hz:fW s.length<64:=by unfold fW;omega
  rw[Lr rfl hv,Q9 (by decide),I3,Ff];have hm:((s++[128]++List.replicate j (0:UInt8)).length:Int).tmod 64=(((s.length+1+j)%64:Nat):Int):=by rw[a];exact(Int.ofNat_tmod _ _).symm
  rw[hm];by_cases h:j=fW s.length
  ·subst h;have:(s.length+1+fW s.length)%64=56:=by unfold fW;omega
   rw[this];simp only[l19,decide_eq_false_iff_not];rw[CF (by simp)];exact q _ _ hv c
  ·have p:(s.length+1+j)%64≠56:=by unfold fW at h m;omega
   rw[Dq (by simp;omega)];obtain⟨r,g,h1,h2,i,y,A,_⟩:=B2j (0:UInt8) hv c (by omega);have e:(AV.v (.int .u8 0))=By 0:=rfl;rw[e];rw[h1];refine ih (j+1) r g (by omega) (by omega) ?_ i;rw[List.replicate_succ',<-fQ];exact h2
def C0r{K:KV}{k:KV}(J:s.length<100000000000)(y:∀v H,Bk H Bl 1 v (pre s++Yn s.length 8).length (Lw (pre s++Yn s.length 8))->Wf H->k v H=x):
 ∀(f i:Nat)(l:Ha)(v:AV)(H:Hp),i<=8->i<f->l++Yn s.length i=pre s++Yn s.length 8->Bk H Bl 1 v l.length (Lw l)->Wf H->Lj L R K k f (S s) v w (I ((i:Int)-1)) H=x:=by
 have hz:fW s.length<64:=by unfold fW;omega
 intro f
 induction f with
 |zero=>intro i l v H _ h;omega
 |succ f ih=>
  intro i l v H F D c hv g;have u:l.length<=s.length+1+64+8:=by
   have:=congrArg List.length c;simp[pre,zA]at this;omega
  rw[ZO];unfold Oi A3;rw[KO,Ff];cases i with
  |zero=>
   rw[CF (by simp)];have:l=pre s++Yn s.length 8:=by simpa [Yn] using c
   subst this;exact y _ _ hv g
  |succ i=>
   rw[Dq (by simp)];have m:((i+1:Nat):Int)-1=(i:Int):=by omega
   rw[m];rw[Qf rfl,OZ,OZ,CQ (by omega) (by omega),CQ (by omega) (by omega)];have p:(8:Int)*(s.length:Int)=((8*s.length:Nat):Int):=by omega
   have q:(8:Int)*(i:Int)=((8*i:Nat):Int):=by omega
   rw[p,q,vU (by omega)];rw[A2m rfl];obtain⟨A,j,h1,h2,r,B,C,_⟩:=B2j (eS s.length i) hv g (by omega);simp(disch:=omega) only[J6,CQ];have h1:=h1 (λd a=>Lj L R K k f (S s) d w (I ((i:Int)-1)) a);unfold eS at h1;rw[h1];refine ih i (l++[eS s.length i]) A j (by omega) (by omega) ?_ h2 r;rw[fQ];exact c
def X0(l:Ha):AV:=.list l.length (Lw l)
def V!{cs:Is}(h:Bk H e 1 v n cs)(hn:n≠0){α:Type}(f:α->Value)(l:List α)(hc:cs=l.map λx=>.v (f x)):Fx b depth v (.list n cs) H true:=by
 subst hc;rcases h with⟨_,h2,_⟩|⟨r,q,rfl,h2,a⟩
 ·exact absurd h2 hn
 ·exact VE (q':=false) h2 a (K1 f l)
def C0j{l:Ha}(h:Bk H Bl 1 v l.length (Lw l))(a:l≠[]):Fx b depth v (X0 l) H true:=
 V! h (λh=>a (mH h)) (λb:UInt8=>Value.int .u8 (b.toNat:Int)) l rfl
def fx1{x:Value}:R9 true depth [.v x] [.v x] H false:=Ao (q:=false) (q':=false) CC AH
def A3C(s:Ha)(c:s.length<100000000000)(k:s.length+100<L):CS (rt L (n+1)) Qc [S s] (X0 (ext s)):=by
 intro K g;rw[eH];unfold PF A3;simp only[BE];refine C0p c ?_ L 0 _ [] (by omega) (by omega) (.inl ⟨rfl,rfl,rfl⟩) FH;intro v H hv a;obtain⟨h,d,h1,h2,f,i,j,_⟩:=B2j (128:UInt8) hv a (by omega);have e:(AV.v (.int .u8 128))=By 128:=rfl;rw[e,h1];refine C0q c ?_ L 0 h d (by omega) (by have:fW s.length<64:=(by unfold fW;omega);omega) (by simpa using h2) f;intro v H hv a;refine C0r c ?_ L 8 (pre s) v H (by omega) (by omega) rfl hv a;intro v H hv a;exact g _ _ (λb=>⟨true,C0j (l:=ext s) hv (by simp[ext])⟩)
end
section
variable{K:K2}{q:Bool}{H:Hp}{L e k n p r:Nat}{t:TI}{x:Value}
def KY(x:BitVec 32)(k:Nat):BitVec 32:=(x>>>k)|||(x<<<(32-k))
def C3J{x y:Value}:R9 true depth [.v x,.v y] [.v x,.v y] H false:=Ao (q:=false) (q':=false) CC fx1
def fxq{b:Bool}:Fx b depth (.v x) (.v x) H false:=CC
def A71(x:BitVec 32)(k:Nat)(d:k<=32):PS (rt L (n+1)) D1 [W x,I k] (W (KY x k)):=by
 refine CS.ps (λK c=>?_) (λH=>C3J);rw[iD];unfold QK LR;have a:((32:Int)-(k:Int))=((32-k:Nat):Int):=by omega
 simp(disch:=omega) only[JL rfl d,B1W,J6,CQ,a,LO rfl (show 32-k<=32 by omega),jN];exact c _ _ (λb=>⟨false,fxq⟩)
def kk:List (BitVec 32):=[0x428a2f98,0x71374491,0xb5c0fbcf,0xe9b5dba5,0x3956c25b,0x59f111f1,0x923f82a4,0xab1c5ed5,
 0xd807aa98,0x12835b01,0x243185be,0x550c7dc3,0x72be5d74,0x80deb1fe,0x9bdc06a7,0xc19bf174,
 0xe49b69c1,0xefbe4786,0x0fc19dc6,0x240ca1cc,0x2de92c6f,0x4a7484aa,0x5cb0a9dc,0x76f988da,
 0x983e5152,0xa831c66d,0xb00327c8,0xbf597fc7,0xc6e00bf3,0xd5a79147,0x06ca6351,0x14292967,
 0x27b70a85,0x2e1b2138,0x4d2c6dfc,0x53380d13,0x650a7354,0x766a0abb,0x81c2c92e,0x92722c85,
 0xa2bfe8a1,0xa81a664b,0xc24b8b70,0xc76c51a3,0xd192e819,0xd6990624,0xf40e3585,0x106aa070,
 0x19a4c116,0x1e376c08,0x2748774c,0x34b0bcb5,0x391c0cb3,0x4ed8aa4a,0x5b9cca4f,0x682e6ff3,
 0x748f82ee,0x78a5636f,0x84c87814,0x8cc70208,0x90befffa,0xa4506ceb,0xbef9a3f7,0xc67178f2]
def A4a:kk.length=64:=rfl
def A14:CS (rt L (n+1)) OP [] (.list 64 (Eg kk)):=by
 intro K a;rw[ZQ];have e:Ou L (rt L n) [] K=K (.sl 1 0 0 64) [(0,.cells false Cq (Eg kk))]:=by kernel_rfl
 rw[e];exact a _ _ (λb=>⟨true,V! (e:=Cq) (.inr ⟨0,false,rfl,rfl,rfl⟩) (by decide) (λx:BitVec 32=>Value.int .u32 (x.toNat:Int)) kk rfl⟩)
def B29{l:Ha}(h:k<l.length):(Lw l).getD k .dk=By (l.getD k 0):=by
 simp[Lw,UW,h]
def MD{l:List (BitVec 32)}(h:k<l.length):(Eg l).getD k .dk=W (l.getD k 0):=by
 simp[Eg,UW,h]
def HX(l:List (BitVec 32)):(Eg l).length=l.length:=by simp[Eg]
def B2S(a b:List (BitVec 32)):Eg a++Eg b=Eg (a++b):=by simp[Eg]
def Zp(l:List (BitVec 32)):(Eg l).all AV.one=true:=by simp[Eg,AV.one,Value.oneCell']
def eZ{cs:Is}{z:Int}(g:t.d=.slice e 1)(hc:cs.length=n)(s:0<=z)(h1:z<n):DC t (.list n cs) (I z) K=K (.iptr [cs.getD z.toNat .dk]):=by
 obtain⟨m,rfl⟩:=Int.eq_ofNat_of_zero_le s;have h:DC t (.list n cs) (I (m:Int)) K=iN (m:Int) λm=>ck (Nat.blt m n) (SU 1 (Dn (Nat.mul m 1) cs) λc=>K (.iptr c)):=by
  obtain⟨a,b,d,z⟩:=t;simp only at g;subst g;rfl
 have hm:m<n:=by omega
 rw[h,Kk,CA,OJ];have:Nat.blt m n=true:=by rw[Xi];exact hm
 rw[this];have i:Nat.mul m 1=m:=qZ m;have j:(cs.drop m).take 1=[cs.getD m .dk]:=by
  have f:m<cs.length:=by omega
  rw[uZ f,UW,KL f];rfl
 rw[i,j];rfl
def Y_{z:Int}(c:t.d=.slice e 1)(h:0<=z)(h1:z<n):DC t (.sl 1 r 0 n) (I z) K=K (.ptr r z.toNat 0):=by
 obtain⟨m,rfl⟩:=Int.eq_ofNat_of_zero_le h;have f:DC t (.sl 1 r 0 n) (I (m:Int)) K=iN (m:Int) λm=>ck (Nat.blt m n) (fN (Nat.add 0 (Nat.mul m 1)) λp=>K (.ptr r p 0)):=by
  obtain⟨a,b,d,z⟩:=t;simp only at c;subst c;rfl
 have hm:m<n:=by omega
 rw[f,Kk,Ee];have:Nat.blt m n=true:=by rw[Xi];exact hm
 have g:Nat.add 0 (Nat.mul m 1)=m:=by show 0+m*1=m;omega
 rw[this,g];rfl
def Ny{c:AV}(h:t.d.isAgg=false):AD t (.iptr [c]) H K=K c:=by
 have:AD t (.iptr [c]) H K=@Bool.rec (λ_=>Af) (K c) (EO t.size [c] λc=>K (.agg c)) t.d.isAgg:=rfl;rw[this,h]
def B1E{cs:Is}(h:t.d.isAgg=false)(b:Ai H r=some (.cells q e cs))(a:p<cs.length):AD t (.ptr r p 0) H K=K (cs.getD p .dk):=by
 have:AD t (.ptr r p 0) H K=IR H r λx=>Ki x λ_ cs=>@Bool.rec (λ_=>Af) (hdK (Dn (Nat.add p 0) cs) K) (EO t.size (Dn (Nat.add p 0) cs) λc=>K (.agg c)) t.d.isAgg:=rfl;rw[this,h,Bp b];show hdK (Dn p cs) K=_;rw[CA,uZ a,UW,KL a];rfl
def B1H{l:Ha}{z:Int}(a:0<=z)(h1:z<l.length):DC AU (X0 l) (I z) K=K (.iptr [By (l.getD z.toNat 0)]):=by
 unfold X0;rw[eZ rfl (Qo l) a h1,B29 (by omega)]
def C46{z:Int}(a:0<=z)(h1:z<n):DC AI (.sl 1 r 0 n) (I z) K=K (.ptr r z.toNat 0):=Y_ rfl a h1
def C45{l:List (BitVec 32)}(b:Ai H r=some (.cells q e (Eg l)))(a:p<l.length):AD Am (.ptr r p 0) H K=K (W (l.getD p 0)):=by
 rw[B1E rfl b (by rw[HX];exact a),MD a]
def D?{b:UInt8}:Hg AW Am (By b) K=K (W (BitVec.ofNat 32 b.toNat)):=B1N
def C4u{v:AV}{l:List (BitVec 32)}(b:BitVec 32)(h:Bk H Cq 1 v l.length (Eg l))(w:Wf H)(hn:l.length<1000000000000):
 ∃r q a,(∀K:KV,(Dy (FU Cq 1 Am 1 [(0,1,W b)] H λv H=>some (v,H)) λv1 i=>Dy (DK Cq 1 Am AI v v1 i λv H=>some (v,H)) K)=K (.sl 1 r 0 (l.length+1)) a)/\Ai a r=some (.cells q Cq (Eg (l++[b])))/\Wf a/\As H<=As a/\(∀s x,Ai H s=some x->¬A9 v s->Ai a s=some x)/\As H<=r:=by
 have f:Bk ((As H,.cells false Cq [W b])::H) Cq 1 v l.length (Eg l):=h.lat w (Lat.cons H _ (λ_=>False)) (λ_ _ h=>h);have c:=Ob (H:=H) (e:=Cq) (n:=1) (cs:=[W b]) rfl;obtain⟨A,a,h1,h2,j,m⟩:=apt (ie:=Am) (i2:=AI) f (λK=>R4 (K:=K) c) rfl rfl (by decide) rfl rfl (by show(l.length+1)*4<=_;omega) (by omega);have d:=(Lat.cons H (.cells false Cq [W b]) (A9 v)).trans m (R:=A9 v) (λ_ _ h=>h) (λ_ _ h=>h);rcases h2 with⟨_,g,_⟩|⟨r,q,rfl,g,y⟩
 ·omega
 ·refine⟨r,q,a,λK=>?_,by rw[<-B2S];exact g,d.wf w,d.nx,λs x u hn=>d.keep w s x u hn,?_⟩
  ·rw[nP (z:=W 0) (λ_=>rfl) (λ_=>rfl) rfl,A4K,h1 (λv H=>some (v,H)),A4K]
  ·rw[j r ⟨_,_,_,rfl⟩];exact l1u _
end
section
variable{v:AV}{H:Hp}
def Pc{K:K2}:Au (some (v,H)) K=K v:=B1W
def Tf{K:KV}:Dy (some (v,H)) K=K v H:=A4K
def dK{L n:Nat}{x:BitVec 32}{z:Int}(k:Nat)(a:z=(k:Int))(h:k<=32){K:K2}:Ap (rt L (n+1)) D1 [W x,I z] H K=K (W (KY x k)):=by
 subst a;exact A71 x k (by omega) H K
def A4W{l:List (BitVec 32)}{n:Nat}(b:BitVec 32)(d:l.length=n)(h:Bk H Cq 1 v n (Eg l))(w:Wf H)(hn:n<1000000000000):
 ∃r q a,(∀K:KV,(Dy (FU Cq 1 Am 1 [(0,1,W b)] H λv H=>some (v,H)) λv1 c=>Dy (DK Cq 1 Am AI v v1 c λv H=>some (v,H)) K)=K (.sl 1 r 0 (n+1)) a)/\Ai a r=some (.cells q Cq (Eg (l++[b])))/\Wf a/\As H<=As a/\(∀s x,Ai H s=some x->¬A9 v s->Ai a s=some x)/\As H<=r:=by
 subst d;exact C4u b h w hn
def bw(l:Ha)(i:Nat):BitVec 32:=BitVec.ofNat 32 (l.getD i 0).toNat
def A5e(l:Ha)(i:Nat):BitVec 32:=bw l (4*i)<<<24|||bw l (4*i+1)<<<16|||bw l (4*i+2)<<<8|||bw l (4*i+3)
def w16(l:Ha)(n:Nat):List (BitVec 32):=(List.range n).map (A5e l)
def sg0(x:BitVec 32):BitVec 32:=KY x 7^^^KY x 18^^^x>>>3
def sg1(x:BitVec 32):BitVec 32:=KY x 17^^^KY x 19^^^x>>>10
def NQ(l:Ha):Nat->List (BitVec 32)
 |0=>w16 l 16
 |i+1=>NQ l i++[(NQ l i).getD i 0+sg0 ((NQ l i).getD (i+1) 0)+(NQ l i).getD (i+9) 0+sg1 ((NQ l i).getD (i+14) 0)]
def gD(l:Ha)(n:Nat):(w16 l n).length=n:=by simp[w16]
def RS(l:Ha)(i:Nat):(NQ l i).length=16+i:=by
 induction i with
 |zero=>simp[NQ,gD]
 |succ i ih=>simp[NQ,ih];omega
structure S8 where
 a:BitVec 32
 b:BitVec 32
 c:BitVec 32
 d:BitVec 32
 e:BitVec 32
 f:BitVec 32
 g:BitVec 32
 h:BitVec 32
def S8.l(s:S8):List (BitVec 32):=[s.a,s.b,s.c,s.d,s.e,s.f,s.g,s.h]
def rt1(s:S8)(k w:BitVec 32):BitVec 32:=s.h+(KY s.e 6^^^KY s.e 11^^^KY s.e 25)+((s.e&&&s.f)^^^(~~~s.e&&&s.g))+k+w
def rt2(s:S8):BitVec 32:=(KY s.a 2^^^KY s.a 13^^^KY s.a 22)+((s.a&&&s.b)^^^(s.a&&&s.c)^^^(s.b&&&s.c))
def rnd(s:S8)(k w:BitVec 32):S8:=⟨rt1 s k w+rt2 s,s.a,s.b,s.c,s.d+rt1 s k w,s.e,s.f,s.g⟩
def oU(ws:List (BitVec 32))(s:S8):Nat->S8
 |0=>s
 |i+1=>rnd (oU ws s i) (kk.getD i 0) (ws.getD i 0)
def C4v(s t:S8):S8:=⟨s.a+t.a,s.b+t.b,s.c+t.c,s.d+t.d,s.e+t.e,s.f+t.f,s.g+t.g,s.h+t.h⟩
def blk(s:S8)(l:Ha):S8:=C4v s (oU (NQ l 48) s 64)
variable{L n:Nat}{K:KV}{x:Af}
def A0F(l:Ha)(i:Nat):BitVec.ofNat 32 (l.getD (4*i) 0).toNat<<<24|||BitVec.ofNat 32 (l.getD (4*i+1) 0).toNat<<<16|||BitVec.ofNat 32 (l.getD (4*i+2) 0).toNat<<<8|||BitVec.ofNat 32 (l.getD (4*i+3) 0).toNat=A5e l i:=rfl
def A0V(l:Ha)(i:Nat):w16 l (i+1)=w16 l i++[A5e l i]:=by simp[w16,List.range_succ]
def B8Z(x:BitVec 32):KY x 7^^^KY x 18^^^x>>>3=sg0 x:=rfl
def B8Y(x:BitVec 32):KY x 17^^^KY x 19^^^x>>>10=sg1 x:=rfl
def RR(i:Nat):(i:Int)+1=((i+1:Nat):Int):=rfl
def C13{k:AV->AV->AV->AV->AV->AV->AV->AV->KV}{l:Ha}{a0 w1 b c d w5 e:AV}(D:l.length=64)(w:∀v H,Bk H Cq 1 v 16 (Eg (w16 l 16))->Wf H->k a0 (X0 l) v (I 16) b c d w5 e H=x):
 ∀(f i:Nat)(v:AV)(H:Hp),i<=16->16-i<f->Bk H Cq 1 v i (Eg (w16 l i))->Wf H->Sg L (rt L n) K k f a0 (X0 l) v (I i) w1 b c d w5 e H=x:=by
 intro f
 induction f with
 |zero=>intro i v H _ h;omega
 |succ f ih=>
  intro i v H C B hv a;rw[lC];unfold Sk Km A3;rw[D8,Ff];by_cases h:i<16
  ·rw[Dq (by simp;omega)];simp(disch:=omega) only[OZ,CY,CQ,Pc,B1H,Ny (t:=AW) rfl,D?,LO (z:=24) (k:=24) rfl (by decide),LO (z:=16) (k:=16) rfl (by decide),LO (z:=8) (k:=8) rfl (by decide),jN];have j:((4:Int)*(i:Int)).toNat=4*i:=by omega
   have m:((4:Int)*(i:Int)+1).toNat=4*i+1:=by omega
   have p:((4:Int)*(i:Int)+2).toNat=4*i+2:=by omega
   have s:((4:Int)*(i:Int)+3).toNat=4*i+3:=by omega
   rw[j,m,p,s,A0F];obtain⟨r,q,g,h1,h2,u,y,A,_⟩:=A4W (A5e l i) (gD l i) hv a (by omega);rw[h1,RR];refine ih (i+1) _ g (by omega) (by omega) (.inr ⟨r,q,rfl,?_,?_⟩) u
   ·rw[A0V];exact h2
   ·rw[HX,gD];omega
  ·rw[CF (by simp;omega)];have:i=16:=by omega
   subst this;exact w _ _ hv a
def C14{k:AV->AV->AV->AV->AV->AV->KV}{l:Ha}{w0 w1 c A B w5 d e:AV}(u:∀r q H,Ai H r=some (.cells q Cq (Eg (NQ l 48)))->Wf H->k w0 w1 (.sl 1 r 0 64) c (I 64) d e H=x):
 ∀(f i r:Nat)(q:Bool)(H:Hp),i<=48->48-i<f->Ai H r=some (.cells q Cq (Eg (NQ l i)))->Wf H->Sh L (rt L (n+1)) K k f w0 w1 (.sl 1 r 0 (16+i)) c (I ((16+i:Nat):Int)) A B w5 d e H=x:=by
 intro f
 induction f with
 |zero=>intro i r q H _ h;omega
 |succ f ih=>
  intro i r q H J F hv b;rw[lD];unfold Sm Km A3;rw[D8,Ff];by_cases h:i<48
  ·rw[Dq (by simp;omega)];have a:=RS l i;have j:((16+i:Nat):Int)-15=((i+1:Nat):Int):=by omega
   have m:((16+i:Nat):Int)-2=((i+14:Nat):Int):=by omega
   have p:((16+i:Nat):Int)-16=((i:Nat):Int):=by omega
   have s:((16+i:Nat):Int)-7=((i+9:Nat):Int):=by omega
   simp(disch:=omega) only[J6,CQ,Pc,j,m,p,s,C46,mG,C45 hv,dK (z:=7) 7 rfl (by decide),dK (z:=18) 18 rfl (by decide),dK (z:=17) 17 rfl (by decide),dK (z:=19) 19 rfl (by decide),VI,JL (z:=3) (k:=3) rfl (by decide),JL (z:=10) (k:=10) rfl (by decide),Qh];rw[B8Z,B8Y];obtain⟨y,w,g,h1,h2,t,C,D,_⟩:=A4W ((NQ l i).getD i 0+sg0 ((NQ l i).getD (i+1) 0)+(NQ l i).getD (i+9) 0+sg1 ((NQ l i).getD (i+14) 0)) (v:=.sl 1 r 0 (16+i)) a (.inr ⟨r,q,rfl,hv,by rw[HX,a];omega⟩) b (by omega);rw[h1];simp(disch:=omega) only[CY,CQ];rw[RR];exact ih (i+1) y w g (by omega) (by omega) h2 t
  ·rw[CF (by simp;omega)];have:i=48:=by omega
   subst this;exact u _ _ _ hv b
end
section
variable{v:AV}{H:Hp}{t:TI}
def Rd(H:Hp)(v:AV)(n:Nat)(cs:Is):Prop:=cs.length=n/\(v=.list n cs\/∃r q e,v=.sl 1 r 0 n/\Ai H r=some (.cells q e cs))
def rdp(v:AV)(i:Nat):AV:=match v with
 |.list _ cs=>.iptr [cs.getD i .dk]
 |.sl _ r _ _=>.ptr r i 0
 |_=>.dk
def Bk.rd{H:Hp}{e n:Nat}{v:AV}{cs:Is}(h:Bk H e 1 v n cs)(hn:n≠0):Rd H v n cs:=by
 rcases h with⟨_,h,_⟩|⟨r,q,h1,h2,a⟩
 ·exact absurd h hn
 ·exact⟨by omega,.inr ⟨r,q,e,h1,h2⟩⟩
def qW{n:Nat}{cs:Is}(h:cs.length=n):Rd H (.list n cs) n cs:=⟨h,.inl rfl⟩
def Qg{e n:Nat}{cs:Is}(h:Rd H v n cs)(a:t.d=.slice e 1){z:Int}(k:Nat)(hz:z=k)(c:k<n){K:K2}:DC t v (I z) K=K (rdp v k):=by
 subst hz;rcases h with⟨b,rfl|⟨r,q,e,rfl,h2⟩⟩
 ·rw[eZ a b (by omega) (by omega)];rfl
 ·rw[Y_ a (by omega) (by omega)];rfl
def mZ{n:Nat}{cs:Is}(h:Rd H v n cs)(a:t.d.isAgg=false){k:Nat}(c:k<n){K:K2}:AD t (rdp v k) H K=K (cs.getD k .dk):=by
 rcases h with⟨b,rfl|⟨r,q,e,rfl,h2⟩⟩
 ·exact Ny a
 ·exact B1E a h2 (by omega)
def C30{a b c d e f g h:BitVec 32}(K:KV):FU Cq 1 Am 8 [(0,1,W a),(1,1,W b),(2,1,W c),(3,1,W d),(4,1,W e),(5,1,W f),(6,1,W g),(7,1,W h)] H K=K (.sl 1 (As H) 0 8) ((As H,.cells false Cq (Eg [a,b,c,d,e,f,g,h]))::H):=by
 have i:FU Cq 1 Am 8 [(0,1,W a),(1,1,W b),(2,1,W c),(3,1,W d),(4,1,W e),(5,1,W f),(6,1,W g),(7,1,W h)] H K=Io H λs=>K (.sl 1 s 0 8) ((s,.cells false Cq (Eg [a,b,c,d,e,f,g,h]))::H):=rfl;rw[i,Ca]
def C_{x:BitVec 32}{K:K2}:MC .xor (W x) K=K (W (~~~x)):=B1t
def B6r{k:Nat}(h:k<64):(Eg kk).getD k .dk=W (kk.getD k 0):=MD (by rw[A4a];exact h)
variable{L n:Nat}{K:KV}{x:Af}
def A9B(s:S8)(k w:BitVec 32):[s.h+(KY s.e 6^^^KY s.e 11^^^KY s.e 25)+((s.e&&&s.f)^^^(~~~s.e&&&s.g))+k+w+((KY s.a 2^^^KY s.a 13^^^KY s.a 22)+((s.a&&&s.b)^^^(s.a&&&s.c)^^^(s.b&&&s.c))),s.a,s.b,s.c,s.d+(s.h+(KY s.e 6^^^KY s.e 11^^^KY s.e 25)+((s.e&&&s.f)^^^(~~~s.e&&&s.g))+k+w),s.e,s.f,s.g]=(rnd s k w).l:=rfl
def C15{k:AV->AV->AV->AV->AV->AV->AV->KV}{ws:List (BitVec 32)}{s0:S8}{rw:Nat}{w0 w1 w y w6 w7:AV}(r:ws.length=64)(Q:∀v q H,Bk H Cq 1 v 8 (Eg (oU ws s0 64).l)->Ai H rw=some (.cells q Cq (Eg ws))->Wf H->k w0 w1 (.sl 1 rw 0 64) w y (.list 64 (Eg kk)) v (I 64) H=x):
 ∀(f i:Nat)(v:AV)(q:Bool)(H:Hp),i<=64->64-i<f->Bk H Cq 1 v 8 (Eg (oU ws s0 i).l)->Ai H rw=some (.cells q Cq (Eg ws))->Wf H->Si L (rt L (n+1)) K k f w0 w1 (.sl 1 rw 0 64) w y (.list 64 (Eg kk)) v (I i) w6 w7 H=x:=by
 intro f
 induction f with
 |zero=>intro i v q H _ h;omega
 |succ f ih=>
  intro i v q H hi hf hv hr p;rw[lE];unfold So Km A3;rw[D8,Ff];by_cases h:i<64
  ·rw[Dq (by simp;omega)];have rv:=hv.rd (by decide);have u:Rd H (.list 64 (Eg kk)) 64 (Eg kk):=qW (by rw[HX,A4a]);have rs:Rd H (.sl 1 rw 0 64) 64 (Eg ws):=⟨by rw[HX,r],.inr ⟨rw,q,Cq,rfl,hr⟩⟩
   generalize P:oU ws s0 i=s at rv hv;have A:(Eg s.l).getD 0 .dk=W s.a:=id rfl;have B:(Eg s.l).getD 1 .dk=W s.b:=id rfl;have C:(Eg s.l).getD 2 .dk=W s.c:=id rfl;have D:(Eg s.l).getD 3 .dk=W s.d:=id rfl;have F:(Eg s.l).getD 4 .dk=W s.e:=id rfl;have J:(Eg s.l).getD 5 .dk=W s.f:=id rfl;have M:(Eg s.l).getD 6 .dk=W s.g:=id rfl;have N:(Eg s.l).getD 7 .dk=W s.h:=id rfl;have O:(Eg ws).getD i .dk=W (ws.getD i 0):=MD (by omega);have R:=λK=>Qg (t:=AI) rv rfl (z:=0) 0 rfl (by decide) (K:=K);have i1:=λK=>Qg (t:=AI) rv rfl (z:=1) 1 rfl (by decide) (K:=K);have i2:=λK=>Qg (t:=AI) rv rfl (z:=2) 2 rfl (by decide) (K:=K);have V:=λK=>Qg (t:=AI) rv rfl (z:=3) 3 rfl (by decide) (K:=K);have X:=λK=>Qg (t:=AI) rv rfl (z:=4) 4 rfl (by decide) (K:=K);have Y:=λK=>Qg (t:=AI) rv rfl (z:=5) 5 rfl (by decide) (K:=K);have Z:=λK=>Qg (t:=AI) rv rfl (z:=6) 6 rfl (by decide) (K:=K);have i7:=λK=>Qg (t:=AI) rv rfl (z:=7) 7 rfl (by decide) (K:=K);have ik:=λK=>Qg (t:=AI) u rfl (z:=i) i rfl h (K:=K);have iw:=λK=>Qg (t:=AI) rs rfl (z:=i) i rfl h (K:=K);have lv:=λk j K=>mZ (t:=Am) rv rfl (k:=k) j (K:=K);have lk:=λk j K=>mZ (t:=Am) u rfl (k:=k) j (K:=K);have lw:=λk j K=>mZ (t:=Am) rs rfl (k:=k) j (K:=K);simp(disch:=omega) only[Pc,R,i1,i2,V,X,Y,Z,i7,ik,iw,lv,lk,lw,A,B,C,D,F,J,M,N,O,B6r h,VI,D_,Qh,C_,
    dK (z:=6) 6 rfl (by decide),dK (z:=11) 11 rfl (by decide),dK (z:=25) 25 rfl (by decide),dK (z:=2) 2 rfl (by decide),dK (z:=13) 13 rfl (by decide),dK (z:=22) 22 rfl (by decide)]
   rw[C30,Tf,CY,CQ (by omega) (by omega),A9B,RR];have m:oU ws s0 (i+1)=rnd s (kk.getD i 0) (ws.getD i 0):=by rw[<-P];rfl
   rw[<-m];exact ih (i+1) _ q _ (by omega) (by omega) (Ob rfl) (A7 (p.lt hr) hr) (AG p)
  ·rw[CF (by simp;omega)];have:i=64:=by omega
   subst this;exact Q _ _ _ hv hr p
def jW(a b:List (BitVec 32))(i:Nat):List (BitVec 32):=(List.range i).map λi=>a.getD i 0+b.getD i 0
def Tl(a b:List (BitVec 32))(i:Nat):(jW a b i).length=i:=by simp[jW]
def G!(a b:List (BitVec 32))(i:Nat):jW a b (i+1)=jW a b i++[a.getD i 0+b.getD i 0]:=by simp[jW,List.range_succ]
def C1f(s t:S8):jW s.l t.l 8=(C4v s t).l:=rfl
def C16{k:KV}{a b:List (BitVec 32)}{A B w1 w2 w3 w4 w5 w7:AV}(V:∀v H,Bk H Cq 1 v 8 (Eg (jW a b 8))->Wf H->k v H=x)(w:A=.list 8 (Eg a))(P:a.length=8)(hb:b.length=8):
 ∀(f i:Nat)(v:AV)(H:Hp),i<=8->8-i<f->Bk H Cq 1 v i (Eg (jW a b i))->Bk H Cq 1 B 8 (Eg b)->(∀s,A9 v s->¬A9 B s)->Wf H->Sj L (rt L n) K k f A w1 w2 w3 w4 w5 B w7 v (I i) H=x:=by
 intro f
 induction f with
 |zero=>intro i v H _ h;omega
 |succ f ih=>
  intro i v H hi hf hv c Q y;rw[lG];unfold Sp Km A3;rw[D8,Ff];by_cases h:i<8
  ·rw[Dq (by simp;omega)];have C:Rd H A 8 (Eg a):=by subst w;exact qW (by rw[HX,P])
   have D:=c.rd (by decide);have J:(Eg a).getD i .dk=W (a.getD i 0):=MD (by omega);have M:(Eg b).getD i .dk=W (b.getD i 0):=MD (by omega);have ia:=λK=>Qg (t:=AI) C rfl (z:=i) i rfl h (K:=K);have X:=λK=>Qg (t:=AI) D rfl (z:=i) i rfl h (K:=K);have Y:=λK=>mZ (t:=Am) C rfl (k:=i) h (K:=K);have Z:=λK=>mZ (t:=Am) D rfl (k:=i) h (K:=K);simp only[Pc,ia,X,Y,Z,J,M,Qh];obtain⟨r,q,F,h1,h2,N,h4,O,h6⟩:=A4W (a.getD i 0+b.getD i 0) (Tl a b i) hv y (by omega);rw[h1,CY,CQ (by omega) (by omega),RR];refine ih (i+1) _ F (by omega) (by omega) (.inr ⟨r,q,rfl,?_,?_⟩) ?_ ?_ N
   ·rw[G!];exact h2
   ·rw[HX,Tl];omega
   ·rcases c with⟨d,e,g⟩|⟨r2,q2,d,e,g⟩
    ·exact .inl ⟨d,e,g⟩
    ·exact .inr ⟨r2,q2,d,O _ _ e (λR=>Q _ R ⟨1,0,8,d⟩),g⟩
   ·intro s ⟨p,o,m,j⟩ u;injection j with _ j
    subst j;have:=c.lt y u;omega
  ·rw[CF (by simp;omega)];have:i=8:=by omega
   subst this;exact V _ _ hv y
def S8.len(s:S8):s.l.length=8:=rfl
def B3T{s:S8}{l:Ha}(k:l.length=64)(u:100<L):CS (rt L (n+2)) UK [.list 8 (Eg s.l),X0 l] (.list 8 (Eg (blk s l).l)):=by
 intro K j;rw[pZ];unfold Uy A3;simp only[BE];refine C13 k ?_ L 0 _ [] (by omega) (by omega) (.inl ⟨rfl,rfl,rfl⟩) FH;intro v H hv c;rcases hv with⟨_,h,_⟩|⟨r,q,rfl,h2,i⟩
 ·exact absurd h (by decide)
 refine C14 ?_ L 0 r q H (by omega) (by omega) h2 c;intro r q H hr c;rw[AP A14 AH];obtain⟨p,g,h1,h2,i,f⟩:=apt (ie:=Am) (i2:=AI) (H:=H) (e:=Cq) (sz:=1) (n:=0) (m:=8) (v:=.v (.slice none 0 0)) (src:=.list 8 (Eg s.l)) (cs:=[]) (ys:=Eg s.l) (.inl ⟨rfl,rfl,rfl⟩) (λK=>VH) rfl (Zp _) (by decide) rfl rfl (by decide) (by decide);rw[h1];have d:=f.keep c r _ hr (λ⟨_,_,_,h⟩=>by cases h);refine C15 (s0:=s) (by rw[RS]) ?_ L 0 p q g (by omega) (by omega) h2 d (f.wf c);intro v q H hv hr c;refine C16 (a:=s.l) (b:=(oU (NQ l 48) s 64).l) ?_ rfl rfl rfl L 0 _ H (by omega) (by omega) (.inl ⟨rfl,rfl,rfl⟩) hv (λs ⟨_,_,_,h⟩=>by cases h) c;intro v H hv c;rw[C1f]at hv;exact j _ _ (λb=>⟨true,V! hv (by decide) (λx:BitVec 32=>Value.int .u32 (x.toNat:Int)) _ rfl⟩)
end
section
variable{v:AV}{H:Hp}{s:Ha}{e m:Nat}
def A29{t:TI}{cs:Is}{x y:Int}(a b:Nat){K:K2}(f:t.d=.slice e 1)(i:x=a)(j:y=b)(h1:a<=b)(h2:b<=m):Es t (.list m cs) (some (I x)) (some (I y)) none K=K (.list (b-a) ((cs.drop a).take (b-a))):=by
 subst i j;have g:Es t (.list m cs) (some (I a)) (some (I b)) none K=iN (a:Int) λl=>iN (b:Int) λh=>fN m λx=>ck ((true||(some (I (b:Int))).isSome)&&(Nat.ble l h&&(Nat.ble h x&&Nat.ble x m))) (fN (Nat.sub h l) λn=>SU (Nat.mul n 1) (Dn (Nat.mul l 1) cs) λc=>K (.list n c)):=by
  obtain⟨_,_,d,z⟩:=t;simp only at f;subst f;rfl
 rw[g,Kk,Kk,Ee];have c:((true||(some (I (b:Int))).isSome)&&(Nat.ble a b&&(Nat.ble b m&&Nat.ble m m)))=true:=by simp only[Bool.true_or,l1b,KF,kC];omega
 rw[c];show fN (Nat.sub b a) (λn=>SU (Nat.mul n 1) (Dn (Nat.mul a 1) cs) λc=>K (.list n c))=_;rw[Ee,OJ,CA];show K (.list (b-a) ((cs.drop (a*1)).take ((b-a)*1)))=_;rw[qZ,qZ]
def iv:S8:=⟨1779033703,3144134277,1013904242,2773480762,1359893119,2600822924,528734635,1541459225⟩
def fD(s:Ha):Nat->S8
 |0=>iv
 |i+1=>blk (fD s i) ((s.drop (64*i)).take 64)
def wb(w:BitVec 32):Ha:=[UInt8.ofNat (w.toNat/2^24),UInt8.ofNat (w.toNat/2^16),UInt8.ofNat (w.toNat/2^8),UInt8.ofNat w.toNat]
def Y0(l:List (BitVec 32)):Nat->Ha
 |0=>[]
 |i+1=>Y0 l i++wb (l.getD i 0)
def Yz(l:List (BitVec 32))(i:Nat):(Y0 l i).length=4*i:=by
 induction i with
 |zero=>rfl
 |succ i ih=>simp[Y0,ih,wb];omega
def sha(s:Ha):Ha:=Y0 (fD (ext s) ((ext s).length/64)).l 8
variable{L n:Nat}{K:KV}{x:Af}
def C3K{l:List (BitVec 32)}(h:Rd H v n (Eg l)):∃q,Fx true depth v (.list n (Eg l)) H q:=by
 rcases h with⟨a,rfl|⟨r,q,e,rfl,h2⟩⟩
 ·exact⟨_,OI⟩
 ·exact⟨_,VE (q':=false) h2 (by omega) (K1 (λx:BitVec 32=>Value.int .u32 (x.toNat:Int)) l)⟩
def B8V{k:AV->AV->KV}{t u:AV}(hm:s.length=64*m)(A:s.length<200000000000)(p:100<L)(a:m≠0)(r:∀j,k (.list 8 (Eg (fD s m).l)) (X0 s) j H=x):
 ∀(f i:Nat)(v:AV),i<=m->m-i<f->Rd H v 8 (Eg (fD s i).l)->(i≠0->v=.list 8 (Eg (fD s i).l))->Wi L (rt L (n+2)) K k f v (X0 s) (I ((64*i:Nat):Int)) t u H=x:=by
 intro f
 induction f with
 |zero=>intro i v _ h;omega
 |succ f ih=>
  intro i v y w hv b;rw[tF];unfold Wk A3;have el:∀K,Bh AU (X0 s) K=K (I (s.length:Int)):=λ_=>id rfl;rw[el,D8,Ff];by_cases h:i<m
  ·rw[Dq (by simp;omega)];simp(disch:=omega) only[CY,CQ];have c:((64*i:Nat):Int)+64=((64*(i+1):Nat):Int):=by omega
   unfold X0;rw[c,A29 (64*i) (64*(i+1)) rfl rfl rfl (by omega) (by omega)];have d:64*(i+1)-64*i=64:=by omega
   have g:AV.list 64 (((Lw s).drop (64*i)).take 64)=X0 ((s.drop (64*i)).take 64):=by
    unfold X0 Lw;have:((s.drop (64*i)).take 64).length=64:=by simp;omega
    rw[this,List.map_take,List.map_drop]
   rw[d,g];obtain⟨q,hq⟩:=C3K hv;rw[AP (B3T (n:=n) (s:=fD s i) (l:=(s.drop (64*i)).take 64) (by simp;omega) p) (Ao hq (Ao (by unfold X0;exact OI) AH))];exact ih (i+1) _ (by omega) (by omega) (qW (by rw[HX];rfl)) (λ_=>rfl)
  ·rw[CF (by simp;omega)];have:i=m:=by omega
   subst this;rw[b a];exact r _
def D!{w:BitVec 32}{K:K2}:Hg Am AW (W w) K=K (By (UInt8.ofNat w.toNat)):=B1M
def C31{a b c d:UInt8}(K:KV):FU Bl 1 AW 4 [(0,1,By a),(1,1,By b),(2,1,By c),(3,1,By d)] H K=K (.sl 1 (As H) 0 4) ((As H,.cells false Bl (Lw [a,b,c,d]))::H):=by
 have f:FU Bl 1 AW 4 [(0,1,By a),(1,1,By b),(2,1,By c),(3,1,By d)] H K=Io H λs=>K (.sl 1 s 0 4) ((s,.cells false Bl (Lw [a,b,c,d]))::H):=rfl;rw[f,Ca]
def B5e(l:Ha):∀K:Ha->Af,fu8 (Lw l) K=K l:=by
 induction l with
 |nil=>intro K;rfl
 |cons b l ih=>
  intro K;have e:fu8 (Lw (b::l)) K=iN (b.toNat:Int) λn=>fu8 (Lw l) λl=>K (UInt8.ofNat n::l):=rfl;rw[e,Kk,ih];simp
def Z!{l:Ha}{K:K2}(h:Bk H e 1 v n (Lw l)):vV v H K=K (S l):=by
 have a:vV v H K=Tz H v λm cs=>HK cs 0 λk=>ck (Nat.beq k m) (fu8 cs λl=>K (.v (.string ⟨⟨l⟩⟩))):=by
  rcases h with⟨rfl,_⟩|⟨r,q,rfl,_⟩<;>rfl
 have hn:(Lw l).length=n:=by
  rcases h with⟨_,rfl,h⟩|⟨r,q,_,_,h⟩
  ·rw[h];rfl
  ·omega
 rw[a,R4 h,Cy,Kd,hn,oG];exact B5e l _
def B8W{k:KV}{s:S8}{v w1 C:AV}(A:∀u H,Bk H Bl 1 u 32 (Lw (Y0 s.l 8))->k u H=x):
 ∀(f i:Nat)(u:AV)(H:Hp),i<=8->8-i<f->Bk H Bl 1 u (4*i) (Lw (Y0 s.l i))->v=.list 8 (Eg s.l)->Wf H->Wj L (rt L n) K k f v w1 C u (I i) H=x:=by
 intro f
 induction f with
 |zero=>intro i v H _ h;omega
 |succ f ih=>
  intro i u H J F j hv p;rw[tG];unfold Wl Km A3;rw[D8,Ff];by_cases h:i<8
  ·rw[Dq (by simp;omega)];have q:Rd H v 8 (Eg s.l):=by subst hv;exact qW (by rw[HX];rfl)
   have w:(Eg s.l).getD i .dk=W (s.l.getD i 0):=MD h;have ia:=λK=>Qg (t:=AI) q rfl (z:=i) i rfl h (K:=K);have B:=λK=>mZ (t:=Am) q rfl (k:=i) h (K:=K);simp only[Pc,ia,B,w,JL (z:=24) (k:=24) rfl (by decide),JL (z:=16) (k:=16) rfl (by decide),JL (z:=8) (k:=8) rfl (by decide),D!,C31,Tf];generalize hc:[UInt8.ofNat (s.l.getD i 0>>>24).toNat,UInt8.ofNat (s.l.getD i 0>>>16).toNat,UInt8.ofNat (s.l.getD i 0>>>8).toNat,UInt8.ofNat (s.l.getD i 0).toNat]=c;have a:c.length=4:=by rw[<-hc];rfl
   have d:c=wb (s.l.getD i 0):=by rw[<-hc];unfold wb;simp only[BitVec.toNat_ushiftRight,Nat.shiftRight_eq_div_pow]
   have g:Bk ((As H,.cells false Bl (Lw c))::H) Bl 1 u (4*i) (Lw (Y0 s.l i)):=j.lat p (Lat.cons H _ (λ_=>False)) (λ_ _ h=>h);have b:=Ob (H:=H) (e:=Bl) (n:=4) (cs:=Lw c) (by rw[Qo,a]);obtain⟨M,r,h1,h2,D,y⟩:=apt (ie:=AW) (i2:=AU) g (λK=>R4 (K:=K) b) (by rw[Qo,a]) (A6h _) (by decide) rfl rfl (by show(4*i+4)*1<=_;omega) (by omega);rw[h1,Tf,CY,CQ (by omega) (by omega),RR];refine ih (i+1) _ r (by omega) (by omega) ?_ hv (y.wf (AG p));rw[jS,d]at h2;exact h2
  ·rw[CF (by simp;omega)];have:i=8:=by omega
   subst this;exact A _ _ j
def A67(s:Ha):∃m,(ext s).length=64*m/\64*m<=s.length+73:=by
 refine⟨(ext s).length/64,?_,?_⟩
 ·have:(ext s).length=s.length+1+fW s.length+8:=by simp[ext,pre];omega
  unfold fW at this;omega
 ·have:(ext s).length=s.length+1+fW s.length+8:=by simp[ext,pre];omega
  unfold fW at this;omega
def A9v(r:s.length<100000000000)(w:s.length+200<L):CS (rt L (n+3)) Zb [S s] (S (sha s)):=by
 intro K p;rw[xY];unfold YK A3;simp only[BE];obtain⟨m,hm,q⟩:=A67 s;have i:∀K:KV,FU Cq 1 Am 8 [(0,1,(AV.v (.int .u32 1779033703))),(1,1,(AV.v (.int .u32 3144134277))),(2,1,(AV.v (.int .u32 1013904242))),(3,1,(AV.v (.int .u32 2773480762))),(4,1,(AV.v (.int .u32 1359893119))),(5,1,(AV.v (.int .u32 2600822924))),(6,1,(AV.v (.int .u32 528734635))),(7,1,(AV.v (.int .u32 1541459225)))] [] K=K (.sl 1 0 0 8) [(0,.cells false Cq (Eg iv.l))]:=λK=>C30 (H:=[]) (a:=1779033703) (b:=3144134277) (c:=1013904242) (d:=2773480762) (e:=1359893119) (f:=2600822924) (g:=528734635) (h:=1541459225) K;rw[i,AP (A3C (n:=n+1) s r (by omega)) fx1];have k:m≠0:=λh=>by subst h;simp[ext]at hm
 refine B8V (n:=n) (m:=m) hm (by omega) (by omega) k ?_ L 0 _ (by omega) (by omega) ((Ob (H:=[]) rfl).rd (by decide)) (λh=>absurd rfl h);intro j;refine B8W (n:=n+2) (s:=fD (ext s) m) ?_ L 0 _ _ (by omega) (by omega) (.inl ⟨rfl,rfl,rfl⟩) rfl (AG FH);intro u H t;rw[Z! t];have e:Y0 (fD (ext s) m).l 8=sha s:=by
  unfold sha;have:(ext s).length/64=m:=by omega
  rw[this]
 rw[e];exact p _ _ (λb=>⟨false,CC⟩)
end
section
variable{w:BitVec 32}{H:Hp}{ks:Hb}{k r:Nat}
def U(n:Nat):AV:=.v (.int .u64 (n:Int))
def B41{x:BitVec 32}(g:1<=k)(h:k<32){L n:Nat}{K:KV}:(rt L (n+1)).call Ho [W x,I (-(k:Int))] H K=K (W (KY x k)) H:=by
 rw[SE];unfold JC LR;have a:∀K:K2,(Hg Ab CE (I (-(k:Int))) λv1=>Ar CE .and v1 (AV.v (.int .u64 31)) λf=>K f)=K (U (32-k)):=by
  intro K;have:k=1\/k=2\/k=3\/k=4\/k=5\/k=6\/k=7\/k=8\/k=9\/k=10\/k=11\/k=12\/k=13\/k=14\/k=15\/k=16\/k=17\/k=18\/k=19\/k=20\/k=21\/k=22\/k=23\/k=24\/k=25\/k=26\/k=27\/k=28\/k=29\/k=30\/k=31:=by omega
  rcases this with rfl|rfl|rfl|rfl|rfl|rfl|rfl|rfl|rfl|rfl|rfl|rfl|rfl|rfl|rfl|rfl|rfl|rfl|rfl|rfl|rfl|rfl|rfl|rfl|rfl|rfl|rfl|rfl|rfl|rfl|rfl<;>rfl
 rw[a];have b:∀K:K2,Ar CE .sub (AV.v (.int .u64 32)) (U (32-k)) K=K (U k):=by
  intro K;have e:Ar CE .sub (AV.v (.int .u64 32)) (U (32-k)) K=MM .u64 ((32:Int)-((32-k:Nat):Int)) λz=>K (.v (.int .u64 z)):=rfl;rw[e,HJ];have:(32:Int)-((32-k:Nat):Int)=(k:Int):=by omega
  rw[this,Yh rfl];have:(k:Int)%(2^IntKind.u64.bits:Nat)=(k:Int):=Int.emod_eq_of_lt (by omega) (by show(k:Int)<(18446744073709551616:Int);omega);rw[this];rfl
 have c:∀K:K2,Ar Am .shl (W x) (U (32-k)) K=K (W (x<<<(32-k))):=λK=>LO rfl (by omega);have d:∀K:K2,Ar Am .shr (W x) (U k) K=K (W (x>>>k)):=λK=>JL rfl (by omega);rw[c,b,d,jN];have:x<<<(32-k)|||x>>>k=KY x k:=by unfold KY;exact BitVec.or_comm _ _
 rw[this]
def B92{L n:Nat}{x:BitVec 32}(a:1<=k)(h:k<32):PS (rt L (n+1)) Ho [W x,I (-(k:Int))] (W (KY x k)):=by
 refine CS.ps (λK c=>?_) (λH=>C3J);rw[B41 a h];exact c _ _ (λb=>⟨false,fxq⟩)
def YS(ks:Hb):Is:=ks.map λk:Nat=>.v (.int .i64 (k:Int))
def A7y{l:Hb}(h:k<l.length):(YS l).getD k .dk=I (l[k]:Nat):=by
 simp[YS,UW,h]
def Tx(x:BitVec 32)(ks:Hb):BitVec 32:=ks.foldl (λa k=>a^^^KY x k) 0
def A7L(a:k<32){K:K2}:MC .neg (I k) K=K (I (-(k:Int))):=by
 have e:MC .neg (I k) K=MM .i64 (0-(k:Int)) λz=>K (.v (.int .i64 z)):=rfl;rw[e,HJ,Int.zero_sub,CQ (by omega) (by omega)]
variable{L n:Nat}{K:KV}{x:Af}
def B0C{k:KV}(b:∀k∈ks,1<=k/\k<32)(j:ks.length<32)(c:k (W (Tx w ks)) H=x):
 ∀(f i:Nat),i<=ks.length->ks.length-i<f->QW L (rt L (n+1)) K k f (W w) (W (Tx w (ks.take i))) (.list ks.length (YS ks)) (I ks.length) (I i) H=x:=by
 intro f
 induction f with
 |zero=>intro i _ h;omega
 |succ f ih=>
  intro i g d;rw[jP];unfold QX IA A3;rw[D8,Ff];by_cases h:i<ks.length
  ·rw[Dq (by simp;omega)];have a:=b ks[i] (Qk h);rw[eZ rfl (by simp[YS]) (by omega) (by omega),mG,Ny rfl,A7y h,A7L a.2,B92 a.1 a.2,VI,CY,CQ (by omega) (by omega),RR];have e:Tx w (ks.take (i+1))=Tx w (ks.take i)^^^KY w ks[i]:=by
    unfold Tx;rw[oH h,List.foldl_append];rfl
   rw[<-e];exact ih (i+1) (by omega) (by omega)
  ·rw[CF (by simp;omega)];have:i=ks.length:=by omega
   subst this;rw[wQ];exact c
def B3S(c:∀k∈ks,1<=k/\k<32)(d:ks.length<32)(f:32<L):CS (rt L (n+2)) XA0 [W w,.list ks.length (YS ks)] (W (Tx w ks)):=by
 intro K a;rw[mB];unfold SJ A3;simp only[BE];have e:∀K,Bh Bs (.list ks.length (YS ks)) K=K (I ks.length):=λK=>id rfl;rw[e];refine B0C c d ?_ L 0 (by omega) (by omega);exact a _ _ (λb=>⟨false,CC⟩)
def C2U:Tx w [7,18]^^^w>>>3=sg0 w:=by simp[Tx,sg0]
def C2T:Tx w [17,19]^^^w>>>10=sg1 w:=by simp[Tx,sg1]
def pad(l:List (BitVec 32))(n:Nat):List (BitVec 32):=l++List.replicate (n-l.length) 0
def A5F{l:List (BitVec 32)}(h:l.length<=n):(pad l n).length=n:=by simp[pad];omega
def A5E{l:List (BitVec 32)}(w:BitVec 32)(a:l.length=k)(h:k<n):(Eg (pad l n)).set k (W w)=Eg (pad (l++[w]) n):=by
 subst a;have e:n-l.length=(n-(l.length+1))+1:=by omega
 simp[pad,Eg,e,l1c,List.set_append_right]
def B0p{l:List (BitVec 32)}(h:k<l.length):(Eg (pad l n)).getD k .dk=W (l.getD k 0):=by
 simp[pad,Eg,UW,h,List.getElem?_append]
def B0q{l:List (BitVec 32)}(h:l.length=n):pad l n=l:=by simp[pad,h]
def B6o(a b:Nat)(K:K2):Zh 1 Ab 2 [(0,1,I a),(1,1,I b)] K=K (.list 2 (YS [a,b])):=id rfl
def B6n(a b c:Nat)(K:K2):Zh 1 Ab 3 [(0,1,I a),(1,1,I b),(2,1,I c)] K=K (.list 3 (YS [a,b,c])):=id rfl
def R?{K:K2}(b:∀k∈ks,1<=k/\k<32)(c:ks.length<32)(a:32<L):Ap (rt L (n+2)) XA0 [W w,.list ks.length (YS ks)] H K=K (W (Tx w ks)):=
 AP (B3S b c a) (Ao CC (Ao OI AH))
def B90{k:AV->AV->KV}{l:Ha}{w:AV}(p:l.length=64)(g:∀q H,Ai H r=some (.cells q Dj (Eg (pad (w16 l 16) 64)))->Wf H->k (X0 l) (.ptr r 0 0) (I 16) H=x):
 ∀(f i:Nat)(q:Bool)(H:Hp),i<=16->16-i<f->Ai H r=some (.cells q Dj (Eg (pad (w16 l i) 64)))->Wf H->Nz L (rt L n) K k f (X0 l) (.ptr r 0 0) w (I i) H=x:=by
 intro f
 induction f with
 |zero=>intro i q H _ h;omega
 |succ f ih=>
  intro i q H m j hr a;rw[Zi];unfold N8 Km A3;rw[D8,Ff];by_cases h:i<16
  ·rw[Dq (by simp;omega)];simp(disch:=omega) only[OZ,CY,CQ,Pc,B1H,Ny (t:=AW) rfl,D?,LO (z:=24) (k:=24) rfl (by decide),LO (z:=16) (k:=16) rfl (by decide),LO (z:=8) (k:=8) rfl (by decide),jN];have b:((4:Int)*(i:Int)).toNat=4*i:=by omega
   have c:((4:Int)*(i:Int)+1).toNat=4*i+1:=by omega
   have d:((4:Int)*(i:Int)+2).toNat=4*i+2:=by omega
   have e:((4:Int)*(i:Int)+3).toNat=4*i+3:=by omega
   rw[b,c,d,e,A0F,ER i rfl rfl (by omega),Pc,D6 hr (by rw[HX,A5F (by rw[gD];omega)];omega) rfl rfl rfl,Tf,A5E _ (gD l i) (by omega),<-A0V,RR];exact ih (i+1) q _ (by omega) (by omega) (AC hr) (Bj a)
  ·rw[CF (by simp;omega)];have:i=16:=by omega
   subst this;exact g _ _ hr a
def B91{k:KV}{l:Ha}{w0 w1:AV}(B:100<L)(u:∀q H,Ai H r=some (.cells q Dj (Eg (NQ l 48)))->Wf H->k (.ptr r 0 0) H=x):
 ∀(f i:Nat)(q:Bool)(H:Hp),i<=48->48-i<f->Ai H r=some (.cells q Dj (Eg (pad (NQ l i) 64)))->Wf H->N0 L (rt L (n+2)) K k f w0 (.ptr r 0 0) (I ((16+i:Nat):Int)) w1 H=x:=by
 intro f
 induction f with
 |zero=>intro i q H _ h;omega
 |succ f ih=>
  intro i q H D C hr d;rw[Zj];unfold N9 Km A3;rw[D8,Ff];have c:=RS l i;by_cases h:i<48
  ·rw[Dq (by simp;omega)];have F:(Eg (pad (NQ l i) 64)).length=64:=by rw[HX,A5F (by rw[c];omega)]
   have e:((16+i:Nat):Int)-15=((i+1:Nat):Int):=by omega
   have g:((16+i:Nat):Int)-2=((i+14:Nat):Int):=by omega
   have j:((16+i:Nat):Int)-16=((i:Nat):Int):=by omega
   have m:((16+i:Nat):Int)-7=((i+9:Nat):Int):=by omega
   have ia:=λ(k:Nat)a K=>ER (t:=Ct) (s:=r) (z:=(k:Int)) k (K:=K) rfl rfl a;have y:=λk a K=>AF (t:=Am) (p:=k) (K:=K) rfl hr a;have b:=λk a=>B0p (n:=64) (l:=NQ l i) (k:=k) a;simp(disch:=omega) only[J6,CQ,Pc,e,g,j,m,ia,y,b];have i1:∀K,Zh 1 Ab 2 [(0,1,.v (.int .i64 7)),(1,1,.v (.int .i64 18))] K=K (.list 2 (YS [7,18])):=λK=>B6o 7 18 K;have i2:∀K,Zh 1 Ab 2 [(0,1,.v (.int .i64 17)),(1,1,.v (.int .i64 19))] K=K (.list 2 (YS [17,19])):=λK=>B6o 17 19 K;have m1:∀w K,Ap (rt L (n+2)) XA0 [W w,.list 2 (YS [7,18])] H K=K (W (Tx w [7,18])):=λw K=>R? (ks:=[7,18]) (by decide) (by decide) (by omega);have A:∀w K,Ap (rt L (n+2)) XA0 [W w,.list 2 (YS [17,19])] H K=K (W (Tx w [17,19])):=λw K=>R? (ks:=[17,19]) (by decide) (by decide) (by omega);simp(disch:=omega) only[Pc,b,i1,i2,m1,A,JL (z:=3) (k:=3) rfl (by decide),JL (z:=10) (k:=10) rfl (by decide),VI,Qh,C2U,C2T];rw[D6 hr (by omega) rfl rfl rfl,Tf,A5E _ c (by omega),CY,CQ (by omega) (by omega),RR];exact ih (i+1) q _ (by omega) (by omega) (AC hr) (Bj d)
  ·rw[CF (by simp;omega)];have:i=48:=by omega
   subst this;rw[B0q (by rw[RS])]at hr;exact u _ _ hr d
def arr(l:List (BitVec 32)):AV:=.agg (Eg l)
def A3B{l:Ha}(a:l.length=64)(e:100<L):CS (rt L (n+3)) OV [X0 l] (arr (NQ l 48)):=by
 intro K d;rw[dB];unfold OE A3;simp only[BE];rw[B1 (cs:=Eg (pad (w16 l 0) 64)) rfl];refine B90 a ?_ L 0 true _ (by omega) (by omega) (Ax (by simp)) (AG FH);intro q H hr c;refine B91 (n:=n) (l:=l) e ?_ L 0 q H (by omega) (by omega) hr c;intro q H hr c;have a:(Eg (NQ l 48)).length=64:=by rw[HX,RS]
 rw[Bu rfl a.symm hr,BX hr rfl a.symm (Zp _),Bu rfl a.symm (AC hr)];exact d _ _ (λb=>⟨false,LF (K1 (λx:BitVec 32=>Value.int .u32 (x.toNat:Int)) _)⟩)
end
section
variable{q q0:Bool}{H H' H0:Hp}{D e0 r r8 s0:Nat}{P:Nat->Prop}{y:Row}
def Xn{b:Bool}{sz s o n:Nat}{e:TypeId}{cs cs':Is}{q':Bool}(g:Ai H s=some (.cells q e cs))(hn:o+n*sz<=cs.length)(h:R9 b D ((cs.drop o).take (n*sz)) cs' H q'):Fx b (D+1) (.sl sz s o n) (.list n cs') H true:=λK=>by
 have d:HV b H (D+1) (.sl sz s o n) K=IR H s λx=>Ki x λ_ cs=>EO (Nat.mul n sz) (Dn o cs) λc=>II (HV b H D) c λ_ a=>K true (.list n a):=rfl;rw[d,Bp g];have f:(Ki (.cells q e cs) λ_ cs=>EO (Nat.mul n sz) (Dn o cs) λc=>II (HV b H D) c λ_ a=>K true (.list n a))=EO (n*sz) (Dn o cs) λc=>II (HV b H D) c λ_ a=>K true (.list n a):=rfl;rw[f,CA,KS _ _ _ (by simp;omega),h]
def B1w{r o n e:Nat}{cs:Is}{K:Nat->Is->Af}(a:Ai H r=some (.cells q e cs))(hn:o+n<=cs.length):Tz H (.sl 1 r o n) K=K n ((cs.drop o).take n):=by
 have:Tz H (.sl 1 r o n) K=IR H r λx=>Ki x λ_ cs=>EO (Nat.mul n 1) (Dn o cs) λc=>K n c:=rfl;rw[this,Bp a];show EO (Nat.mul n 1) (Dn o cs) (λc=>K n c)=_;have e:Nat.mul n 1=n:=qZ n;rw[e,CA,KS _ _ _ (by simp;omega)]
def A4s{n r e:Nat}(a b:Nat){cs:Is}{d c:Option AV}{K:K2}(g:∀K:Nat->Af,XX d 0 K=K a)(f:∀K:Nat->Af,XX c n K=K b)(j:Ai H r=some (.cells q e cs))(hn:n<=cs.length)(h1:a<=b)(h2:b<=n):yN n 1 (.ptr r 0 0) d c H K=K (.sl 1 r a (b-a)):=by
 have i:yN n 1 (.ptr r 0 0) d c H K=IR H r λy=>Ki y λ_ cs=>HK cs 0 λcl=>ck (Nat.ble (Nat.add 0 (Nat.mul n 1)) cl) (XX d 0 λl=>XX c n λh=>ck (Nat.ble l h&&Nat.ble h n) (fN (Nat.add 0 (Nat.mul l 1)) λk=>fN (Nat.sub h l) λm=>K (.sl 1 r k m))):=rfl;rw[i,Bp j];show HK cs 0 _=_;rw[Cy,g,f,Ee,Ee];have f1:Nat.ble (Nat.add 0 (Nat.mul n 1)) (0+cs.length)=true:=by rw[kC];show 0+n*1<=_;omega
 have f2:(Nat.ble a b&&Nat.ble b n)=true:=by simp only[KF,kC];omega
 have f3:Nat.add 0 (Nat.mul a 1)=a:=by show 0+a*1=a;omega
 rw[f1,f2,f3];rfl
def C0E{r o n m e:Nat}{cs ys:Is}{src:AV}{K:KV}(c:∀K:Nat->Is->Af,Tz H src K=K m ys)(d:ys.length=m)(hm:m<=n)(hn:0<n)(h1:ys.all AV.one=true)(a:T6 1 src=true)(b:Ai H r=some (.cells q e cs))(f:o+m<=cs.length):A2l 1 (.sl 1 r o n) src H K=K (I m) (upd H r (.cells q e (splice cs o ys))):=by
 unfold A2l;rw[c,Cy];have f1:(Nat.beq (0+ys.length) (Nat.mul m 1)&&(Nat.beq 1 1&&(Nat.blt 0 n&&(Nat.ble m n&&(NT ys&&T6 1 src)))))=true:=by
  have:Nat.mul m 1=m:=qZ m;rw[FP,h1,a,d,this,Kd,oG];simp only[l1b,l1g,oG,KF,Xi,kC];omega
 simp only[f1];show IR H r _=_;rw[Bp b];show Ey o ys cs _=_;rw[Iu _ _ _ _ (by omega),Dg];rfl
def Lat.upd_new(k:Lat H H' P)(hr:As H<=r):Lat H (Go.Abs.upd H' r y) P:=
 ⟨λw=>Bj (k.wf w),by rw[B4];exact k.nx,λw s x a hn=>by rw[Ag (by have:=w.lt a;omega)];exact k.keep w s x a hn⟩
def Lat.new(k:Lat H H' P):Lat H ((As H',y)::H') P:=k.trans (Lat.cons H' y P) (λ_ _ h=>h) (λ_ _ h=>h)
def Lat.upd_old(k:Lat H H' P)(hr:P r):Lat H (Go.Abs.upd H' r y) P:=k.trans (Lat.upd H' r y hr) (λ_ _ h=>h) (λ_ _ h=>h)
def Chk(H:Hp)(v:AV)(l:Ha):Prop:=v=X0 l\/∃r o q e cs,v=.sl 1 r o l.length/\Ai H r=some (.cells q e cs)/\o+l.length<=cs.length/\(cs.drop o).take l.length=Lw l
def B59{b:Bool}(l:Ha):R9 b D (Lw l) (Lw l) H false:=K1 (λb:UInt8=>Value.int .u8 (b.toNat:Int)) l
def Chk.fx{v:AV}{l:Ha}(h:Chk H v l):∃q,Fx true depth v (X0 l) H q:=by
 rcases h with rfl|⟨r,o,q,e,cs,rfl,h1,h2,a⟩
 ·exact⟨_,OI⟩
 ·exact⟨_,Xn h1 (by omega) (by rw[qZ,a];exact B59 l)⟩
variable{L n:Nat}{K:KV}{x:Af}
def C5f(s:S8)(k w:BitVec 32):(Eg [s.h+Tx s.e [6,11,25]+((s.e&&&s.f)^^^(~~~s.e&&&s.g))+k+w+(Tx s.a [2,13,22]+((s.a&&&s.b)^^^(s.a&&&s.c)^^^(s.b&&&s.c))),s.a,s.b,s.c,s.d+(s.h+Tx s.e [6,11,25]+((s.e&&&s.f)^^^(~~~s.e&&&s.g))+k+w),s.e,s.f,s.g])=Eg (rnd s k w).l:=by
 have i:Tx s.e [6,11,25]=KY s.e 6^^^KY s.e 11^^^KY s.e 25:=by simp[Tx]
 have j:Tx s.a [2,13,22]=KY s.a 2^^^KY s.a 13^^^KY s.a 22:=by simp[Tx]
 rw[i,j,A9B]
def C1d{k:AV->AV->AV->AV->KV}{ws:List (BitVec 32)}{s0:S8}{r2 r8:Nat}{v0 w5:AV}(aa:ws.length=64)(hL:100<L)(h2:As H0<=r2)(R:As H0<=r8)(F:r2≠r8)(hx:∀A u H,Ai H r8=some (.cells A u (Eg (oU ws s0 64).l))->Lat H0 H (λ_=>False)->Wf H->k v0 (.ptr r2 0 0) (.ptr r8 0 0) (arr kk) (I 64) H=x):
 ∀(f i:Nat)(q2:Bool)(Q:Nat)(A:Bool)(u:Nat)(H:Hp),i<=64->64-i<f->Ai H r2=some (.cells q2 Q (Eg ws))->Ai H r8=some (.cells A u (Eg (oU ws s0 i).l))->Lat H0 H (λ_=>False)->Wf H->
  KZ L (rt L (n+2)) K k f v0 (.ptr r2 0 0) (.ptr r8 0 0) (arr kk) (I i) w5 H=x:=by
 intro f
 induction f with
 |zero=>intro i _ _ _ _ H _ h;omega
 |succ f ih=>
  intro i q2 Q A u H hi hf M j J hw;rw[Vp];unfold Lb Km A3;rw[D8,Ff];by_cases h:i<64
  ·rw[Dq (by simp;omega)];generalize hs:oU ws s0 i=s at j;have g0:(Eg s.l).getD 0 .dk=W s.a:=id rfl;have g1:(Eg s.l).getD 1 .dk=W s.b:=id rfl;have g2:(Eg s.l).getD 2 .dk=W s.c:=id rfl;have g4:(Eg s.l).getD 4 .dk=W s.e:=id rfl;have g5:(Eg s.l).getD 5 .dk=W s.f:=id rfl;have g6:(Eg s.l).getD 6 .dk=W s.g:=id rfl;have g7:(Eg s.l).getD 7 .dk=W s.h:=id rfl;have gw:(Eg ws).getD i .dk=W (ws.getD i 0):=MD (by omega);have i0:=λK=>ER (t:=AO) (s:=r8) (z:=0) 0 (K:=K) rfl rfl (by decide);have i1:=λK=>ER (t:=AO) (s:=r8) (z:=1) 1 (K:=K) rfl rfl (by decide);have i2:=λK=>ER (t:=AO) (s:=r8) (z:=2) 2 (K:=K) rfl rfl (by decide);have i4:=λK=>ER (t:=AO) (s:=r8) (z:=4) 4 (K:=K) rfl rfl (by decide);have i5:=λK=>ER (t:=AO) (s:=r8) (z:=5) 5 (K:=K) rfl rfl (by decide);have i6:=λK=>ER (t:=AO) (s:=r8) (z:=6) 6 (K:=K) rfl rfl (by decide);have i7:=λK=>ER (t:=AO) (s:=r8) (z:=7) 7 (K:=K) rfl rfl (by decide);have iw:=λK=>ER (t:=Ct) (s:=r2) (z:=(i:Int)) i (K:=K) rfl rfl h;have l8:(Eg s.l).length=8:=rfl;have lw:(Eg ws).length=64:=by rw[HX,aa]
   have j1:∀K,Zh 1 Ab 3 [(0,1,.v (.int .i64 6)),(1,1,.v (.int .i64 11)),(2,1,.v (.int .i64 25))] K=K (.list 3 (YS [6,11,25])):=λK=>B6n 6 11 25 K;have j2:∀K,Zh 1 Ab 3 [(0,1,.v (.int .i64 2)),(1,1,.v (.int .i64 13)),(2,1,.v (.int .i64 22))] K=K (.list 3 (YS [2,13,22])):=λK=>B6n 2 13 22 K;have m1:∀w K,Ap (rt L (n+2)) XA0 [W w,.list 3 (YS [6,11,25])] H K=K (W (Tx w [6,11,25])):=λw K=>R? (ks:=[6,11,25]) (by decide) (by decide) (by omega);have m2:∀w K,Ap (rt L (n+2)) XA0 [W w,.list 3 (YS [2,13,22])] H K=K (W (Tx w [2,13,22])):=λw K=>R? (ks:=[2,13,22]) (by decide) (by decide) (by omega);have la:=λ(k:Nat)V K=>AF (t:=Am) (p:=k) (K:=K) rfl j V;have O:=λ(k:Nat)V K=>AF (t:=Am) (p:=k) (K:=K) rfl M V;have ki:∀K,jK Ct Am (arr kk) (I i) K=K (W (kk.getD i 0)):=λK=>by
    unfold arr;rw[A6c i rfl rfl rfl h (by rw[HX,A4a];decide),B6r h]
   simp(disch:=omega) only[Pc,Tf,i0,i1,i2,i4,i5,i6,i7,iw,la,O,g0,g1,g2,g4,g5,g6,g7,gw,ki,j1,j2,m1,m2,VI,D_,Qh,C_];rw[A4s 1 8 (λK=>rfl) (λK=>rfl) j (by omega) (by decide) (by decide),Pc,A4s 0 7 (λK=>rfl) (λK=>rfl) j (by omega) (by decide) (by decide),Pc];rw[C0E (λK=>B1w j (by omega)) rfl (by decide) (by decide) rfl rfl j (by rw[l8];decide),Tf];clear la O j1 j2 m1 m2;have m:=AC (q:=A) (e:=u) (cs:=Eg [s.a,s.a,s.b,s.c,s.d,s.e,s.f,s.g]) j;have C:Ai (upd H r8 (.cells A u (Eg [s.a,s.a,s.b,s.c,s.d,s.e,s.f,s.g]))) r2=some (.cells q2 Q (Eg ws)):=by rw[Ag F];exact M
   have N:=Bj (r:=r8) (y:=.cells A u (Eg [s.a,s.a,s.b,s.c,s.d,s.e,s.f,s.g])) hw;have B:=J.upd_new (y:=.cells A u (Eg [s.a,s.a,s.b,s.c,s.d,s.e,s.f,s.g])) R;have Y:splice (Eg s.l) 1 (((Eg s.l).drop 0).take (7-0))=Eg [s.a,s.a,s.b,s.c,s.d,s.e,s.f,s.g]:=id rfl;rw[Y];generalize upd H r8 (.cells A u (Eg [s.a,s.a,s.b,s.c,s.d,s.e,s.f,s.g]))=H3 at m C N B;rw[AF rfl m (by show 4<8;decide)];have g3:(Eg [s.a,s.a,s.b,s.c,s.d,s.e,s.f,s.g]).getD 4 .dk=W s.d:=id rfl;rw[g3,Qh,D6 m (by show 0<8;decide) rfl rfl rfl,D6 (AC m) (by rw[List.length_set];show 4<8;decide) rfl rfl rfl,CY,CQ (by omega) (by omega),RR];have X:oU ws s0 (i+1)=rnd s (kk.getD i 0) (ws.getD i 0):=by rw[<-hs];rfl
   have Z:∀a d:BitVec 32,((Eg [s.a,s.a,s.b,s.c,s.d,s.e,s.f,s.g]).set 0 (W a)).set 4 (W d)=Eg [a,s.a,s.b,s.c,d,s.e,s.f,s.g]:=λ_ _=>id rfl;refine ih (i+1) q2 Q A u _ (by omega) (by omega) ?_ ?_ ((B.upd_new R).upd_new R) (Bj (Bj N))
   ·rw[Ag F,Ag F];exact C
   ·rw[X,<-C5f,<-Z];exact AC (AC m)
  ·rw[CF (by simp;omega)];have:i=64:=by omega
   subst this;exact hx _ _ _ j J hw
def C1e{k:Ru}{a b:List (BitVec 32)}{Q R V:AV}(C:a.length=8)(hb:b.length=8)(j:s0≠r8)(J:∀H,Ai H s0=some (.cells q0 e0 (Eg (jW a b 8)))->Lat H0 H (λt=>t=s0)->Wf H->k H=x):
 ∀(f i:Nat)(v:Bool)(g:Nat)(H:Hp),i<=8->8-i<f->Ai H s0=some (.cells q0 e0 (Eg (jW a b i++a.drop i)))->Ai H r8=some (.cells v g (Eg b))->Lat H0 H (λt=>t=s0)->Wf H->
  La L (rt L n) K k f (.ptr s0 0 0) Q (.ptr r8 0 0) R V (I i) H=x:=by
 intro f
 induction f with
 |zero=>intro i _ _ H _ h;omega
 |succ f ih=>
  intro i v g H Y X c e d w;rw[Vq];unfold Lc Km A3;rw[D8,Ff];by_cases h:i<8
  ·rw[Dq (by simp;omega)];have m:(Eg (jW a b i++a.drop i)).length=8:=by rw[HX,EK,Tl,l0u,C];omega
   have F:(Eg b).length=8:=by rw[HX,hb]
   have A:(Eg (jW a b i++a.drop i)).getD i .dk=W (a.getD i 0):=by
    rw[MD (by rw[HX]at m;omega)]
    congr 1
    rw[UW,UW,l0o (by rw[Tl];omega),Tl,Nat.sub_self,qH,Nat.add_zero]
   have B:(Eg b).getD i .dk=W (b.getD i 0):=MD (by omega);have ia:=λK=>ER (t:=AO) (s:=s0) (z:=(i:Int)) i (K:=K) rfl rfl h;have M:=λK=>ER (t:=AO) (s:=r8) (z:=(i:Int)) i (K:=K) rfl rfl h;have N:=λK=>AF (t:=Am) (p:=i) (K:=K) rfl c (by omega);have O:=λK=>AF (t:=Am) (p:=i) (K:=K) rfl e (by omega);simp only[Iz,Pc,ia,M,N,O,A,B,Qh];rw[D6 c (by omega) rfl rfl rfl,Tf,CY,CQ (by omega) (by omega),RR];have u:(Eg (jW a b i++a.drop i)).set i (W (a.getD i 0+b.getD i 0))=Eg (jW a b (i+1)++a.drop (i+1)):=by
    rw[G!,fQ];have:a.drop i=a.getD i 0::a.drop (i+1):=by rw[uZ (by omega),UW,KL (by omega)];rfl
    rw[this];unfold Eg;rw[Z6,Z6,List.set_append_right _ _ (by rw[UH,Tl];omega),UH,Tl,Nat.sub_self];rfl
   refine ih (i+1) v g _ (by omega) (by omega) ?_ ?_ (d.upd_old rfl) (Bj w)
   ·rw[<-u];exact AC c
   ·rw[Ag (Ne.symm j)];exact e
  ·rw[CF (by simp;omega)];have:i=8:=by omega
   subst this;rw[List.drop_of_length_le (by omega),V0]at c;exact J _ c d w
def C4f{s:S8}{l:Ha}{c:AV}(hl:l.length=64)(Y:100<L)(O:Wf H)(hr:Ai H s0=some (.cells q0 e0 (Eg s.l)))(hc:Chk H c l)(hx:∀H',Ai H' s0=some (.cells q0 e0 (Eg (blk s l).l))->Lat H H' (λt=>t=s0)->Wf H'->K (.tup []) H'=x):(rt L (n+4)).call LJ [.ptr s0 0 0,c] H K=x:=by
 rw[WT];unfold L8 A3;simp only[BE];obtain⟨q,hq⟩:=hc.fx;rw[AP (A3B (n:=n) hl Y) (Ao hq AH)];have h0:=O.lt hr;rw[B1 (cs:=Eg (List.replicate 64 0)) rfl];unfold arr;have v:=Ax (H:=H) (x:=.cells true Dj (Eg (List.replicate 64 0))) (by simp);rw[BX v (by rw[HX,HX,RS];rfl) (by rw[HX];rfl) (Zp _),Iz];have k:=AC (q:=true) (e:=Dj) (cs:=Eg (NQ l 48)) v;have m:Ai (upd ((As H,c_ Dj (Eg (List.replicate 64 0)))::H) (As H) (c_ Dj (Eg (NQ l 48)))) s0=some (.cells q0 e0 (Eg s.l)):=by
  rw[Ag (by omega)];exact A7 h0 hr
 have g:=Bj (r:=As H) (y:=.cells true Dj (Eg (NQ l 48))) (AG (x:=.cells true Dj (Eg (List.replicate 64 0))) O);have i:=((Lat.refl H (λ_=>False)).new (y:=.cells true Dj (Eg (List.replicate 64 0)))).upd_new (r:=As H) (y:=.cells true Dj (Eg (NQ l 48))) (Mh _);generalize upd ((As H,c_ Dj (Eg (List.replicate 64 0)))::H) (As H) (c_ Dj (Eg (NQ l 48)))=f at k m g i;rw[Bu rfl rfl m,B1 (cs:=Eg (List.replicate 8 0)) rfl];have A:=Ax (H:=f) (x:=.cells true BN (Eg (List.replicate 8 0))) (by simp);rw[BX (vs:=Eg s.l) A rfl rfl (Zp _)];have p:=g.lt k;have X:=g.lt m;have B:=AC (q:=true) (e:=BN) (cs:=Eg s.l) A;have F:Ai (upd ((As f,c_ BN (Eg (List.replicate 8 0)))::f) (As f) (c_ BN (Eg s.l))) (As H)=some (c_ Dj (Eg (NQ l 48))):=by
  rw[Ag (by omega)];exact A7 p k
 have J:=Bj (r:=As f) (y:=.cells true BN (Eg s.l)) (AG (x:=.cells true BN (Eg (List.replicate 8 0))) g);have j:=(i.new (y:=.cells true BN (Eg (List.replicate 8 0)))).upd_new (r:=As f) (y:=.cells true BN (Eg s.l)) (by omega);generalize upd ((As f,c_ BN (Eg (List.replicate 8 0)))::f) (As f) (c_ BN (Eg s.l))=V at B F J j;have hg:∀K:K2,AD Ct (AV.iptr gl0) V K=K (arr kk):=λK=>by kernel_rfl
 rw[hg];refine C1d (n:=n+1) (ws:=NQ l 48) (s0:=s) (H0:=H) (by rw[RS]) Y (Mh _) (by omega) (by omega) ?_ L 0 true _ true _ V (by omega) (by omega) F B j J;intro q8 e8 Z N d Q;have C:=d.keep O s0 _ hr (λh=>h);refine C1e (a:=s.l) (b:=(oU (NQ l 48) s 64).l) (H0:=H) rfl rfl (by omega) ?_ L 0 q8 e8 Z (by omega) (by omega) C N ⟨d.wf,d.nx,λw t x ht _=>d.keep w t x ht (λh=>h)⟩ Q;intro H6 M u R;exact hx H6 M u R
end
section
variable{q:Bool}{e r:Nat}{s:S8}
def pM(l:Ha)(n:Nat):Ha:=l++List.replicate (n-l.length) 0
def B0s{l:Ha}{n:Nat}(h:l.length<=n):(pM l n).length=n:=by simp[pM];omega
def B0r{l:Ha}{n k:Nat}(w:UInt8)(a:l.length=k)(h:k<n):(Lw (pM l n)).set k (By w)=Lw (pM (l++[w]) n):=by
 subst a;have e:n-l.length=(n-(l.length+1))+1:=by omega
 simp[pM,Lw,e,l1c,List.set_append_right]
def A7i{l:Ha}{n:Nat}(h:l.length=n):pM l n=l:=by simp[pM,h]
def B2T(w:BitVec 32){j:Nat}(h:j<4):(wb w).take (j+1)=(wb w).take j++[UInt8.ofNat (w>>>(24-8*j)).toNat]:=by
 have:j=0\/j=1\/j=2\/j=3:=by omega
 rcases this with rfl|rfl|rfl|rfl<;>simp[wb,BitVec.toNat_ushiftRight,Nat.shiftRight_eq_div_pow]
def B6Z(w:BitVec 32):(wb w).length=4:=rfl
variable{L n:Nat}{K:KV}{x:Af}
def C0H{k:AV->AV->AV->AV->AV->KV}{w:BitVec 32}{b:Ha}{i r e:Nat}{a c:AV}(u:i<8)(hb:b.length=4*i)(p:∀H,Ai H r=some (.cells q e (Lw (pM (b++wb w) 32)))->k (.ptr r 0 0) (I i) (W w) a c (I 4) H=x):
 ∀(f j:Nat)(H:Hp),j<=4->4-j<f->Ai H r=some (.cells q e (Lw (pM (b++(wb w).take j) 32)))->K9 L (rt L n) K k f (.ptr r 0 0) (I i) (W w) a c (I j) H=x:=by
 intro f
 induction f with
 |zero=>intro j H _ h;omega
 |succ f ih=>
  intro j H v t hr;rw[UN];unfold KB A3;rw[D8,Ff];by_cases h:j<4
  ·rw[Dq (by simp;omega)];have d:(4:Int)*(i:Int)+(j:Int)=((4*i+j:Nat):Int):=by omega
   have g:(24:Int)-8*(j:Int)=((24-8*j:Nat):Int):=by omega
   simp(disch:=omega) only[OZ,CY,J6,CQ,d,g,D!,JL (z:=((24-8*j:Nat):Int)) (k:=24-8*j) rfl (by omega)];have m:(b++(wb w).take j).length=4*i+j:=by rw[EK,hb,l0h,B6Z];omega
   rw[ER (4*i+j) rfl rfl (by omega),D6 hr (by rw[Qo,B0s (by omega)];omega) rfl rfl rfl,B0r _ m (by omega),fQ,<-B2T w h,RR];exact ih (j+1) _ (by omega) (by omega) (AC hr)
  ·rw[CF (by simp;omega)];have:j=4:=by omega
   subst this;exact p _ hr
def C0I{k:KV}{w0 w1 w5:AV}(c:10<L)(a:∀H,Ai H r=some (.cells q e (Lw (Y0 s.l 8)))->k (.ptr r 0 0) H=x):
 ∀(f i:Nat)(w0 w1 w5:AV)(H:Hp),i<=8->8-i<f->Ai H r=some (.cells q e (Lw (pM (Y0 s.l i) 32)))->KA L (rt L n) K k f (.ptr r 0 0) w0 w1 (arr s.l) (I i) w5 H=x:=by
 intro f
 induction f with
 |zero=>intro i _ _ _ H _ h;omega
 |succ f ih=>
  intro i w0 w1 w5 H g d hr;rw[UO];unfold KC A3;rw[D8,Ff];by_cases h:i<8
  ·rw[Dq (by simp;omega)];simp only[BE];unfold arr;rw[A6c i rfl rfl rfl h (by show 8<=8;decide),MD (show i<s.l.length from h)];refine C0H (b:=Y0 s.l i) h (Yz _ _) ?_ L 0 H (by omega) (by omega) (by simpa using hr);intro H hr;rw[CY,CQ (by omega) (by omega),RR];exact ih (i+1) _ _ _ H (by omega) (by omega) hr
  ·rw[CF (by simp;omega)];have:i=8:=by omega
   subst this;rw[A7i (Yz _ _)]at hr;exact a _ hr
def A9x(d:10<L):CS (rt L (n+1)) GN [arr s.l] (S (Y0 s.l 8)):=by
 intro K c;rw[Vx];unfold Lf A3;simp only[BE];unfold arr;rw[DN (Zp _),B1 (cs:=Lw (pM (Y0 s.l 0) 32)) rfl];have a:Ai ((As [(As [],c_ BN (Eg s.l))],c_ VY (Lw (pM (Y0 s.l 0) 32)))::[(As [],c_ BN (Eg s.l))]) (As [])=some (c_ BN (Eg s.l)):=id rfl;rw[Bu rfl rfl a];refine C0I (w0:=.dk) (w1:=.dk) (w5:=.dk) d ?_ L 0 _ _ _ _ (by omega) (by omega) (Ax (by simp));intro H hr;have f:(Lw (Y0 s.l 8)).length=32:=by rw[Qo,Yz]
 rw[A4s 0 32 (λK=>rfl) (λK=>rfl) hr (by omega) (by decide) (by decide),Z! (e:=VY) (.inr ⟨_,_,rfl,hr,by omega⟩)];exact c _ _ (λb=>⟨false,CC⟩)
end
section
variable{q0:Bool}{H:Hp}{e0:Nat}{t:TI}
def A7O{e r o m:Nat}{x y z:Int}(a b c:Nat){K:K2}(f:t.d=.slice e 1)(i:x=a)(j:y=b)(hz:z=c)(h1:a<=b)(h2:b<=c)(p:c<=m):Es t (.sl 1 r o m) (some (I x)) (some (I y)) (some (I z)) K=K (.sl 1 r (o+a) (b-a)):=by
 subst i j hz;have g:Es t (.sl 1 r o m) (some (I a)) (some (I b)) (some (I c)) K=iN (a:Int) λl=>iN (b:Int) λh=>iN (c:Int) λx=>ck (Nat.ble l h&&(Nat.ble h x&&Nat.ble x m)) (fN (Nat.add o (Nat.mul l 1)) λk=>fN (Nat.sub h l) λn=>K (.sl 1 r k n)):=by
  obtain⟨_,_,d,z⟩:=t;simp only at f;subst f;rfl
 rw[g,Kk,Kk,Kk];have f1:(Nat.ble a b&&(Nat.ble b c&&Nat.ble c m))=true:=by simp only[KF,kC];omega
 have f2:Nat.add o (Nat.mul a 1)=o+a:=by show o+a*1=_;omega
 rw[f1,f2,Ee,Ee];rfl
def A4q{e r o m:Nat}{x:Int}(a:Nat){K:K2}(b:t.d=.slice e 1)(f:x=a)(h1:a<=m):Es t (.sl 1 r o m) (some (I x)) none none K=K (.sl 1 r (o+a) (m-a)):=by
 subst f;have c:Es t (.sl 1 r o m) (some (I a)) none none K=iN (a:Int) λl=>fN m λh=>fN m λx=>ck (Nat.ble l h&&(Nat.ble h x&&Nat.ble x m)) (fN (Nat.add o (Nat.mul l 1)) λg=>fN (Nat.sub h l) λn=>K (.sl 1 r g n)):=by
  obtain⟨_,_,d,z⟩:=t;simp only at b;subst b;rfl
 rw[c,Kk,Ee,Ee];have f1:(Nat.ble a m&&(Nat.ble m m&&Nat.ble m m))=true:=by simp only[KF,kC];omega
 have f2:Nat.add o (Nat.mul a 1)=o+a:=by show o+a*1=_;omega
 rw[f1,f2,Ee,Ee];rfl
def B1z{x y:Int}(h:x<=y){K:K2}:eMM true (I x) (I y) K=K (I x):=by
 have:eMM true (I x) (I y) K=ck (decide (IntKind.i64=IntKind.i64)) (@Bool.rec (λ_=>Af) (K (I y)) (K (I x)) (qJ x y)):=rfl;rw[this,LD,HR h];rfl
def B5D{ty sz r o m:Nat}{K:KV}:FN ty (.sl sz r o m) H K=K (.ptr (As H) 0 0) ((As H,c_ ty [.sl sz r o m])::H):=by
 unfold FN;rw[CP,FP,Ca];rfl
def Eh{b:Bool}{K:K2}:MC .not (Bo b) K=K (Bo (!b)):=by cases b<;>rfl
variable{L n:Nat}{K:KV}{x:Af}
def lpS(a c2 c3 c4 c5 c6 c34 c35 c36:AV)(p:Option (Option Code)):Row:=.loop 40 [(0,a),(2,c2),(3,c3),(4,c4),(5,c5),(6,c6),(34,c34),(35,c35),(36,c36)] (FD).2.1 (FD).2.2.1 (FD).2.2.2 p
def B3W{b c2 c4 c5 c6 c34 c35 c36 c:AV}{s r0:Nat}{t:S8}{l:Ha}(J:l.length=64)(D:100<L)(N:Wf H)(hr:Ai H r0=some (.cells q0 e0 (Eg t.l)))(hc:Chk H c l)(p:Ai H s=some (lpS b c2 (.ptr r0 0 0) c4 c5 c6 c34 c35 c36 (some none)))(k:∀w,A9 c w->w≠s)(d:r0≠s)(O:∀a,Ai a r0=some (.cells q0 e0 (Eg (blk t l).l))->Ai a s=some (lpS b c2 (.ptr r0 0 0) c4 c5 c6 c34 c35 c36 (some none))->(∀u y,Ai H u=some y->u≠r0->u≠s->Ai a u=some y)->Wf a->K (Bo true) a=x):
 C4 (E L) (rt L (n+5)) (.yl s) [c] H K=x:=by
 show NY (rt L (n+5)) s [c] H K=x;rw[Pt p (by kernel_rfl)];have i:(rt L (n+5)).run= λA=>Mq (E L) (rt L (n+4)) A:=rfl;rw[i,pJ,P0 p];have g:=Bj (r:=s) (y:=lpS b c2 (.ptr r0 0 0) c4 c5 c6 c34 c35 c36 none) N;have m:Ai (upd H s (lpS b c2 (.ptr r0 0 0) c4 c5 c6 c34 c35 c36 none)) r0=some (.cells q0 e0 (Eg t.l)):=by rw[Ag d];exact hr
 have v:Ai (upd H s (lpS b c2 (.ptr r0 0 0) c4 c5 c6 c34 c35 c36 none)) s=some (lpS b c2 (.ptr r0 0 0) c4 c5 c6 c34 c35 c36 none):=Fk p;have j:Chk (upd H s (lpS b c2 (.ptr r0 0 0) c4 c5 c6 c34 c35 c36 none)) c l:=by
  rcases hc with h|⟨r,o,q,e,cs,h1,h2,B,C⟩
  ·exact .inl h
  ·refine .inr ⟨r,o,q,e,cs,h1,?_,B,C⟩;rw[Ag (k r ⟨_,_,_,h1⟩)];exact h2
 refine C4f J D g m j ?_;intro a F hb hc;have f:=hb.keep g s _ v (λh=>d h.symm);show EB a s false (some none) _=_;unfold lpS at f;rw[Pz f];refine O _ ?_ (Fk f) ?_ (Bj hc)
 ·rw[Ag d];exact F
 ·intro u y M h1 h2;rw[Ag h2];refine hb.keep g u y ?_ h1;rw[Ag h2];exact M
def C0n{k:Ru}{w c2 c4 c5 c6 c34 c35 c36:AV}{s r0 r1 r2 rm m N O em:Nat}{q0 q1 q2 M:Bool}{l:Ha}(V:100<L)(hm:l.length=64*m)(hl:l.length<200000000000)(d0:r0≠s)(d1:r1≠s)(d2:r2≠s)(y:rm≠s)(d:r1≠r0)(a:r2≠r0)(e:rm≠r0)(X:∀H,Ai H r0=some (.cells q0 e0 (Eg (fD l m).l))->Ai H s=some (lpS w c2 (.ptr r0 0 0) c4 c5 c6 c34 c35 c36 (some none))->Wf H->k H=x):
 ∀(f i:Nat)(H:Hp),i<=m->m-i<f->Ai H r0=some (.cells q0 e0 (Eg (fD l i).l))->Ai H s=some (lpS w c2 (.ptr r0 0 0) c4 c5 c6 c34 c35 c36 (some none))->
  Ai H r1=some (.cells q1 N [.sl 1 rm 0 l.length])->Ai H r2=some (.cells q2 O [I 64])->Ai H rm=some (.cells M em (Lw l))->Wf H->
  FW L (rt L (n+5)) K k f (.yl s) (.ptr r1 0 0) (.ptr r2 0 0) (I ((64*i:Nat):Int)) H=x:=by
 intro f
 induction f with
 |zero=>intro i H _ h;omega
 |succ f ih=>
  intro i H hi Z B C h1 h2 b D;rw[MG];unfold FX;have F:∀K,AD AU (.ptr r1 0 0) H K=K (.sl 1 rm 0 l.length):=λK=>AF (p:=0) rfl h1 (by simp);have Y:∀K,AD Ab (.ptr r2 0 0) H K=K (I 64):=λK=>AF (p:=0) rfl h2 (by decide);have J:∀k o K,Bh AU (.sl 1 rm o k) K=K (I k):=λ_ _ _=>id rfl;rw[F,J,D8,Ff];by_cases h:i<m
  ·rw[Dq (by simp;omega)];have P:∀K,Es AU (.sl 1 rm 0 l.length) (some (I ((64*i:Nat):Int))) none none K=K (.sl 1 rm (0+64*i) (l.length-64*i)):=λK=>A4q _ rfl rfl (by omega);have A:((64*i:Nat):Int)+64=((64*(i+1):Nat):Int):=by omega
   have Q:∀K,Es AU (.sl 1 rm 0 l.length) (some (I ((64*i:Nat):Int))) (some (I ((64*(i+1):Nat):Int))) (some (I ((64*(i+1):Nat):Int))) K=K (.sl 1 rm (0+64*i) (64*(i+1)-64*i)):=λK=>A7O _ _ _ rfl rfl rfl rfl (by omega) (by omega) (by omega);have R:64*(i+1)-64*i=64:=by omega
   simp(disch:=omega) only[Pc,F,Y,P,J,B1z,CY,CQ,A,Q,R,Kd];refine B3W (l:=(l.drop (64*i)).take 64) (by simp;omega) V D B (.inr ⟨rm,64*i,M,em,Lw l,?_,b,?_,?_⟩) C ?_ d0 ?_
   ·have:((l.drop (64*i)).take 64).length=64:=by simp;omega
    rw[this]
   ·have:((l.drop (64*i)).take 64).length=64:=by simp;omega
    rw[this,Qo];omega
   ·have:((l.drop (64*i)).take 64).length=64:=by simp;omega
    rw[this];unfold Lw;rw[List.map_take,List.map_drop]
   ·rintro s' ⟨_,_,_,j⟩;injection j with _ j
    subst j;exact y
   ·intro v g q c r;have u:∀K,AD Ab (.ptr r2 0 0) v K=K (I 64):=λK=>AF (p:=0) rfl (c r2 _ h2 a d2) (by decide);rw[Eh,Ff,CF (by simp),u,CY,CQ (by omega) (by omega),A];exact ih (i+1) v (by omega) (by omega) g q (c r1 _ h1 d d1) (c r2 _ h2 a d2) (c rm _ b e y) r
  ·rw[CF (by simp;omega)];have:i=m:=by omega
   subst this;exact X _ B C D
end
section
variable{k:AV->AV->AV->AV->AV->AV->AV->KV}{H:Hp}{s:Ha}{y:Row}
variable{L n:Nat}{K:KV}{x:Af}
def B2i{v:AV}{l:Ha}{r0:Nat}(b:UInt8)(h:Bk H Bl 1 v l.length (Lw l))(w:Wf H)(hn:l.length<1000000000000)(d:Ai H r0=some y)(j:¬A9 v r0):
 ∃c a,(∀K:KV,(FU Bl 1 AW 1 [(0,1,By b)] H λv1 e=>DK Bl 1 AW AU v v1 e K)=K c a)/\Bk a Bl 1 c (l++[b]).length (Lw (l++[b]))/\Wf a/\Ai a r0=some y/\¬A9 c r0:=by
 obtain⟨c,a,h1,h2,f,p,g,i⟩:=B2j b h w hn;exact⟨c,a,h1,h2,f,g r0 y d j,λm=>by have:=i r0 m;have:=w.lt d;omega⟩
def C2g{r0:Nat}{w0 w1 g D w5 i m p:AV}(J:s.length<100000000000)(B:∀v H,Bk H Bl 1 v (pre s).length (Lw (pre s))->Wf H->Ai H r0=some y->¬A9 v r0->k w0 w1 g v w5 i m p H=x):
 ∀(f j:Nat)(v:AV)(H:Hp),j<=fW s.length->fW s.length-j<f->Bk H Bl 1 v (s++[128]++List.replicate j 0).length (Lw (s++[128]++List.replicate j 0))->Wf H->Ai H r0=some y->¬A9 v r0->
  UP L (rt L n) K k f w0 w1 g v D w5 i m p H=x:=by
 intro f
 induction f with
 |zero=>intro j v H _ h;omega
 |succ f ih=>
  intro j v H w F hv d b c;rw[qL];unfold UQ A3;have a:(s++[128]++List.replicate j (0:UInt8)).length=s.length+1+j:=by simp;omega
  have hz:fW s.length<64:=by unfold fW;omega
  rw[Lr rfl hv,Q9 (by decide),I3,Ff];have hm:((s++[128]++List.replicate j (0:UInt8)).length:Int).tmod 64=(((s.length+1+j)%64:Nat):Int):=by rw[a];exact(Int.ofNat_tmod _ _).symm
  rw[hm];by_cases h:j=fW s.length
  ·subst h;have:(s.length+1+fW s.length)%64=56:=by unfold fW;omega
   rw[this];simp only[l19,decide_eq_false_iff_not];rw[CF (by simp)];exact B _ _ hv d b c
  ·have A:(s.length+1+j)%64≠56:=by unfold fW at h w;omega
   rw[Dq (by simp;omega)];obtain⟨C,q,h1,h2,r,t,u⟩:=B2i (0:UInt8) hv d (by omega) b c;have e:(AV.v (.int .u8 0))=By 0:=rfl;rw[e];rw[h1];refine ih (j+1) C q (by omega) (by omega) ?_ r t u;rw[List.replicate_succ',<-fQ];exact h2
def C2h{r0:Nat}{w1 d w5 q e g:AV}(P:s.length<100000000000)(J:∀v w H,Bk H Bl 1 v (ext s).length (Lw (ext s))->Wf H->Ai H r0=some y->¬A9 v r0->k (S s) w1 d v w w5 e g H=x):
 ∀(f i:Nat)(l:Ha)(v:AV)(H:Hp),i<=8->i<f->l++Yn s.length i=ext s->Bk H Bl 1 v l.length (Lw l)->Wf H->Ai H r0=some y->¬A9 v r0->
  Qm L (rt L n) K k f (S s) w1 d v (I ((i:Int)-1)) w5 q e g H=x:=by
 have hz:fW s.length<64:=by unfold fW;omega
 intro f
 induction f with
 |zero=>intro i l v H _ h;omega
 |succ f ih=>
  intro i l v H O N b hv p j m;have F:l.length<=s.length+1+64+8:=by
   have:=congrArg List.length b;simp[ext,pre,zA]at this;omega
  rw[qM];unfold UR A3;rw[KO,Ff];cases i with
  |zero=>
   rw[CF (by simp)];have:l=ext s:=by simpa [Yn] using b
   subst this;exact J _ _ _ hv p j m
  |succ i=>
   rw[Dq (by simp)];have t:((i+1:Nat):Int)-1=(i:Int):=by omega
   rw[t];rw[Qf rfl,OZ,OZ,CQ (by omega) (by omega),CQ (by omega) (by omega)];have u:(8:Int)*(s.length:Int)=((8*s.length:Nat):Int):=by omega
   have A:(8:Int)*(i:Int)=((8*i:Nat):Int):=by omega
   rw[u,A,vU (by omega)];rw[A2m rfl];obtain⟨M,r,h1,h2,B,C,D⟩:=B2i (eS s.length i) hv p (by omega) j m;simp(disch:=omega) only[J6,CQ];have h1:=h1 (λc a=>Qm L (rt L n) K k f (S s) w1 d c (I ((i:Int)-1)) w5 q e g a);unfold eS at h1;rw[h1];refine ih i (l++[eS s.length i]) M r (by omega) (by omega) ?_ h2 B C D;rw[fQ];exact b
def A5u{R:Rt}{N g:Nat}{cap:Is}{t:Tm}{ps:Array Tmp}{b d:Code}{K:Option (Option Code)->Ru}:oS R N (.fn (.func g) [] cap) t ps b d H K=R.call g (.yl (As H)::cap) ((As H,.loop N t ps b d (some none))::H) λ_ c=>IR c (As H) λx=>dL x λ_ _ _ _ _ a=>XA4 c (As H) .gone λf=>K a f:=by
 have e:oS R N (.fn (.func g) [] cap) t ps b d H K=Io H λs=>R.call g (.yl s::cap) ((s,.loop N t ps b d (some none))::H) λ_ c=>IR c s λx=>dL x λ_ _ _ _ _ a=>XA4 c s .gone λf=>K a f:=rfl;rw[e,Ca]
def C2m(hs:s.length<100000000000)(hL:s.length+200<L):CS (rt L (n+8)) Xt [S s] (S (sha s)):=by
 intro K hK;rw[uQ];unfold WY A3;simp only[BE];have X:∀K:K2,BP AO [(0,1,(AV.v (.int .u32 1779033703))),(1,1,(AV.v (.int .u32 3144134277))),(2,1,(AV.v (.int .u32 1013904242))),(3,1,(AV.v (.int .u32 2773480762))),(4,1,(AV.v (.int .u32 1359893119))),(5,1,(AV.v (.int .u32 2600822924))),(6,1,(AV.v (.int .u32 528734635))),(7,1,(AV.v (.int .u32 1541459225)))] K=K (.agg (Eg iv.l)):=λK=>by kernel_rfl
 rw[X,B1 (cs:=Eg (List.replicate 8 0)) rfl];have O:=Ax (H:=[]) (x:=.cells true BN (Eg (List.replicate 8 0))) (by simp);rw[BX (vs:=Eg iv.l) O rfl rfl (Zp _)];have B:=AC (q:=true) (e:=BN) (cs:=Eg iv.l) O;have J:=Bj (r:=As []) (y:=.cells true BN (Eg iv.l)) (AG (x:=.cells true BN (Eg (List.replicate 8 0))) FH);generalize upd ((As [],c_ BN (Eg (List.replicate 8 0)))::[]) (As []) (c_ BN (Eg iv.l))=t at B J;have P:∀K:KV,A2a Bl (S s) t K=K (.sl 1 (As t) 0 s.length) ((As t,.cells false Bl (Lw s))::t):=λK=>by
  have e:A2a Bl (S s) t K=HK s 0 λn=>eY s λcs=>Io t λr=>K (.sl 1 r 0 n) ((r,.cells false Bl cs)::t):=rfl;rw[e,Cy,Z9,Ca,Kd];rfl
 rw[P];have Y:=J.lt B;have Z:=A7 (x:=.cells false Bl (Lw s)) Y B;have ad:=AG (x:=.cells false Bl (Lw s)) J;have ac:=Ob (H:=t) (e:=Bl) (n:=s.length) (cs:=Lw s) (Qo s);have e:(AV.v (.int .u8 128))=By 128:=rfl;obtain⟨v',H',h1,h2,h3,h4,h5⟩:=B2i (128:UInt8) ac ad (by omega) Z (λ⟨_,_,_,hh⟩=>by injection hh with _ hh;omega);rw[e,h1];have hz:fW s.length<64:=by unfold fW;omega
 refine C2g hs ?_ L 0 v' H' (by omega) (by omega) (by simpa using h2) h3 h4 h5;intro v H hv F hr R;refine C2h hs ?_ L 8 (pre s) v H (by omega) (by omega) rfl hv F hr R;intro v w H hv F hr R;obtain⟨m,hm,af⟩:=A67 s;rcases hv with⟨_,h,_⟩|⟨rm,qm,rfl,D,ae⟩
 ·simp[ext]at h
 have V:rm≠As []:=λh=>R ⟨_,_,_,by rw[h]⟩;rw[Qr];unfold I5 A3;simp only[BE];rw[B5D,nI rfl];have j:=A7 (x:=.cells true Pw [.sl 1 rm 0 (ext s).length]) (F.lt hr) hr;have c:=A7 (x:=.cells true Pw [.sl 1 rm 0 (ext s).length]) (F.lt D) D;have g:=Ax (H:=H) (x:=.cells true Pw [.sl 1 rm 0 (ext s).length]) (by simp);have a:=AG (x:=.cells true Pw [.sl 1 rm 0 (ext s).length]) F;have a1:=F.lt hr;have a2:=F.lt D;have a3:=a.lt g;generalize ((As H,c_ Pw [.sl 1 rm 0 (ext s).length])::H)=N at j c g a a3;have C:=A7 (x:=.cells true GJ [I 64]) (a.lt j) j;have f:=A7 (x:=.cells true GJ [I 64]) (a.lt c) c;have A:=A7 (x:=.cells true GJ [I 64]) (a.lt g) g;have i:=Ax (H:=N) (x:=.cells true GJ [I 64]) (by simp);have d:=AG (x:=.cells true GJ [I 64]) a;have a4:=a.lt j;have a5:=a.lt c;have a6:=d.lt i;generalize ((As N,c_ GJ [I 64])::N)=u at C f A i d a6;have l2:∀K,AD Ab (.ptr (As N) 0 0) u K=K (I 64):=λK=>AF (p:=0) rfl i (by decide);rw[l2,D8,Ff,CF (by decide),A5u,Ns];unfold Gk A3;simp only[BE];have a7:=d.lt C;have a8:=d.lt f;have a9:=d.lt A;refine C0n (n:=n+1) (m:=m) (l:=ext s) (s:=As u) (r0:=As []) (r1:=As H) (r2:=As N) (rm:=rm) (by omega) hm (by omega) (by omega) (by omega) (by omega) (by omega) (by omega) (by omega) V ?_ L 0 _ (by omega) (by omega) (A7 a7 C) (Ax (x:=lpS (S s) (AV.v (.string ⟨⟨[]⟩⟩)) (.ptr (As []) 0 0) (.sl 1 rm 0 (ext s).length) _ _ _ _ _ (some none)) (by simp[lpS])) (A7 a9 A) (A7 a6 i) (A7 a8 f) (AG d);intro M h0 aa ag;rw[Bp aa];show XA4 M (As u) .gone _=_;rw[Dg];show AD AO (.ptr (As []) 0 0) (upd M (As u) .gone) _=_;have Q:Ai (upd M (As u) .gone) (As [])=some (c_ BN (Eg (fD (ext s) m).l)):=by rw[Ag (by omega)];exact h0
 rw[Bu rfl rfl Q];have ab:∀K,Ap (rt L (n+7)) GN [.agg (Eg (fD (ext s) m).l)] (upd M (As u) .gone) K=K (S (Y0 (fD (ext s) m).l 8)):=λK=>AP (A9x (L:=L) (n:=n+6) (by omega)) (Ao (LF (K1 (λx:BitVec 32=>Value.int .u32 (x.toNat:Int)) _)) AH);show Ap (rt L (n+7)) GN [.agg (Eg (fD (ext s) m).l)] (upd M (As u) .gone) _=_;rw[ab];have e:Y0 (fD (ext s) m).l 8=sha s:=by
  unfold sha;have:(ext s).length/64=m:=by omega
  rw[this]
 rw[e];exact hK _ _ (λb=>⟨false,CC⟩)
end
end Go.Abs
end
