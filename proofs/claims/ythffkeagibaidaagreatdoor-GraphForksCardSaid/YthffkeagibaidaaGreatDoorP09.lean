import Derived.Test.YthffkeagibaidaaGreatDoorP08
set_option linter.all false
set_option maxHeartbeats 0
noncomputable section
namespace Go.Abs
open Go.RowKit Go.Proofs
set_option maxRecDepth 100000
section
variable{v w:AV}{K:K2}{x:Af}{H:Hp}{s:Ha}{L e n:Nat}{R:Rt}{t t':TI}
def B4W{l:Ha}{i:Nat}(c:t.d=.string)(h:i<l.length):Yp t t' (S l) (I i) K=K (By l[i]):=by
 have e:Yp t t' (S l) (I i) K=iN (i:Int) λn=>B18 (CL n l) K:=by
  obtain⟨a,b,d,z⟩:=t;simp only at c;subst c;rfl
 rw[e,KO,Cs,l11 h];show fN l[i].toNat (λn=>K (.v (.int .u8 (.ofNat n))))=_;rw[Ep];rfl
def MR{l:Ha}(c:t.d=.string):Bi t (S l) K=K (I l.length):=by
 have:Bi t (S l) K=HB l 0 λn=>K (.v (.int .i64 (.ofNat n))):=by
  obtain⟨a,b,d,z⟩:=t;simp only at c;subst c;rfl
 rw[this,Cz,Le];rfl
def IX{e sz n:Nat}{cs:Is}{f g:Nat}(c:t.d=.slice f g)(h:AT H e sz v n cs):Bi t v K=K (I n):=by
 obtain⟨a,b,d,z⟩:=t;simp only at c;subst c;rcases h with⟨rfl,rfl,_⟩|⟨r,q,rfl,_⟩<;>rfl
def A6Y{l:Ha}(b:UInt8)(h:AT H AI 1 v l.length (Ix l))(w:Wf H)(hn:l.length<1000000000000):
 ∃d a,(∀K:KV,(F4 AI 1 AB 1 [(0,1,By b)] H λv1 j=>DJ AI 1 AB A5 v v1 j K)=K d a)/\AT a AI 1 d (l++[b]).length (Ix (l++[b]))/\Wf a/\Ay H<=Ay a/\(∀s x,Ao H s=some x->¬AD v s->Ao a s=some x)/\(∀s,AD d s->Ay H<=s):=by
 have i:AT ((Ay H,.cells false AI [By b])::H) AI 1 v l.length (Ix l):=h.lat w (Lat.cons H _ (λ_=>False)) (λ_ _ h=>h);have c:=Nn (H:=H) (e:=AI) (n:=1) (cs:=[By b]) rfl;obtain⟨d,a,h1,h2,k,m⟩:=apt (ie:=AB) (i2:=A5) i (λK=>Oz (K:=K) c) rfl rfl (by decide) rfl rfl (by show(l.length+1)*1<=_;omega) (by omega);have f:=(Lat.cons H (.cells false AI [By b]) (AD v)).trans m (R:=AD v) (λ_ _ h=>h) (λ_ _ h=>h);refine⟨d,a,λK=>?_,by rw[E6,<-V5];exact h2,f.wf w,f.nx,λs x g hn=>f.keep w s x g hn,λs g=>?_⟩
 ·rw[ZI (z:=By 0) (λ_=>rfl) (λ_=>rfl) rfl];exact h1 K
 ·rw[k s g];exact l1p _
def Xa(n:Nat):Nat:=(119-n%64)%64
def WD(n i:Nat):UInt8:=UInt8.ofNat (8*n/2^(8*i))
def pre(s:Ha):Ha:=s++[128]++List.replicate (Xa s.length) 0
def ext(s:Ha):Ha:=pre s++[WD s.length 7,WD s.length 6,WD s.length 5,WD s.length 4,WD s.length 3,WD s.length 2,WD s.length 1,WD s.length 0]
def B4M{K:KV}{k:AV->AV->AV->KV}(u:s.length<100000000000)(g:∀v H,AT H AI 1 v s.length (Ix s)->Wf H->k (S s) v (I s.length) w H=x):
 ∀(f i:Nat)(v:AV)(H:Hp),i<=s.length->s.length-i<f->AT H AI 1 v (s.take i).length (Ix (s.take i))->Wf H->Lj L R K k f (S s) v (I i) w H=x:=by
 intro f
 induction f with
 |zero=>intro i v H _ h;omega
 |succ f ih=>
  intro i v H r q hv a;rw[VA];unfold Lm Aq;rw[MR rfl,CA,DA];by_cases h:i<s.length
  ·rw[CJ (by simpa using h)];rw[B4W rfl h];obtain⟨j,c,h1,h2,d,m,p,_⟩:=A6Y s[i] hv a (by simp;omega);rw[h1];simp(disch:=omega) only[Ck,BX];refine ih (i+1) j c (by omega) (by omega) ?_ d;rw[tE h];exact h2
  ·rw[Co (by simpa using h)];have:i=s.length:=by omega
   subst this;exact g _ _ (by simpa using hv) a
def lW{j:TI}{a k:Nat}(hk:k<=64):Al j .shr (I a) (I k) K=K (I (a/2^k:Nat)):=by
 have:Al j .shr (I a) (I k) K=ck (Zq 0 (k:Int)) (fI ((a:Int).fdiv (2^(min (k:Int).toNat 64))) λz=>K (.v (.int .i64 z))):=rfl;rw[this,Mi];have h1:Zq 0 (k:Int)=true:=by rw[IJ];simp
 have h2:(a:Int).fdiv (2^(min (k:Int).toNat 64))=((a/2^k:Nat):Int):=by
  rw[XV,l1x hk];have:((2:Int)^k)=((2^k:Nat):Int):=by simp
  rw[this,Int.fdiv_eq_ediv_of_nonneg _ (Int.natCast_nonneg _)];exact(Int.natCast_ediv _ _).symm
 rw[h1,h2];rfl
def zF{m:Nat}(c:t'.d=.int .u8):EE t t' (I m) K=K (By (UInt8.ofNat m)):=by
 have:EE t t' (I m) K=JA .u8 (m:Int) λz=>K (.v (.int .u8 z)):=by
  obtain⟨a,b,d,z⟩:=t';simp only at c;subst c;rfl
 rw[this,XA0,Uf rfl];have:(m:Int)%(2^IntKind.u8.bits:Nat)=((UInt8.ofNat m).toNat:Int):=by
  rw[UInt8.toNat_ofNat'];exact(Int.natCast_emod _ _).symm
 rw[this]
def Ul(n:Nat):Nat->Ha
 |0=>[]
 |i+1=>WD n i::Ul n i
def pB(n i:Nat):(Ul n i).length=i:=by
 induction i with
 |zero=>rfl
 |succ i ih=>simp[Ul,ih]
def B4N{K:KV}{k:AV->AV->KV}{w1 d u:AV}(C:s.length<100000000000)(q:∀v H,AT H AI 1 v (pre s).length (Ix (pre s))->Wf H->k w1 v d H=x):
 ∀(f j:Nat)(v:AV)(H:Hp),j<=Xa s.length->Xa s.length-j<f->AT H AI 1 v (s++[128]++List.replicate j 0).length (Ix (s++[128]++List.replicate j 0))->Wf H->Ll L R K k f w1 v d u H=x:=by
 intro f
 induction f with
 |zero=>intro j v H _ h;omega
 |succ f ih=>
  intro j v H m B hv c;rw[VB];unfold Ln Aq;have a:(s++[128]++List.replicate j (0:UInt8)).length=s.length+1+j:=by simp;omega
  have hz:Xa s.length<64:=by unfold Xa;omega
  rw[IX rfl hv,RY (by decide),GY,DA];have hm:((s++[128]++List.replicate j (0:UInt8)).length:Int).tmod 64=(((s.length+1+j)%64:Nat):Int):=by rw[a];exact(Int.ofNat_tmod _ _).symm
  rw[hm];by_cases h:j=Xa s.length
  ·subst h;have:(s.length+1+Xa s.length)%64=56:=by unfold Xa;omega
   rw[this];simp only[tD,decide_eq_false_iff_not];rw[Co (by simp)];exact q _ _ hv c
  ·have p:(s.length+1+j)%64≠56:=by unfold Xa at h m;omega
   rw[CJ (by simp;omega)];obtain⟨r,g,h1,h2,i,y,A,_⟩:=A6Y (0:UInt8) hv c (by omega);have e:(AV.v (.int .u8 0))=By 0:=rfl;rw[e];rw[h1];refine ih (j+1) r g (by omega) (by omega) ?_ i;rw[List.replicate_succ',<-fW];exact h2
def B4O{K:KV}{k:KV}(J:s.length<100000000000)(y:∀v H,AT H AI 1 v (pre s++Ul s.length 8).length (Ix (pre s++Ul s.length 8))->Wf H->k v H=x):
 ∀(f i:Nat)(l:Ha)(v:AV)(H:Hp),i<=8->i<f->l++Ul s.length i=pre s++Ul s.length 8->AT H AI 1 v l.length (Ix l)->Wf H->IS L R K k f (S s) v w (I ((i:Int)-1)) H=x:=by
 have hz:Xa s.length<64:=by unfold Xa;omega
 intro f
 induction f with
 |zero=>intro i l v H _ h;omega
 |succ f ih=>
  intro i l v H F D c hv g;have u:l.length<=s.length+1+64+8:=by
   have:=congrArg List.length c;simp[pre,pB]at this;omega
  rw[VC];unfold Lo Aq;rw[Kn,DA];cases i with
  |zero=>
   rw[Co (by simp)];have:l=pre s++Ul s.length 8:=by simpa [Ul] using c
   subst this;exact y _ _ hv g
  |succ i=>
   rw[CJ (by simp)];have m:((i+1:Nat):Int)-1=(i:Int):=by omega
   rw[m];rw[MR rfl,LQ,LQ,BX (by omega) (by omega),BX (by omega) (by omega)];have p:(8:Int)*(s.length:Int)=((8*s.length:Nat):Int):=by omega
   have q:(8:Int)*(i:Int)=((8*i:Nat):Int):=by omega
   rw[p,q,lW (by omega)];rw[zF rfl];obtain⟨A,j,h1,h2,r,B,C,_⟩:=A6Y (WD s.length i) hv g (by omega);simp(disch:=omega) only[Gx,BX];have h1:=h1 (λd a=>IS L R K k f (S s) d w (I ((i:Int)-1)) a);unfold WD at h1;rw[h1];refine ih i (l++[WD s.length i]) A j (by omega) (by omega) ?_ h2 r;rw[fW];exact c
def Tv(l:Ha):AV:=.list l.length (Ix l)
def kZ{b:Bool}{cs:Is}(h:AT H e 1 v n cs)(hn:n≠0){α:Type}(f:α->Value)(l:List α)(hc:cs=l.map λx=>.v (f x)):Fx b depth v (.list n cs) H true:=by
 subst hc;rcases h with⟨_,h2,_⟩|⟨r,q,rfl,h2,a⟩
 ·exact absurd h2 hn
 ·exact UW (q':=false) h2 a (JO f l)
def B4y{b:Bool}{l:Ha}(h:AT H AI 1 v l.length (Ix l))(a:l≠[]):Fx b depth v (Tv l) H true:=
 kZ h (λh=>a (tC h)) (λb:UInt8=>Value.int .u8 (b.toNat:Int)) l rfl
def fx1{x:Value}:Qi true depth [.v x] [.v x] H false:=Az (q:=false) (q':=false) Er Bq
def O'(s:Ha)(c:s.length<100000000000)(k:s.length+100<L):CS (rt L (n+1)) MN [S s] (Tv (ext s)):=by
 intro K g;rw[Wv];unfold Mx Aq;simp only[Ca];refine B4M c ?_ L 0 _ [] (by omega) (by omega) (.inl ⟨rfl,rfl,rfl⟩) EH;intro v H hv a;obtain⟨h,d,h1,h2,f,i,j,_⟩:=A6Y (128:UInt8) hv a (by omega);have e:(AV.v (.int .u8 128))=By 128:=rfl;rw[e,h1];refine B4N c ?_ L 0 h d (by omega) (by have:Xa s.length<64:=(by unfold Xa;omega);omega) (by simpa using h2) f;intro v H hv a;refine B4O c ?_ L 8 (pre s) v H (by omega) (by omega) rfl hv a;intro v H hv a;exact g _ _ (λb=>⟨true,B4y (l:=ext s) hv (by simp[ext])⟩)
end
section
variable{K:K2}{q:Bool}{H:Hp}{L e k n p r:Nat}{t:TI}{x:Value}
def I7(x:BitVec 32)(k:Nat):BitVec 32:=(x>>>k)|||(x<<<(32-k))
def B7L{x y:Value}:Qi true depth [.v x,.v y] [.v x,.v y] H false:=Az (q:=false) (q':=false) Er fx1
def fxq{b:Bool}:Fx b depth (.v x) (.v x) H false:=Er
def A2f(x:BitVec 32)(k:Nat)(hk:k<=32):PS (rt L (n+1)) Cx [W x,I k] (W (I7 x k)):=by
 refine CS.ps (λK c=>?_) (λH=>B7L);rw[XG];unfold NQ Mt;have a:((32:Int)-(k:Int))=((32-k:Nat):Int):=by omega
 simp(disch:=omega) only[Hu rfl hk,A6F,Gx,BX,a,Js rfl (show 32-k<=32 by omega),Ys];exact c _ _ (λb=>⟨false,fxq⟩)
def kk:List (BitVec 32):=[0x428a2f98,0x71374491,0xb5c0fbcf,0xe9b5dba5,0x3956c25b,0x59f111f1,0x923f82a4,0xab1c5ed5,
 0xd807aa98,0x12835b01,0x243185be,0x550c7dc3,0x72be5d74,0x80deb1fe,0x9bdc06a7,0xc19bf174,
 0xe49b69c1,0xefbe4786,0x0fc19dc6,0x240ca1cc,0x2de92c6f,0x4a7484aa,0x5cb0a9dc,0x76f988da,
 0x983e5152,0xa831c66d,0xb00327c8,0xbf597fc7,0xc6e00bf3,0xd5a79147,0x06ca6351,0x14292967,
 0x27b70a85,0x2e1b2138,0x4d2c6dfc,0x53380d13,0x650a7354,0x766a0abb,0x81c2c92e,0x92722c85,
 0xa2bfe8a1,0xa81a664b,0xc24b8b70,0xc76c51a3,0xd192e819,0xd6990624,0xf40e3585,0x106aa070,
 0x19a4c116,0x1e376c08,0x2748774c,0x34b0bcb5,0x391c0cb3,0x4ed8aa4a,0x5b9cca4f,0x682e6ff3,
 0x748f82ee,0x78a5636f,0x84c87814,0x8cc70208,0x90befffa,0xa4506ceb,0xbef9a3f7,0xc67178f2]
def X':kk.length=64:=rfl
def wB:CS (rt L (n+1)) LF [] (.list 64 (CQ kk)):=by
 intro K a;rw[VG];have e:Lx L (rt L n) [] K=K (.sl 1 0 0 64) [(0,.cells false B9 (CQ kk))]:=by kernel_rfl
 rw[e];exact a _ _ (λb=>⟨true,kZ (e:=B9) (.inr ⟨0,false,rfl,rfl,rfl⟩) (by decide) (λx:BitVec 32=>Value.int .u32 (x.toNat:Int)) kk rfl⟩)
def A6L{l:Ha}(h:k<l.length):(Ix l).getD k .dk=By (l.getD k 0):=by
 simp[Ix,Tc,h]
def JS{l:List (BitVec 32)}(h:k<l.length):(CQ l).getD k .dk=W (l.getD k 0):=by
 simp[CQ,Tc,h]
def F9(l:List (BitVec 32)):(CQ l).length=l.length:=by simp[CQ]
def A7C(a b:List (BitVec 32)):CQ a++CQ b=CQ (a++b):=by simp[CQ]
def Vo(l:List (BitVec 32)):(CQ l).all AV.one=true:=by simp[CQ,AV.one,Value.oneCell']
def WL{cs:Is}{z:Int}(g:t.d=.slice e 1)(hc:cs.length=n)(s:0<=z)(h1:z<n):Cy t (.list n cs) (I z) K=K (.iptr [cs.getD z.toNat .dk]):=by
 obtain⟨m,rfl⟩:=Int.eq_ofNat_of_zero_le s;have h:Cy t (.list n cs) (I (m:Int)) K=iN (m:Int) λm=>ck (Nat.blt m n) (UX 1 (CL (Nat.mul m 1) cs) λc=>K (.iptr c)):=by
  obtain⟨a,b,d,z⟩:=t;simp only at g;subst g;rfl
 have hm:m<n:=by omega
 rw[h,KO,Cs,Nw];have:Nat.blt m n=true:=by rw[Ua];exact hm
 rw[this];have i:Nat.mul m 1=m:=l28 m;have j:(cs.drop m).take 1=[cs.getD m .dk]:=by
  have f:m<cs.length:=by omega
  rw[l11 f,Tc,II f];rfl
 rw[i,j];rfl
def tV{z:Int}(c:t.d=.slice e 1)(h:0<=z)(h1:z<n):Cy t (.sl 1 r 0 n) (I z) K=K (.ptr r z.toNat 0):=by
 obtain⟨m,rfl⟩:=Int.eq_ofNat_of_zero_le h;have f:Cy t (.sl 1 r 0 n) (I (m:Int)) K=iN (m:Int) λm=>ck (Nat.blt m n) (fN (Nat.add 0 (Nat.mul m 1)) λp=>K (.ptr r p 0)):=by
  obtain⟨a,b,d,z⟩:=t;simp only at c;subst c;rfl
 have hm:m<n:=by omega
 rw[f,KO,Ep];have:Nat.blt m n=true:=by rw[Ua];exact hm
 have g:Nat.add 0 (Nat.mul m 1)=m:=by show 0+m*1=m;omega
 rw[this,g];rfl
def Rm{c:AV}(h:t.d.isAgg=false):A9 t (.iptr [c]) H K=K c:=by
 have:A9 t (.iptr [c]) H K=@Bool.rec (λ_=>Af) (K c) (Fb t.size [c] λc=>K (.agg c)) t.d.isAgg:=rfl;rw[this,h]
def A6p{cs:Is}(h:t.d.isAgg=false)(f:Ao H r=some (.cells q e cs))(a:p<cs.length):A9 t (.ptr r p 0) H K=K (cs.getD p .dk):=by
 have:A9 t (.ptr r p 0) H K=IZ H r λx=>KY x λ_ cs=>@Bool.rec (λ_=>Af) (hdK (CL (Nat.add p 0) cs) K) (Fb t.size (CL (Nat.add p 0) cs) λc=>K (.agg c)) t.d.isAgg:=rfl;rw[this,h,BO f];show hdK (CL p cs) K=_;rw[Cs,l11 a,Tc,II a];rfl
def A6s{l:Ha}{z:Int}(a:0<=z)(h1:z<l.length):Cy A5 (Tv l) (I z) K=K (.iptr [By (l.getD z.toNat 0)]):=by
 unfold Tv;rw[WL rfl (Nl l) a h1,A6L (by omega)]
def B88{z:Int}(a:0<=z)(h1:z<n):Cy A3 (.sl 1 r 0 n) (I z) K=K (.ptr r z.toNat 0):=tV rfl a h1
def B87{l:List (BitVec 32)}(c:Ao H r=some (.cells q e (CQ l)))(a:p<l.length):A9 Ah (.ptr r p 0) H K=K (W (l.getD p 0)):=by
 rw[A6p rfl c (by rw[F9];exact a),JS a]
def qN{b:UInt8}:EE AB Ah (By b) K=K (W (BitVec.ofNat 32 b.toNat)):=A6x
def B8x{v:AV}{l:List (BitVec 32)}(b:BitVec 32)(h:AT H B9 1 v l.length (CQ l))(w:Wf H)(hn:l.length<1000000000000):
 ∃r q a,(∀K:KV,(DF (F4 B9 1 Ah 1 [(0,1,W b)] H λv H=>some (v,H)) λv1 i=>DF (DJ B9 1 Ah A3 v v1 i λv H=>some (v,H)) K)=K (.sl 1 r 0 (l.length+1)) a)/\Ao a r=some (.cells q B9 (CQ (l++[b])))/\Wf a/\Ay H<=Ay a/\(∀s x,Ao H s=some x->¬AD v s->Ao a s=some x)/\Ay H<=r:=by
 have f:AT ((Ay H,.cells false B9 [W b])::H) B9 1 v l.length (CQ l):=h.lat w (Lat.cons H _ (λ_=>False)) (λ_ _ h=>h);have c:=Nn (H:=H) (e:=B9) (n:=1) (cs:=[W b]) rfl;obtain⟨A,a,h1,h2,j,m⟩:=apt (ie:=Ah) (i2:=A3) f (λK=>Oz (K:=K) c) rfl rfl (by decide) rfl rfl (by show(l.length+1)*4<=_;omega) (by omega);have d:=(Lat.cons H (.cells false B9 [W b]) (AD v)).trans m (R:=AD v) (λ_ _ h=>h) (λ_ _ h=>h);rcases h2 with⟨_,g,_⟩|⟨r,q,rfl,g,y⟩
 ·omega
 ·refine⟨r,q,a,λK=>?_,by rw[<-A7C];exact g,d.wf w,d.nx,λs x u hn=>d.keep w s x u hn,?_⟩
  ·rw[ZI (z:=W 0) (λ_=>rfl) (λ_=>rfl) rfl,A0m,h1 (λv H=>some (v,H)),A0m]
  ·rw[j r ⟨_,_,_,rfl⟩];exact l1p _
end
section
variable{v:AV}{H:Hp}
def LR{K:K2}:Ai (some (v,H)) K=K v:=A6F
def Vh{K:KV}:DF (some (v,H)) K=K v H:=A0m
def VZ{L n:Nat}{x:BitVec 32}{z:Int}(k:Nat)(a:z=(k:Int))(h:k<=32){K:K2}:Ak (rt L (n+1)) Cx [W x,I z] H K=K (W (I7 x k)):=by
 subst a;exact A2f x k (by omega) H K
def A0x{l:List (BitVec 32)}{n:Nat}(b:BitVec 32)(d:l.length=n)(h:AT H B9 1 v n (CQ l))(w:Wf H)(hn:n<1000000000000):
 ∃r q a,(∀K:KV,(DF (F4 B9 1 Ah 1 [(0,1,W b)] H λv H=>some (v,H)) λv1 c=>DF (DJ B9 1 Ah A3 v v1 c λv H=>some (v,H)) K)=K (.sl 1 r 0 (n+1)) a)/\Ao a r=some (.cells q B9 (CQ (l++[b])))/\Wf a/\Ay H<=Ay a/\(∀s x,Ao H s=some x->¬AD v s->Ao a s=some x)/\Ay H<=r:=by
 subst d;exact B8x b h w hn
def bw(l:Ha)(i:Nat):BitVec 32:=BitVec.ofNat 32 (l.getD i 0).toNat
def A0J(l:Ha)(i:Nat):BitVec 32:=bw l (4*i)<<<24|||bw l (4*i+1)<<<16|||bw l (4*i+2)<<<8|||bw l (4*i+3)
def w16(l:Ha)(n:Nat):List (BitVec 32):=(List.range n).map (A0J l)
def sg0(x:BitVec 32):BitVec 32:=I7 x 7^^^I7 x 18^^^x>>>3
def sg1(x:BitVec 32):BitVec 32:=I7 x 17^^^I7 x 19^^^x>>>10
def KX(l:Ha):Nat->List (BitVec 32)
 |0=>w16 l 16
 |i+1=>KX l i++[(KX l i).getD i 0+sg0 ((KX l i).getD (i+1) 0)+(KX l i).getD (i+9) 0+sg1 ((KX l i).getD (i+14) 0)]
def Xh(l:Ha)(n:Nat):(w16 l n).length=n:=by simp[w16]
def OL(l:Ha)(i:Nat):(KX l i).length=16+i:=by
 induction i with
 |zero=>simp[KX,Xh]
 |succ i ih=>simp[KX,ih];omega
structure S8 where
 a:BitVec 32
 b:BitVec 32
 c:BitVec 32
 d:BitVec 32
 e:BitVec 32
 f:BitVec 32
 g:BitVec 32
 h:BitVec 32
def S8.l(s:S8):List (BitVec 32):=[s.a,s.b,s.c,s.d,s.e,s.f,s.g,s.h]
def rt1(s:S8)(k w:BitVec 32):BitVec 32:=s.h+(I7 s.e 6^^^I7 s.e 11^^^I7 s.e 25)+((s.e&&&s.f)^^^(~~~s.e&&&s.g))+k+w
def rt2(s:S8):BitVec 32:=(I7 s.a 2^^^I7 s.a 13^^^I7 s.a 22)+((s.a&&&s.b)^^^(s.a&&&s.c)^^^(s.b&&&s.c))
def rnd(s:S8)(k w:BitVec 32):S8:=⟨rt1 s k w+rt2 s,s.a,s.b,s.c,s.d+rt1 s k w,s.e,s.f,s.g⟩
def dP(ws:List (BitVec 32))(s:S8):Nat->S8
 |0=>s
 |i+1=>rnd (dP ws s i) (kk.getD i 0) (ws.getD i 0)
def B8y(s t:S8):S8:=⟨s.a+t.a,s.b+t.b,s.c+t.c,s.d+t.d,s.e+t.e,s.f+t.f,s.g+t.g,s.h+t.h⟩
def Ub(s:S8)(l:Ha):S8:=B8y s (dP (KX l 48) s 64)
variable{L n:Nat}{K:KV}{x:Af}
def vI(l:Ha)(i:Nat):BitVec.ofNat 32 (l.getD (4*i) 0).toNat<<<24|||BitVec.ofNat 32 (l.getD (4*i+1) 0).toNat<<<16|||BitVec.ofNat 32 (l.getD (4*i+2) 0).toNat<<<8|||BitVec.ofNat 32 (l.getD (4*i+3) 0).toNat=A0J l i:=rfl
def vT(l:Ha)(i:Nat):w16 l (i+1)=w16 l i++[A0J l i]:=by simp[w16,List.range_succ]
def B3k(x:BitVec 32):I7 x 7^^^I7 x 18^^^x>>>3=sg0 x:=rfl
def B3j(x:BitVec 32):I7 x 17^^^I7 x 19^^^x>>>10=sg1 x:=rfl
def OK(i:Nat):(i:Int)+1=((i+1:Nat):Int):=rfl
def B5d{k:AV->AV->AV->AV->AV->AV->AV->AV->KV}{l:Ha}{a0 w1 c d e w5 g:AV}(F:l.length=64)(y:∀v H,AT H B9 1 v 16 (CQ (w16 l 16))->Wf H->k a0 (Tv l) v (I 16) c d e w5 g H=x):
 ∀(f i:Nat)(v:AV)(H:Hp),i<=16->16-i<f->AT H B9 1 v i (CQ (w16 l i))->Wf H->OX L (rt L n) K k f a0 (Tv l) v (I i) w1 c d e w5 g H=x:=by
 intro f
 induction f with
 |zero=>intro i v H _ h;omega
 |succ f ih=>
  intro i v H D C hv a;rw[YQ];unfold Pc Mf Aq;rw[CA,DA];by_cases h:i<16
  ·rw[CJ (by simp;omega)];simp(disch:=omega) only[LQ,Ck,BX,LR,A6s,Rm (t:=AB) rfl,qN,Js (z:=24) (k:=24) rfl (by decide),Js (z:=16) (k:=16) rfl (by decide),Js (z:=8) (k:=8) rfl (by decide),Ys];have m:((4:Int)*(i:Int)).toNat=4*i:=by omega
   have p:((4:Int)*(i:Int)+1).toNat=4*i+1:=by omega
   have s:((4:Int)*(i:Int)+2).toNat=4*i+2:=by omega
   have u:((4:Int)*(i:Int)+3).toNat=4*i+3:=by omega
   rw[m,p,s,u,vI];obtain⟨r,q,j,h1,h2,w,A,B,_⟩:=A0x (A0J l i) (Xh l i) hv a (by omega);rw[h1,OK];refine ih (i+1) _ j (by omega) (by omega) (.inr ⟨r,q,rfl,?_,?_⟩) w
   ·rw[vT];exact h2
   ·rw[F9,Xh];omega
  ·rw[Co (by simp;omega)];have:i=16:=by omega
   subst this;exact y _ _ hv a
def B5e{k:AV->AV->AV->AV->AV->AV->KV}{l:Ha}{w0 w1 d B C w5 e g:AV}(w:∀r q H,Ao H r=some (.cells q B9 (CQ (KX l 48)))->Wf H->k w0 w1 (.sl 1 r 0 64) d (I 64) e g H=x):
 ∀(f i r:Nat)(q:Bool)(H:Hp),i<=48->48-i<f->Ao H r=some (.cells q B9 (CQ (KX l i)))->Wf H->OY L (rt L (n+1)) K k f w0 w1 (.sl 1 r 0 (16+i)) d (I ((16+i:Nat):Int)) B C w5 e g H=x:=by
 intro f
 induction f with
 |zero=>intro i r q H _ h;omega
 |succ f ih=>
  intro i r q H M J hv c;rw[YR];unfold Pd Mf Aq;rw[CA,DA];by_cases h:i<48
  ·rw[CJ (by simp;omega)];have a:=OL l i;have m:((16+i:Nat):Int)-15=((i+1:Nat):Int):=by omega
   have p:((16+i:Nat):Int)-2=((i+14:Nat):Int):=by omega
   have s:((16+i:Nat):Int)-16=((i:Nat):Int):=by omega
   have t:((16+i:Nat):Int)-7=((i+9:Nat):Int):=by omega
   simp(disch:=omega) only[Gx,BX,LR,m,p,s,t,B88,XV,B87 hv,VZ (z:=7) 7 rfl (by decide),VZ (z:=18) 18 rfl (by decide),VZ (z:=17) 17 rfl (by decide),VZ (z:=19) 19 rfl (by decide),RX,Hu (z:=3) (k:=3) rfl (by decide),Hu (z:=10) (k:=10) rfl (by decide),MT];rw[B3k,B3j];obtain⟨A,y,j,h1,h2,u,D,F,_⟩:=A0x ((KX l i).getD i 0+sg0 ((KX l i).getD (i+1) 0)+(KX l i).getD (i+9) 0+sg1 ((KX l i).getD (i+14) 0)) (v:=.sl 1 r 0 (16+i)) a (.inr ⟨r,q,rfl,hv,by rw[F9,a];omega⟩) c (by omega);rw[h1];simp(disch:=omega) only[Ck,BX];rw[OK];exact ih (i+1) A y j (by omega) (by omega) h2 u
  ·rw[Co (by simp;omega)];have:i=48:=by omega
   subst this;exact w _ _ _ hv c
end
section
variable{v:AV}{H:Hp}{t:TI}
def Rd(H:Hp)(v:AV)(n:Nat)(cs:Is):Prop:=cs.length=n/\(v=.list n cs\/∃r q e,v=.sl 1 r 0 n/\Ao H r=some (.cells q e cs))
def rdp(v:AV)(i:Nat):AV:=match v with
 |.list _ cs=>.iptr [cs.getD i .dk]
 |.sl _ r _ _=>.ptr r i 0
 |_=>.dk
def AT.rd{H:Hp}{e n:Nat}{v:AV}{cs:Is}(h:AT H e 1 v n cs)(hn:n≠0):Rd H v n cs:=by
 rcases h with⟨_,h,_⟩|⟨r,q,h1,h2,a⟩
 ·exact absurd h hn
 ·exact⟨by omega,.inr ⟨r,q,e,h1,h2⟩⟩
def fR{n:Nat}{cs:Is}(h:cs.length=n):Rd H (.list n cs) n cs:=⟨h,.inl rfl⟩
def MS{e n:Nat}{cs:Is}(h:Rd H v n cs)(a:t.d=.slice e 1){z:Int}(k:Nat)(hz:z=k)(hk:k<n){K:K2}:Cy t v (I z) K=K (rdp v k):=by
 subst hz;rcases h with⟨c,rfl|⟨r,q,e,rfl,h2⟩⟩
 ·rw[WL a c (by omega) (by omega)];rfl
 ·rw[tV a (by omega) (by omega)];rfl
def ZD{n:Nat}{cs:Is}(h:Rd H v n cs)(a:t.d.isAgg=false){k:Nat}(hk:k<n){K:K2}:A9 t (rdp v k) H K=K (cs.getD k .dk):=by
 rcases h with⟨c,rfl|⟨r,q,e,rfl,h2⟩⟩
 ·exact Rm a
 ·exact A6p a h2 (by omega)
def B75{a b c d e f g h:BitVec 32}(K:KV):F4 B9 1 Ah 8 [(0,1,W a),(1,1,W b),(2,1,W c),(3,1,W d),(4,1,W e),(5,1,W f),(6,1,W g),(7,1,W h)] H K=K (.sl 1 (Ay H) 0 8) ((Ay H,.cells false B9 (CQ [a,b,c,d,e,f,g,h]))::H):=by
 have i:F4 B9 1 Ah 8 [(0,1,W a),(1,1,W b),(2,1,W c),(3,1,W d),(4,1,W e),(5,1,W f),(6,1,W g),(7,1,W h)] H K=GP H λs=>K (.sl 1 s 0 8) ((s,.cells false B9 (CQ [a,b,c,d,e,f,g,h]))::H):=rfl;rw[i,BQ]
def qH{x:BitVec 32}{K:K2}:Nh .xor (W x) K=K (W (~~~x)):=A6g
def B0N{k:Nat}(h:k<64):(CQ kk).getD k .dk=W (kk.getD k 0):=JS (by rw[X'];exact h)
variable{L n:Nat}{K:KV}{x:Af}
def A4y(s:S8)(k w:BitVec 32):[s.h+(I7 s.e 6^^^I7 s.e 11^^^I7 s.e 25)+((s.e&&&s.f)^^^(~~~s.e&&&s.g))+k+w+((I7 s.a 2^^^I7 s.a 13^^^I7 s.a 22)+((s.a&&&s.b)^^^(s.a&&&s.c)^^^(s.b&&&s.c))),s.a,s.b,s.c,s.d+(s.h+(I7 s.e 6^^^I7 s.e 11^^^I7 s.e 25)+((s.e&&&s.f)^^^(~~~s.e&&&s.g))+k+w),s.e,s.f,s.g]=(rnd s k w).l:=rfl
def B5f{k:AV->AV->AV->AV->AV->AV->AV->KV}{ws:List (BitVec 32)}{s0:S8}{rw:Nat}{w0 w1 u w w6 w7:AV}(p:ws.length=64)(P:∀v q H,AT H B9 1 v 8 (CQ (dP ws s0 64).l)->Ao H rw=some (.cells q B9 (CQ ws))->Wf H->k w0 w1 (.sl 1 rw 0 64) u w (.list 64 (CQ kk)) v (I 64) H=x):
 ∀(f i:Nat)(v:AV)(q:Bool)(H:Hp),i<=64->64-i<f->AT H B9 1 v 8 (CQ (dP ws s0 i).l)->Ao H rw=some (.cells q B9 (CQ ws))->Wf H->OZ L (rt L (n+1)) K k f w0 w1 (.sl 1 rw 0 64) u w (.list 64 (CQ kk)) v (I i) w6 w7 H=x:=by
 intro f
 induction f with
 |zero=>intro i v q H _ h;omega
 |succ f ih=>
  intro i v q H hi hf hv hr m;rw[YS];unfold Pe Mf Aq;rw[CA,DA];by_cases h:i<64
  ·rw[CJ (by simp;omega)];have rv:=hv.rd (by decide);have r:Rd H (.list 64 (CQ kk)) 64 (CQ kk):=fR (by rw[F9,X']);have rs:Rd H (.sl 1 rw 0 64) 64 (CQ ws):=⟨by rw[F9,p],.inr ⟨rw,q,B9,rfl,hr⟩⟩
   generalize O:dP ws s0 i=s at rv hv;have y:(CQ s.l).getD 0 .dk=W s.a:=id rfl;have A:(CQ s.l).getD 1 .dk=W s.b:=id rfl;have B:(CQ s.l).getD 2 .dk=W s.c:=id rfl;have C:(CQ s.l).getD 3 .dk=W s.d:=id rfl;have D:(CQ s.l).getD 4 .dk=W s.e:=id rfl;have F:(CQ s.l).getD 5 .dk=W s.f:=id rfl;have J:(CQ s.l).getD 6 .dk=W s.g:=id rfl;have M:(CQ s.l).getD 7 .dk=W s.h:=id rfl;have N:(CQ ws).getD i .dk=W (ws.getD i 0):=JS (by omega);have Q:=λK=>MS (t:=A3) rv rfl (z:=0) 0 rfl (by decide) (K:=K);have i1:=λK=>MS (t:=A3) rv rfl (z:=1) 1 rfl (by decide) (K:=K);have i2:=λK=>MS (t:=A3) rv rfl (z:=2) 2 rfl (by decide) (K:=K);have R:=λK=>MS (t:=A3) rv rfl (z:=3) 3 rfl (by decide) (K:=K);have V:=λK=>MS (t:=A3) rv rfl (z:=4) 4 rfl (by decide) (K:=K);have X:=λK=>MS (t:=A3) rv rfl (z:=5) 5 rfl (by decide) (K:=K);have Y:=λK=>MS (t:=A3) rv rfl (z:=6) 6 rfl (by decide) (K:=K);have Z:=λK=>MS (t:=A3) rv rfl (z:=7) 7 rfl (by decide) (K:=K);have ik:=λK=>MS (t:=A3) r rfl (z:=i) i rfl h (K:=K);have iw:=λK=>MS (t:=A3) rs rfl (z:=i) i rfl h (K:=K);have lv:=λk hk K=>ZD (t:=Ah) rv rfl (k:=k) hk (K:=K);have lk:=λk hk K=>ZD (t:=Ah) r rfl (k:=k) hk (K:=K);have lw:=λk hk K=>ZD (t:=Ah) rs rfl (k:=k) hk (K:=K);simp(disch:=omega) only[LR,Q,i1,i2,R,V,X,Y,Z,ik,iw,lv,lk,lw,y,A,B,C,D,F,J,M,N,B0N h,RX,qP,MT,qH,
    VZ (z:=6) 6 rfl (by decide),VZ (z:=11) 11 rfl (by decide),VZ (z:=25) 25 rfl (by decide),VZ (z:=2) 2 rfl (by decide),VZ (z:=13) 13 rfl (by decide),VZ (z:=22) 22 rfl (by decide)]
   rw[B75,Vh,Ck,BX (by omega) (by omega),A4y,OK];have j:dP ws s0 (i+1)=rnd s (kk.getD i 0) (ws.getD i 0):=by rw[<-O];rfl
   rw[<-j];exact ih (i+1) _ q _ (by omega) (by omega) (Nn rfl) (AQ (m.lt hr) hr) (Bw m)
  ·rw[Co (by simp;omega)];have:i=64:=by omega
   subst this;exact P _ _ _ hv hr m
def Y6(a b:List (BitVec 32))(i:Nat):List (BitVec 32):=(List.range i).map λi=>a.getD i 0+b.getD i 0
def PY(a b:List (BitVec 32))(i:Nat):(Y6 a b i).length=i:=by simp[Y6]
def rB(a b:List (BitVec 32))(i:Nat):Y6 a b (i+1)=Y6 a b i++[a.getD i 0+b.getD i 0]:=by simp[Y6,List.range_succ]
def B5m(s t:S8):Y6 s.l t.l 8=(B8y s t).l:=rfl
def B5g{k:KV}{a b:List (BitVec 32)}{A B w1 w2 w3 w4 w5 w7:AV}(V:∀v H,AT H B9 1 v 8 (CQ (Y6 a b 8))->Wf H->k v H=x)(w:A=.list 8 (CQ a))(P:a.length=8)(hb:b.length=8):
 ∀(f i:Nat)(v:AV)(H:Hp),i<=8->8-i<f->AT H B9 1 v i (CQ (Y6 a b i))->AT H B9 1 B 8 (CQ b)->(∀s,AD v s->¬AD B s)->Wf H->Pb L (rt L n) K k f A w1 w2 w3 w4 w5 B w7 v (I i) H=x:=by
 intro f
 induction f with
 |zero=>intro i v H _ h;omega
 |succ f ih=>
  intro i v H hi hf hv c Q y;rw[YT];unfold Pf Mf Aq;rw[CA,DA];by_cases h:i<8
  ·rw[CJ (by simp;omega)];have C:Rd H A 8 (CQ a):=by subst w;exact fR (by rw[F9,P])
   have D:=c.rd (by decide);have J:(CQ a).getD i .dk=W (a.getD i 0):=JS (by omega);have M:(CQ b).getD i .dk=W (b.getD i 0):=JS (by omega);have ia:=λK=>MS (t:=A3) C rfl (z:=i) i rfl h (K:=K);have X:=λK=>MS (t:=A3) D rfl (z:=i) i rfl h (K:=K);have Y:=λK=>ZD (t:=Ah) C rfl (k:=i) h (K:=K);have Z:=λK=>ZD (t:=Ah) D rfl (k:=i) h (K:=K);simp only[LR,ia,X,Y,Z,J,M,MT];obtain⟨r,q,F,h1,h2,N,h4,O,h6⟩:=A0x (a.getD i 0+b.getD i 0) (PY a b i) hv y (by omega);rw[h1,Ck,BX (by omega) (by omega),OK];refine ih (i+1) _ F (by omega) (by omega) (.inr ⟨r,q,rfl,?_,?_⟩) ?_ ?_ N
   ·rw[rB];exact h2
   ·rw[F9,PY];omega
   ·rcases c with⟨d,e,g⟩|⟨r2,q2,d,e,g⟩
    ·exact .inl ⟨d,e,g⟩
    ·exact .inr ⟨r2,q2,d,O _ _ e (λR=>Q _ R ⟨1,0,8,d⟩),g⟩
   ·intro s ⟨p,o,m,j⟩ u;injection j with _ j
    subst j;have:=c.lt y u;omega
  ·rw[Co (by simp;omega)];have:i=8:=by omega
   subst this;exact V _ _ hv y
def S8.len(s:S8):s.l.length=8:=rfl
def A8A{s:S8}{l:Ha}(k:l.length=64)(u:100<L):CS (rt L (n+2)) Rj [.list 8 (CQ s.l),Tv l] (.list 8 (CQ (Ub s l).l)):=by
 intro K j;rw[eQ];unfold QW Aq;simp only[Ca];refine B5d k ?_ L 0 _ [] (by omega) (by omega) (.inl ⟨rfl,rfl,rfl⟩) EH;intro v H hv c;rcases hv with⟨_,h,_⟩|⟨r,q,rfl,h2,i⟩
 ·exact absurd h (by decide)
 refine B5e ?_ L 0 r q H (by omega) (by omega) h2 c;intro r q H hr c;rw[AX wB Bq];obtain⟨p,g,h1,h2,i,f⟩:=apt (ie:=Ah) (i2:=A3) (H:=H) (e:=B9) (sz:=1) (n:=0) (m:=8) (v:=.v (.slice none 0 0)) (src:=.list 8 (CQ s.l)) (cs:=[]) (ys:=CQ s.l) (.inl ⟨rfl,rfl,rfl⟩) (λK=>A2V) rfl (Vo _) (by decide) rfl rfl (by decide) (by decide);rw[h1];have d:=f.keep c r _ hr (λ⟨_,_,_,h⟩=>by cases h);refine B5f (s0:=s) (by rw[OL]) ?_ L 0 p q g (by omega) (by omega) h2 d (f.wf c);intro v q H hv hr c;refine B5g (a:=s.l) (b:=(dP (KX l 48) s 64).l) ?_ rfl rfl rfl L 0 _ H (by omega) (by omega) (.inl ⟨rfl,rfl,rfl⟩) hv (λs ⟨_,_,_,h⟩=>by cases h) c;intro v H hv c;rw[B5m]at hv;exact j _ _ (λb=>⟨true,kZ hv (by decide) (λx:BitVec 32=>Value.int .u32 (x.toNat:Int)) _ rfl⟩)
end
section
variable{v:AV}{H:Hp}{s:Ha}{e m:Nat}
def yR{t:TI}{cs:Is}{x y:Int}(a b:Nat){K:K2}(f:t.d=.slice e 1)(i:x=a)(j:y=b)(h1:a<=b)(h2:b<=m):GF t (.list m cs) (some (I x)) (some (I y)) none K=K (.list (b-a) ((cs.drop a).take (b-a))):=by
 subst i j;have g:GF t (.list m cs) (some (I a)) (some (I b)) none K=iN (a:Int) λl=>iN (b:Int) λh=>fN m λx=>ck ((true||(some (I (b:Int))).isSome)&&(Nat.ble l h&&(Nat.ble h x&&Nat.ble x m))) (fN (Nat.sub h l) λn=>UX (Nat.mul n 1) (CL (Nat.mul l 1) cs) λc=>K (.list n c)):=by
  obtain⟨_,_,d,z⟩:=t;simp only at f;subst f;rfl
 rw[g,KO,KO,Ep];have c:((true||(some (I (b:Int))).isSome)&&(Nat.ble a b&&(Nat.ble b m&&Nat.ble m m)))=true:=by simp only[Bool.true_or,xR,I0,Zl];omega
 rw[c];show fN (Nat.sub b a) (λn=>UX (Nat.mul n 1) (CL (Nat.mul a 1) cs) λc=>K (.list n c))=_;rw[Ep,Nw,Cs];show K (.list (b-a) ((cs.drop (a*1)).take ((b-a)*1)))=_;rw[l28,l28]
def iv:S8:=⟨1779033703,3144134277,1013904242,2773480762,1359893119,2600822924,528734635,1541459225⟩
def WN(s:Ha):Nat->S8
 |0=>iv
 |i+1=>Ub (WN s i) ((s.drop (64*i)).take 64)
def wb(w:BitVec 32):Ha:=[UInt8.ofNat (w.toNat/2^24),UInt8.ofNat (w.toNat/2^16),UInt8.ofNat (w.toNat/2^8),UInt8.ofNat w.toNat]
def UB(l:List (BitVec 32)):Nat->Ha
 |0=>[]
 |i+1=>UB l i++wb (l.getD i 0)
def UA(l:List (BitVec 32))(i:Nat):(UB l i).length=4*i:=by
 induction i with
 |zero=>rfl
 |succ i ih=>simp[UB,ih,wb];omega
def sha(s:Ha):Ha:=UB (WN (ext s) ((ext s).length/64)).l 8
variable{L n:Nat}{K:KV}{x:Af}
def B7M{l:List (BitVec 32)}(h:Rd H v n (CQ l)):∃q,Fx true depth v (.list n (CQ l)) H q:=by
 rcases h with⟨a,rfl|⟨r,q,e,rfl,h2⟩⟩
 ·exact⟨_,Qr⟩
 ·exact⟨_,UW (q':=false) h2 (by omega) (JO (λx:BitVec 32=>Value.int .u32 (x.toNat:Int)) l)⟩
def B3g{k:AV->AV->KV}{w y:AV}(hm:s.length=64*m)(C:s.length<200000000000)(t:100<L)(a:m≠0)(u:∀j,k (.list 8 (CQ (WN s m).l)) (Tv s) j H=x):
 ∀(f i:Nat)(v:AV),i<=m->m-i<f->Rd H v 8 (CQ (WN s i).l)->(i≠0->v=.list 8 (CQ (WN s i).l))->Sy L (rt L (n+2)) K k f v (Tv s) (I ((64*i:Nat):Int)) w y H=x:=by
 intro f
 induction f with
 |zero=>intro i v _ h;omega
 |succ f ih=>
  intro i v B A hv c;rw[jA];unfold S0 Aq;have r:∀K,Bi A5 (Tv s) K=K (I (s.length:Int)):=λ_=>id rfl;rw[r,CA,DA];by_cases h:i<m
  ·rw[CJ (by simp;omega)];simp(disch:=omega) only[Ck,BX];have d:((64*i:Nat):Int)+64=((64*(i+1):Nat):Int):=by omega
   unfold Tv;rw[d,yR (64*i) (64*(i+1)) rfl rfl rfl (by omega) (by omega)];have g:64*(i+1)-64*i=64:=by omega
   have p:AV.list 64 (((Ix s).drop (64*i)).take 64)=Tv ((s.drop (64*i)).take 64):=by
    unfold Tv Ix;have:((s.drop (64*i)).take 64).length=64:=by simp;omega
    rw[this,List.map_take,List.map_drop]
   rw[g,p];obtain⟨q,hq⟩:=B7M hv;rw[AX (A8A (n:=n) (s:=WN s i) (l:=(s.drop (64*i)).take 64) (by simp;omega) t) (Az hq (Az (by unfold Tv;exact Qr) Bq))];exact ih (i+1) _ (by omega) (by omega) (fR (by rw[F9];rfl)) (λ_=>rfl)
  ·rw[Co (by simp;omega)];have:i=m:=by omega
   subst this;rw[c a];exact u _
def qM{w:BitVec 32}{K:K2}:EE Ah AB (W w) K=K (By (UInt8.ofNat w.toNat)):=A6w
def B76{a b c d:UInt8}(K:KV):F4 AI 1 AB 4 [(0,1,By a),(1,1,By b),(2,1,By c),(3,1,By d)] H K=K (.sl 1 (Ay H) 0 4) ((Ay H,.cells false AI (Ix [a,b,c,d]))::H):=by
 have f:F4 AI 1 AB 4 [(0,1,By a),(1,1,By b),(2,1,By c),(3,1,By d)] H K=GP H λs=>K (.sl 1 s 0 4) ((s,.cells false AI (Ix [a,b,c,d]))::H):=rfl;rw[f,BQ]
def A9H(l:Ha):∀K:Ha->Af,fu8 (Ix l) K=K l:=by
 induction l with
 |nil=>intro K;rfl
 |cons b l ih=>
  intro K;have e:fu8 (Ix (b::l)) K=iN (b.toNat:Int) λn=>fu8 (Ix l) λl=>K (UInt8.ofNat n::l):=rfl;rw[e,KO,ih];simp
def gJ{l:Ha}{K:K2}(h:AT H e 1 v n (Ix l)):fE v H K=K (S l):=by
 have a:fE v H K=TU H v λm cs=>HB cs 0 λk=>ck (Nat.beq k m) (fu8 cs λl=>K (.v (.string ⟨⟨l⟩⟩))):=by
  rcases h with⟨rfl,_⟩|⟨r,q,rfl,_⟩<;>rfl
 have hn:(Ix l).length=n:=by
  rcases h with⟨_,rfl,h⟩|⟨r,q,_,_,h⟩
  ·rw[h];rfl
  ·omega
 rw[a,Oz h,Cz,Le,hn,tB];exact A9H l _
def B3h{k:KV}{s:S8}{v w1 D:AV}(B:∀u H,AT H AI 1 u 32 (Ix (UB s.l 8))->k u H=x):
 ∀(f i:Nat)(u:AV)(H:Hp),i<=8->8-i<f->AT H AI 1 u (4*i) (Ix (UB s.l i))->v=.list 8 (CQ s.l)->Wf H->Sz L (rt L n) K k f v w1 D u (I i) H=x:=by
 intro f
 induction f with
 |zero=>intro i v H _ h;omega
 |succ f ih=>
  intro i u H M J p hv q;rw[jB];unfold SB Mf Aq;rw[CA,DA];by_cases h:i<8
  ·rw[CJ (by simp;omega)];have r:Rd H v 8 (CQ s.l):=by subst hv;exact fR (by rw[F9];rfl)
   have y:(CQ s.l).getD i .dk=W (s.l.getD i 0):=JS h;have ia:=λK=>MS (t:=A3) r rfl (z:=i) i rfl h (K:=K);have C:=λK=>ZD (t:=Ah) r rfl (k:=i) h (K:=K);simp only[LR,ia,C,y,Hu (z:=24) (k:=24) rfl (by decide),Hu (z:=16) (k:=16) rfl (by decide),Hu (z:=8) (k:=8) rfl (by decide),qM,B76,Vh];generalize hc:[UInt8.ofNat (s.l.getD i 0>>>24).toNat,UInt8.ofNat (s.l.getD i 0>>>16).toNat,UInt8.ofNat (s.l.getD i 0>>>8).toNat,UInt8.ofNat (s.l.getD i 0).toNat]=c;have a:c.length=4:=by rw[<-hc];rfl
   have g:c=wb (s.l.getD i 0):=by rw[<-hc];unfold wb;simp only[BitVec.toNat_ushiftRight,Nat.shiftRight_eq_div_pow]
   have j:AT ((Ay H,.cells false AI (Ix c))::H) AI 1 u (4*i) (Ix (UB s.l i)):=p.lat q (Lat.cons H _ (λ_=>False)) (λ_ _ h=>h);have d:=Nn (H:=H) (e:=AI) (n:=4) (cs:=Ix c) (by rw[Nl,a]);obtain⟨N,w,h1,h2,F,A⟩:=apt (ie:=AB) (i2:=A5) j (λK=>Oz (K:=K) d) (by rw[Nl,a]) (A1D _) (by decide) rfl rfl (by show(4*i+4)*1<=_;omega) (by omega);rw[h1,Vh,Ck,BX (by omega) (by omega),OK];refine ih (i+1) _ w (by omega) (by omega) ?_ hv (A.wf (Bw q));rw[V5,g]at h2;exact h2
  ·rw[Co (by simp;omega)];have:i=8:=by omega
   subst this;exact B _ _ p
def A1u(s:Ha):∃m,(ext s).length=64*m/\64*m<=s.length+73:=by
 refine⟨(ext s).length/64,?_,?_⟩
 ·have:(ext s).length=s.length+1+Xa s.length+8:=by simp[ext,pre];omega
  unfold Xa at this;omega
 ·have:(ext s).length=s.length+1+Xa s.length+8:=by simp[ext,pre];omega
  unfold Xa at this;omega
def B0s(r:s.length<100000000000)(w:s.length+200<L):CS (rt L (n+3)) Vc [S s] (S (sha s)):=by
 intro K p;rw[oB];unfold UL Aq;simp only[Ca];obtain⟨m,hm,q⟩:=A1u s;have i:∀K:KV,F4 B9 1 Ah 8 [(0,1,(AV.v (.int .u32 1779033703))),(1,1,(AV.v (.int .u32 3144134277))),(2,1,(AV.v (.int .u32 1013904242))),(3,1,(AV.v (.int .u32 2773480762))),(4,1,(AV.v (.int .u32 1359893119))),(5,1,(AV.v (.int .u32 2600822924))),(6,1,(AV.v (.int .u32 528734635))),(7,1,(AV.v (.int .u32 1541459225)))] [] K=K (.sl 1 0 0 8) [(0,.cells false B9 (CQ iv.l))]:=λK=>B75 (H:=[]) (a:=1779033703) (b:=3144134277) (c:=1013904242) (d:=2773480762) (e:=1359893119) (f:=2600822924) (g:=528734635) (h:=1541459225) K;rw[i,AX (O' (n:=n+1) s r (by omega)) fx1];have k:m≠0:=λh=>by subst h;simp[ext]at hm
 refine B3g (n:=n) (m:=m) hm (by omega) (by omega) k ?_ L 0 _ (by omega) (by omega) ((Nn (H:=[]) rfl).rd (by decide)) (λh=>absurd rfl h);intro j;refine B3h (n:=n+2) (s:=WN (ext s) m) ?_ L 0 _ _ (by omega) (by omega) (.inl ⟨rfl,rfl,rfl⟩) rfl (Bw EH);intro u H t;rw[gJ t];have e:UB (WN (ext s) m).l 8=sha s:=by
  unfold sha;have:(ext s).length/64=m:=by omega
  rw[this]
 rw[e];exact p _ _ (λb=>⟨false,Er⟩)
end
section
variable{w:BitVec 32}{H:Hp}{ks:Hb}{k r:Nat}
def U(n:Nat):AV:=.v (.int .u64 (n:Int))
def A8I{x:BitVec 32}(i:1<=k)(h:k<32){L n:Nat}{K:KV}:(rt L (n+1)).call Fo [W x,I (-(k:Int))] H K=K (W (I7 x k)) H:=by
 rw[Pw];unfold Hd Mt;have a:∀K:K2,(EE Ab AZ (I (-(k:Int))) λv1=>Al AZ .and v1 (AV.v (.int .u64 31)) λg=>K g)=K (U (32-k)):=by
  intro K;have:k=1\/k=2\/k=3\/k=4\/k=5\/k=6\/k=7\/k=8\/k=9\/k=10\/k=11\/k=12\/k=13\/k=14\/k=15\/k=16\/k=17\/k=18\/k=19\/k=20\/k=21\/k=22\/k=23\/k=24\/k=25\/k=26\/k=27\/k=28\/k=29\/k=30\/k=31:=by omega
  rcases this with rfl|rfl|rfl|rfl|rfl|rfl|rfl|rfl|rfl|rfl|rfl|rfl|rfl|rfl|rfl|rfl|rfl|rfl|rfl|rfl|rfl|rfl|rfl|rfl|rfl|rfl|rfl|rfl|rfl|rfl|rfl<;>rfl
 rw[a];have c:∀K:K2,Al AZ .sub (AV.v (.int .u64 32)) (U (32-k)) K=K (U k):=by
  intro K;have e:Al AZ .sub (AV.v (.int .u64 32)) (U (32-k)) K=JA .u64 ((32:Int)-((32-k:Nat):Int)) λz=>K (.v (.int .u64 z)):=rfl;rw[e,XA0];have:(32:Int)-((32-k:Nat):Int)=(k:Int):=by omega
  rw[this,Uf rfl];have:(k:Int)%(2^IntKind.u64.bits:Nat)=(k:Int):=Int.emod_eq_of_lt (by omega) (by show(k:Int)<(18446744073709551616:Int);omega);rw[this];rfl
 have d:∀K:K2,Al Ah .shl (W x) (U (32-k)) K=K (W (x<<<(32-k))):=λK=>Js rfl (by omega);have f:∀K:K2,Al Ah .shr (W x) (U k) K=K (W (x>>>k)):=λK=>Hu rfl (by omega);rw[d,c,f,Ys];have:x<<<(32-k)|||x>>>k=I7 x k:=by unfold I7;exact BitVec.or_comm _ _
 rw[this]
def B3r{L n:Nat}{x:BitVec 32}(a:1<=k)(h:k<32):PS (rt L (n+1)) Fo [W x,I (-(k:Int))] (W (I7 x k)):=by
 refine CS.ps (λK c=>?_) (λH=>B7L);rw[A8I a h];exact c _ _ (λb=>⟨false,fxq⟩)
def UV(ks:Hb):Is:=ks.map λk:Nat=>.v (.int .i64 (k:Int))
def A2I{l:Hb}(h:k<l.length):(UV l).getD k .dk=I (l[k]:Nat):=by
 simp[UV,Tc,h]
def Qf(x:BitVec 32)(ks:Hb):BitVec 32:=ks.foldl (λa k=>a^^^I7 x k) 0
def A2S(hk:k<32){K:K2}:Nh .neg (I k) K=K (I (-(k:Int))):=by
 have e:Nh .neg (I k) K=JA .i64 (0-(k:Int)) λz=>K (.v (.int .i64 z)):=rfl;rw[e,XA0,Int.zero_sub,BX (by omega) (by omega)]
variable{L n:Nat}{K:KV}{x:Af}
def A5s{k:KV}(hk:∀k∈ks,1<=k/\k<32)(j:ks.length<32)(c:k (W (Qf w ks)) H=x):
 ∀(f i:Nat),i<=ks.length->ks.length-i<f->NX L (rt L (n+1)) K k f (W w) (W (Qf w (ks.take i))) (.list ks.length (UV ks)) (I ks.length) (I i) H=x:=by
 intro f
 induction f with
 |zero=>intro i _ h;omega
 |succ f ih=>
  intro i g d;rw[Yu];unfold NY GI Aq;rw[CA,DA];by_cases h:i<ks.length
  ·rw[CJ (by simp;omega)];have a:=hk ks[i] (Na h);rw[WL rfl (by simp[UV]) (by omega) (by omega),XV,Rm rfl,A2I h,A2S a.2,B3r a.1 a.2,RX,Ck,BX (by omega) (by omega),OK];have e:Qf w (ks.take (i+1))=Qf w (ks.take i)^^^I7 w ks[i]:=by
    unfold Qf;rw[tE h,List.foldl_append];rfl
   rw[<-e];exact ih (i+1) (by omega) (by omega)
  ·rw[Co (by simp;omega)];have:i=ks.length:=by omega
   subst this;rw[mM];exact c
def A8u(hk:∀k∈ks,1<=k/\k<32)(c:ks.length<32)(d:32<L):CS (rt L (n+2)) D2 [W w,.list ks.length (UV ks)] (W (Qf w ks)):=by
 intro K a;rw[Zh];unfold Py Aq;simp only[Ca];have e:∀K,Bi Ba (.list ks.length (UV ks)) K=K (I ks.length):=λK=>id rfl;rw[e];refine A5s hk c ?_ L 0 (by omega) (by omega);exact a _ _ (λb=>⟨false,Er⟩)
def B71:Qf w [7,18]^^^w>>>3=sg0 w:=by simp[Qf,sg0]
def B70:Qf w [17,19]^^^w>>>10=sg1 w:=by simp[Qf,sg1]
def pad(l:List (BitVec 32))(n:Nat):List (BitVec 32):=l++List.replicate (n-l.length) 0
def A10{l:List (BitVec 32)}(h:l.length<=n):(pad l n).length=n:=by simp[pad];omega
def A0Z{l:List (BitVec 32)}(w:BitVec 32)(hk:l.length=k)(h:k<n):(CQ (pad l n)).set k (W w)=CQ (pad (l++[w]) n):=by
 subst hk;have e:n-l.length=(n-(l.length+1))+1:=by omega
 simp[pad,CQ,e,l17,List.set_append_right]
def A5f{l:List (BitVec 32)}(h:k<l.length):(CQ (pad l n)).getD k .dk=W (l.getD k 0):=by
 simp[pad,CQ,Tc,h,List.getElem?_append]
def A5g{l:List (BitVec 32)}(h:l.length=n):pad l n=l:=by simp[pad,h]
def B0H(a b:Nat)(K:K2):Qa 1 Ab 2 [(0,1,I a),(1,1,I b)] K=K (.list 2 (UV [a,b])):=id rfl
def B0G(a b c:Nat)(K:K2):Qa 1 Ab 3 [(0,1,I a),(1,1,I b),(2,1,I c)] K=K (.list 3 (UV [a,b,c])):=id rfl
def sS{K:K2}(hk:∀k∈ks,1<=k/\k<32)(c:ks.length<32)(a:32<L):Ak (rt L (n+2)) D2 [W w,.list ks.length (UV ks)] H K=K (W (Qf w ks)):=
 AX (A8u hk c a) (Az Er (Az Qr Bq))
def B3l{k:AV->AV->KV}{l:Ha}{w:AV}(s:l.length=64)(j:∀q H,Ao H r=some (.cells q Cn (CQ (pad (w16 l 16) 64)))->Wf H->k (Tv l) (.ptr r 0 0) (I 16) H=x):
 ∀(f i:Nat)(q:Bool)(H:Hp),i<=16->16-i<f->Ao H r=some (.cells q Cn (CQ (pad (w16 l i) 64)))->Wf H->KJ L (rt L n) K k f (Tv l) (.ptr r 0 0) w (I i) H=x:=by
 intro f
 induction f with
 |zero=>intro i q H _ h;omega
 |succ f ih=>
  intro i q H p m hr a;rw[Vf];unfold KL Mf Aq;rw[CA,DA];by_cases h:i<16
  ·rw[CJ (by simp;omega)];simp(disch:=omega) only[LQ,Ck,BX,LR,A6s,Rm (t:=AB) rfl,qN,Js (z:=24) (k:=24) rfl (by decide),Js (z:=16) (k:=16) rfl (by decide),Js (z:=8) (k:=8) rfl (by decide),Ys];have c:((4:Int)*(i:Int)).toNat=4*i:=by omega
   have d:((4:Int)*(i:Int)+1).toNat=4*i+1:=by omega
   have e:((4:Int)*(i:Int)+2).toNat=4*i+2:=by omega
   have g:((4:Int)*(i:Int)+3).toNat=4*i+3:=by omega
   rw[c,d,e,g,vI,D3 i rfl rfl (by omega),LR,D9 hr (by rw[F9,A10 (by rw[Xh];omega)];omega) rfl rfl rfl,Vh,A0Z _ (Xh l i) (by omega),<-vT,OK];exact ih (i+1) q _ (by omega) (by omega) (A4 hr) (BF a)
  ·rw[Co (by simp;omega)];have:i=16:=by omega
   subst this;exact j _ _ hr a
def B3m{k:KV}{l:Ha}{w0 w1:AV}(C:100<L)(u:∀q H,Ao H r=some (.cells q Cn (CQ (KX l 48)))->Wf H->k (.ptr r 0 0) H=x):
 ∀(f i:Nat)(q:Bool)(H:Hp),i<=48->48-i<f->Ao H r=some (.cells q Cn (CQ (pad (KX l i) 64)))->Wf H->KK L (rt L (n+2)) K k f w0 (.ptr r 0 0) (I ((16+i:Nat):Int)) w1 H=x:=by
 intro f
 induction f with
 |zero=>intro i q H _ h;omega
 |succ f ih=>
  intro i q H F D hr d;rw[Vg];unfold KM Mf Aq;rw[CA,DA];have c:=OL l i;by_cases h:i<48
  ·rw[CJ (by simp;omega)];have J:(CQ (pad (KX l i) 64)).length=64:=by rw[F9,A10 (by rw[c];omega)]
   have e:((16+i:Nat):Int)-15=((i+1:Nat):Int):=by omega
   have g:((16+i:Nat):Int)-2=((i+14:Nat):Int):=by omega
   have j:((16+i:Nat):Int)-16=((i:Nat):Int):=by omega
   have m:((16+i:Nat):Int)-7=((i+9:Nat):Int):=by omega
   have ia:=λ(k:Nat)hk K=>D3 (t:=BB) (s:=r) (z:=(k:Int)) k (K:=K) rfl rfl hk;have y:=λk hk K=>AH (t:=Ah) (p:=k) (K:=K) rfl hr hk;have a:=λk hk=>A5f (n:=64) (l:=KX l i) (k:=k) hk;simp(disch:=omega) only[Gx,BX,LR,e,g,j,m,ia,y,a];have i1:∀K,Qa 1 Ab 2 [(0,1,.v (.int .i64 7)),(1,1,.v (.int .i64 18))] K=K (.list 2 (UV [7,18])):=λK=>B0H 7 18 K;have i2:∀K,Qa 1 Ab 2 [(0,1,.v (.int .i64 17)),(1,1,.v (.int .i64 19))] K=K (.list 2 (UV [17,19])):=λK=>B0H 17 19 K;have A:∀w K,Ak (rt L (n+2)) D2 [W w,.list 2 (UV [7,18])] H K=K (W (Qf w [7,18])):=λw K=>sS (ks:=[7,18]) (by decide) (by decide) (by omega);have B:∀w K,Ak (rt L (n+2)) D2 [W w,.list 2 (UV [17,19])] H K=K (W (Qf w [17,19])):=λw K=>sS (ks:=[17,19]) (by decide) (by decide) (by omega);simp(disch:=omega) only[LR,a,i1,i2,A,B,Hu (z:=3) (k:=3) rfl (by decide),Hu (z:=10) (k:=10) rfl (by decide),RX,MT,B71,B70];rw[D9 hr (by omega) rfl rfl rfl,Vh,A0Z _ c (by omega),Ck,BX (by omega) (by omega),OK];exact ih (i+1) q _ (by omega) (by omega) (A4 hr) (BF d)
  ·rw[Co (by simp;omega)];have:i=48:=by omega
   subst this;rw[A5g (by rw[OL])]at hr;exact u _ _ hr d
def arr(l:List (BitVec 32)):AV:=.agg (CQ l)
def N_{l:Ha}(a:l.length=64)(e:100<L):CS (rt L (n+3)) LL [Tv l] (arr (KX l 48)):=by
 intro K d;rw[VO];unfold L6 Aq;simp only[Ca];rw[AW (cs:=CQ (pad (w16 l 0) 64)) rfl];refine B3l a ?_ L 0 true _ (by omega) (by omega) (Av (by simp)) (Bw EH);intro q H hr c;refine B3m (n:=n) (l:=l) e ?_ L 0 q H (by omega) (by omega) hr c;intro q H hr c;have a:(CQ (KX l 48)).length=64:=by rw[F9,OL]
 rw[AR rfl a.symm hr,Bx hr rfl a.symm (Vo _),AR rfl a.symm (A4 hr)];exact d _ _ (λb=>⟨false,PJ (JO (λx:BitVec 32=>Value.int .u32 (x.toNat:Int)) _)⟩)
end
section
variable{q q0:Bool}{H H' H0:Hp}{D e0 r r8 s0:Nat}{P:Nat->Prop}{y:Row}
def B4w{b:Bool}{sz s o n:Nat}{e:TypeId}{cs cs':Is}{q':Bool}(g:Ao H s=some (.cells q e cs))(hn:o+n*sz<=cs.length)(h:Qi b D ((cs.drop o).take (n*sz)) cs' H q'):Fx b (D+1) (.sl sz s o n) (.list n cs') H true:=λK=>by
 have d:IG b H (D+1) (.sl sz s o n) K=IZ H s λx=>KY x λ_ cs=>Fb (Nat.mul n sz) (CL o cs) λc=>Hy (IG b H D) c λ_ a=>K true (.list n a):=rfl;rw[d,BO g];have f:(KY (.cells q e cs) λ_ cs=>Fb (Nat.mul n sz) (CL o cs) λc=>Hy (IG b H D) c λ_ a=>K true (.list n a))=Fb (n*sz) (CL o cs) λc=>Hy (IG b H D) c λ_ a=>K true (.list n a):=rfl;rw[f,Cs,MK _ _ _ (by simp;omega),h]
def A6j{r o n e:Nat}{cs:Is}{K:Nat->Is->Af}(a:Ao H r=some (.cells q e cs))(hn:o+n<=cs.length):TU H (.sl 1 r o n) K=K n ((cs.drop o).take n):=by
 have:TU H (.sl 1 r o n) K=IZ H r λx=>KY x λ_ cs=>Fb (Nat.mul n 1) (CL o cs) λc=>K n c:=rfl;rw[this,BO a];show Fb (Nat.mul n 1) (CL o cs) (λc=>K n c)=_;have e:Nat.mul n 1=n:=l28 n;rw[e,Cs,MK _ _ _ (by simp;omega)]
def A05{n r e:Nat}(a b:Nat){cs:Is}{d c:Option AV}{K:K2}(g:∀K:Nat->Af,TV d 0 K=K a)(f:∀K:Nat->Af,TV c n K=K b)(j:Ao H r=some (.cells q e cs))(hn:n<=cs.length)(h1:a<=b)(h2:b<=n):oM n 1 (.ptr r 0 0) d c H K=K (.sl 1 r a (b-a)):=by
 have i:oM n 1 (.ptr r 0 0) d c H K=IZ H r λy=>KY y λ_ cs=>HB cs 0 λcl=>ck (Nat.ble (Nat.add 0 (Nat.mul n 1)) cl) (TV d 0 λl=>TV c n λh=>ck (Nat.ble l h&&Nat.ble h n) (fN (Nat.add 0 (Nat.mul l 1)) λk=>fN (Nat.sub h l) λm=>K (.sl 1 r k m))):=rfl;rw[i,BO j];show HB cs 0 _=_;rw[Cz,g,f,Ep,Ep];have f1:Nat.ble (Nat.add 0 (Nat.mul n 1)) (0+cs.length)=true:=by rw[Zl];show 0+n*1<=_;omega
 have f2:(Nat.ble a b&&Nat.ble b n)=true:=by simp only[I0,Zl];omega
 have f3:Nat.add 0 (Nat.mul a 1)=a:=by show 0+a*1=a;omega
 rw[f1,f2,f3];rfl
def B4Y{r o n m e:Nat}{cs ys:Is}{src:AV}{K:KV}(c:∀K:Nat->Is->Af,TU H src K=K m ys)(d:ys.length=m)(hm:m<=n)(hn:0<n)(h1:ys.all AV.one=true)(hk:Xp 1 src=true)(a:Ao H r=some (.cells q e cs))(f:o+m<=cs.length):zD 1 (.sl 1 r o n) src H K=K (I m) (upd H r (.cells q e (splice cs o ys))):=by
 unfold zD;rw[c,Cz];have f1:(Nat.beq (0+ys.length) (Nat.mul m 1)&&(Nat.beq 1 1&&(Nat.blt 0 n&&(Nat.ble m n&&(Qb ys&&Xp 1 src)))))=true:=by
  have:Nat.mul m 1=m:=l28 m;rw[FV,h1,hk,d,this,Le,tB];simp only[xR,uT,tB,I0,Ua,Zl];omega
 simp only[f1];show IZ H r _=_;rw[BO a];show D8 o ys cs _=_;rw[Ii _ _ _ _ (by omega),CX];rfl
def Lat.upd_new(k:Lat H H' P)(hr:Ay H<=r):Lat H (Go.Abs.upd H' r y) P:=
 ⟨λw=>BF (k.wf w),by rw[CU];exact k.nx,λw s x a hn=>by rw[Aj (by have:=w.lt a;omega)];exact k.keep w s x a hn⟩
def Lat.new(k:Lat H H' P):Lat H ((Ay H',y)::H') P:=k.trans (Lat.cons H' y P) (λ_ _ h=>h) (λ_ _ h=>h)
def Lat.upd_old(k:Lat H H' P)(hr:P r):Lat H (Go.Abs.upd H' r y) P:=k.trans (Lat.upd H' r y hr) (λ_ _ h=>h) (λ_ _ h=>h)
def Chk(H:Hp)(v:AV)(l:Ha):Prop:=v=Tv l\/∃r o q e cs,v=.sl 1 r o l.length/\Ao H r=some (.cells q e cs)/\o+l.length<=cs.length/\(cs.drop o).take l.length=Ix l
def A9D{b:Bool}(l:Ha):Qi b D (Ix l) (Ix l) H false:=JO (λb:UInt8=>Value.int .u8 (b.toNat:Int)) l
def Chk.fx{v:AV}{l:Ha}(h:Chk H v l):∃q,Fx true depth v (Tv l) H q:=by
 rcases h with rfl|⟨r,o,q,e,cs,rfl,h1,h2,a⟩
 ·exact⟨_,Qr⟩
 ·exact⟨_,B4w h1 (by omega) (by rw[l28,a];exact A9D l)⟩
variable{L n:Nat}{K:KV}{x:Af}
def B9m(s:S8)(k w:BitVec 32):(CQ [s.h+Qf s.e [6,11,25]+((s.e&&&s.f)^^^(~~~s.e&&&s.g))+k+w+(Qf s.a [2,13,22]+((s.a&&&s.b)^^^(s.a&&&s.c)^^^(s.b&&&s.c))),s.a,s.b,s.c,s.d+(s.h+Qf s.e [6,11,25]+((s.e&&&s.f)^^^(~~~s.e&&&s.g))+k+w),s.e,s.f,s.g])=CQ (rnd s k w).l:=by
 have i:Qf s.e [6,11,25]=I7 s.e 6^^^I7 s.e 11^^^I7 s.e 25:=by simp[Qf]
 have j:Qf s.a [2,13,22]=I7 s.a 2^^^I7 s.a 13^^^I7 s.a 22:=by simp[Qf]
 rw[i,j,A4y]
def B5k{k:AV->AV->AV->AV->KV}{ws:List (BitVec 32)}{s0:S8}{r2 r8:Nat}{v0 w5:AV}(Z:ws.length=64)(hL:100<L)(h2:Ay H0<=r2)(R:Ay H0<=r8)(F:r2≠r8)(hx:∀A u H,Ao H r8=some (.cells A u (CQ (dP ws s0 64).l))->Lat H0 H (λ_=>False)->Wf H->k v0 (.ptr r2 0 0) (.ptr r8 0 0) (arr kk) (I 64) H=x):
 ∀(f i:Nat)(q2:Bool)(Q:Nat)(A:Bool)(u:Nat)(H:Hp),i<=64->64-i<f->Ao H r2=some (.cells q2 Q (CQ ws))->Ao H r8=some (.cells A u (CQ (dP ws s0 i).l))->Lat H0 H (λ_=>False)->Wf H->
  I8 L (rt L (n+2)) K k f v0 (.ptr r2 0 0) (.ptr r8 0 0) (arr kk) (I i) w5 H=x:=by
 intro f
 induction f with
 |zero=>intro i _ _ _ _ H _ h;omega
 |succ f ih=>
  intro i q2 Q A u H hi hf M j J hw;rw[RJ];unfold IA Mf Aq;rw[CA,DA];by_cases h:i<64
  ·rw[CJ (by simp;omega)];generalize hs:dP ws s0 i=s at j;have g0:(CQ s.l).getD 0 .dk=W s.a:=id rfl;have g1:(CQ s.l).getD 1 .dk=W s.b:=id rfl;have g2:(CQ s.l).getD 2 .dk=W s.c:=id rfl;have g4:(CQ s.l).getD 4 .dk=W s.e:=id rfl;have g5:(CQ s.l).getD 5 .dk=W s.f:=id rfl;have g6:(CQ s.l).getD 6 .dk=W s.g:=id rfl;have g7:(CQ s.l).getD 7 .dk=W s.h:=id rfl;have gw:(CQ ws).getD i .dk=W (ws.getD i 0):=JS (by omega);have i0:=λK=>D3 (t:=AA) (s:=r8) (z:=0) 0 (K:=K) rfl rfl (by decide);have i1:=λK=>D3 (t:=AA) (s:=r8) (z:=1) 1 (K:=K) rfl rfl (by decide);have i2:=λK=>D3 (t:=AA) (s:=r8) (z:=2) 2 (K:=K) rfl rfl (by decide);have i4:=λK=>D3 (t:=AA) (s:=r8) (z:=4) 4 (K:=K) rfl rfl (by decide);have i5:=λK=>D3 (t:=AA) (s:=r8) (z:=5) 5 (K:=K) rfl rfl (by decide);have i6:=λK=>D3 (t:=AA) (s:=r8) (z:=6) 6 (K:=K) rfl rfl (by decide);have i7:=λK=>D3 (t:=AA) (s:=r8) (z:=7) 7 (K:=K) rfl rfl (by decide);have iw:=λK=>D3 (t:=BB) (s:=r2) (z:=(i:Int)) i (K:=K) rfl rfl h;have l8:(CQ s.l).length=8:=rfl;have lw:(CQ ws).length=64:=by rw[F9,Z]
   have j1:∀K,Qa 1 Ab 3 [(0,1,.v (.int .i64 6)),(1,1,.v (.int .i64 11)),(2,1,.v (.int .i64 25))] K=K (.list 3 (UV [6,11,25])):=λK=>B0G 6 11 25 K;have j2:∀K,Qa 1 Ab 3 [(0,1,.v (.int .i64 2)),(1,1,.v (.int .i64 13)),(2,1,.v (.int .i64 22))] K=K (.list 3 (UV [2,13,22])):=λK=>B0G 2 13 22 K;have m1:∀w K,Ak (rt L (n+2)) D2 [W w,.list 3 (UV [6,11,25])] H K=K (W (Qf w [6,11,25])):=λw K=>sS (ks:=[6,11,25]) (by decide) (by decide) (by omega);have m2:∀w K,Ak (rt L (n+2)) D2 [W w,.list 3 (UV [2,13,22])] H K=K (W (Qf w [2,13,22])):=λw K=>sS (ks:=[2,13,22]) (by decide) (by decide) (by omega);have la:=λ(k:Nat)hk K=>AH (t:=Ah) (p:=k) (K:=K) rfl j hk;have O:=λ(k:Nat)hk K=>AH (t:=Ah) (p:=k) (K:=K) rfl M hk;have ki:∀K,Yp BB Ah (arr kk) (I i) K=K (W (kk.getD i 0)):=λK=>by
    unfold arr;rw[A1y i rfl rfl rfl h (by rw[F9,X'];decide),B0N h]
   simp(disch:=omega) only[LR,Vh,i0,i1,i2,i4,i5,i6,i7,iw,la,O,g0,g1,g2,g4,g5,g6,g7,gw,ki,j1,j2,m1,m2,RX,qP,MT,qH];rw[A05 1 8 (λK=>rfl) (λK=>rfl) j (by omega) (by decide) (by decide),LR,A05 0 7 (λK=>rfl) (λK=>rfl) j (by omega) (by decide) (by decide),LR];rw[B4Y (λK=>A6j j (by omega)) rfl (by decide) (by decide) rfl rfl j (by rw[l8];decide),Vh];clear la O j1 j2 m1 m2;have m:=A4 (q:=A) (e:=u) (cs:=CQ [s.a,s.a,s.b,s.c,s.d,s.e,s.f,s.g]) j;have C:Ao (upd H r8 (.cells A u (CQ [s.a,s.a,s.b,s.c,s.d,s.e,s.f,s.g]))) r2=some (.cells q2 Q (CQ ws)):=by rw[Aj F];exact M
   have N:=BF (r:=r8) (y:=.cells A u (CQ [s.a,s.a,s.b,s.c,s.d,s.e,s.f,s.g])) hw;have B:=J.upd_new (y:=.cells A u (CQ [s.a,s.a,s.b,s.c,s.d,s.e,s.f,s.g])) R;have X:splice (CQ s.l) 1 (((CQ s.l).drop 0).take (7-0))=CQ [s.a,s.a,s.b,s.c,s.d,s.e,s.f,s.g]:=id rfl;rw[X];generalize upd H r8 (.cells A u (CQ [s.a,s.a,s.b,s.c,s.d,s.e,s.f,s.g]))=H3 at m C N B;rw[AH rfl m (by show 4<8;decide)];have g3:(CQ [s.a,s.a,s.b,s.c,s.d,s.e,s.f,s.g]).getD 4 .dk=W s.d:=id rfl;rw[g3,MT,D9 m (by show 0<8;decide) rfl rfl rfl,D9 (A4 m) (by rw[List.length_set];show 4<8;decide) rfl rfl rfl,Ck,BX (by omega) (by omega),OK];have V:dP ws s0 (i+1)=rnd s (kk.getD i 0) (ws.getD i 0):=by rw[<-hs];rfl
   have Y:∀a d:BitVec 32,((CQ [s.a,s.a,s.b,s.c,s.d,s.e,s.f,s.g]).set 0 (W a)).set 4 (W d)=CQ [a,s.a,s.b,s.c,d,s.e,s.f,s.g]:=λ_ _=>id rfl;refine ih (i+1) q2 Q A u _ (by omega) (by omega) ?_ ?_ ((B.upd_new R).upd_new R) (BF (BF N))
   ·rw[Aj F,Aj F];exact C
   ·rw[V,<-B9m,<-Y];exact A4 (A4 m)
  ·rw[Co (by simp;omega)];have:i=64:=by omega
   subst this;exact hx _ _ _ j J hw
def B5l{k:Ru}{a b:List (BitVec 32)}{Q R V:AV}(C:a.length=8)(hb:b.length=8)(j:s0≠r8)(J:∀H,Ao H s0=some (.cells q0 e0 (CQ (Y6 a b 8)))->Lat H0 H (λt=>t=s0)->Wf H->k H=x):
 ∀(f i:Nat)(v:Bool)(g:Nat)(H:Hp),i<=8->8-i<f->Ao H s0=some (.cells q0 e0 (CQ (Y6 a b i++a.drop i)))->Ao H r8=some (.cells v g (CQ b))->Lat H0 H (λt=>t=s0)->Wf H->
  I9 L (rt L n) K k f (.ptr s0 0 0) Q (.ptr r8 0 0) R V (I i) H=x:=by
 intro f
 induction f with
 |zero=>intro i _ _ H _ h;omega
 |succ f ih=>
  intro i v g H Y X c e d w;rw[RK];unfold IB Mf Aq;rw[CA,DA];by_cases h:i<8
  ·rw[CJ (by simp;omega)];have m:(CQ (Y6 a b i++a.drop i)).length=8:=by rw[F9,E6,PY,l0t,C];omega
   have F:(CQ b).length=8:=by rw[F9,hb]
   have A:(CQ (Y6 a b i++a.drop i)).getD i .dk=W (a.getD i 0):=by
    rw[JS (by rw[F9]at m;omega)]
    congr 1
    rw[Tc,Tc,l0n (by rw[PY];omega),PY,Nat.sub_self,fX,Nat.add_zero]
   have B:(CQ b).getD i .dk=W (b.getD i 0):=JS (by omega);have ia:=λK=>D3 (t:=AA) (s:=s0) (z:=(i:Int)) i (K:=K) rfl rfl h;have M:=λK=>D3 (t:=AA) (s:=r8) (z:=(i:Int)) i (K:=K) rfl rfl h;have N:=λK=>AH (t:=Ah) (p:=i) (K:=K) rfl c (by omega);have O:=λK=>AH (t:=Ah) (p:=i) (K:=K) rfl e (by omega);simp only[GQ,LR,ia,M,N,O,A,B,MT];rw[D9 c (by omega) rfl rfl rfl,Vh,Ck,BX (by omega) (by omega),OK];have u:(CQ (Y6 a b i++a.drop i)).set i (W (a.getD i 0+b.getD i 0))=CQ (Y6 a b (i+1)++a.drop (i+1)):=by
    rw[rB,fW];have:a.drop i=a.getD i 0::a.drop (i+1):=by rw[l11 (by omega),Tc,II (by omega)];rfl
    rw[this];unfold CQ;rw[UT,UT,List.set_append_right _ _ (by rw[WV,PY];omega),WV,PY,Nat.sub_self];rfl
   refine ih (i+1) v g _ (by omega) (by omega) ?_ ?_ (d.upd_old rfl) (BF w)
   ·rw[<-u];exact A4 c
   ·rw[Aj (Ne.symm j)];exact e
  ·rw[Co (by simp;omega)];have:i=8:=by omega
   subst this;rw[List.drop_of_length_le (by omega),fV]at c;exact J _ c d w
def B8j{s:S8}{l:Ha}{c:AV}(hl:l.length=64)(Y:100<L)(O:Wf H)(hr:Ao H s0=some (.cells q0 e0 (CQ s.l)))(hc:Chk H c l)(hx:∀H',Ao H' s0=some (.cells q0 e0 (CQ (Ub s l).l))->Lat H H' (λt=>t=s0)->Wf H'->K (.tup []) H'=x):(rt L (n+4)).call Jo [.ptr s0 0 0,c] H K=x:=by
 rw[SR];unfold Ji Aq;simp only[Ca];obtain⟨q,hq⟩:=hc.fx;rw[AX (N_ (n:=n) hl Y) (Az hq Bq)];have h0:=O.lt hr;rw[AW (cs:=CQ (List.replicate 64 0)) rfl];unfold arr;have v:=Av (H:=H) (x:=.cells true Cn (CQ (List.replicate 64 0))) (by simp);rw[Bx v (by rw[F9,F9,OL];rfl) (by rw[F9];rfl) (Vo _),GQ];have k:=A4 (q:=true) (e:=Cn) (cs:=CQ (KX l 48)) v;have m:Ao (upd ((Ay H,c_ Cn (CQ (List.replicate 64 0)))::H) (Ay H) (c_ Cn (CQ (KX l 48)))) s0=some (.cells q0 e0 (CQ s.l)):=by
  rw[Aj (by omega)];exact AQ h0 hr
 have g:=BF (r:=Ay H) (y:=.cells true Cn (CQ (KX l 48))) (Bw (x:=.cells true Cn (CQ (List.replicate 64 0))) O);have i:=((Lat.refl H (λ_=>False)).new (y:=.cells true Cn (CQ (List.replicate 64 0)))).upd_new (r:=Ay H) (y:=.cells true Cn (CQ (KX l 48))) (MZ _);generalize upd ((Ay H,c_ Cn (CQ (List.replicate 64 0)))::H) (Ay H) (c_ Cn (CQ (KX l 48)))=f at k m g i;rw[AR rfl rfl m,AW (cs:=CQ (List.replicate 8 0)) rfl];have A:=Av (H:=f) (x:=.cells true Bm (CQ (List.replicate 8 0))) (by simp);rw[Bx (vs:=CQ s.l) A rfl rfl (Vo _)];have p:=g.lt k;have X:=g.lt m;have B:=A4 (q:=true) (e:=Bm) (cs:=CQ s.l) A;have F:Ao (upd ((Ay f,c_ Bm (CQ (List.replicate 8 0)))::f) (Ay f) (c_ Bm (CQ s.l))) (Ay H)=some (c_ Cn (CQ (KX l 48))):=by
  rw[Aj (by omega)];exact AQ p k
 have J:=BF (r:=Ay f) (y:=.cells true Bm (CQ s.l)) (Bw (x:=.cells true Bm (CQ (List.replicate 8 0))) g);have j:=(i.new (y:=.cells true Bm (CQ (List.replicate 8 0)))).upd_new (r:=Ay f) (y:=.cells true Bm (CQ s.l)) (by omega);generalize upd ((Ay f,c_ Bm (CQ (List.replicate 8 0)))::f) (Ay f) (c_ Bm (CQ s.l))=V at B F J j;have hg:∀K:K2,A9 BB (AV.iptr gl0) V K=K (arr kk):=λK=>by kernel_rfl
 rw[hg];refine B5k (n:=n+1) (ws:=KX l 48) (s0:=s) (H0:=H) (by rw[OL]) Y (MZ _) (by omega) (by omega) ?_ L 0 true _ true _ V (by omega) (by omega) F B j J;intro q8 e8 Z N d Q;have C:=d.keep O s0 _ hr (λh=>h);refine B5l (a:=s.l) (b:=(dP (KX l 48) s 64).l) (H0:=H) rfl rfl (by omega) ?_ L 0 q8 e8 Z (by omega) (by omega) C N ⟨d.wf,d.nx,λw t x ht _=>d.keep w t x ht (λh=>h)⟩ Q;intro H6 M u R;exact hx H6 M u R
end
section
variable{q:Bool}{e r:Nat}{s:S8}
def eA(l:Ha)(n:Nat):Ha:=l++List.replicate (n-l.length) 0
def A5i{l:Ha}{n:Nat}(h:l.length<=n):(eA l n).length=n:=by simp[eA];omega
def A5h{l:Ha}{n k:Nat}(w:UInt8)(hk:l.length=k)(h:k<n):(Ix (eA l n)).set k (By w)=Ix (eA (l++[w]) n):=by
 subst hk;have e:n-l.length=(n-(l.length+1))+1:=by omega
 simp[eA,Ix,e,l17,List.set_append_right]
def A2t{l:Ha}{n:Nat}(h:l.length=n):eA l n=l:=by simp[eA,h]
def A7D(w:BitVec 32){j:Nat}(h:j<4):(wb w).take (j+1)=(wb w).take j++[UInt8.ofNat (w>>>(24-8*j)).toNat]:=by
 have:j=0\/j=1\/j=2\/j=3:=by omega
 rcases this with rfl|rfl|rfl|rfl<;>simp[wb,BitVec.toNat_ushiftRight,Nat.shiftRight_eq_div_pow]
def B1l(w:BitVec 32):(wb w).length=4:=rfl
variable{L n:Nat}{K:KV}{x:Af}
def B52{k:AV->AV->AV->AV->AV->KV}{w:BitVec 32}{b:Ha}{i r e:Nat}{a c:AV}(u:i<8)(hb:b.length=4*i)(p:∀H,Ao H r=some (.cells q e (Ix (eA (b++wb w) 32)))->k (.ptr r 0 0) (I i) (W w) a c (I 4) H=x):
 ∀(f j:Nat)(H:Hp),j<=4->4-j<f->Ao H r=some (.cells q e (Ix (eA (b++(wb w).take j) 32)))->Io L (rt L n) K k f (.ptr r 0 0) (I i) (W w) a c (I j) H=x:=by
 intro f
 induction f with
 |zero=>intro j H _ h;omega
 |succ f ih=>
  intro j H v t hr;rw[Rn];unfold Iq Aq;rw[CA,DA];by_cases h:j<4
  ·rw[CJ (by simp;omega)];have d:(4:Int)*(i:Int)+(j:Int)=((4*i+j:Nat):Int):=by omega
   have g:(24:Int)-8*(j:Int)=((24-8*j:Nat):Int):=by omega
   simp(disch:=omega) only[LQ,Ck,Gx,BX,d,g,qM,Hu (z:=((24-8*j:Nat):Int)) (k:=24-8*j) rfl (by omega)];have m:(b++(wb w).take j).length=4*i+j:=by rw[E6,hb,xS,B1l];omega
   rw[D3 (4*i+j) rfl rfl (by omega),D9 hr (by rw[Nl,A5i (by omega)];omega) rfl rfl rfl,A5h _ m (by omega),fW,<-A7D w h,OK];exact ih (j+1) _ (by omega) (by omega) (A4 hr)
  ·rw[Co (by simp;omega)];have:j=4:=by omega
   subst this;exact p _ hr
def B53{k:KV}{w0 w1 w5:AV}(c:10<L)(a:∀H,Ao H r=some (.cells q e (Ix (UB s.l 8)))->k (.ptr r 0 0) H=x):
 ∀(f i:Nat)(w0 w1 w5:AV)(H:Hp),i<=8->8-i<f->Ao H r=some (.cells q e (Ix (eA (UB s.l i) 32)))->Ip L (rt L n) K k f (.ptr r 0 0) w0 w1 (arr s.l) (I i) w5 H=x:=by
 intro f
 induction f with
 |zero=>intro i _ _ _ H _ h;omega
 |succ f ih=>
  intro i w0 w1 w5 H g d hr;rw[Ro];unfold Ir Aq;rw[CA,DA];by_cases h:i<8
  ·rw[CJ (by simp;omega)];simp only[Ca];unfold arr;rw[A1y i rfl rfl rfl h (by show 8<=8;decide),JS (show i<s.l.length from h)];refine B52 (b:=UB s.l i) h (UA _ _) ?_ L 0 H (by omega) (by omega) (by simpa using hr);intro H hr;rw[Ck,BX (by omega) (by omega),OK];exact ih (i+1) _ _ _ H (by omega) (by omega) hr
  ·rw[Co (by simp;omega)];have:i=8:=by omega
   subst this;rw[A2t (UA _ _)]at hr;exact a _ hr
def A4u(d:10<L):CS (rt L (n+1)) ET [arr s.l] (S (UB s.l 8)):=by
 intro K c;rw[RP];unfold IF Aq;simp only[Ca];unfold arr;rw[EM (Vo _),AW (cs:=Ix (eA (UB s.l 0) 32)) rfl];have a:Ao ((Ay [(Ay [],c_ Bm (CQ s.l))],c_ Sp (Ix (eA (UB s.l 0) 32)))::[(Ay [],c_ Bm (CQ s.l))]) (Ay [])=some (c_ Bm (CQ s.l)):=id rfl;rw[AR rfl rfl a];refine B53 (w0:=.dk) (w1:=.dk) (w5:=.dk) d ?_ L 0 _ _ _ _ (by omega) (by omega) (Av (by simp));intro H hr;have f:(Ix (UB s.l 8)).length=32:=by rw[Nl,UA]
 rw[A05 0 32 (λK=>rfl) (λK=>rfl) hr (by omega) (by decide) (by decide),gJ (e:=Sp) (.inr ⟨_,_,rfl,hr,by omega⟩)];exact c _ _ (λb=>⟨false,Er⟩)
end
section
variable{q0:Bool}{H:Hp}{e0:Nat}{t:TI}
def A2W{e r o m:Nat}{x y z:Int}(a b c:Nat){K:K2}(f:t.d=.slice e 1)(i:x=a)(j:y=b)(hz:z=c)(h1:a<=b)(h2:b<=c)(p:c<=m):GF t (.sl 1 r o m) (some (I x)) (some (I y)) (some (I z)) K=K (.sl 1 r (o+a) (b-a)):=by
 subst i j hz;have g:GF t (.sl 1 r o m) (some (I a)) (some (I b)) (some (I c)) K=iN (a:Int) λl=>iN (b:Int) λh=>iN (c:Int) λx=>ck (Nat.ble l h&&(Nat.ble h x&&Nat.ble x m)) (fN (Nat.add o (Nat.mul l 1)) λk=>fN (Nat.sub h l) λn=>K (.sl 1 r k n)):=by
  obtain⟨_,_,d,z⟩:=t;simp only at f;subst f;rfl
 rw[g,KO,KO,KO];have f1:(Nat.ble a b&&(Nat.ble b c&&Nat.ble c m))=true:=by simp only[I0,Zl];omega
 have f2:Nat.add o (Nat.mul a 1)=o+a:=by show o+a*1=_;omega
 rw[f1,f2,Ep,Ep];rfl
def A03{e r o m:Nat}{x:Int}(a:Nat){K:K2}(c:t.d=.slice e 1)(g:x=a)(h1:a<=m):GF t (.sl 1 r o m) (some (I x)) none none K=K (.sl 1 r (o+a) (m-a)):=by
 subst g;have f:GF t (.sl 1 r o m) (some (I a)) none none K=iN (a:Int) λl=>fN m λh=>fN m λx=>ck (Nat.ble l h&&(Nat.ble h x&&Nat.ble x m)) (fN (Nat.add o (Nat.mul l 1)) λi=>fN (Nat.sub h l) λn=>K (.sl 1 r i n)):=by
  obtain⟨_,_,d,z⟩:=t;simp only at c;subst c;rfl
 rw[f,KO,Ep,Ep];have f1:(Nat.ble a m&&(Nat.ble m m&&Nat.ble m m))=true:=by simp only[I0,Zl];omega
 have f2:Nat.add o (Nat.mul a 1)=o+a:=by show o+a*1=_;omega
 rw[f1,f2,Ep,Ep];rfl
def B4T{x y:Int}(h:x<=y){K:K2}:C! true (I x) (I y) K=K (I x):=by
 have:C! true (I x) (I y) K=ck (decide (IntKind.i64=IntKind.i64)) (@Bool.rec (λ_=>Af) (K (I y)) (K (I x)) (Zq x y)):=rfl;rw[this,IJ,Iz h];rfl
def B05{ty sz r o m:Nat}{K:KV}:HT ty (.sl sz r o m) H K=K (.ptr (Ay H) 0 0) ((Ay H,c_ ty [.sl sz r o m])::H):=by
 unfold HT;rw[CH,FV,BQ];rfl
def MQ{b:Bool}{K:K2}:Nh .not (Bo b) K=K (Bo (!b)):=by cases b<;>rfl
variable{L n:Nat}{K:KV}{x:Af}
def lpS(a c2 c3 c4 c5 c6 D? D! D':AV)(p:Option (Option Code)):Row:=.loop 40 [(0,a),(2,c2),(3,c3),(4,c4),(5,c5),(6,c6),(34,D?),(35,D!),(36,D')] (DZ).2.1 (DZ).2.2.1 (DZ).2.2.2 p
def A8E{d c2 c4 c5 c6 D? D! D' c:AV}{s r0:Nat}{t:S8}{l:Ha}(M:l.length=64)(F:100<L)(O:Wf H)(hr:Ao H r0=some (.cells q0 e0 (CQ t.l)))(hc:Chk H c l)(v:Ao H s=some (lpS d c2 (.ptr r0 0 0) c4 c5 c6 D? D! D' (some none)))(m:∀A,AD c A->A≠s)(f:r0≠s)(P:∀a,Ao a r0=some (.cells q0 e0 (CQ (Ub t l).l))->Ao a s=some (lpS d c2 (.ptr r0 0 0) c4 c5 c6 D? D! D' (some none))->(∀u y,Ao H u=some y->u≠r0->u≠s->Ao a u=some y)->Wf a->K (Bo true) a=x):
 Dk (E L) (rt L (n+5)) (.yl s) [c] H K=x:=by
 show OB (rt L (n+5)) s [c] H K=x;rw[Vm v (by kernel_rfl)];have j:(rt L (n+5)).run= λB=>Qy (E L) (rt L (n+4)) B:=rfl;rw[j,dY,Vt v];have i:=BF (r:=s) (y:=lpS d c2 (.ptr r0 0 0) c4 c5 c6 D? D! D' none) O;have p:Ao (upd H s (lpS d c2 (.ptr r0 0 0) c4 c5 c6 D? D! D' none)) r0=some (.cells q0 e0 (CQ t.l)):=by rw[Aj f];exact hr
 have w:Ao (upd H s (lpS d c2 (.ptr r0 0 0) c4 c5 c6 D? D! D' none)) s=some (lpS d c2 (.ptr r0 0 0) c4 c5 c6 D? D! D' none):=Jk v;have k:Chk (upd H s (lpS d c2 (.ptr r0 0 0) c4 c5 c6 D? D! D' none)) c l:=by
  rcases hc with h|⟨r,o,q,e,cs,h1,h2,C,D⟩
  ·exact .inl h
  ·refine .inr ⟨r,o,q,e,cs,h1,?_,C,D⟩;rw[Aj (m r ⟨_,_,_,h1⟩)];exact h2
 refine B8j M F i p k ?_;intro a J hb hc;have g:=hb.keep i s _ w (λh=>f h.symm);show FC a s false (some none) _=_;unfold lpS at g;rw[Vs g];refine P _ ?_ (Jk g) ?_ (BF hc)
 ·rw[Aj f];exact J
 ·intro u y N h1 h2;rw[Aj h2];refine hb.keep i u y ?_ h1;rw[Aj h2];exact N
def B4D{k:Ru}{w c2 c4 c5 c6 D? D! D':AV}{s r0 r1 r2 rm m N O em:Nat}{q0 q1 q2 J:Bool}{l:Ha}(V:100<L)(hm:l.length=64*m)(hl:l.length<200000000000)(M:r0≠s)(d1:r1≠s)(d2:r2≠s)(dm:rm≠s)(d:r1≠r0)(a:r2≠r0)(e:rm≠r0)(X:∀H,Ao H r0=some (.cells q0 e0 (CQ (WN l m).l))->Ao H s=some (lpS w c2 (.ptr r0 0 0) c4 c5 c6 D? D! D' (some none))->Wf H->k H=x):
 ∀(f i:Nat)(H:Hp),i<=m->m-i<f->Ao H r0=some (.cells q0 e0 (CQ (WN l i).l))->Ao H s=some (lpS w c2 (.ptr r0 0 0) c4 c5 c6 D? D! D' (some none))->
  Ao H r1=some (.cells q1 N [.sl 1 rm 0 l.length])->Ao H r2=some (.cells q2 O [I 64])->Ao H rm=some (.cells J em (Ix l))->Wf H->
  El L (rt L (n+5)) K k f (.yl s) (.ptr r1 0 0) (.ptr r2 0 0) (I ((64*i:Nat):Int)) H=x:=by
 intro f
 induction f with
 |zero=>intro i H _ h;omega
 |succ f ih=>
  intro i H hi Z A B h1 h2 c C;rw[JV];unfold Em;have D:∀K,A9 A5 (.ptr r1 0 0) H K=K (.sl 1 rm 0 l.length):=λK=>AH (p:=0) rfl h1 (by simp);have Y:∀K,A9 Ab (.ptr r2 0 0) H K=K (I 64):=λK=>AH (p:=0) rfl h2 (by decide);have F:∀k o K,Bi A5 (.sl 1 rm o k) K=K (I k):=λ_ _ _=>id rfl;rw[D,F,CA,DA];by_cases h:i<m
  ·rw[CJ (by simp;omega)];have P:∀K,GF A5 (.sl 1 rm 0 l.length) (some (I ((64*i:Nat):Int))) none none K=K (.sl 1 rm (0+64*i) (l.length-64*i)):=λK=>A03 _ rfl rfl (by omega);have y:((64*i:Nat):Int)+64=((64*(i+1):Nat):Int):=by omega
   have Q:∀K,GF A5 (.sl 1 rm 0 l.length) (some (I ((64*i:Nat):Int))) (some (I ((64*(i+1):Nat):Int))) (some (I ((64*(i+1):Nat):Int))) K=K (.sl 1 rm (0+64*i) (64*(i+1)-64*i)):=λK=>A2W _ _ _ rfl rfl rfl rfl (by omega) (by omega) (by omega);have R:64*(i+1)-64*i=64:=by omega
   simp(disch:=omega) only[LR,D,Y,P,F,B4T,Ck,BX,y,Q,R,Le];refine A8E (l:=(l.drop (64*i)).take 64) (by simp;omega) V C A (.inr ⟨rm,64*i,J,em,Ix l,?_,c,?_,?_⟩) B ?_ M ?_
   ·have:((l.drop (64*i)).take 64).length=64:=by simp;omega
    rw[this]
   ·have:((l.drop (64*i)).take 64).length=64:=by simp;omega
    rw[this,Nl];omega
   ·have:((l.drop (64*i)).take 64).length=64:=by simp;omega
    rw[this];unfold Ix;rw[List.map_take,List.map_drop]
   ·rintro s' ⟨_,_,_,j⟩;injection j with _ j
    subst j;exact dm
   ·intro v g q hk r;have u:∀K,A9 Ab (.ptr r2 0 0) v K=K (I 64):=λK=>AH (p:=0) rfl (hk r2 _ h2 a d2) (by decide);rw[MQ,DA,Co (by simp),u,Ck,BX (by omega) (by omega),y];exact ih (i+1) v (by omega) (by omega) g q (hk r1 _ h1 d d1) (hk r2 _ h2 a d2) (hk rm _ c e dm) r
  ·rw[Co (by simp;omega)];have:i=m:=by omega
   subst this;exact X _ A B C
end
section
variable{k:AV->AV->AV->AV->AV->AV->AV->KV}{H:Hp}{s:Ha}{y:Row}
variable{L n:Nat}{K:KV}{x:Af}
def A6X{v:AV}{l:Ha}{r0:Nat}(b:UInt8)(h:AT H AI 1 v l.length (Ix l))(w:Wf H)(hn:l.length<1000000000000)(d:Ao H r0=some y)(j:¬AD v r0):
 ∃c a,(∀K:KV,(F4 AI 1 AB 1 [(0,1,By b)] H λv1 e=>DJ AI 1 AB A5 v v1 e K)=K c a)/\AT a AI 1 c (l++[b]).length (Ix (l++[b]))/\Wf a/\Ao a r0=some y/\¬AD c r0:=by
 obtain⟨c,a,h1,h2,f,p,g,i⟩:=A6Y b h w hn;exact⟨c,a,h1,h2,f,g r0 y d j,λm=>by have:=i r0 m;have:=w.lt d;omega⟩
def B6n{r0:Nat}{w0 w1 i F w5 m p q:AV}(M:s.length<100000000000)(C:∀v H,AT H AI 1 v (pre s).length (Ix (pre s))->Wf H->Ao H r0=some y->¬AD v r0->k w0 w1 i v w5 m p q H=x):
 ∀(f j:Nat)(v:AV)(H:Hp),j<=Xa s.length->Xa s.length-j<f->AT H AI 1 v (s++[128]++List.replicate j 0).length (Ix (s++[128]++List.replicate j 0))->Wf H->Ao H r0=some y->¬AD v r0->
  Rp L (rt L n) K k f w0 w1 i v F w5 m p q H=x:=by
 intro f
 induction f with
 |zero=>intro j v H _ h;omega
 |succ f ih=>
  intro j v H A J hv g c d;rw[fF];unfold Rq Aq;have a:(s++[128]++List.replicate j (0:UInt8)).length=s.length+1+j:=by simp;omega
  have hz:Xa s.length<64:=by unfold Xa;omega
  rw[IX rfl hv,RY (by decide),GY,DA];have hm:((s++[128]++List.replicate j (0:UInt8)).length:Int).tmod 64=(((s.length+1+j)%64:Nat):Int):=by rw[a];exact(Int.ofNat_tmod _ _).symm
  rw[hm];by_cases h:j=Xa s.length
  ·subst h;have:(s.length+1+Xa s.length)%64=56:=by unfold Xa;omega
   rw[this];simp only[tD,decide_eq_false_iff_not];rw[Co (by simp)];exact C _ _ hv g c d
  ·have B:(s.length+1+j)%64≠56:=by unfold Xa at h A;omega
   rw[CJ (by simp;omega)];obtain⟨D,r,h1,h2,t,u,w⟩:=A6X (0:UInt8) hv g (by omega) c d;have e:(AV.v (.int .u8 0))=By 0:=rfl;rw[e];rw[h1];refine ih (j+1) D r (by omega) (by omega) ?_ t u w;rw[List.replicate_succ',<-fW];exact h2
def B6o{r0:Nat}{w1 e w5 r g j:AV}(Q:s.length<100000000000)(M:∀v w H,AT H AI 1 v (ext s).length (Ix (ext s))->Wf H->Ao H r0=some y->¬AD v r0->k (S s) w1 e v w w5 g j H=x):
 ∀(f i:Nat)(l:Ha)(v:AV)(H:Hp),i<=8->i<f->l++Ul s.length i=ext s->AT H AI 1 v l.length (Ix l)->Wf H->Ao H r0=some y->¬AD v r0->
  Nj L (rt L n) K k f (S s) w1 e v (I ((i:Int)-1)) w5 r g j H=x:=by
 have hz:Xa s.length<64:=by unfold Xa;omega
 intro f
 induction f with
 |zero=>intro i l v H _ h;omega
 |succ f ih=>
  intro i l v H P O c hv q m p;have J:l.length<=s.length+1+64+8:=by
   have:=congrArg List.length c;simp[ext,pre,pB]at this;omega
  rw[fG];unfold Rr Aq;rw[Kn,DA];cases i with
  |zero=>
   rw[Co (by simp)];have:l=ext s:=by simpa [Ul] using c
   subst this;exact M _ _ _ hv q m p
  |succ i=>
   rw[CJ (by simp)];have u:((i+1:Nat):Int)-1=(i:Int):=by omega
   rw[u];rw[MR rfl,LQ,LQ,BX (by omega) (by omega),BX (by omega) (by omega)];have A:(8:Int)*(s.length:Int)=((8*s.length:Nat):Int):=by omega
   have B:(8:Int)*(i:Int)=((8*i:Nat):Int):=by omega
   rw[A,B,lW (by omega)];rw[zF rfl];obtain⟨N,t,h1,h2,C,D,F⟩:=A6X (WD s.length i) hv q (by omega) m p;simp(disch:=omega) only[Gx,BX];have h1:=h1 (λd a=>Nj L (rt L n) K k f (S s) w1 e d (I ((i:Int)-1)) w5 r g j a);unfold WD at h1;rw[h1];refine ih i (l++[WD s.length i]) N t (by omega) (by omega) ?_ h2 C D F;rw[fW];exact c
def A0U{R:Rt}{N g:Nat}{cap:Is}{t:Tm}{ps:Array Tmp}{c f:Code}{K:Option (Option Code)->Ru}:dO R N (.fn (.func g) [] cap) t ps c f H K=R.call g (.yl (Ay H)::cap) ((Ay H,.loop N t ps c f (some none))::H) λ_ d=>IZ d (Ay H) λx=>Wa x λ_ _ _ _ _ a=>XA5 d (Ay H) .gone λh=>K a h:=by
 have e:dO R N (.fn (.func g) [] cap) t ps c f H K=GP H λs=>R.call g (.yl s::cap) ((s,.loop N t ps c f (some none))::H) λ_ d=>IZ d s λx=>Wa x λ_ _ _ _ _ a=>XA5 d s .gone λh=>K a h:=rfl;rw[e,BQ]
def B6y(hs:s.length<100000000000)(hL:s.length+200<L):CS (rt L (n+8)) Tp [S s] (S (sha s)):=by
 intro K hK;rw[kG];unfold SX Aq;simp only[Ca];have X:∀K:K2,Ch AA [(0,1,(AV.v (.int .u32 1779033703))),(1,1,(AV.v (.int .u32 3144134277))),(2,1,(AV.v (.int .u32 1013904242))),(3,1,(AV.v (.int .u32 2773480762))),(4,1,(AV.v (.int .u32 1359893119))),(5,1,(AV.v (.int .u32 2600822924))),(6,1,(AV.v (.int .u32 528734635))),(7,1,(AV.v (.int .u32 1541459225)))] K=K (.agg (CQ iv.l)):=λK=>by kernel_rfl
 rw[X,AW (cs:=CQ (List.replicate 8 0)) rfl];have O:=Av (H:=[]) (x:=.cells true Bm (CQ (List.replicate 8 0))) (by simp);rw[Bx (vs:=CQ iv.l) O rfl rfl (Vo _)];have B:=A4 (q:=true) (e:=Bm) (cs:=CQ iv.l) O;have J:=BF (r:=Ay []) (y:=.cells true Bm (CQ iv.l)) (Bw (x:=.cells true Bm (CQ (List.replicate 8 0))) EH);generalize upd ((Ay [],c_ Bm (CQ (List.replicate 8 0)))::[]) (Ay []) (c_ Bm (CQ iv.l))=t at B J;have P:∀K:KV,yS AI (S s) t K=K (.sl 1 (Ay t) 0 s.length) ((Ay t,.cells false AI (Ix s))::t):=λK=>by
  have e:yS AI (S s) t K=HB s 0 λn=>WK s λcs=>GP t λr=>K (.sl 1 r 0 n) ((r,.cells false AI cs)::t):=rfl;rw[e,Cz,V1,BQ,Le];rfl
 rw[P];have Y:=J.lt B;have Z:=AQ (x:=.cells false AI (Ix s)) Y B;have ad:=Bw (x:=.cells false AI (Ix s)) J;have ac:=Nn (H:=t) (e:=AI) (n:=s.length) (cs:=Ix s) (Nl s);have e:(AV.v (.int .u8 128))=By 128:=rfl;obtain⟨v',H',h1,h2,h3,h4,h5⟩:=A6X (128:UInt8) ac ad (by omega) Z (λ⟨_,_,_,hh⟩=>by injection hh with _ hh;omega);rw[e,h1];have hz:Xa s.length<64:=by unfold Xa;omega
 refine B6n hs ?_ L 0 v' H' (by omega) (by omega) (by simpa using h2) h3 h4 h5;intro v H hv F hr R;refine B6o hs ?_ L 8 (pre s) v H (by omega) (by omega) rfl hv F hr R;intro v w H hv F hr R;obtain⟨m,hm,af⟩:=A1u s;rcases hv with⟨_,h,_⟩|⟨rm,qm,rfl,D,ae⟩
 ·simp[ext]at h
 have V:rm≠Ay []:=λh=>R ⟨_,_,_,by rw[h]⟩;rw[Np];unfold FX Aq;simp only[Ca];rw[B05,tW rfl];have j:=AQ (x:=.cells true E1 [.sl 1 rm 0 (ext s).length]) (F.lt hr) hr;have c:=AQ (x:=.cells true E1 [.sl 1 rm 0 (ext s).length]) (F.lt D) D;have g:=Av (H:=H) (x:=.cells true E1 [.sl 1 rm 0 (ext s).length]) (by simp);have a:=Bw (x:=.cells true E1 [.sl 1 rm 0 (ext s).length]) F;have a1:=F.lt hr;have a2:=F.lt D;have a3:=a.lt g;generalize ((Ay H,c_ E1 [.sl 1 rm 0 (ext s).length])::H)=N at j c g a a3;have C:=AQ (x:=.cells true Fh [I 64]) (a.lt j) j;have f:=AQ (x:=.cells true Fh [I 64]) (a.lt c) c;have A:=AQ (x:=.cells true Fh [I 64]) (a.lt g) g;have i:=Av (H:=N) (x:=.cells true Fh [I 64]) (by simp);have d:=Bw (x:=.cells true Fh [I 64]) a;have a4:=a.lt j;have a5:=a.lt c;have a6:=d.lt i;generalize ((Ay N,c_ Fh [I 64])::N)=u at C f A i d a6;have l2:∀K,A9 Ab (.ptr (Ay N) 0 0) u K=K (I 64):=λK=>AH (p:=0) rfl i (by decide);rw[l2,CA,DA,Co (by decide),A0U,KA];unfold E3 Aq;simp only[Ca];have a7:=d.lt C;have a8:=d.lt f;have a9:=d.lt A;refine B4D (n:=n+1) (m:=m) (l:=ext s) (s:=Ay u) (r0:=Ay []) (r1:=Ay H) (r2:=Ay N) (rm:=rm) (by omega) hm (by omega) (by omega) (by omega) (by omega) (by omega) (by omega) (by omega) V ?_ L 0 _ (by omega) (by omega) (AQ a7 C) (Av (x:=lpS (S s) (AV.v (.string ⟨⟨[]⟩⟩)) (.ptr (Ay []) 0 0) (.sl 1 rm 0 (ext s).length) _ _ _ _ _ (some none)) (by simp[lpS])) (AQ a9 A) (AQ a6 i) (AQ a8 f) (Bw d);intro M h0 aa ag;rw[BO aa];show XA5 M (Ay u) .gone _=_;rw[CX];show A9 AA (.ptr (Ay []) 0 0) (upd M (Ay u) .gone) _=_;have Q:Ao (upd M (Ay u) .gone) (Ay [])=some (c_ Bm (CQ (WN (ext s) m).l)):=by rw[Aj (by omega)];exact h0
 rw[AR rfl rfl Q];have ab:∀K,Ak (rt L (n+7)) ET [.agg (CQ (WN (ext s) m).l)] (upd M (Ay u) .gone) K=K (S (UB (WN (ext s) m).l 8)):=λK=>AX (A4u (L:=L) (n:=n+6) (by omega)) (Az (PJ (JO (λx:BitVec 32=>Value.int .u32 (x.toNat:Int)) _)) Bq);show Ak (rt L (n+7)) ET [.agg (CQ (WN (ext s) m).l)] (upd M (Ay u) .gone) _=_;rw[ab];have e:UB (WN (ext s) m).l 8=sha s:=by
  unfold sha;have:(ext s).length/64=m:=by omega
  rw[this]
 rw[e];exact hK _ _ (λb=>⟨false,Er⟩)
end
section
variable{c:AV}{y:Bool->Af}{H:Hp}{e sz:Nat}{i2 ie:TI}
variable{L n:Nat}
def gT{q:Bool}:gdV q (.v (.bool q)) y=y true:=by cases q<;>exact id rfl
def uU:gdV true (.v (.bool false)) y=y false:=id rfl
def gFT:gdV false (.v (.bool true)) y=y false:=id rfl
def BJ{v:AV}{K:KV}:DF (some (v,H)) K=K v H:=id rfl
def WT{a b:AV}{K:K2}:B0 (.v (.bool true)) a b K=K a:=id rfl
def T2{a b:AV}{K:K2}:B0 (.v (.bool false)) a b K=K b:=id rfl
def Dg{x y:Af}:A1 (.v (.bool true)) x y=x:=id rfl
def B6{x y:Af}:A1 (.v (.bool false)) x y=y:=id rfl
def Yi:Nat->Nat->Ha
 |0,_=>[]
 |f+1,z=>if z<128 then[UInt8.ofNat z] else UInt8.ofNat (z%128+128)::Yi f (z/128)
def vC(n:Int):Nat:=if n<0 then(-2*n-1).toNat else(2*n).toNat
def enc(n:Int):Ha:=Yi 9 (vC n)
section
variable{L n:Nat}{K:K2}{u v:Nat}{z:Int}
abbrev Uu(u:Nat):AV:=.v (.int .u64 (u:Int))
def ZP{x:Int}(h1:0<=x)(h2:x<18446744073709551616):IntKind.u64.wrap x=x:=by
 simp only[IntKind.wrap,IntKind.bits,IntKind.signed];have a:(2^64:Int)=18446744073709551616:=by decide
 simp only[a,Bool.false_and,mL,if_false];omega
def A1z(a:0<=z)(h1:z<9223372036854775808):EE Ab AZ (I z) K=K (Uu z.toNat):=by
 have e:EE Ab AZ (I z) K=JA .u64 z λz=>K (.v (.int .u64 z)):=rfl;rw[e,XA0,ZP a (by omega)];exact congrArg (λz=>K (.v (.int .u64 z))) (Int.toNat_of_nonneg a).symm
def A6D:EE AZ AB (Uu u) K=K (By (UInt8.ofNat u)):=by
 have e:EE AZ AB (Uu u) K=JA .u8 (u:Int) λz=>K (.v (.int .u8 z)):=rfl;rw[e,XA0,Uf rfl];have:(u:Int)%(2^IntKind.u8.bits:Nat)=((UInt8.ofNat u).toNat:Int):=by
  rw[UInt8.toNat_ofNat'];exact(Int.natCast_emod _ _).symm
 rw[this]
def B69(h:u+v<18446744073709551616):Al AZ .add (Uu u) (Uu v) K=K (Uu (u+v)):=by
 rw[Ck,ZP (by omega) (by omega)];exact congrArg (λz=>K (.v (.int .u64 z))) (by omega)
def B0r(h:u*v<18446744073709551616):Al AZ .mul (Uu u) (Uu v) K=K (Uu (u*v)):=by
 have e:(u:Int)*(v:Int)=((u*v:Nat):Int):=(Int.natCast_mul u v).symm;rw[LQ,e,ZP (by omega) (by omega)]
def B63(h:v<=u)(a:u<18446744073709551616):Al AZ .sub (Uu u) (Uu v) K=K (Uu (u-v)):=by
 rw[Gx,ZP (by omega) (by omega)];exact congrArg (λz=>K (.v (.int .u64 z))) (by omega)
def B66(h:v≠0):Al AZ .rem (Uu u) (Uu v) K=K (Uu (u%v)):=by
 rw[RY (by omega)];exact congrArg (λz=>K (.v (.int .u64 z))) rfl
def B67(h:v≠0)(d:u<18446744073709551616):Al AZ .quo (Uu u) (Uu v) K=K (Uu (u/v)):=by
 have e:(u:Int).tdiv (v:Int)=((u/v:Nat):Int):=rfl;have a:u/v<=u:=Nat.div_le_self u v;rw[zH (by omega),e];generalize u/v=w at a;rw[ZP (by omega) (by omega)]
def B64{k:Nat}(hk:k<=64):Al AZ .shr (Uu u) (.v (.int .u64 k)) K=K (Uu (u/2^k)):=by
 have:Al AZ .shr (Uu u) (.v (.int .u64 k)) K=ck (Zq 0 (k:Int)) (fI ((u:Int).fdiv (2^(min (k:Int).toNat 64))) λz=>K (.v (.int .u64 z))):=rfl;rw[this,Mi];have h1:Zq 0 (k:Int)=true:=by rw[IJ];simp
 have h2:(u:Int).fdiv (2^(min (k:Int).toNat 64))=((u/2^k:Nat):Int):=by
  rw[XV,l1x hk];have:((2:Int)^k)=((2^k:Nat):Int):=by simp
  rw[this,Int.fdiv_eq_ediv_of_nonneg _ (Int.natCast_nonneg _)];exact(Int.natCast_ediv _ _).symm
 rw[h1,h2];rfl
def B65(h:u<9223372036854775808):Al AZ .shl (Uu u) (.v (.int .u64 1)) K=K (Uu (u*2)):=by
 have:Al AZ .shl (Uu u) (.v (.int .u64 1)) K=JA .u64 ((u:Int)*2) λz=>K (.v (.int .u64 z)):=rfl;rw[this,XA0,ZP (by omega) (by omega)];exact congrArg (λz=>K (.v (.int .u64 z))) (by omega)
def ofI{w u:Nat}(h:u<2^w):BitVec.ofInt w (u:Int)=BitVec.ofNat w u:=by
 apply BitVec.eq_of_toNat_eq;rw[BitVec.toNat_ofInt,BitVec.toNat_ofNat];omega
def B62(h:u<18446744073709551616):Al AZ .xor (Uu u) (Uu 0) K=K (Uu u):=by
 have:Al AZ .xor (Uu u) (Uu 0) K=fI (IntKind.u64.wrap ((BitVec.ofInt 64 (u:Int)^^^BitVec.ofInt 64 ((0:Nat):Int)).toNat)) λz=>K (.v (.int .u64 z)):=rfl;have e:(BitVec.ofInt 64 (u:Int)^^^BitVec.ofInt 64 ((0:Nat):Int)).toNat=u:=by
  rw[ofI h,ofI (by decide),BitVec.toNat_xor,BitVec.toNat_ofNat,BitVec.toNat_ofNat,Nat.mod_eq_of_lt h];simp
 rw[this,Mi,e,ZP (by omega) (by omega)]
def B68(h:u<18446744073709551616):Al AZ .and (Uu u) (.v (.int .u64 127)) K=K (Uu (u%128)):=by
 have:Al AZ .and (Uu u) (.v (.int .u64 127)) K=fI (IntKind.u64.wrap ((BitVec.ofInt 64 (u:Int)&&&BitVec.ofInt 64 ((127:Nat):Int)).toNat)) λz=>K (.v (.int .u64 z)):=rfl;have e:(BitVec.ofInt 64 (u:Int)&&&BitVec.ofInt 64 ((127:Nat):Int)).toNat=u%128:=by
  rw[ofI h,ofI (by decide),BitVec.toNat_and,BitVec.toNat_ofNat,BitVec.toNat_ofNat,Nat.mod_eq_of_lt h];exact Nat.and_two_pow_sub_one_eq_mod u 7
 rw[this,Mi,e,ZP (by omega) (by omega)]
def C0c{d:Nat}(h:d<128):Al AB .or (By (UInt8.ofNat d)) (.v (.int .u8 128)) K=K (By (UInt8.ofNat (d+128))):=by
 have:Al AB .or (By (UInt8.ofNat d)) (.v (.int .u8 128)) K=fI (IntKind.u8.wrap ((BitVec.ofInt 8 ((UInt8.ofNat d).toNat:Int)|||BitVec.ofInt 8 (128:Int)).toNat)) λz=>K (.v (.int .u8 z)):=rfl;have e:∀d<128,IntKind.u8.wrap ((BitVec.ofInt 8 ((UInt8.ofNat d).toNat:Int)|||BitVec.ofInt 8 (128:Int)).toNat)=((UInt8.ofNat (d+128)).toNat:Int):=by decide
 rw[this,Mi,e d h]
end
def Vv{u:Nat}:¬AD (.v (.slice none 0 0)) u:=λ⟨_,_,_,h⟩=>by cases h
def uF{v:AV}{cs ys:Is}(h:AT H e sz v n cs)(w:Wf H)(A:ys.length=sz)(h1:ys.all AV.one=true)(hsz:sz≠0)(hz:(Br ie.zero).length=sz)(t:∀s,(vX i2.d&&Xp sz (.sl sz s 0 1))=true)(hb:(n+1)*ie.bytes<=70368744177664)(j:n+1<=70368744177664):
 ∃g a,(∀K:KV,DJ e sz ie i2 v (.sl sz (Ay H) 0 1) ((Ay H,.cells false e ys)::H) K=K g a)/\AT a e sz g (n+1) (cs++ys)/\Wf a/\Ay H<=Ay a/\(∀s x,Ao H s=some x->¬AD v s->Ao a s=some x)/\(∀s,AD g s->Ay H<=s):=by
 have p:AT ((Ay H,.cells false e ys)::H) e sz v n cs:=h.lat w (Lat.cons H _ (λ_=>False)) (λ_ _ h=>h);have f:AT ((Ay H,.cells false e ys)::H) e sz (.sl sz (Ay H) 0 1) 1 ys:=.inr ⟨Ay H,false,rfl,Av (by simp),by omega⟩;obtain⟨g,a,h1,h2,q,r⟩:=apt (ie:=ie) (i2:=i2) p (λK=>Oz (K:=K) f) (by omega) h1 hsz hz (t _) hb j;have i:=(Lat.cons H (.cells false e ys) (AD v)).trans r (R:=AD v) (λ_ _ h=>h) (λ_ _ h=>h);refine⟨g,a,h1,h2,i.wf w,i.nx,λs x m hn=>i.keep w s x m hn,λs m=>?_⟩;rw[q s m];exact l1p _
def B0h{v x:AV}{cs ys:Is}(i:∀K:KV,F4 e sz ie 1 [(0,sz,x)] H K=K (.sl sz (Ay H) 0 1) ((Ay H,.cells false e ys)::H))(h:AT H e sz v n cs)(w:Wf H)(m:ys.length=sz)(h1:ys.all AV.one=true)(hsz:sz≠0)(hz:(Br ie.zero).length=sz)(p:∀s,(vX i2.d&&Xp sz (.sl sz s 0 1))=true)(hb:(n+1)*ie.bytes<=70368744177664)(g:n+1<=70368744177664):
 ∃f a,(∀K:KV,(F4 e sz ie 1 [(0,sz,x)] H λv1 j=>DJ e sz ie i2 v v1 j K)=K f a)/\AT a e sz f (n+1) (cs++ys)/\Wf a/\Ay H<=Ay a/\(∀s x,Ao H s=some x->¬AD v s->Ao a s=some x)/\(∀s,AD f s->Ay H<=s):=by
 obtain⟨f,a,a1,a2⟩:=uF (ie:=ie) (i2:=i2) h w m h1 hsz hz p hb g;exact⟨f,a,λK=>by rw[i];exact a1 K,a2⟩
def A6A{ty:Nat}{i:TI}{v:Value}{K:KV}(hz:i.zero=.v v):Bc ty i H K=K (.ptr (Ay H) 0 0) ((Ay H,c_ ty [.v v])::H):=by
 unfold Bc;rw[hz,CH,BQ];rfl
def sB{R:Rt}{m g:Nat}{cap:Is}{t:Tm}{ps:Array Tmp}{h f:Code}{K:Option (Option Code)->Ru}:
 dO R m (.fn (.func g) [] cap) t ps h f H K=R.call g (.yl (Ay H)::cap) ((Ay H,.loop m t ps h f (some none))::H) λ_ d=>IZ d (Ay H) λx=>Wa x λ_ _ _ _ _ a=>XA5 d (Ay H) .gone λi=>K a i:=by
 have e:dO R m (.fn (.func g) [] cap) t ps h f H K=GP H λs=>WJ [] (.yl s::cap) λall=>R.call g all ((s,.loop m t ps h f (some none))::H) λ_ d=>IZ d s λx=>Wa x λ_ _ _ _ _ a=>XA5 d s .gone λi=>K a i:=rfl;rw[e,BQ,LB];rfl
def qI{z:Int}{K:K2}(h1: -9223372036854775808<z)(h2:z<9223372036854775808):Nh .neg (I z) K=K (I (-z)):=by
 have e:Nh .neg (I z) K=JA .i64 (0-z) λz=>K (.v (.int .i64 z)):=rfl;rw[e,XA0,Int.zero_sub,BX (by omega) (by omega)]
def B3z{z:Int}(h1: -4611686018427387904<z)(h2:z<4611686018427387904):PS (r! L (n+1)) PM [I z] (Uu (vC z)):=by
 refine CS.ps (λK d=>?_) (λH=>λK=>by kernel_rfl);rw[Zd];unfold Pt GO;rw[CA,DA];by_cases h:z<0
 ·rw[CJ (by simpa using h),qI (by omega) (by omega),A1z (by omega) (by omega)];have a:(AV.v (.int .u64 2))=Uu 2:=rfl;have f:(AV.v (.int .u64 1))=Uu 1:=rfl;rw[a,f,B0r (by omega),B63 (by omega) (by omega)];have e:vC z=(-z).toNat*2-1:=by unfold vC;rw[CJ h];omega
  rw[<-e];exact d _ _ λb=>⟨false,λK=>by kernel_rfl⟩
 ·rw[Co (by simpa using h),A1z (by omega) (by omega)];have a:(AV.v (.int .u64 2))=Uu 2:=rfl;rw[a,B0r (by omega)];have e:vC z=z.toNat*2:=by unfold vC;rw[Co h];omega
  rw[<-e];exact d _ _ λb=>⟨false,λK=>by kernel_rfl⟩
def TE:Nat->Nat->Ha->Nat×Ha
 |0,u,l=>(u,l)
 |f+1,u,l=>if 128<=u then TE f (u/128) (l++[UInt8.ofNat (u%128+128)]) else(u,l)
theorem wS:∀(f u:Nat)(l:Ha),(TE f u l).2.length<=l.length+f
 |0,u,l=>MZ _
 |f+1,u,l=>by
  unfold TE;split
  ·have:=wS f (u/128) (l++[UInt8.ofNat (u%128+128)]);rw[E6,List.length_singleton]at this;omega
  ·show l.length<=_;omega
def A6M{b:UInt8}(K:KV):F4 AI 1 AB 1 [(0,1,By b)] H K=K (.sl 1 (Ay H) 0 1) ((Ay H,.cells false AI [By b])::H):=ZI (z:=By 0) (λK=>rfl) (λK=>rfl) rfl K
section
variable{K:KV}{x0:Af}{R:Rt}{k:AV->KV}
theorem A57:∀(f F u:Nat)(l:Ha)(v:AV)(H:Hp),u<128^(f+1)->u<18446744073709551616->f<F->AT H AI 1 v l.length (Ix l)->Wf H->l.length+f<=100->
 (∀i d,AT d AI 1 i (TE f u l).2.length (Ix (TE f u l).2)->Wf d->k (Uu (TE f u l).1) i d=x0)->NL L R K k F (Uu u) v H=x0
 |f,0,u,l,v,H,_,_,h,_,_,_,_=>by omega
 |f,F+1,u,l,v,H,g,hb,m,q,w,p,a=>by
  rw[Xv];unfold NM;have s:(AV.v (.int .u64 128))=Uu 128:=rfl;rw[s,Kn,DA];by_cases h:128<=u
  ·rw[CJ (Iz (by omega))]
   match f,g,m,p,a with
   |0,g,_,_,_=>exact absurd g (by omega)
   |f+1,g,m,p,a=>
    have j:TE (f+1) u l=TE f (u/128) (l++[UInt8.ofNat (u%128+128)]):=by rw[TE,CJ h]
    rw[j]at a;obtain⟨i,d,a1,a2,r,_⟩:=B0h (ie:=AB) (i2:=A5) (A6M (b:=UInt8.ofNat (u%128+128)) (H:=H)) q w rfl rfl (by decide) rfl (λ_=>rfl) (by show(_+1)*1<=_;omega) (by omega);rw[B66 (by decide),B69 (by omega),A6D,a1,B67 (by decide) hb];have t:Ix l++[By (UInt8.ofNat (u%128+128))]=Ix (l++[UInt8.ofNat (u%128+128)]):=V5 l [_];rw[t]at a2;refine A57 f F (u/128) _ i d ?_ (by omega) (by omega) (by rw[E6];exact a2) r (by rw[E6,List.length_singleton];omega) a;rw[Nat.pow_succ]at g;omega
  ·rw[Co (by rw[decide_eq_true_eq];omega)];have j:TE f u l=(u,l):=by cases f with|zero=>rfl|succ f=>rw[TE,Co h]
   rw[j]at a;exact a v H q w
end
theorem wT:∀(f u:Nat)(l:Ha),u<128^(f+1)->(TE f u l).2++[UInt8.ofNat (TE f u l).1]=l++Yi (f+1) u
 |0,u,l,h=>by
  have:u<128:=by simpa using h
  unfold Yi TE;rw[CJ this]
 |f+1,u,l,h=>by
  unfold Yi TE;by_cases h1:u<128
  ·rw[CJ h1,Co (by omega)]
  ·rw[Co h1,CJ (by omega),wT f (u/128) _ (by rw[Nat.pow_succ]at h;omega),fW];rfl
def B3G{z:Int}(h1: -4611686018427387904<z)(h2:z<4611686018427387904):PS (r! L (n+2)) LH [I z] (.tup [S (enc z),I 0]):=by
 refine CS.ps (λK g=>?_) (λH=>λK=>by kernel_rfl);have i:vC z<9223372036854775808:=by unfold vC;split<;>omega
 have a:=wS 8 (vC z) [];rw[Ze];unfold Pu EU Aq JR;rw[CA,Iy (by omega)];simp only[gT,BJ,DE,Iy (show¬z>4611686018427387903 by omega),T2,B6];rw[B3z (n:=n) (by omega) (by omega)];simp only[Ca];have d:vC z<128^(8+1):=by rw[show(128:Nat)^(8+1)=9223372036854775808 from by decide];omega
 refine A57 8 (L+20) (vC z) [] _ _ d (by omega) (by omega) (.inl ⟨rfl,rfl,rfl⟩) EH (by simp) λv H h w=>?_;simp at a;obtain⟨p,j,a1,a2,m,_⟩:=B0h (ie:=AB) (i2:=A5) (A6M (b:=UInt8.ofNat (TE 8 (vC z) []).1) (H:=H)) h w rfl rfl (by decide) rfl (λ_=>rfl) (by show(_+1)*1<=_;omega) (by omega);rw[A6D,a1];have f:Ix (TE 8 (vC z) []).2++[By (UInt8.ofNat (TE 8 (vC z) []).1)]=Ix (enc z):=by
  have:=wT 8 (vC z) [] d;rw[l30]at this;unfold enc;rw[<-this];exact V5 _ [_]
 rw[f]at a2;rw[gJ a2];exact g _ _ λb=>⟨false,λK=>by kernel_rfl⟩
def lpP(c4 c20:AV)(p:Option (Option Code)):Row:=.loop 33 [(2,S []),(3,I 0),(4,c4),(5,AV.dk),(6,AV.dk),(20,c20),(21,AV.dk),(22,AV.dk),(23,AV.dk),(24,AV.dk),(25,AV.dk),(26,AV.dk),(27,AV.dk),(28,AV.dk),(29,AV.dk),(30,AV.dk)] (D6).2.1 (D6).2.2.1 (D6).2.2.2 p
structure PutC(r0 b s:Nat)(c:AV)(l:Ha)(u:Nat)(v:AV)(H:Hp):Prop where
 at_:Ao H r0=some (c_ E1 [v])
 bx:Ao H b=some (c_ Xn [Uu u])
 sl:AT H AI 1 v l.length (Ix l)
 lp:Ao H s=some (lpP (.ptr r0 0 0) c (some none))
 new:∀w,AD v w->w≠r0/\w≠b/\w≠s
 wf:Wf H
 ne:r0≠b/\r0≠s/\b≠s
def dgt(u:Nat):UInt8:=if u<128 then UInt8.ofNat (u%128) else UInt8.ofNat (u%128+128)
section
variable{K:KV}{x:Af}
def A8F{r0 b s u:Nat}{c v:AV}{l:Ha}(h:PutC r0 b s c l u v H)(hn:l.length<1000)(hx:∀f B,PutC r0 b s c (l++[dgt u]) u f B->K (Bo true) B=x):Dk (E (L+20)) (r! L (n+1)) (.yl s) [By (UInt8.ofNat (u%128)),Bo (decide (u<128))] H K=x:=by
 show OB (r! L (n+1)) s [By (UInt8.ofNat (u%128)),Bo (decide (u<128))] H K=x;rw[Vm h.lp (by kernel_rfl)];have J:(r! L (n+1)).run= λcf=>Qy (E (L+20)) (r! L n) cf:=rfl;rw[J,YU,Vt h.lp];obtain⟨ab,A,Q⟩:=h.ne;have g:=BF (r:=s) (y:=lpP (.ptr r0 0 0) c none) h.wf;have t:Ao (upd H s (lpP (.ptr r0 0 0) c none)) r0=some (c_ E1 [v]):=by rw[Aj A];exact h.at_
 have D:Ao (upd H s (lpP (.ptr r0 0 0) c none)) b=some (c_ Xn [Uu u]):=by rw[Aj Q];exact h.bx
 have M:Ao (upd H s (lpP (.ptr r0 0 0) c none)) s=some (lpP (.ptr r0 0 0) c none):=Jk h.lp;have aa:AT (upd H s (lpP (.ptr r0 0 0) c none)) AI 1 v l.length (Ix l):=h.sl.lat h.wf (Lat.upd H s _ (P:=λu=>u=s) rfl) (λu d=>(h.new u d).2.2);have ae:Ay (upd H s (lpP (.ptr r0 0 0) c none))=Ay H:=CU _ _ _;show jn _ _=_;have key:∀(k:KV)(C:Hp),k (By (dgt u)) C=x->(jn k λO=>Nh .not (Bo (decide (u<128))) λac=>A1 ac (Al AB .or (By (UInt8.ofNat (u%128))) (.v (.int .u8 128)) λad=>O ad C) (O (By (UInt8.ofNat (u%128))) C))=x:=λk C hk=>by
  rw[Ca,MQ];unfold dgt at hk;by_cases d:u<128
  ·rw[CJ d]at hk;rw[Iz d];exact hk
  ·rw[Co d]at hk;rw[Iy d];show A1 (.v (.bool true)) _ _=_;rw[Dg,C0c (by omega)];exact hk
 refine key _ (upd H s (lpP (.ptr r0 0 0) c none)) ?_;show A9 A5 (.ptr r0 0 0) (upd H s (lpP (.ptr r0 0 0) c none)) _=_;generalize upd H s (lpP (.ptr r0 0 0) c none)=C at*;rw[AH (p:=0) rfl t (by simp)];obtain⟨f,B,h1,h2,V,h4,X,h6⟩:=B0h (ie:=AB) (i2:=A5) (A6M (b:=dgt u) (H:=C)) aa g rfl rfl (by decide) rfl (λ_=>rfl) (by show(_+1)*1<=_;omega) (by omega);rw[show([v]:Is).getD 0 .dk=v from rfl,h1];have e3:Ix l++[By (dgt u)]=Ix (l++[dgt u]):=V5 l [_];rw[e3]at h2;have n0:¬AD v r0:=λd=>(h.new r0 d).1 rfl;have nb:¬AD v b:=λd=>(h.new b d).2.1 rfl;have ns:¬AD v s:=λd=>(h.new s d).2.2 rfl;have F:=X r0 _ t n0;have Y:=X b _ D nb;have Z:=X s _ M ns;have i:Br f=[f]/\AV.one f=true:=by
  rcases h2 with⟨rfl,_⟩|⟨a,b,rfl,_⟩<;>exact⟨rfl,rfl⟩
 rw[D9 (q:=true) (e:=E1) (cs:=[v]) F (by simp) rfl i.1 i.2];have a2:=g.lt t;have a3:=g.lt D;have a4:=g.lt M;have m:∀w,AD f w->w≠r0/\w≠b/\w≠s:=λw d=>by
  have a1:=h6 w d;exact⟨by omega,by omega,by omega⟩
 have N:Ao (upd B r0 (c_ E1 [f])) s=some (lpP (.ptr r0 0 0) c none):=by rw[Aj (Ne.symm A)];exact Z
 show FC (upd B r0 (c_ E1 [f])) s false (some none) _=_;have j:=N;unfold lpP at j;rw[Vs j];refine hx f _ ⟨?_,?_,?_,Jk N,m,BF (BF V),h.ne⟩
 ·rw[Aj A];exact A4 F
 ·rw[Aj Q,Aj (Ne.symm ab)];exact Y
 ·rw[E6];have a:=h2.lat V (Lat.upd B r0 (c_ E1 [f]) (P:=λu=>u=r0) rfl) (λu d=>(m u d).1);exact a.lat (BF V) (Lat.upd _ s _ (P:=λu=>u=s) rfl) (λu d=>(m u d).2.2)
theorem pW{r0 b s:Nat}:∀(f F u:Nat)(l:Ha)(v:AV)(H:Hp),u<128^(f+1)->u<18446744073709551616->f<F->PutC r0 b s c l u v H->l.length+f<100->
 (∀t g a,PutC r0 b s c (l++Yi (f+1) u) t g a->K (.tup []) a=x)->HY (L+20) (r! L (n+1)) K F (.yl s) (.ptr b 0 0) H=x
 |f,0,u,l,v,H,_,_,h,_,_,_=>by omega
 |f,F+1,u,l,v,H,d,hb,A,C,B,i=>by
  rw[Ug];unfold Kw EU JR;have w:∀{K:K2},A9 AZ (.ptr b 0 0) H K=K (Uu u):=λ{K}=>AH (p:=0) rfl C.bx (by simp);have N:decide ((u:Int)<128)=decide (u<128):=by
   by_cases h:u<128
   ·rw[Iz h,Iz (by omega)]
   ·rw[Iy h,Iy (by omega)]
  rw[w,CA,w,B68 hb,A6D,N];refine A8F C (by omega) λg a hc=>?_;rw[MQ];have J:∀{K:K2},A9 AZ (.ptr b 0 0) a K=K (Uu u):=λ{K}=>AH (p:=0) rfl hc.bx (by simp);by_cases h:u<128
  ·rw[Iz h];show(DF (gdV false (.v (.bool false)) _) _)=_;simp only[gT,BJ,T2,Dg];refine i u g a ?_;unfold Yi;rw[CJ h];have:dgt u=UInt8.ofNat u:=by unfold dgt;rw[CJ h,Nat.mod_eq_of_lt h]
   rw[<-this];exact hc
  ·rw[Iy h];show(DF (gdV false (.v (.bool false)) _) _)=_;simp only[gT,BJ,T2,B6,J];have M:∀{K:K2},Al AZ .shr (Uu u) (AV.v (.int .u64 7)) K=K (Uu (u/128)):=λ{K}=>B64 (k:=7) (by decide);rw[M,D9 (q:=true) (e:=Xn) (cs:=[Uu u]) hc.bx (by simp) rfl rfl rfl];obtain⟨m,O,r⟩:=hc.ne;have j:PutC r0 b s c (l++[dgt u]) (u/128) g (upd a b (c_ Xn [Uu (u/128)])):=
    ⟨by rw[Aj m];exact hc.at_,A4 hc.bx,hc.sl.lat hc.wf (Lat.upd a b _ (P:=λu=>u=b) rfl) (λu d=>(hc.new u d).2.1),by rw[Aj (Ne.symm r)];exact hc.lp,hc.new,BF hc.wf,hc.ne⟩
   match f,d,A,B,i with
   |0,d,_,_,_=>exact absurd d (by omega)
   |f+1,d,A,B,i=>
    refine pW f F (u/128) _ g _ (by rw[Nat.pow_succ]at d;omega) (by omega) (by omega) j (by rw[E6,List.length_singleton];omega) λt Q D h2=>i t Q D ?_;have e:Yi (f+1+1) u=dgt u::Yi (f+1) (u/128):=by
     rw[Yi,Co h];unfold dgt;rw[Co h]
    rw[e];rw[fW]at h2;exact h2
end
def B1v{z:Int}(h1:0<=z)(h2:z<4611686018427387904):PS (r! L (n+4)) Kj [I z] (.tup [S (enc z),I 0]):=by
 refine CS.ps (λK f=>?_) (λH=>λK=>by kernel_rfl);obtain⟨k,rfl⟩:∃k:Nat,z=(k:Int):=⟨z.toNat,by omega⟩
 have hz:vC k=k*2:=by unfold vC;rw[Co (by omega)];omega
 rw[eC];unfold QQ EU Aq JR;rw[CA,Iy (by omega)];simp only[gT,BJ,DE,Iy (show¬(k:Int)>4611686018427387903 by omega),T2,B6];rw[A6A (v:=.slice none 0 0) rfl];simp only[Ca];have d:∀{K:K2},Al Ab .shr (I k) (AV.v (.int .u64 63)) K=K (I 0):=λ{K}=>by
  have e:Al Ab .shr (I k) (AV.v (.int .u64 63)) K=fI ((k:Int).fdiv (2^63)) λz=>K (.v (.int .i64 z)):=rfl;rw[e,Mi,show(k:Int).fdiv (2^63)=0 from by rw[Int.fdiv_eq_ediv_of_nonneg _ (by decide)];omega]
 have a:∀{K:K2},EE Ab AZ (I 0) K=K (Uu 0):=λ{K}=>A1z (by omega) (by omega);rw[A1z (by omega) (by omega),XV,B65 (by omega),d,a,B62 (by omega),eB];unfold QP GO;rw[tW rfl];simp only[];rw[sB,VE];unfold Lu;refine pW (c:=.fn (.func Qs) [] [.ptr 1 0 0]) (r0:=0) (b:=1) (s:=2) 8 (L+20) (k*2) [] (.v (.slice none 0 0)) _ (by rw[show(128:Nat)^(8+1)=9223372036854775808 from by decide];omega) (by omega) (by omega) ⟨rfl,rfl,.inl ⟨rfl,rfl,rfl⟩,rfl,λw i=>absurd i Vv,?_,by decide⟩ (by simp) λj v H hc=>?_
 ·exact Bw (Bw (Bw EH))
 ·show IZ H 2 _=_;rw[BO hc.lp];show XA5 H 2 .gone _=_;rw[CX];have hr:Ao (upd H 2 .gone) 0=some (c_ E1 [v]):=by rw[Aj (by decide)];exact hc.at_
  show A9 A5 (.ptr 0 0 0) (upd H 2 .gone) _=_;rw[AH (p:=0) rfl hr (by simp)];have g:=hc.sl.lat hc.wf (Lat.upd H 2 .gone (P:=λu=>u=2) rfl) (λu h=>(hc.new u h).2.2);rw[show([v]:Is).getD 0 .dk=v from rfl,gJ g];have e:enc (k:Int)=[]++Yi (8+1) (k*2):=by rw[l30];unfold enc;rw[hz]
  rw[<-e];exact f _ _ λb=>⟨false,λK=>by kernel_rfl⟩
end
end Go.Abs
end
