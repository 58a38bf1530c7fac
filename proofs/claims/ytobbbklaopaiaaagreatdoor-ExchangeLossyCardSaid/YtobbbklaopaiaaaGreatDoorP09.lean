import Derived.Test.YtobbbklaopaiaaaGreatDoorP08
set_option linter.all false
set_option maxHeartbeats 100000000
noncomputable section
namespace Go.Abs
open Go.RowKit Go.Proofs
set_option maxRecDepth 100000
section
variable{v w:AV}{K:K2}{x:Af}{b:Bool}{H:Hp}{s:Ha}{L e n:Nat}{R:Rt}{t t':TI}
def B9Y{l:Ha}{i:Nat}(c:t.d=.string)(h:i<l.length):iO t t' (S l) (I i) K=K (By l[i]):=by
 have e:iO t t' (S l) (I i) K=iN (i:Int) λn=>B6a (Dg n l) K:=by
  obtain⟨a,b,d,z⟩:=t;simp only at c;subst c;rfl
 rw[e,Ju,Cy,vM h];show fN l[i].toNat (λn=>K (.v (.int .u8 (.ofNat n))))=_;rw[Dy];rfl
def PQ{l:Ha}(c:t.d=.string):Bm t (S l) K=K (I l.length):=by
 have:Bm t (S l) K=G6 l 0 λn=>K (.v (.int .i64 (.ofNat n))):=by
  obtain⟨a,b,d,z⟩:=t;simp only at c;subst c;rfl
 rw[this,Cl,Jt];rfl
def Le{e sz n:Nat}{cs:Is}{f g:Nat}(c:t.d=.slice f g)(h:B0 H e sz v n cs):Bm t v K=K (I n):=by
 obtain⟨a,b,d,z⟩:=t;simp only at c;subst c;rcases h with⟨rfl,rfl,_⟩|⟨r,q,rfl,_⟩<;>rfl
def B1Y{l:Ha}(b:UInt8)(h:B0 H Bu 1 v l.length (Mr l))(w:Wf H)(hn:l.length<1000000000000):
 ∃d a,(∀K:KV,(GM Bu 1 Bl 1 [(0,1,By b)] H λv1 j=>E5 Bu 1 Bl AW v v1 j K)=K d a)/\B0 a Bu 1 d (l++[b]).length (Mr (l++[b]))/\Wf a/\As H<=As a/\(∀s x,Aj H s=some x->¬A8 v s->Aj a s=some x)/\(∀s,A8 d s->As H<=s):=by
 have i:B0 ((As H,.cells false Bu [By b])::H) Bu 1 v l.length (Mr l):=h.lat w (Lat.cons H _ (λ_=>False)) (λ_ _ h=>h);have c:=NI (H:=H) (e:=Bu) (n:=1) (cs:=[By b]) rfl;obtain⟨d,a,h1,h2,k,m⟩:=apt (ie:=Bl) (i2:=AW) i (λK=>Rq (K:=K) c) rfl rfl (by decide) rfl rfl (by show(l.length+1)*1<=_;omega) (by omega);have f:=(Lat.cons H (.cells false Bu [By b]) (A8 v)).trans m (R:=A8 v) (λ_ _ h=>h) (λ_ _ h=>h);refine⟨d,a,λK=>?_,by rw[EC,<-U_];exact h2,f.wf w,f.nx,λs x g hn=>f.keep w s x g hn,λs g=>?_⟩
 ·rw[uY (z:=By 0) (λ_=>rfl) (λ_=>rfl) rfl];exact h1 K
 ·rw[k s g];exact l1u _
def eK(n:Nat):Nat:=(119-n%64)%64
def dN(n i:Nat):UInt8:=UInt8.ofNat (8*n/2^(8*i))
def pre(s:Ha):Ha:=s++[128]++List.replicate (eK s.length) 0
def ext(s:Ha):Ha:=pre s++[dN s.length 7,dN s.length 6,dN s.length 5,dN s.length 4,dN s.length 3,dN s.length 2,dN s.length 1,dN s.length 0]
def B9M{K:KV}{k:AV->AV->AV->KV}(u:s.length<100000000000)(g:∀v H,B0 H Bu 1 v s.length (Mr s)->Wf H->k (S s) v (I s.length) w H=x):
 ∀(f i:Nat)(v:AV)(H:Hp),i<=s.length->s.length-i<f->B0 H Bu 1 v (s.take i).length (Mr (s.take i))->Wf H->NL L R K k f (S s) v (I i) w H=x:=by
 intro f
 induction f with
 |zero=>intro i v H _ h;omega
 |succ f ih=>
  intro i v H r q hv a;rw[Zp];unfold NN A3;rw[PQ rfl,DO,FA];by_cases h:i<s.length
  ·rw[Dl (by simpa using h)];rw[B9Y rfl h];obtain⟨j,c,h1,h2,d,m,p,_⟩:=B1Y s[i] hv a (by simp;omega);rw[h1];simp(disch:=omega) only[Do,CV];refine ih (i+1) j c (by omega) (by omega) ?_ d;rw[lO h];exact h2
  ·rw[C5 (by simpa using h)];have:i=s.length:=by omega
   subst this;exact g _ _ (by simpa using hv) a
def uP{j:TI}{a k:Nat}(c:k<=64):Ap j .shr (I a) (I k) K=K (I (a/2^k:Nat)):=by
 have:Ap j .shr (I a) (I k) K=ck (pG 0 (k:Int)) (fI ((a:Int).fdiv (2^(min (k:Int).toNat 64))) λz=>K (.v (.int .i64 z))):=rfl;rw[this,Vl];have h1:pG 0 (k:Int)=true:=by rw[L1];simp
 have h2:(a:Int).fdiv (2^(min (k:Int).toNat 64))=((a/2^k:Nat):Int):=by
  rw[jI,l22 c];have:((2:Int)^k)=((2^k:Nat):Int):=by simp
  rw[this,Int.fdiv_eq_ediv_of_nonneg _ (Int.natCast_nonneg _)];exact(Int.natCast_ediv _ _).symm
 rw[h1,h2];rfl
def A1T{m:Nat}(c:t'.d=.int .u8):Jc t t' (I m) K=K (By (UInt8.ofNat m)):=by
 have:Jc t t' (I m) K=Oo .u8 (m:Int) λz=>K (.v (.int .u8 z)):=by
  obtain⟨a,b,d,z⟩:=t';simp only at c;subst c;rfl
 rw[this,IQ,ZQ rfl];have:(m:Int)%(2^IntKind.u8.bits:Nat)=((UInt8.ofNat m).toNat:Int):=by
  rw[UInt8.toNat_ofNat'];exact(Int.natCast_emod _ _).symm
 rw[this]
def XF(n:Nat):Nat->Ha
 |0=>[]
 |i+1=>dN n i::XF n i
def xY(n i:Nat):(XF n i).length=i:=by
 induction i with
 |zero=>rfl
 |succ i ih=>simp[XF,ih]
def B9N{K:KV}{k:AV->AV->KV}{w1 d u:AV}(C:s.length<100000000000)(q:∀v H,B0 H Bu 1 v (pre s).length (Mr (pre s))->Wf H->k w1 v d H=x):
 ∀(f j:Nat)(v:AV)(H:Hp),j<=eK s.length->eK s.length-j<f->B0 H Bu 1 v (s++[128]++List.replicate j 0).length (Mr (s++[128]++List.replicate j 0))->Wf H->NM L R K k f w1 v d u H=x:=by
 intro f
 induction f with
 |zero=>intro j v H _ h;omega
 |succ f ih=>
  intro j v H m B hv c;rw[Zq];unfold NO A3;have a:(s++[128]++List.replicate j (0:UInt8)).length=s.length+1+j:=by simp;omega
  have hz:eK s.length<64:=by unfold eK;omega
  rw[Le rfl hv,Qu (by decide),IS,FA];have hm:((s++[128]++List.replicate j (0:UInt8)).length:Int).tmod 64=(((s.length+1+j)%64:Nat):Int):=by rw[a];exact(Int.ofNat_tmod _ _).symm
  rw[hm];by_cases h:j=eK s.length
  ·subst h;have:(s.length+1+eK s.length)%64=56:=by unfold eK;omega
   rw[this];simp only[Z?,decide_eq_false_iff_not];rw[C5 (by simp)];exact q _ _ hv c
  ·have p:(s.length+1+j)%64≠56:=by unfold eK at h m;omega
   rw[Dl (by simp;omega)];obtain⟨r,g,h1,h2,i,y,A,_⟩:=B1Y (0:UInt8) hv c (by omega);have e:(AV.v (.int .u8 0))=By 0:=rfl;rw[e];rw[h1];refine ih (j+1) r g (by omega) (by omega) ?_ i;rw[List.replicate_succ',<-ZL];exact h2
def B9O{K:KV}{k:KV}(J:s.length<100000000000)(y:∀v H,B0 H Bu 1 v (pre s++XF s.length 8).length (Mr (pre s++XF s.length 8))->Wf H->k v H=x):
 ∀(f i:Nat)(l:Ha)(v:AV)(H:Hp),i<=8->i<f->l++XF s.length i=pre s++XF s.length 8->B0 H Bu 1 v l.length (Mr l)->Wf H->KY L R K k f (S s) v w (I ((i:Int)-1)) H=x:=by
 have hz:eK s.length<64:=by unfold eK;omega
 intro f
 induction f with
 |zero=>intro i l v H _ h;omega
 |succ f ih=>
  intro i l v H F D c hv g;have u:l.length<=s.length+1+64+8:=by
   have:=congrArg List.length c;simp[pre,xY]at this;omega
  rw[Zr];unfold NP A3;rw[KC,FA];cases i with
  |zero=>
   rw[C5 (by simp)];have:l=pre s++XF s.length 8:=by simpa [XF] using c
   subst this;exact y _ _ hv g
  |succ i=>
   rw[Dl (by simp)];have m:((i+1:Nat):Int)-1=(i:Int):=by omega
   rw[m];rw[PQ rfl,Qv,Qv,CV (by omega) (by omega),CV (by omega) (by omega)];have p:(8:Int)*(s.length:Int)=((8*s.length:Nat):Int):=by omega
   have q:(8:Int)*(i:Int)=((8*i:Nat):Int):=by omega
   rw[p,q,uP (by omega)];rw[A1T rfl];obtain⟨A,j,h1,h2,r,B,C,_⟩:=B1Y (dN s.length i) hv g (by omega);simp(disch:=omega) only[KB,CV];have h1:=h1 (λd a=>KY L R K k f (S s) d w (I ((i:Int)-1)) a);unfold dN at h1;rw[h1];refine ih i (l++[dN s.length i]) A j (by omega) (by omega) ?_ h2 r;rw[ZL];exact c
def WS(l:Ha):AV:=.list l.length (Mr l)
def P!{cs:Is}(h:B0 H e 1 v n cs)(hn:n≠0){α:Type}(f:α->Value)(l:List α)(hc:cs=l.map λx=>.v (f x)):Fx b depth v (.list n cs) H true:=by
 subst hc;rcases h with⟨_,h2,_⟩|⟨r,q,rfl,h2,a⟩
 ·exact absurd h2 hn
 ·exact Xd (q':=false) h2 a (KS f l)
def B9H{l:Ha}(h:B0 H Bu 1 v l.length (Mr l))(a:l≠[]):Fx b depth v (WS l) H true:=
 P! h (λh=>a (gL h)) (λb:UInt8=>Value.int .u8 (b.toNat:Int)) l rfl
def fx1{x:Value}:R5 true depth [.v x] [.v x] H false:=An (q:=false) (q':=false) C7 AK
def A3c(s:Ha)(c:s.length<100000000000)(k:s.length+100<L):CS (rt L (n+1)) PK [S s] (WS (ext s)):=by
 intro K g;rw[dF];unfold Pq A3;simp only[BJ];refine B9M c ?_ L 0 _ [] (by omega) (by omega) (.inl ⟨rfl,rfl,rfl⟩) Fl;intro v H hv a;obtain⟨h,d,h1,h2,f,i,j,_⟩:=B1Y (128:UInt8) hv a (by omega);have e:(AV.v (.int .u8 128))=By 128:=rfl;rw[e,h1];refine B9N c ?_ L 0 h d (by omega) (by have:eK s.length<64:=(by unfold eK;omega);omega) (by simpa using h2) f;intro v H hv a;refine B9O c ?_ L 8 (pre s) v H (by omega) (by omega) rfl hv a;intro v H hv a;exact g _ _ (λb=>⟨true,B9H (l:=ext s) hv (by simp[ext])⟩)
end
section
variable{K:K2}{q:Bool}{H:Hp}{L e k n p r:Nat}{t:TI}{x:Value}
def KI(x:BitVec 32)(k:Nat):BitVec 32:=(x>>>k)|||(x<<<(32-k))
def C2S{x y:Value}:R5 true depth [.v x,.v y] [.v x,.v y] H false:=An (q:=false) (q':=false) C7 fx1
def fxq{b:Bool}:Fx b depth (.v x) (.v x) H false:=C7
def A6B(x:BitVec 32)(k:Nat)(d:k<=32):PS (rt L (n+1)) D0 [W x,I k] (W (KI x k)):=by
 refine CS.ps (λK c=>?_) (λH=>C2S);rw[fY];unfold Q9 Lr;have a:((32:Int)-(k:Int))=((32-k:Nat):Int):=by omega
 simp(disch:=omega) only[JJ rfl d,B1B,KB,CV,a,XA4 rfl (show 32-k<=32 by omega),iQ];exact c _ _ (λb=>⟨false,fxq⟩)
def kk:List (BitVec 32):=[0x428a2f98,0x71374491,0xb5c0fbcf,0xe9b5dba5,0x3956c25b,0x59f111f1,0x923f82a4,0xab1c5ed5,
 0xd807aa98,0x12835b01,0x243185be,0x550c7dc3,0x72be5d74,0x80deb1fe,0x9bdc06a7,0xc19bf174,
 0xe49b69c1,0xefbe4786,0x0fc19dc6,0x240ca1cc,0x2de92c6f,0x4a7484aa,0x5cb0a9dc,0x76f988da,
 0x983e5152,0xa831c66d,0xb00327c8,0xbf597fc7,0xc6e00bf3,0xd5a79147,0x06ca6351,0x14292967,
 0x27b70a85,0x2e1b2138,0x4d2c6dfc,0x53380d13,0x650a7354,0x766a0abb,0x81c2c92e,0x92722c85,
 0xa2bfe8a1,0xa81a664b,0xc24b8b70,0xc76c51a3,0xd192e819,0xd6990624,0xf40e3585,0x106aa070,
 0x19a4c116,0x1e376c08,0x2748774c,0x34b0bcb5,0x391c0cb3,0x4ed8aa4a,0x5b9cca4f,0x682e6ff3,
 0x748f82ee,0x78a5636f,0x84c87814,0x8cc70208,0x90befffa,0xa4506ceb,0xbef9a3f7,0xc67178f2]
def A3L:kk.length=64:=rfl
def A0F:CS (rt L (n+1)) Ow [] (.list 64 (DZ kk)):=by
 intro K a;rw[Zt];have e:NW L (rt L n) [] K=K (.sl 1 0 0 64) [(0,.cells false Ci (DZ kk))]:=by kernel_rfl
 rw[e];exact a _ _ (λb=>⟨true,P! (e:=Ci) (.inr ⟨0,false,rfl,rfl,rfl⟩) (by decide) (λx:BitVec 32=>Value.int .u32 (x.toNat:Int)) kk rfl⟩)
def B1O{l:Ha}(h:k<l.length):(Mr l).getD k .dk=By (l.getD k 0):=by
 simp[Mr,Vf,h]
def Mw{l:List (BitVec 32)}(h:k<l.length):(DZ l).getD k .dk=W (l.getD k 0):=by
 simp[DZ,Vf,h]
def HT(l:List (BitVec 32)):(DZ l).length=l.length:=by simp[DZ]
def B2u(a b:List (BitVec 32)):DZ a++DZ b=DZ (a++b):=by simp[DZ]
def YP(l:List (BitVec 32)):(DZ l).all AV.one=true:=by simp[DZ,AV.one,Value.oneCell']
def YD{cs:Is}{z:Int}(g:t.d=.slice e 1)(hc:cs.length=n)(s:0<=z)(h1:z<n):Ds t (.list n cs) (I z) K=K (.iptr [cs.getD z.toNat .dk]):=by
 obtain⟨m,rfl⟩:=Int.eq_ofNat_of_zero_le s;have h:Ds t (.list n cs) (I (m:Int)) K=iN (m:Int) λm=>ck (Nat.blt m n) (OW 1 (Dg (Nat.mul m 1) cs) λc=>K (.iptr c)):=by
  obtain⟨a,b,d,z⟩:=t;simp only at g;subst g;rfl
 have hm:m<n:=by omega
 rw[h,Ju,Cy,MD];have:Nat.blt m n=true:=by rw[Wr];exact hm
 rw[this];have i:Nat.mul m 1=m:=pZ m;have j:(cs.drop m).take 1=[cs.getD m .dk]:=by
  have f:m<cs.length:=by omega
  rw[vM f,Vf,K8 f];rfl
 rw[i,j];rfl
def S_{z:Int}(c:t.d=.slice e 1)(h:0<=z)(h1:z<n):Ds t (.sl 1 r 0 n) (I z) K=K (.ptr r z.toNat 0):=by
 obtain⟨m,rfl⟩:=Int.eq_ofNat_of_zero_le h;have f:Ds t (.sl 1 r 0 n) (I (m:Int)) K=iN (m:Int) λm=>ck (Nat.blt m n) (fN (Nat.add 0 (Nat.mul m 1)) λp=>K (.ptr r p 0)):=by
  obtain⟨a,b,d,z⟩:=t;simp only at c;subst c;rfl
 have hm:m<n:=by omega
 rw[f,Ju,Dy];have:Nat.blt m n=true:=by rw[Wr];exact hm
 have g:Nat.add 0 (Nat.mul m 1)=m:=by show 0+m*1=m;omega
 rw[this,g];rfl
def Ni{c:AV}(h:t.d.isAgg=false):AD t (.iptr [c]) H K=K c:=by
 have:AD t (.iptr [c]) H K=@Bool.rec (λ_=>Af) (K c) (Ek t.size [c] λc=>K (.agg c)) t.d.isAgg:=rfl;rw[this,h]
def B1j{cs:Is}(h:t.d.isAgg=false)(b:Aj H r=some (.cells q e cs))(a:p<cs.length):AD t (.ptr r p 0) H K=K (cs.getD p .dk):=by
 have:AD t (.ptr r p 0) H K=I6 H r λx=>J6 x λ_ cs=>@Bool.rec (λ_=>Af) (hdK (Dg (Nat.add p 0) cs) K) (Ek t.size (Dg (Nat.add p 0) cs) λc=>K (.agg c)) t.d.isAgg:=rfl;rw[this,h,AX b];show hdK (Dg p cs) K=_;rw[Cy,vM a,Vf,K8 a];rfl
def B1m{l:Ha}{z:Int}(a:0<=z)(h1:z<l.length):Ds AW (WS l) (I z) K=K (.iptr [By (l.getD z.toNat 0)]):=by
 unfold WS;rw[YD rfl (Qf l) a h1,B1O (by omega)]
def C3a{z:Int}(a:0<=z)(h1:z<n):Ds AE (.sl 1 r 0 n) (I z) K=K (.ptr r z.toNat 0):=S_ rfl a h1
def C39{l:List (BitVec 32)}(b:Aj H r=some (.cells q e (DZ l)))(a:p<l.length):AD Al (.ptr r p 0) H K=K (W (l.getD p 0)):=by
 rw[B1j rfl b (by rw[HT];exact a),Mw a]
def zK{b:UInt8}:Jc Bl Al (By b) K=K (W (BitVec.ofNat 32 b.toNat)):=B1t
def C3y{v:AV}{l:List (BitVec 32)}(b:BitVec 32)(h:B0 H Ci 1 v l.length (DZ l))(w:Wf H)(hn:l.length<1000000000000):
 ∃r q a,(∀K:KV,(D5 (GM Ci 1 Al 1 [(0,1,W b)] H λv H=>some (v,H)) λv1 i=>D5 (E5 Ci 1 Al AE v v1 i λv H=>some (v,H)) K)=K (.sl 1 r 0 (l.length+1)) a)/\Aj a r=some (.cells q Ci (DZ (l++[b])))/\Wf a/\As H<=As a/\(∀s x,Aj H s=some x->¬A8 v s->Aj a s=some x)/\As H<=r:=by
 have f:B0 ((As H,.cells false Ci [W b])::H) Ci 1 v l.length (DZ l):=h.lat w (Lat.cons H _ (λ_=>False)) (λ_ _ h=>h);have c:=NI (H:=H) (e:=Ci) (n:=1) (cs:=[W b]) rfl;obtain⟨A,a,h1,h2,j,m⟩:=apt (ie:=Al) (i2:=AE) f (λK=>Rq (K:=K) c) rfl rfl (by decide) rfl rfl (by show(l.length+1)*4<=_;omega) (by omega);have d:=(Lat.cons H (.cells false Ci [W b]) (A8 v)).trans m (R:=A8 v) (λ_ _ h=>h) (λ_ _ h=>h);rcases h2 with⟨_,g,_⟩|⟨r,q,rfl,g,y⟩
 ·omega
 ·refine⟨r,q,a,λK=>?_,by rw[<-B2u];exact g,d.wf w,d.nx,λs x u hn=>d.keep w s x u hn,?_⟩
  ·rw[uY (z:=W 0) (λ_=>rfl) (λ_=>rfl) rfl,A4l,h1 (λv H=>some (v,H)),A4l]
  ·rw[j r ⟨_,_,_,rfl⟩];exact l1u _
end
section
variable{v:AV}{H:Hp}
def OD{K:K2}:Ar (some (v,H)) K=K v:=B1B
def SW{K:KV}:D5 (some (v,H)) K=K v H:=A4l
def ZI{L n:Nat}{x:BitVec 32}{z:Int}(k:Nat)(a:z=(k:Int))(h:k<=32){K:K2}:Ao (rt L (n+1)) D0 [W x,I z] H K=K (W (KI x k)):=by
 subst a;exact A6B x k (by omega) H K
def A4x{l:List (BitVec 32)}{n:Nat}(b:BitVec 32)(d:l.length=n)(h:B0 H Ci 1 v n (DZ l))(w:Wf H)(hn:n<1000000000000):
 ∃r q a,(∀K:KV,(D5 (GM Ci 1 Al 1 [(0,1,W b)] H λv H=>some (v,H)) λv1 c=>D5 (E5 Ci 1 Al AE v v1 c λv H=>some (v,H)) K)=K (.sl 1 r 0 (n+1)) a)/\Aj a r=some (.cells q Ci (DZ (l++[b])))/\Wf a/\As H<=As a/\(∀s x,Aj H s=some x->¬A8 v s->Aj a s=some x)/\As H<=r:=by
 subst d;exact C3y b h w hn
def bw(l:Ha)(i:Nat):BitVec 32:=BitVec.ofNat 32 (l.getD i 0).toNat
def A4Q(l:Ha)(i:Nat):BitVec 32:=bw l (4*i)<<<24|||bw l (4*i+1)<<<16|||bw l (4*i+2)<<<8|||bw l (4*i+3)
def w16(l:Ha)(n:Nat):List (BitVec 32):=(List.range n).map (A4Q l)
def sg0(x:BitVec 32):BitVec 32:=KI x 7^^^KI x 18^^^x>>>3
def sg1(x:BitVec 32):BitVec 32:=KI x 17^^^KI x 19^^^x>>>10
def Nx(l:Ha):Nat->List (BitVec 32)
 |0=>w16 l 16
 |i+1=>Nx l i++[(Nx l i).getD i 0+sg0 ((Nx l i).getD (i+1) 0)+(Nx l i).getD (i+9) 0+sg1 ((Nx l i).getD (i+14) 0)]
def eT(l:Ha)(n:Nat):(w16 l n).length=n:=by simp[w16]
def RI(l:Ha)(i:Nat):(Nx l i).length=16+i:=by
 induction i with
 |zero=>simp[Nx,eT]
 |succ i ih=>simp[Nx,ih];omega
structure S8 where
 a:BitVec 32
 b:BitVec 32
 c:BitVec 32
 d:BitVec 32
 e:BitVec 32
 f:BitVec 32
 g:BitVec 32
 h:BitVec 32
def S8.l(s:S8):List (BitVec 32):=[s.a,s.b,s.c,s.d,s.e,s.f,s.g,s.h]
def rt1(s:S8)(k w:BitVec 32):BitVec 32:=s.h+(KI s.e 6^^^KI s.e 11^^^KI s.e 25)+((s.e&&&s.f)^^^(~~~s.e&&&s.g))+k+w
def rt2(s:S8):BitVec 32:=(KI s.a 2^^^KI s.a 13^^^KI s.a 22)+((s.a&&&s.b)^^^(s.a&&&s.c)^^^(s.b&&&s.c))
def rnd(s:S8)(k w:BitVec 32):S8:=⟨rt1 s k w+rt2 s,s.a,s.b,s.c,s.d+rt1 s k w,s.e,s.f,s.g⟩
def nS(ws:List (BitVec 32))(s:S8):Nat->S8
 |0=>s
 |i+1=>rnd (nS ws s i) (kk.getD i 0) (ws.getD i 0)
def C3z(s t:S8):S8:=⟨s.a+t.a,s.b+t.b,s.c+t.c,s.d+t.d,s.e+t.e,s.f+t.f,s.g+t.g,s.h+t.h⟩
def blk(s:S8)(l:Ha):S8:=C3z s (nS (Nx l 48) s 64)
variable{L n:Nat}{K:KV}{x:Af}
def A0j(l:Ha)(i:Nat):BitVec.ofNat 32 (l.getD (4*i) 0).toNat<<<24|||BitVec.ofNat 32 (l.getD (4*i+1) 0).toNat<<<16|||BitVec.ofNat 32 (l.getD (4*i+2) 0).toNat<<<8|||BitVec.ofNat 32 (l.getD (4*i+3) 0).toNat=A4Q l i:=rfl
def A0y(l:Ha)(i:Nat):w16 l (i+1)=w16 l i++[A4Q l i]:=by simp[w16,List.range_succ]
def B8q(x:BitVec 32):KI x 7^^^KI x 18^^^x>>>3=sg0 x:=rfl
def B8p(x:BitVec 32):KI x 17^^^KI x 19^^^x>>>10=sg1 x:=rfl
def RG(i:Nat):(i:Int)+1=((i+1:Nat):Int):=rfl
def C0o{k:AV->AV->AV->AV->AV->AV->AV->AV->KV}{l:Ha}{a0 w1 b c d w5 e:AV}(D:l.length=64)(w:∀v H,B0 H Ci 1 v 16 (DZ (w16 l 16))->Wf H->k a0 (WS l) v (I 16) b c d w5 e H=x):
 ∀(f i:Nat)(v:AV)(H:Hp),i<=16->16-i<f->B0 H Ci 1 v i (DZ (w16 l i))->Wf H->RW L (rt L n) K k f a0 (WS l) v (I i) w1 b c d w5 e H=x:=by
 intro f
 induction f with
 |zero=>intro i v H _ h;omega
 |succ f ih=>
  intro i v H C B hv a;rw[kJ];unfold Sa OG A3;rw[DO,FA];by_cases h:i<16
  ·rw[Dl (by simp;omega)];simp(disch:=omega) only[Qv,Do,CV,OD,B1m,Ni (t:=Bl) rfl,zK,XA4 (z:=24) (k:=24) rfl (by decide),XA4 (z:=16) (k:=16) rfl (by decide),XA4 (z:=8) (k:=8) rfl (by decide),iQ];have j:((4:Int)*(i:Int)).toNat=4*i:=by omega
   have m:((4:Int)*(i:Int)+1).toNat=4*i+1:=by omega
   have p:((4:Int)*(i:Int)+2).toNat=4*i+2:=by omega
   have s:((4:Int)*(i:Int)+3).toNat=4*i+3:=by omega
   rw[j,m,p,s,A0j];obtain⟨r,q,g,h1,h2,u,y,A,_⟩:=A4x (A4Q l i) (eT l i) hv a (by omega);rw[h1,RG];refine ih (i+1) _ g (by omega) (by omega) (.inr ⟨r,q,rfl,?_,?_⟩) u
   ·rw[A0y];exact h2
   ·rw[HT,eT];omega
  ·rw[C5 (by simp;omega)];have:i=16:=by omega
   subst this;exact w _ _ hv a
def C0p{k:AV->AV->AV->AV->AV->AV->KV}{l:Ha}{w0 w1 c A B w5 d e:AV}(u:∀r q H,Aj H r=some (.cells q Ci (DZ (Nx l 48)))->Wf H->k w0 w1 (.sl 1 r 0 64) c (I 64) d e H=x):
 ∀(f i r:Nat)(q:Bool)(H:Hp),i<=48->48-i<f->Aj H r=some (.cells q Ci (DZ (Nx l i)))->Wf H->RX L (rt L (n+1)) K k f w0 w1 (.sl 1 r 0 (16+i)) c (I ((16+i:Nat):Int)) A B w5 d e H=x:=by
 intro f
 induction f with
 |zero=>intro i r q H _ h;omega
 |succ f ih=>
  intro i r q H J F hv b;rw[kK];unfold Sb OG A3;rw[DO,FA];by_cases h:i<48
  ·rw[Dl (by simp;omega)];have a:=RI l i;have j:((16+i:Nat):Int)-15=((i+1:Nat):Int):=by omega
   have m:((16+i:Nat):Int)-2=((i+14:Nat):Int):=by omega
   have p:((16+i:Nat):Int)-16=((i:Nat):Int):=by omega
   have s:((16+i:Nat):Int)-7=((i+9:Nat):Int):=by omega
   simp(disch:=omega) only[KB,CV,OD,j,m,p,s,C3a,jI,C39 hv,ZI (z:=7) 7 rfl (by decide),ZI (z:=18) 18 rfl (by decide),ZI (z:=17) 17 rfl (by decide),ZI (z:=19) 19 rfl (by decide),Vo,JJ (z:=3) (k:=3) rfl (by decide),JJ (z:=10) (k:=10) rfl (by decide),PU];rw[B8q,B8p];obtain⟨y,w,g,h1,h2,t,C,D,_⟩:=A4x ((Nx l i).getD i 0+sg0 ((Nx l i).getD (i+1) 0)+(Nx l i).getD (i+9) 0+sg1 ((Nx l i).getD (i+14) 0)) (v:=.sl 1 r 0 (16+i)) a (.inr ⟨r,q,rfl,hv,by rw[HT,a];omega⟩) b (by omega);rw[h1];simp(disch:=omega) only[Do,CV];rw[RG];exact ih (i+1) y w g (by omega) (by omega) h2 t
  ·rw[C5 (by simp;omega)];have:i=48:=by omega
   subst this;exact u _ _ _ hv b
end
section
variable{v:AV}{H:Hp}{t:TI}
def Rd(H:Hp)(v:AV)(n:Nat)(cs:Is):Prop:=cs.length=n/\(v=.list n cs\/∃r q e,v=.sl 1 r 0 n/\Aj H r=some (.cells q e cs))
def rdp(v:AV)(i:Nat):AV:=match v with
 |.list _ cs=>.iptr [cs.getD i .dk]
 |.sl _ r _ _=>.ptr r i 0
 |_=>.dk
def B0.rd{H:Hp}{e n:Nat}{v:AV}{cs:Is}(h:B0 H e 1 v n cs)(hn:n≠0):Rd H v n cs:=by
 rcases h with⟨_,h,_⟩|⟨r,q,h1,h2,a⟩
 ·exact absurd h hn
 ·exact⟨by omega,.inr ⟨r,q,e,h1,h2⟩⟩
def pV{n:Nat}{cs:Is}(h:cs.length=n):Rd H (.list n cs) n cs:=⟨h,.inl rfl⟩
def PR{e n:Nat}{cs:Is}(h:Rd H v n cs)(a:t.d=.slice e 1){z:Int}(k:Nat)(hz:z=k)(c:k<n){K:K2}:Ds t v (I z) K=K (rdp v k):=by
 subst hz;rcases h with⟨b,rfl|⟨r,q,e,rfl,h2⟩⟩
 ·rw[YD a b (by omega) (by omega)];rfl
 ·rw[S_ a (by omega) (by omega)];rfl
def mF{n:Nat}{cs:Is}(h:Rd H v n cs)(a:t.d.isAgg=false){k:Nat}(c:k<n){K:K2}:AD t (rdp v k) H K=K (cs.getD k .dk):=by
 rcases h with⟨b,rfl|⟨r,q,e,rfl,h2⟩⟩
 ·exact Ni a
 ·exact B1j a h2 (by omega)
def C2b{a b c d e f g h:BitVec 32}(K:KV):GM Ci 1 Al 8 [(0,1,W a),(1,1,W b),(2,1,W c),(3,1,W d),(4,1,W e),(5,1,W f),(6,1,W g),(7,1,W h)] H K=K (.sl 1 (As H) 0 8) ((As H,.cells false Ci (DZ [a,b,c,d,e,f,g,h]))::H):=by
 have i:GM Ci 1 Al 8 [(0,1,W a),(1,1,W b),(2,1,W c),(3,1,W d),(4,1,W e),(5,1,W f),(6,1,W g),(7,1,W h)] H K=Ik H λs=>K (.sl 1 s 0 8) ((s,.cells false Ci (DZ [a,b,c,d,e,f,g,h]))::H):=rfl;rw[i,BW]
def zG{x:BitVec 32}{K:K2}:Mv .xor (W x) K=K (W (~~~x)):=B18
def B5T{k:Nat}(h:k<64):(DZ kk).getD k .dk=W (kk.getD k 0):=Mw (by rw[A3L];exact h)
variable{L n:Nat}{K:KV}{x:Af}
def A9f(s:S8)(k w:BitVec 32):[s.h+(KI s.e 6^^^KI s.e 11^^^KI s.e 25)+((s.e&&&s.f)^^^(~~~s.e&&&s.g))+k+w+((KI s.a 2^^^KI s.a 13^^^KI s.a 22)+((s.a&&&s.b)^^^(s.a&&&s.c)^^^(s.b&&&s.c))),s.a,s.b,s.c,s.d+(s.h+(KI s.e 6^^^KI s.e 11^^^KI s.e 25)+((s.e&&&s.f)^^^(~~~s.e&&&s.g))+k+w),s.e,s.f,s.g]=(rnd s k w).l:=rfl
def C0q{k:AV->AV->AV->AV->AV->AV->AV->KV}{ws:List (BitVec 32)}{s0:S8}{rw:Nat}{w0 w1 w y w6 w7:AV}(r:ws.length=64)(Q:∀v q H,B0 H Ci 1 v 8 (DZ (nS ws s0 64).l)->Aj H rw=some (.cells q Ci (DZ ws))->Wf H->k w0 w1 (.sl 1 rw 0 64) w y (.list 64 (DZ kk)) v (I 64) H=x):
 ∀(f i:Nat)(v:AV)(q:Bool)(H:Hp),i<=64->64-i<f->B0 H Ci 1 v 8 (DZ (nS ws s0 i).l)->Aj H rw=some (.cells q Ci (DZ ws))->Wf H->RY L (rt L (n+1)) K k f w0 w1 (.sl 1 rw 0 64) w y (.list 64 (DZ kk)) v (I i) w6 w7 H=x:=by
 intro f
 induction f with
 |zero=>intro i v q H _ h;omega
 |succ f ih=>
  intro i v q H hi hf hv hr p;rw[kL];unfold Sc OG A3;rw[DO,FA];by_cases h:i<64
  ·rw[Dl (by simp;omega)];have rv:=hv.rd (by decide);have u:Rd H (.list 64 (DZ kk)) 64 (DZ kk):=pV (by rw[HT,A3L]);have rs:Rd H (.sl 1 rw 0 64) 64 (DZ ws):=⟨by rw[HT,r],.inr ⟨rw,q,Ci,rfl,hr⟩⟩
   generalize P:nS ws s0 i=s at rv hv;have A:(DZ s.l).getD 0 .dk=W s.a:=id rfl;have B:(DZ s.l).getD 1 .dk=W s.b:=id rfl;have C:(DZ s.l).getD 2 .dk=W s.c:=id rfl;have D:(DZ s.l).getD 3 .dk=W s.d:=id rfl;have F:(DZ s.l).getD 4 .dk=W s.e:=id rfl;have J:(DZ s.l).getD 5 .dk=W s.f:=id rfl;have M:(DZ s.l).getD 6 .dk=W s.g:=id rfl;have N:(DZ s.l).getD 7 .dk=W s.h:=id rfl;have O:(DZ ws).getD i .dk=W (ws.getD i 0):=Mw (by omega);have R:=λK=>PR (t:=AE) rv rfl (z:=0) 0 rfl (by decide) (K:=K);have i1:=λK=>PR (t:=AE) rv rfl (z:=1) 1 rfl (by decide) (K:=K);have i2:=λK=>PR (t:=AE) rv rfl (z:=2) 2 rfl (by decide) (K:=K);have V:=λK=>PR (t:=AE) rv rfl (z:=3) 3 rfl (by decide) (K:=K);have X:=λK=>PR (t:=AE) rv rfl (z:=4) 4 rfl (by decide) (K:=K);have Y:=λK=>PR (t:=AE) rv rfl (z:=5) 5 rfl (by decide) (K:=K);have Z:=λK=>PR (t:=AE) rv rfl (z:=6) 6 rfl (by decide) (K:=K);have i7:=λK=>PR (t:=AE) rv rfl (z:=7) 7 rfl (by decide) (K:=K);have ik:=λK=>PR (t:=AE) u rfl (z:=i) i rfl h (K:=K);have iw:=λK=>PR (t:=AE) rs rfl (z:=i) i rfl h (K:=K);have lv:=λk j K=>mF (t:=Al) rv rfl (k:=k) j (K:=K);have lk:=λk j K=>mF (t:=Al) u rfl (k:=k) j (K:=K);have lw:=λk j K=>mF (t:=Al) rs rfl (k:=k) j (K:=K);simp(disch:=omega) only[OD,R,i1,i2,V,X,Y,Z,i7,ik,iw,lv,lk,lw,A,B,C,D,F,J,M,N,O,B5T h,Vo,zM,PU,zG,
    ZI (z:=6) 6 rfl (by decide),ZI (z:=11) 11 rfl (by decide),ZI (z:=25) 25 rfl (by decide),ZI (z:=2) 2 rfl (by decide),ZI (z:=13) 13 rfl (by decide),ZI (z:=22) 22 rfl (by decide)]
   rw[C2b,SW,Do,CV (by omega) (by omega),A9f,RG];have m:nS ws s0 (i+1)=rnd s (kk.getD i 0) (ws.getD i 0):=by rw[<-P];rfl
   rw[<-m];exact ih (i+1) _ q _ (by omega) (by omega) (NI rfl) (A7 (p.lt hr) hr) (AJ p)
  ·rw[C5 (by simp;omega)];have:i=64:=by omega
   subst this;exact Q _ _ _ hv hr p
def jB(a b:List (BitVec 32))(i:Nat):List (BitVec 32):=(List.range i).map λi=>a.getD i 0+b.getD i 0
def Tc(a b:List (BitVec 32))(i:Nat):(jB a b i).length=i:=by simp[jB]
def zX(a b:List (BitVec 32))(i:Nat):jB a b (i+1)=jB a b i++[a.getD i 0+b.getD i 0]:=by simp[jB,List.range_succ]
def C0y(s t:S8):jB s.l t.l 8=(C3z s t).l:=rfl
def C0r{k:KV}{a b:List (BitVec 32)}{A B w1 Z w3 w4 w5 w7:AV}(V:∀v H,B0 H Ci 1 v 8 (DZ (jB a b 8))->Wf H->k v H=x)(w:A=.list 8 (DZ a))(P:a.length=8)(hb:b.length=8):
 ∀(f i:Nat)(v:AV)(H:Hp),i<=8->8-i<f->B0 H Ci 1 v i (DZ (jB a b i))->B0 H Ci 1 B 8 (DZ b)->(∀s,A8 v s->¬A8 B s)->Wf H->RZ L (rt L n) K k f A w1 Z w3 w4 w5 B w7 v (I i) H=x:=by
 intro f
 induction f with
 |zero=>intro i v H _ h;omega
 |succ f ih=>
  intro i v H hi hf hv c Q y;rw[kM];unfold Sd OG A3;rw[DO,FA];by_cases h:i<8
  ·rw[Dl (by simp;omega)];have C:Rd H A 8 (DZ a):=by subst w;exact pV (by rw[HT,P])
   have D:=c.rd (by decide);have J:(DZ a).getD i .dk=W (a.getD i 0):=Mw (by omega);have M:(DZ b).getD i .dk=W (b.getD i 0):=Mw (by omega);have ia:=λK=>PR (t:=AE) C rfl (z:=i) i rfl h (K:=K);have ib:=λK=>PR (t:=AE) D rfl (z:=i) i rfl h (K:=K);have X:=λK=>mF (t:=Al) C rfl (k:=i) h (K:=K);have Y:=λK=>mF (t:=Al) D rfl (k:=i) h (K:=K);simp only[OD,ia,ib,X,Y,J,M,PU];obtain⟨r,q,F,h1,h2,N,h4,O,h6⟩:=A4x (a.getD i 0+b.getD i 0) (Tc a b i) hv y (by omega);rw[h1,Do,CV (by omega) (by omega),RG];refine ih (i+1) _ F (by omega) (by omega) (.inr ⟨r,q,rfl,?_,?_⟩) ?_ ?_ N
   ·rw[zX];exact h2
   ·rw[HT,Tc];omega
   ·rcases c with⟨d,e,g⟩|⟨r2,q2,d,e,g⟩
    ·exact .inl ⟨d,e,g⟩
    ·exact .inr ⟨r2,q2,d,O _ _ e (λR=>Q _ R ⟨1,0,8,d⟩),g⟩
   ·intro s ⟨p,o,m,j⟩ u;injection j with _ j
    subst j;have:=c.lt y u;omega
  ·rw[C5 (by simp;omega)];have:i=8:=by omega
   subst this;exact V _ _ hv y
def B3t{s:S8}{l:Ha}(k:l.length=64)(u:100<L):CS (rt L (n+2)) Us [.list 8 (DZ s.l),WS l] (.list 8 (DZ (blk s l).l)):=by
 intro K j;rw[oR];unfold Ud A3;simp only[BJ];refine C0o k ?_ L 0 _ [] (by omega) (by omega) (.inl ⟨rfl,rfl,rfl⟩) Fl;intro v H hv c;rcases hv with⟨_,h,_⟩|⟨r,q,rfl,h2,i⟩
 ·exact absurd h (by decide)
 refine C0p ?_ L 0 r q H (by omega) (by omega) h2 c;intro r q H hr c;rw[AR A0F AK];obtain⟨p,g,h1,h2,i,f⟩:=apt (ie:=Al) (i2:=AE) (H:=H) (e:=Ci) (sz:=1) (n:=0) (m:=8) (v:=.v (.slice none 0 0)) (src:=.list 8 (DZ s.l)) (cs:=[]) (ys:=DZ s.l) (.inl ⟨rfl,rfl,rfl⟩) (λK=>Vm) rfl (YP _) (by decide) rfl rfl (by decide) (by decide);rw[h1];have d:=f.keep c r _ hr (λ⟨_,_,_,h⟩=>by cases h);refine C0q (s0:=s) (by rw[RI]) ?_ L 0 p q g (by omega) (by omega) h2 d (f.wf c);intro v q H hv hr c;refine C0r (a:=s.l) (b:=(nS (Nx l 48) s 64).l) ?_ rfl rfl rfl L 0 _ H (by omega) (by omega) (.inl ⟨rfl,rfl,rfl⟩) hv (λs ⟨_,_,_,h⟩=>by cases h) c;intro v H hv c;rw[C0y]at hv;exact j _ _ (λb=>⟨true,P! hv (by decide) (λx:BitVec 32=>Value.int .u32 (x.toNat:Int)) _ rfl⟩)
end
section
variable{v:AV}{H:Hp}{s:Ha}{e m:Nat}
def A1H{t:TI}{cs:Is}{x y:Int}(a b:Nat){K:K2}(f:t.d=.slice e 1)(i:x=a)(j:y=b)(h1:a<=b)(h2:b<=m):C8 t (.list m cs) (some (I x)) (some (I y)) none K=K (.list (b-a) ((cs.drop a).take (b-a))):=by
 subst i j;have g:C8 t (.list m cs) (some (I a)) (some (I b)) none K=iN (a:Int) λl=>iN (b:Int) λh=>fN m λx=>ck ((true||(some (I (b:Int))).isSome)&&(Nat.ble l h&&(Nat.ble h x&&Nat.ble x m))) (fN (Nat.sub h l) λn=>OW (Nat.mul n 1) (Dg (Nat.mul l 1) cs) λc=>K (.list n c)):=by
  obtain⟨_,_,d,z⟩:=t;simp only at f;subst f;rfl
 rw[g,Ju,Ju,Dy];have c:((true||(some (I (b:Int))).isSome)&&(Nat.ble a b&&(Nat.ble b m&&Nat.ble m m)))=true:=by simp only[Bool.true_or,Z!,K0,jJ];omega
 rw[c];show fN (Nat.sub b a) (λn=>OW (Nat.mul n 1) (Dg (Nat.mul a 1) cs) λc=>K (.list n c))=_;rw[Dy,MD,Cy];show K (.list (b-a) ((cs.drop (a*1)).take ((b-a)*1)))=_;rw[pZ,pZ]
def iv:S8:=⟨1779033703,3144134277,1013904242,2773480762,1359893119,2600822924,528734635,1541459225⟩
def dX(s:Ha):Nat->S8
 |0=>iv
 |i+1=>blk (dX s i) ((s.drop (64*i)).take 64)
def wb(w:BitVec 32):Ha:=[UInt8.ofNat (w.toNat/2^24),UInt8.ofNat (w.toNat/2^16),UInt8.ofNat (w.toNat/2^8),UInt8.ofNat w.toNat]
def XT(l:List (BitVec 32)):Nat->Ha
 |0=>[]
 |i+1=>XT l i++wb (l.getD i 0)
def XS(l:List (BitVec 32))(i:Nat):(XT l i).length=4*i:=by
 induction i with
 |zero=>rfl
 |succ i ih=>simp[XT,ih,wb];omega
def sha(s:Ha):Ha:=XT (dX (ext s) ((ext s).length/64)).l 8
variable{L n:Nat}{K:KV}{x:Af}
def C2T{l:List (BitVec 32)}(h:Rd H v n (DZ l)):∃q,Fx true depth v (.list n (DZ l)) H q:=by
 rcases h with⟨a,rfl|⟨r,q,e,rfl,h2⟩⟩
 ·exact⟨_,On⟩
 ·exact⟨_,Xd (q':=false) h2 (by omega) (KS (λx:BitVec 32=>Value.int .u32 (x.toNat:Int)) l)⟩
def B8l{k:AV->AV->KV}{u w:AV}(hm:s.length=64*m)(B:s.length<200000000000)(r:100<L)(a:m≠0)(t:∀j,k (.list 8 (DZ (dX s m).l)) (WS s) j H=x):
 ∀(f i:Nat)(v:AV),i<=m->m-i<f->Rd H v 8 (DZ (dX s i).l)->(i≠0->v=.list 8 (DZ (dX s i).l))->VJ L (rt L (n+2)) K k f v (WS s) (I ((64*i:Nat):Int)) u w H=x:=by
 intro f
 induction f with
 |zero=>intro i v _ h;omega
 |succ f ih=>
  intro i v A y hv b;rw[sD];unfold VL A3;have p:∀K,Bm AW (WS s) K=K (I (s.length:Int)):=λ_=>id rfl;rw[p,DO,FA];by_cases h:i<m
  ·rw[Dl (by simp;omega)];simp(disch:=omega) only[Do,CV];have c:((64*i:Nat):Int)+64=((64*(i+1):Nat):Int):=by omega
   unfold WS;rw[c,A1H (64*i) (64*(i+1)) rfl rfl rfl (by omega) (by omega)];have d:64*(i+1)-64*i=64:=by omega
   have g:AV.list 64 (((Mr s).drop (64*i)).take 64)=WS ((s.drop (64*i)).take 64):=by
    unfold WS Mr;have:((s.drop (64*i)).take 64).length=64:=by simp;omega
    rw[this,List.map_take,List.map_drop]
   rw[d,g];obtain⟨q,hq⟩:=C2T hv;rw[AR (B3t (n:=n) (s:=dX s i) (l:=(s.drop (64*i)).take 64) (by simp;omega) r) (An hq (An (by unfold WS;exact On) AK))];exact ih (i+1) _ (by omega) (by omega) (pV (by rw[HT];rfl)) (λ_=>rfl)
  ·rw[C5 (by simp;omega)];have:i=m:=by omega
   subst this;rw[b a];exact t _
def zJ{w:BitVec 32}{K:K2}:Jc Al Bl (W w) K=K (By (UInt8.ofNat w.toNat)):=B1s
def C2c{a b c d:UInt8}(K:KV):GM Bu 1 Bl 4 [(0,1,By a),(1,1,By b),(2,1,By c),(3,1,By d)] H K=K (.sl 1 (As H) 0 4) ((As H,.cells false Bu (Mr [a,b,c,d]))::H):=by
 have f:GM Bu 1 Bl 4 [(0,1,By a),(1,1,By b),(2,1,By c),(3,1,By d)] H K=Ik H λs=>K (.sl 1 s 0 4) ((s,.cells false Bu (Mr [a,b,c,d]))::H):=rfl;rw[f,BW]
def B4F(l:Ha):∀K:Ha->Af,fu8 (Mr l) K=K l:=by
 induction l with
 |nil=>intro K;rfl
 |cons b l ih=>
  intro K;have e:fu8 (Mr (b::l)) K=iN (b.toNat:Int) λn=>fu8 (Mr l) λl=>K (UInt8.ofNat n::l):=rfl;rw[e,Ju,ih];simp
def A5P{l:Ha}{K:K2}(h:B0 H e 1 v n (Mr l)):xL v H K=K (S l):=by
 have a:xL v H K=SS H v λm cs=>G6 cs 0 λk=>ck (Nat.beq k m) (fu8 cs λl=>K (.v (.string ⟨⟨l⟩⟩))):=by
  rcases h with⟨rfl,_⟩|⟨r,q,rfl,_⟩<;>rfl
 have hn:(Mr l).length=n:=by
  rcases h with⟨_,rfl,h⟩|⟨r,q,_,_,h⟩
  ·rw[h];rfl
  ·omega
 rw[a,Rq h,Cl,Jt,hn,jH];exact B4F l _
def B8m{k:KV}{s:S8}{v w1 C:AV}(A:∀u H,B0 H Bu 1 u 32 (Mr (XT s.l 8))->k u H=x):
 ∀(f i:Nat)(u:AV)(H:Hp),i<=8->8-i<f->B0 H Bu 1 u (4*i) (Mr (XT s.l i))->v=.list 8 (DZ s.l)->Wf H->VK L (rt L n) K k f v w1 C u (I i) H=x:=by
 intro f
 induction f with
 |zero=>intro i v H _ h;omega
 |succ f ih=>
  intro i u H J F j hv p;rw[sE];unfold VM OG A3;rw[DO,FA];by_cases h:i<8
  ·rw[Dl (by simp;omega)];have q:Rd H v 8 (DZ s.l):=by subst hv;exact pV (by rw[HT];rfl)
   have w:(DZ s.l).getD i .dk=W (s.l.getD i 0):=Mw h;have ia:=λK=>PR (t:=AE) q rfl (z:=i) i rfl h (K:=K);have B:=λK=>mF (t:=Al) q rfl (k:=i) h (K:=K);simp only[OD,ia,B,w,JJ (z:=24) (k:=24) rfl (by decide),JJ (z:=16) (k:=16) rfl (by decide),JJ (z:=8) (k:=8) rfl (by decide),zJ,C2c,SW];generalize hc:[UInt8.ofNat (s.l.getD i 0>>>24).toNat,UInt8.ofNat (s.l.getD i 0>>>16).toNat,UInt8.ofNat (s.l.getD i 0>>>8).toNat,UInt8.ofNat (s.l.getD i 0).toNat]=c;have a:c.length=4:=by rw[<-hc];rfl
   have d:c=wb (s.l.getD i 0):=by rw[<-hc];unfold wb;simp only[BitVec.toNat_ushiftRight,Nat.shiftRight_eq_div_pow]
   have g:B0 ((As H,.cells false Bu (Mr c))::H) Bu 1 u (4*i) (Mr (XT s.l i)):=j.lat p (Lat.cons H _ (λ_=>False)) (λ_ _ h=>h);have b:=NI (H:=H) (e:=Bu) (n:=4) (cs:=Mr c) (by rw[Qf,a]);obtain⟨M,r,h1,h2,D,y⟩:=apt (ie:=Bl) (i2:=AW) g (λK=>Rq (K:=K) b) (by rw[Qf,a]) (A5U _) (by decide) rfl rfl (by show(4*i+4)*1<=_;omega) (by omega);rw[h1,SW,Do,CV (by omega) (by omega),RG];refine ih (i+1) _ r (by omega) (by omega) ?_ hv (y.wf (AJ p));rw[U_,d]at h2;exact h2
  ·rw[C5 (by simp;omega)];have:i=8:=by omega
   subst this;exact A _ _ j
def A5J(s:Ha):∃m,(ext s).length=64*m/\64*m<=s.length+73:=by
 refine⟨(ext s).length/64,?_,?_⟩
 ·have:(ext s).length=s.length+1+eK s.length+8:=by simp[ext,pre];omega
  unfold eK at this;omega
 ·have:(ext s).length=s.length+1+eK s.length+8:=by simp[ext,pre];omega
  unfold eK at this;omega
def B5x(r:s.length<100000000000)(w:s.length+200<L):CS (rt L (n+3)) Yz [S s] (S (sha s)):=by
 intro K p;rw[wW];unfold Yd A3;simp only[BJ];obtain⟨m,hm,q⟩:=A5J s;have i:∀K:KV,GM Ci 1 Al 8 [(0,1,(AV.v (.int .u32 1779033703))),(1,1,(AV.v (.int .u32 3144134277))),(2,1,(AV.v (.int .u32 1013904242))),(3,1,(AV.v (.int .u32 2773480762))),(4,1,(AV.v (.int .u32 1359893119))),(5,1,(AV.v (.int .u32 2600822924))),(6,1,(AV.v (.int .u32 528734635))),(7,1,(AV.v (.int .u32 1541459225)))] [] K=K (.sl 1 0 0 8) [(0,.cells false Ci (DZ iv.l))]:=λK=>C2b (H:=[]) (a:=1779033703) (b:=3144134277) (c:=1013904242) (d:=2773480762) (e:=1359893119) (f:=2600822924) (g:=528734635) (h:=1541459225) K;rw[i,AR (A3c (n:=n+1) s r (by omega)) fx1];have k:m≠0:=λh=>by subst h;simp[ext]at hm
 refine B8l (n:=n) (m:=m) hm (by omega) (by omega) k ?_ L 0 _ (by omega) (by omega) ((NI (H:=[]) rfl).rd (by decide)) (λh=>absurd rfl h);intro j;refine B8m (n:=n+2) (s:=dX (ext s) m) ?_ L 0 _ _ (by omega) (by omega) (.inl ⟨rfl,rfl,rfl⟩) rfl (AJ Fl);intro u H t;rw[A5P t];have e:XT (dX (ext s) m).l 8=sha s:=by
  unfold sha;have:(ext s).length/64=m:=by omega
  rw[this]
 rw[e];exact p _ _ (λb=>⟨false,C7⟩)
end
section
variable{w:BitVec 32}{H:Hp}{ks:Hb}{k r:Nat}
def U(n:Nat):AV:=.v (.int .u64 (n:Int))
def B3B{x:BitVec 32}(g:1<=k)(h:k<32){L n:Nat}{K:KV}:(rt L (n+1)).call Ho [W x,I (-(k:Int))] H K=K (W (KI x k)) H:=by
 rw[Sv];unfold JA Lr;have a:∀K:K2,(Jc Ab Gy (I (-(k:Int))) λv1=>Ap Gy .and v1 (AV.v (.int .u64 31)) λf=>K f)=K (U (32-k)):=by
  intro K;have:k=1\/k=2\/k=3\/k=4\/k=5\/k=6\/k=7\/k=8\/k=9\/k=10\/k=11\/k=12\/k=13\/k=14\/k=15\/k=16\/k=17\/k=18\/k=19\/k=20\/k=21\/k=22\/k=23\/k=24\/k=25\/k=26\/k=27\/k=28\/k=29\/k=30\/k=31:=by omega
  rcases this with rfl|rfl|rfl|rfl|rfl|rfl|rfl|rfl|rfl|rfl|rfl|rfl|rfl|rfl|rfl|rfl|rfl|rfl|rfl|rfl|rfl|rfl|rfl|rfl|rfl|rfl|rfl|rfl|rfl|rfl|rfl<;>rfl
 rw[a];have b:∀K:K2,Ap Gy .sub (AV.v (.int .u64 32)) (U (32-k)) K=K (U k):=by
  intro K;have e:Ap Gy .sub (AV.v (.int .u64 32)) (U (32-k)) K=Oo .u64 ((32:Int)-((32-k:Nat):Int)) λz=>K (.v (.int .u64 z)):=rfl;rw[e,IQ];have:(32:Int)-((32-k:Nat):Int)=(k:Int):=by omega
  rw[this,ZQ rfl];have:(k:Int)%(2^IntKind.u64.bits:Nat)=(k:Int):=Int.emod_eq_of_lt (by omega) (by show(k:Int)<(18446744073709551616:Int);omega);rw[this];rfl
 have c:∀K:K2,Ap Al .shl (W x) (U (32-k)) K=K (W (x<<<(32-k))):=λK=>XA4 rfl (by omega);have d:∀K:K2,Ap Al .shr (W x) (U k) K=K (W (x>>>k)):=λK=>JJ rfl (by omega);rw[c,b,d,iQ];have:x<<<(32-k)|||x>>>k=KI x k:=by unfold KI;exact BitVec.or_comm _ _
 rw[this]
def B8t{L n:Nat}{x:BitVec 32}(a:1<=k)(h:k<32):PS (rt L (n+1)) Ho [W x,I (-(k:Int))] (W (KI x k)):=by
 refine CS.ps (λK c=>?_) (λH=>C2S);rw[B3B a h];exact c _ _ (λb=>⟨false,fxq⟩)
def Yp(ks:Hb):Is:=ks.map λk:Nat=>.v (.int .i64 (k:Int))
def A77{l:Hb}(h:k<l.length):(Yp l).getD k .dk=I (l[k]:Nat):=by
 simp[Yp,Vf,h]
def Tl(x:BitVec 32)(ks:Hb):BitVec 32:=ks.foldl (λa k=>a^^^KI x k) 0
def A7h(a:k<32){K:K2}:Mv .neg (I k) K=K (I (-(k:Int))):=by
 have e:Mv .neg (I k) K=Oo .i64 (0-(k:Int)) λz=>K (.v (.int .i64 z)):=rfl;rw[e,IQ,Int.zero_sub,CV (by omega) (by omega)]
variable{L n:Nat}{K:KV}{x:Af}
def B0f{k:KV}(b:∀k∈ks,1<=k/\k<32)(j:ks.length<32)(c:k (W (Tl w ks)) H=x):
 ∀(f i:Nat),i<=ks.length->ks.length-i<f->QM L (rt L (n+1)) K k f (W w) (W (Tl w (ks.take i))) (.list ks.length (Yp ks)) (I ks.length) (I i) H=x:=by
 intro f
 induction f with
 |zero=>intro i _ h;omega
 |succ f ih=>
  intro i g d;rw[iS];unfold QN HR A3;rw[DO,FA];by_cases h:i<ks.length
  ·rw[Dl (by simp;omega)];have a:=b ks[i] (PD h);rw[YD rfl (by simp[Yp]) (by omega) (by omega),jI,Ni rfl,A77 h,A7h a.2,B8t a.1 a.2,Vo,Do,CV (by omega) (by omega),RG];have e:Tl w (ks.take (i+1))=Tl w (ks.take i)^^^KI w ks[i]:=by
    unfold Tl;rw[lO h,List.foldl_append];rfl
   rw[<-e];exact ih (i+1) (by omega) (by omega)
  ·rw[C5 (by simp;omega)];have:i=ks.length:=by omega
   subst this;rw[vO];exact c
def B3s(c:∀k∈ks,1<=k/\k<32)(d:ks.length<32)(f:32<L):CS (rt L (n+2)) EK [W w,.list ks.length (Yp ks)] (W (Tl w ks)):=by
 intro K a;rw[lH];unfold S0 A3;simp only[BJ];have e:∀K,Bm Bj (.list ks.length (Yp ks)) K=K (I ks.length):=λK=>id rfl;rw[e];refine B0f c d ?_ L 0 (by omega) (by omega);exact a _ _ (λb=>⟨false,C7⟩)
def C25:Tl w [7,18]^^^w>>>3=sg0 w:=by simp[Tl,sg0]
def C24:Tl w [17,19]^^^w>>>10=sg1 w:=by simp[Tl,sg1]
def pad(l:List (BitVec 32))(n:Nat):List (BitVec 32):=l++List.replicate (n-l.length) 0
def A5g{l:List (BitVec 32)}(h:l.length<=n):(pad l n).length=n:=by simp[pad];omega
def A5f{l:List (BitVec 32)}(w:BitVec 32)(a:l.length=k)(h:k<n):(DZ (pad l n)).set k (W w)=DZ (pad (l++[w]) n):=by
 subst a;have e:n-l.length=(n-(l.length+1))+1:=by omega
 simp[pad,DZ,e,l1c,List.set_append_right]
def B02{l:List (BitVec 32)}(h:k<l.length):(DZ (pad l n)).getD k .dk=W (l.getD k 0):=by
 simp[pad,DZ,Vf,h,List.getElem?_append]
def B03{l:List (BitVec 32)}(h:l.length=n):pad l n=l:=by simp[pad,h]
def B5P(a b:Nat)(K:K2):YE 1 Ab 2 [(0,1,I a),(1,1,I b)] K=K (.list 2 (Yp [a,b])):=id rfl
def B5O(a b c:Nat)(K:K2):YE 1 Ab 3 [(0,1,I a),(1,1,I b),(2,1,I c)] K=K (.list 3 (Yp [a,b,c])):=id rfl
def L?{K:K2}(b:∀k∈ks,1<=k/\k<32)(c:ks.length<32)(a:32<L):Ao (rt L (n+2)) EK [W w,.list ks.length (Yp ks)] H K=K (W (Tl w ks)):=
 AR (B3s b c a) (An C7 (An On AK))
def B8r{k:AV->AV->KV}{l:Ha}{w:AV}(p:l.length=64)(g:∀q H,Aj H r=some (.cells q Dj (DZ (pad (w16 l 16) 64)))->Wf H->k (WS l) (.ptr r 0 0) (I 16) H=x):
 ∀(f i:Nat)(q:Bool)(H:Hp),i<=16->16-i<f->Aj H r=some (.cells q Dj (DZ (pad (w16 l i) 64)))->Wf H->Nj L (rt L n) K k f (WS l) (.ptr r 0 0) w (I i) H=x:=by
 intro f
 induction f with
 |zero=>intro i q H _ h;omega
 |succ f ih=>
  intro i q H m j hr a;rw[YF];unfold Nl OG A3;rw[DO,FA];by_cases h:i<16
  ·rw[Dl (by simp;omega)];simp(disch:=omega) only[Qv,Do,CV,OD,B1m,Ni (t:=Bl) rfl,zK,XA4 (z:=24) (k:=24) rfl (by decide),XA4 (z:=16) (k:=16) rfl (by decide),XA4 (z:=8) (k:=8) rfl (by decide),iQ];have b:((4:Int)*(i:Int)).toNat=4*i:=by omega
   have c:((4:Int)*(i:Int)+1).toNat=4*i+1:=by omega
   have d:((4:Int)*(i:Int)+2).toNat=4*i+2:=by omega
   have e:((4:Int)*(i:Int)+3).toNat=4*i+3:=by omega
   rw[b,c,d,e,A0j,EL i rfl rfl (by omega),OD,Ei hr (by rw[HT,A5g (by rw[eT];omega)];omega) rfl rfl rfl,SW,A5f _ (eT l i) (by omega),<-A0y,RG];exact ih (i+1) q _ (by omega) (by omega) (AC hr) (Bq a)
  ·rw[C5 (by simp;omega)];have:i=16:=by omega
   subst this;exact g _ _ hr a
def B8s{k:KV}{l:Ha}{w0 w1:AV}(B:100<L)(u:∀q H,Aj H r=some (.cells q Dj (DZ (Nx l 48)))->Wf H->k (.ptr r 0 0) H=x):
 ∀(f i:Nat)(q:Bool)(H:Hp),i<=48->48-i<f->Aj H r=some (.cells q Dj (DZ (pad (Nx l i) 64)))->Wf H->Nk L (rt L (n+2)) K k f w0 (.ptr r 0 0) (I ((16+i:Nat):Int)) w1 H=x:=by
 intro f
 induction f with
 |zero=>intro i q H _ h;omega
 |succ f ih=>
  intro i q H D C hr d;rw[YG];unfold Nm OG A3;rw[DO,FA];have c:=RI l i;by_cases h:i<48
  ·rw[Dl (by simp;omega)];have F:(DZ (pad (Nx l i) 64)).length=64:=by rw[HT,A5g (by rw[c];omega)]
   have e:((16+i:Nat):Int)-15=((i+1:Nat):Int):=by omega
   have g:((16+i:Nat):Int)-2=((i+14:Nat):Int):=by omega
   have j:((16+i:Nat):Int)-16=((i:Nat):Int):=by omega
   have m:((16+i:Nat):Int)-7=((i+9:Nat):Int):=by omega
   have ia:=λ(k:Nat)a K=>EL (t:=Cn) (s:=r) (z:=(k:Int)) k (K:=K) rfl rfl a;have y:=λk a K=>AQ (t:=Al) (p:=k) (K:=K) rfl hr a;have b:=λk a=>B02 (n:=64) (l:=Nx l i) (k:=k) a;simp(disch:=omega) only[KB,CV,OD,e,g,j,m,ia,y,b];have i1:∀K,YE 1 Ab 2 [(0,1,.v (.int .i64 7)),(1,1,.v (.int .i64 18))] K=K (.list 2 (Yp [7,18])):=λK=>B5P 7 18 K;have i2:∀K,YE 1 Ab 2 [(0,1,.v (.int .i64 17)),(1,1,.v (.int .i64 19))] K=K (.list 2 (Yp [17,19])):=λK=>B5P 17 19 K;have m1:∀w K,Ao (rt L (n+2)) EK [W w,.list 2 (Yp [7,18])] H K=K (W (Tl w [7,18])):=λw K=>L? (ks:=[7,18]) (by decide) (by decide) (by omega);have A:∀w K,Ao (rt L (n+2)) EK [W w,.list 2 (Yp [17,19])] H K=K (W (Tl w [17,19])):=λw K=>L? (ks:=[17,19]) (by decide) (by decide) (by omega);simp(disch:=omega) only[OD,b,i1,i2,m1,A,JJ (z:=3) (k:=3) rfl (by decide),JJ (z:=10) (k:=10) rfl (by decide),Vo,PU,C25,C24];rw[Ei hr (by omega) rfl rfl rfl,SW,A5f _ c (by omega),Do,CV (by omega) (by omega),RG];exact ih (i+1) q _ (by omega) (by omega) (AC hr) (Bq d)
  ·rw[C5 (by simp;omega)];have:i=48:=by omega
   subst this;rw[B03 (by rw[RI])]at hr;exact u _ _ hr d
def arr(l:List (BitVec 32)):AV:=.agg (DZ l)
def A3b{l:Ha}(a:l.length=64)(e:100<L):CS (rt L (n+3)) O8 [WS l] (arr (Nx l 48)):=by
 intro K d;rw[Z9];unfold Oj A3;simp only[BJ];rw[B3 (cs:=DZ (pad (w16 l 0) 64)) rfl];refine B8r a ?_ L 0 true _ (by omega) (by omega) (Az (by simp)) (AJ Fl);intro q H hr c;refine B8s (n:=n) (l:=l) e ?_ L 0 q H (by omega) (by omega) hr c;intro q H hr c;have a:(DZ (Nx l 48)).length=64:=by rw[HT,RI]
 rw[Bv rfl a.symm hr,Ch hr rfl a.symm (YP _),Bv rfl a.symm (AC hr)];exact d _ _ (λb=>⟨false,L2 (KS (λx:BitVec 32=>Value.int .u32 (x.toNat:Int)) _)⟩)
end
section
variable{q q0:Bool}{H H' H0:Hp}{D e0 r r8 s0:Nat}{P:Nat->Prop}{y:Row}
def Wx{b:Bool}{sz s o n:Nat}{e:TypeId}{cs cs':Is}{q':Bool}(g:Aj H s=some (.cells q e cs))(hn:o+n*sz<=cs.length)(h:R5 b D ((cs.drop o).take (n*sz)) cs' H q'):Fx b (D+1) (.sl sz s o n) (.list n cs') H true:=λK=>by
 have d:HQ b H (D+1) (.sl sz s o n) K=I6 H s λx=>J6 x λ_ cs=>Ek (Nat.mul n sz) (Dg o cs) λc=>IE (HQ b H D) c λ_ a=>K true (.list n a):=rfl;rw[d,AX g];have f:(J6 (.cells q e cs) λ_ cs=>Ek (Nat.mul n sz) (Dg o cs) λc=>IE (HQ b H D) c λ_ a=>K true (.list n a))=Ek (n*sz) (Dg o cs) λc=>IE (HQ b H D) c λ_ a=>K true (.list n a):=rfl;rw[f,Cy,JU _ _ _ (by simp;omega),h]
def B1b{r o n e:Nat}{cs:Is}{K:Nat->Is->Af}(a:Aj H r=some (.cells q e cs))(hn:o+n<=cs.length):SS H (.sl 1 r o n) K=K n ((cs.drop o).take n):=by
 have:SS H (.sl 1 r o n) K=I6 H r λx=>J6 x λ_ cs=>Ek (Nat.mul n 1) (Dg o cs) λc=>K n c:=rfl;rw[this,AX a];show Ek (Nat.mul n 1) (Dg o cs) (λc=>K n c)=_;have e:Nat.mul n 1=n:=pZ n;rw[e,Cy,JU _ _ _ (by simp;omega)]
def A41{n r e:Nat}(a b:Nat){cs:Is}{d c:Option AV}{K:K2}(g:∀K:Nat->Af,Xq d 0 K=K a)(f:∀K:Nat->Af,Xq c n K=K b)(j:Aj H r=some (.cells q e cs))(hn:n<=cs.length)(h1:a<=b)(h2:b<=n):xK n 1 (.ptr r 0 0) d c H K=K (.sl 1 r a (b-a)):=by
 have i:xK n 1 (.ptr r 0 0) d c H K=I6 H r λy=>J6 y λ_ cs=>G6 cs 0 λcl=>ck (Nat.ble (Nat.add 0 (Nat.mul n 1)) cl) (Xq d 0 λl=>Xq c n λh=>ck (Nat.ble l h&&Nat.ble h n) (fN (Nat.add 0 (Nat.mul l 1)) λk=>fN (Nat.sub h l) λm=>K (.sl 1 r k m))):=rfl;rw[i,AX j];show G6 cs 0 _=_;rw[Cl,g,f,Dy,Dy];have f1:Nat.ble (Nat.add 0 (Nat.mul n 1)) (0+cs.length)=true:=by rw[jJ];show 0+n*1<=_;omega
 have f2:(Nat.ble a b&&Nat.ble b n)=true:=by simp only[K0,jJ];omega
 have f3:Nat.add 0 (Nat.mul a 1)=a:=by show 0+a*1=a;omega
 rw[f1,f2,f3];rfl
def C01{r o n m e:Nat}{cs ys:Is}{src:AV}{K:KV}(c:∀K:Nat->Is->Af,SS H src K=K m ys)(d:ys.length=m)(hm:m<=n)(hn:0<n)(h1:ys.all AV.one=true)(a:RH 1 src=true)(b:Aj H r=some (.cells q e cs))(f:o+m<=cs.length):A1S 1 (.sl 1 r o n) src H K=K (I m) (upd H r (.cells q e (splice cs o ys))):=by
 unfold A1S;rw[c,Cl];have f1:(Nat.beq (0+ys.length) (Nat.mul m 1)&&(Nat.beq 1 1&&(Nat.blt 0 n&&(Nat.ble m n&&(N0 ys&&RH 1 src)))))=true:=by
  have:Nat.mul m 1=m:=pZ m;rw[FK,h1,a,d,this,Jt,jH];simp only[Z!,l1g,jH,K0,Wr,jJ];omega
 simp only[f1];show I6 H r _=_;rw[AX b];show Er o ys cs _=_;rw[Iq _ _ _ _ (by omega),Dh];rfl
def Lat.upd_new(k:Lat H H' P)(hr:As H<=r):Lat H (Go.Abs.upd H' r y) P:=
 ⟨λw=>Bq (k.wf w),by rw[BB];exact k.nx,λw s x a hn=>by rw[Ag (by have:=w.lt a;omega)];exact k.keep w s x a hn⟩
def Lat.new(k:Lat H H' P):Lat H ((As H',y)::H') P:=k.trans (Lat.cons H' y P) (λ_ _ h=>h) (λ_ _ h=>h)
def Lat.upd_old(k:Lat H H' P)(hr:P r):Lat H (Go.Abs.upd H' r y) P:=k.trans (Lat.upd H' r y hr) (λ_ _ h=>h) (λ_ _ h=>h)
def Chk(H:Hp)(v:AV)(l:Ha):Prop:=v=WS l\/∃r o q e cs,v=.sl 1 r o l.length/\Aj H r=some (.cells q e cs)/\o+l.length<=cs.length/\(cs.drop o).take l.length=Mr l
def B4A{b:Bool}(l:Ha):R5 b D (Mr l) (Mr l) H false:=KS (λb:UInt8=>Value.int .u8 (b.toNat:Int)) l
def Chk.fx{v:AV}{l:Ha}(h:Chk H v l):∃q,Fx true depth v (WS l) H q:=by
 rcases h with rfl|⟨r,o,q,e,cs,rfl,h1,h2,a⟩
 ·exact⟨_,On⟩
 ·exact⟨_,Wx h1 (by omega) (by rw[pZ,a];exact B4A l)⟩
variable{L n:Nat}{K:KV}{x:Af}
def C4l(s:S8)(k w:BitVec 32):(DZ [s.h+Tl s.e [6,11,25]+((s.e&&&s.f)^^^(~~~s.e&&&s.g))+k+w+(Tl s.a [2,13,22]+((s.a&&&s.b)^^^(s.a&&&s.c)^^^(s.b&&&s.c))),s.a,s.b,s.c,s.d+(s.h+Tl s.e [6,11,25]+((s.e&&&s.f)^^^(~~~s.e&&&s.g))+k+w),s.e,s.f,s.g])=DZ (rnd s k w).l:=by
 have i:Tl s.e [6,11,25]=KI s.e 6^^^KI s.e 11^^^KI s.e 25:=by simp[Tl]
 have j:Tl s.a [2,13,22]=KI s.a 2^^^KI s.a 13^^^KI s.a 22:=by simp[Tl]
 rw[i,j,A9f]
def C0w{k:AV->AV->AV->AV->KV}{ws:List (BitVec 32)}{s0:S8}{r2 r8:Nat}{v0 w5:AV}(aa:ws.length=64)(hL:100<L)(h2:As H0<=r2)(R:As H0<=r8)(F:r2≠r8)(hx:∀A u H,Aj H r8=some (.cells A u (DZ (nS ws s0 64).l))->Lat H0 H (λ_=>False)->Wf H->k v0 (.ptr r2 0 0) (.ptr r8 0 0) (arr kk) (I 64) H=x):
 ∀(f i:Nat)(q2:Bool)(Q:Nat)(A:Bool)(u:Nat)(H:Hp),i<=64->64-i<f->Aj H r2=some (.cells q2 Q (DZ ws))->Aj H r8=some (.cells A u (DZ (nS ws s0 i).l))->Lat H0 H (λ_=>False)->Wf H->
  KJ L (rt L (n+2)) K k f v0 (.ptr r2 0 0) (.ptr r8 0 0) (arr kk) (I i) w5 H=x:=by
 intro f
 induction f with
 |zero=>intro i _ _ _ _ H _ h;omega
 |succ f ih=>
  intro i q2 Q A u H hi hf M j J hw;rw[UU];unfold KL OG A3;rw[DO,FA];by_cases h:i<64
  ·rw[Dl (by simp;omega)];generalize hs:nS ws s0 i=s at j;have g0:(DZ s.l).getD 0 .dk=W s.a:=id rfl;have g1:(DZ s.l).getD 1 .dk=W s.b:=id rfl;have g2:(DZ s.l).getD 2 .dk=W s.c:=id rfl;have g4:(DZ s.l).getD 4 .dk=W s.e:=id rfl;have g5:(DZ s.l).getD 5 .dk=W s.f:=id rfl;have g6:(DZ s.l).getD 6 .dk=W s.g:=id rfl;have g7:(DZ s.l).getD 7 .dk=W s.h:=id rfl;have gw:(DZ ws).getD i .dk=W (ws.getD i 0):=Mw (by omega);have i0:=λK=>EL (t:=AP) (s:=r8) (z:=0) 0 (K:=K) rfl rfl (by decide);have i1:=λK=>EL (t:=AP) (s:=r8) (z:=1) 1 (K:=K) rfl rfl (by decide);have i2:=λK=>EL (t:=AP) (s:=r8) (z:=2) 2 (K:=K) rfl rfl (by decide);have i4:=λK=>EL (t:=AP) (s:=r8) (z:=4) 4 (K:=K) rfl rfl (by decide);have i5:=λK=>EL (t:=AP) (s:=r8) (z:=5) 5 (K:=K) rfl rfl (by decide);have i6:=λK=>EL (t:=AP) (s:=r8) (z:=6) 6 (K:=K) rfl rfl (by decide);have i7:=λK=>EL (t:=AP) (s:=r8) (z:=7) 7 (K:=K) rfl rfl (by decide);have iw:=λK=>EL (t:=Cn) (s:=r2) (z:=(i:Int)) i (K:=K) rfl rfl h;have l8:(DZ s.l).length=8:=rfl;have lw:(DZ ws).length=64:=by rw[HT,aa]
   have j1:∀K,YE 1 Ab 3 [(0,1,.v (.int .i64 6)),(1,1,.v (.int .i64 11)),(2,1,.v (.int .i64 25))] K=K (.list 3 (Yp [6,11,25])):=λK=>B5O 6 11 25 K;have j2:∀K,YE 1 Ab 3 [(0,1,.v (.int .i64 2)),(1,1,.v (.int .i64 13)),(2,1,.v (.int .i64 22))] K=K (.list 3 (Yp [2,13,22])):=λK=>B5O 2 13 22 K;have m1:∀w K,Ao (rt L (n+2)) EK [W w,.list 3 (Yp [6,11,25])] H K=K (W (Tl w [6,11,25])):=λw K=>L? (ks:=[6,11,25]) (by decide) (by decide) (by omega);have m2:∀w K,Ao (rt L (n+2)) EK [W w,.list 3 (Yp [2,13,22])] H K=K (W (Tl w [2,13,22])):=λw K=>L? (ks:=[2,13,22]) (by decide) (by decide) (by omega);have la:=λ(k:Nat)V K=>AQ (t:=Al) (p:=k) (K:=K) rfl j V;have O:=λ(k:Nat)V K=>AQ (t:=Al) (p:=k) (K:=K) rfl M V;have ki:∀K,iO Cn Al (arr kk) (I i) K=K (W (kk.getD i 0)):=λK=>by
    unfold arr;rw[A5O i rfl rfl rfl h (by rw[HT,A3L];decide),B5T h]
   simp(disch:=omega) only[OD,SW,i0,i1,i2,i4,i5,i6,i7,iw,la,O,g0,g1,g2,g4,g5,g6,g7,gw,ki,j1,j2,m1,m2,Vo,zM,PU,zG];rw[A41 1 8 (λK=>rfl) (λK=>rfl) j (by omega) (by decide) (by decide),OD,A41 0 7 (λK=>rfl) (λK=>rfl) j (by omega) (by decide) (by decide),OD];rw[C01 (λK=>B1b j (by omega)) rfl (by decide) (by decide) rfl rfl j (by rw[l8];decide),SW];clear la O j1 j2 m1 m2;have m:=AC (q:=A) (e:=u) (cs:=DZ [s.a,s.a,s.b,s.c,s.d,s.e,s.f,s.g]) j;have C:Aj (upd H r8 (.cells A u (DZ [s.a,s.a,s.b,s.c,s.d,s.e,s.f,s.g]))) r2=some (.cells q2 Q (DZ ws)):=by rw[Ag F];exact M
   have N:=Bq (r:=r8) (y:=.cells A u (DZ [s.a,s.a,s.b,s.c,s.d,s.e,s.f,s.g])) hw;have B:=J.upd_new (y:=.cells A u (DZ [s.a,s.a,s.b,s.c,s.d,s.e,s.f,s.g])) R;have Y:splice (DZ s.l) 1 (((DZ s.l).drop 0).take (7-0))=DZ [s.a,s.a,s.b,s.c,s.d,s.e,s.f,s.g]:=id rfl;rw[Y];generalize upd H r8 (.cells A u (DZ [s.a,s.a,s.b,s.c,s.d,s.e,s.f,s.g]))=H3 at m C N B;rw[AQ rfl m (by show 4<8;decide)];have g3:(DZ [s.a,s.a,s.b,s.c,s.d,s.e,s.f,s.g]).getD 4 .dk=W s.d:=id rfl;rw[g3,PU,Ei m (by show 0<8;decide) rfl rfl rfl,Ei (AC m) (by rw[List.length_set];show 4<8;decide) rfl rfl rfl,Do,CV (by omega) (by omega),RG];have X:nS ws s0 (i+1)=rnd s (kk.getD i 0) (ws.getD i 0):=by rw[<-hs];rfl
   have Z:∀a d:BitVec 32,((DZ [s.a,s.a,s.b,s.c,s.d,s.e,s.f,s.g]).set 0 (W a)).set 4 (W d)=DZ [a,s.a,s.b,s.c,d,s.e,s.f,s.g]:=λ_ _=>id rfl;refine ih (i+1) q2 Q A u _ (by omega) (by omega) ?_ ?_ ((B.upd_new R).upd_new R) (Bq (Bq N))
   ·rw[Ag F,Ag F];exact C
   ·rw[X,<-C4l,<-Z];exact AC (AC m)
  ·rw[C5 (by simp;omega)];have:i=64:=by omega
   subst this;exact hx _ _ _ j J hw
def C0x{k:Ru}{a b:List (BitVec 32)}{O Q R:AV}(C:a.length=8)(hb:b.length=8)(j:s0≠r8)(J:∀H,Aj H s0=some (.cells q0 e0 (DZ (jB a b 8)))->Lat H0 H (λt=>t=s0)->Wf H->k H=x):
 ∀(f i:Nat)(v:Bool)(g:Nat)(H:Hp),i<=8->8-i<f->Aj H s0=some (.cells q0 e0 (DZ (jB a b i++a.drop i)))->Aj H r8=some (.cells v g (DZ b))->Lat H0 H (λt=>t=s0)->Wf H->
  KK L (rt L n) K k f (.ptr s0 0 0) O (.ptr r8 0 0) Q R (I i) H=x:=by
 intro f
 induction f with
 |zero=>intro i _ _ H _ h;omega
 |succ f ih=>
  intro i v g H X V c e d w;rw[UV];unfold KM OG A3;rw[DO,FA];by_cases h:i<8
  ·rw[Dl (by simp;omega)];have m:(DZ (jB a b i++a.drop i)).length=8:=by rw[HT,EC,Tc,Z_,C];omega
   have F:(DZ b).length=8:=by rw[HT,hb]
   have A:(DZ (jB a b i++a.drop i)).getD i .dk=W (a.getD i 0):=by
    rw[Mw (by rw[HT]at m;omega)]
    congr 1
    rw[Vf,Vf,l0o (by rw[Tc];omega),Tc,Nat.sub_self,tT,Nat.add_zero]
   have B:(DZ b).getD i .dk=W (b.getD i 0):=Mw (by omega);have ia:=λK=>EL (t:=AP) (s:=s0) (z:=(i:Int)) i (K:=K) rfl rfl h;have ib:=λK=>EL (t:=AP) (s:=r8) (z:=(i:Int)) i (K:=K) rfl rfl h;have M:=λK=>AQ (t:=Al) (p:=i) (K:=K) rfl c (by omega);have N:=λK=>AQ (t:=Al) (p:=i) (K:=K) rfl e (by omega);simp only[Ix,OD,ia,ib,M,N,A,B,PU];rw[Ei c (by omega) rfl rfl rfl,SW,Do,CV (by omega) (by omega),RG];have u:(DZ (jB a b i++a.drop i)).set i (W (a.getD i 0+b.getD i 0))=DZ (jB a b (i+1)++a.drop (i+1)):=by
    rw[zX,ZL];have:a.drop i=a.getD i 0::a.drop (i+1):=by rw[vM (by omega),Vf,K8 (by omega)];rfl
    rw[this];unfold DZ;rw[Za,Za,List.set_append_right _ _ (by rw[Qa,Tc];omega),Qa,Tc,Nat.sub_self];rfl
   refine ih (i+1) v g _ (by omega) (by omega) ?_ ?_ (d.upd_old rfl) (Bq w)
   ·rw[<-u];exact AC c
   ·rw[Ag (Ne.symm j)];exact e
  ·rw[C5 (by simp;omega)];have:i=8:=by omega
   subst this;rw[List.drop_of_length_le (by omega),UC]at c;exact J _ c d w
def C3j{s:S8}{l:Ha}{c:AV}(hl:l.length=64)(Y:100<L)(O:Wf H)(hr:Aj H s0=some (.cells q0 e0 (DZ s.l)))(hc:Chk H c l)(hx:∀H',Aj H' s0=some (.cells q0 e0 (DZ (blk s l).l))->Lat H H' (λt=>t=s0)->Wf H'->K (.tup []) H'=x):(rt L (n+4)).call L4 [.ptr s0 0 0,c] H K=x:=by
 rw[Wd];unfold Lw A3;simp only[BJ];obtain⟨q,hq⟩:=hc.fx;rw[AR (A3b (n:=n) hl Y) (An hq AK)];have h0:=O.lt hr;rw[B3 (cs:=DZ (List.replicate 64 0)) rfl];unfold arr;have v:=Az (H:=H) (x:=.cells true Dj (DZ (List.replicate 64 0))) (by simp);rw[Ch v (by rw[HT,HT,RI];rfl) (by rw[HT];rfl) (YP _),Ix];have k:=AC (q:=true) (e:=Dj) (cs:=DZ (Nx l 48)) v;have m:Aj (upd ((As H,c_ Dj (DZ (List.replicate 64 0)))::H) (As H) (c_ Dj (DZ (Nx l 48)))) s0=some (.cells q0 e0 (DZ s.l)):=by
  rw[Ag (by omega)];exact A7 h0 hr
 have g:=Bq (r:=As H) (y:=.cells true Dj (DZ (Nx l 48))) (AJ (x:=.cells true Dj (DZ (List.replicate 64 0))) O);have i:=((Lat.refl H (λ_=>False)).new (y:=.cells true Dj (DZ (List.replicate 64 0)))).upd_new (r:=As H) (y:=.cells true Dj (DZ (Nx l 48))) (Me _);generalize upd ((As H,c_ Dj (DZ (List.replicate 64 0)))::H) (As H) (c_ Dj (DZ (Nx l 48)))=f at k m g i;rw[Bv rfl rfl m,B3 (cs:=DZ (List.replicate 8 0)) rfl];have A:=Az (H:=f) (x:=.cells true BH (DZ (List.replicate 8 0))) (by simp);rw[Ch (vs:=DZ s.l) A rfl rfl (YP _)];have p:=g.lt k;have X:=g.lt m;have B:=AC (q:=true) (e:=BH) (cs:=DZ s.l) A;have F:Aj (upd ((As f,c_ BH (DZ (List.replicate 8 0)))::f) (As f) (c_ BH (DZ s.l))) (As H)=some (c_ Dj (DZ (Nx l 48))):=by
  rw[Ag (by omega)];exact A7 p k
 have J:=Bq (r:=As f) (y:=.cells true BH (DZ s.l)) (AJ (x:=.cells true BH (DZ (List.replicate 8 0))) g);have j:=(i.new (y:=.cells true BH (DZ (List.replicate 8 0)))).upd_new (r:=As f) (y:=.cells true BH (DZ s.l)) (by omega);generalize upd ((As f,c_ BH (DZ (List.replicate 8 0)))::f) (As f) (c_ BH (DZ s.l))=V at B F J j;have hg:∀K:K2,AD Cn (AV.iptr gl0) V K=K (arr kk):=λK=>by kernel_rfl
 rw[hg];refine C0w (n:=n+1) (ws:=Nx l 48) (s0:=s) (H0:=H) (by rw[RI]) Y (Me _) (by omega) (by omega) ?_ L 0 true _ true _ V (by omega) (by omega) F B j J;intro q8 e8 Z N d Q;have C:=d.keep O s0 _ hr (λh=>h);refine C0x (a:=s.l) (b:=(nS (Nx l 48) s 64).l) (H0:=H) rfl rfl (by omega) ?_ L 0 q8 e8 Z (by omega) (by omega) C N ⟨d.wf,d.nx,λw t x ht _=>d.keep w t x ht (λh=>h)⟩ Q;intro H6 M u R;exact hx H6 M u R
end
section
variable{q:Bool}{e r:Nat}{s:S8}
def oG(l:Ha)(n:Nat):Ha:=l++List.replicate (n-l.length) 0
def B05{l:Ha}{n:Nat}(h:l.length<=n):(oG l n).length=n:=by simp[oG];omega
def B04{l:Ha}{n k:Nat}(w:UInt8)(a:l.length=k)(h:k<n):(Mr (oG l n)).set k (By w)=Mr (oG (l++[w]) n):=by
 subst a;have e:n-l.length=(n-(l.length+1))+1:=by omega
 simp[oG,Mr,e,l1c,List.set_append_right]
def A6S{l:Ha}{n:Nat}(h:l.length=n):oG l n=l:=by simp[oG,h]
def B2v(w:BitVec 32){j:Nat}(h:j<4):(wb w).take (j+1)=(wb w).take j++[UInt8.ofNat (w>>>(24-8*j)).toNat]:=by
 have:j=0\/j=1\/j=2\/j=3:=by omega
 rcases this with rfl|rfl|rfl|rfl<;>simp[wb,BitVec.toNat_ushiftRight,Nat.shiftRight_eq_div_pow]
def B6n(w:BitVec 32):(wb w).length=4:=rfl
variable{L n:Nat}{K:KV}{x:Af}
def C04{k:AV->AV->AV->AV->AV->KV}{w:BitVec 32}{b:Ha}{i r e:Nat}{a c:AV}(u:i<8)(hb:b.length=4*i)(p:∀H,Aj H r=some (.cells q e (Mr (oG (b++wb w) 32)))->k (.ptr r 0 0) (I i) (W w) a c (I 4) H=x):
 ∀(f j:Nat)(H:Hp),j<=4->4-j<f->Aj H r=some (.cells q e (Mr (oG (b++(wb w).take j) 32)))->Ku L (rt L n) K k f (.ptr r 0 0) (I i) (W w) a c (I j) H=x:=by
 intro f
 induction f with
 |zero=>intro j H _ h;omega
 |succ f ih=>
  intro j H v t hr;rw[Uv];unfold Kw A3;rw[DO,FA];by_cases h:j<4
  ·rw[Dl (by simp;omega)];have d:(4:Int)*(i:Int)+(j:Int)=((4*i+j:Nat):Int):=by omega
   have g:(24:Int)-8*(j:Int)=((24-8*j:Nat):Int):=by omega
   simp(disch:=omega) only[Qv,Do,KB,CV,d,g,zJ,JJ (z:=((24-8*j:Nat):Int)) (k:=24-8*j) rfl (by omega)];have m:(b++(wb w).take j).length=4*i+j:=by rw[EC,hb,vN,B6n];omega
   rw[EL (4*i+j) rfl rfl (by omega),Ei hr (by rw[Qf,B05 (by omega)];omega) rfl rfl rfl,B04 _ m (by omega),ZL,<-B2v w h,RG];exact ih (j+1) _ (by omega) (by omega) (AC hr)
  ·rw[C5 (by simp;omega)];have:j=4:=by omega
   subst this;exact p _ hr
def C05{k:KV}{w0 w1 w5:AV}(c:10<L)(a:∀H,Aj H r=some (.cells q e (Mr (XT s.l 8)))->k (.ptr r 0 0) H=x):
 ∀(f i:Nat)(w0 w1 w5:AV)(H:Hp),i<=8->8-i<f->Aj H r=some (.cells q e (Mr (oG (XT s.l i) 32)))->Kv L (rt L n) K k f (.ptr r 0 0) w0 w1 (arr s.l) (I i) w5 H=x:=by
 intro f
 induction f with
 |zero=>intro i _ _ _ H _ h;omega
 |succ f ih=>
  intro i w0 w1 w5 H g d hr;rw[Uw];unfold Kx A3;rw[DO,FA];by_cases h:i<8
  ·rw[Dl (by simp;omega)];simp only[BJ];unfold arr;rw[A5O i rfl rfl rfl h (by show 8<=8;decide),Mw (show i<s.l.length from h)];refine C04 (b:=XT s.l i) h (XS _ _) ?_ L 0 H (by omega) (by omega) (by simpa using hr);intro H hr;rw[Do,CV (by omega) (by omega),RG];exact ih (i+1) _ _ _ H (by omega) (by omega) hr
  ·rw[C5 (by simp;omega)];have:i=8:=by omega
   subst this;rw[A6S (XS _ _)]at hr;exact a _ hr
def A9b(d:10<L):CS (rt L (n+1)) GL [arr s.l] (S (XT s.l 8)):=by
 intro K c;rw[Vd];unfold KR A3;simp only[BJ];unfold arr;rw[En (YP _),B3 (cs:=Mr (oG (XT s.l 0) 32)) rfl];have a:Aj ((As [(As [],c_ BH (DZ s.l))],c_ VB (Mr (oG (XT s.l 0) 32)))::[(As [],c_ BH (DZ s.l))]) (As [])=some (c_ BH (DZ s.l)):=id rfl;rw[Bv rfl rfl a];refine C05 (w0:=.dk) (w1:=.dk) (w5:=.dk) d ?_ L 0 _ _ _ _ (by omega) (by omega) (Az (by simp));intro H hr;have f:(Mr (XT s.l 8)).length=32:=by rw[Qf,XS]
 rw[A41 0 32 (λK=>rfl) (λK=>rfl) hr (by omega) (by decide) (by decide),A5P (e:=VB) (.inr ⟨_,_,rfl,hr,by omega⟩)];exact c _ _ (λb=>⟨false,C7⟩)
end
section
variable{q0:Bool}{H:Hp}{e0:Nat}{t:TI}
def A7k{e r o m:Nat}{x y z:Int}(a b c:Nat){K:K2}(f:t.d=.slice e 1)(i:x=a)(j:y=b)(hz:z=c)(h1:a<=b)(h2:b<=c)(p:c<=m):C8 t (.sl 1 r o m) (some (I x)) (some (I y)) (some (I z)) K=K (.sl 1 r (o+a) (b-a)):=by
 subst i j hz;have g:C8 t (.sl 1 r o m) (some (I a)) (some (I b)) (some (I c)) K=iN (a:Int) λl=>iN (b:Int) λh=>iN (c:Int) λx=>ck (Nat.ble l h&&(Nat.ble h x&&Nat.ble x m)) (fN (Nat.add o (Nat.mul l 1)) λk=>fN (Nat.sub h l) λn=>K (.sl 1 r k n)):=by
  obtain⟨_,_,d,z⟩:=t;simp only at f;subst f;rfl
 rw[g,Ju,Ju,Ju];have f1:(Nat.ble a b&&(Nat.ble b c&&Nat.ble c m))=true:=by simp only[K0,jJ];omega
 have f2:Nat.add o (Nat.mul a 1)=o+a:=by show o+a*1=_;omega
 rw[f1,f2,Dy,Dy];rfl
def A3Z{e r o m:Nat}{x:Int}(a:Nat){K:K2}(b:t.d=.slice e 1)(f:x=a)(h1:a<=m):C8 t (.sl 1 r o m) (some (I x)) none none K=K (.sl 1 r (o+a) (m-a)):=by
 subst f;have c:C8 t (.sl 1 r o m) (some (I a)) none none K=iN (a:Int) λl=>fN m λh=>fN m λx=>ck (Nat.ble l h&&(Nat.ble h x&&Nat.ble x m)) (fN (Nat.add o (Nat.mul l 1)) λg=>fN (Nat.sub h l) λn=>K (.sl 1 r g n)):=by
  obtain⟨_,_,d,z⟩:=t;simp only at b;subst b;rfl
 rw[c,Ju,Dy,Dy];have f1:(Nat.ble a m&&(Nat.ble m m&&Nat.ble m m))=true:=by simp only[K0,jJ];omega
 have f2:Nat.add o (Nat.mul a 1)=o+a:=by show o+a*1=_;omega
 rw[f1,f2,Dy,Dy];rfl
def B1e{x y:Int}(h:x<=y){K:K2}:eMM true (I x) (I y) K=K (I x):=by
 have:eMM true (I x) (I y) K=ck (decide (IntKind.i64=IntKind.i64)) (@Bool.rec (λ_=>Af) (K (I y)) (K (I x)) (pG x y)):=rfl;rw[this,L1,Hj h];rfl
def B52{ty sz r o m:Nat}{K:KV}:Hr ty (.sl sz r o m) H K=K (.ptr (As H) 0 0) ((As H,c_ ty [.sl sz r o m])::H):=by
 unfold Hr;rw[CK,FK,BW];rfl
def Et{b:Bool}{K:K2}:Mv .not (Bo b) K=K (Bo (!b)):=by cases b<;>rfl
variable{L n:Nat}{K:KV}{x:Af}
def lpS(a c2 c3 c4 c5 c6 c34 c35 c36:AV)(p:Option (Option Code)):Row:=.loop 40 [(0,a),(2,c2),(3,c3),(4,c4),(5,c5),(6,c6),(34,c34),(35,c35),(36,c36)] (F7).2.1 (F7).2.2.1 (F7).2.2.2 p
def B3w{b c2 c4 c5 c6 c34 c35 c36 c:AV}{s r0:Nat}{t:S8}{l:Ha}(J:l.length=64)(D:100<L)(N:Wf H)(hr:Aj H r0=some (.cells q0 e0 (DZ t.l)))(hc:Chk H c l)(p:Aj H s=some (lpS b c2 (.ptr r0 0 0) c4 c5 c6 c34 c35 c36 (some none)))(k:∀w,A8 c w->w≠s)(d:r0≠s)(O:∀a,Aj a r0=some (.cells q0 e0 (DZ (blk t l).l))->Aj a s=some (lpS b c2 (.ptr r0 0 0) c4 c5 c6 c34 c35 c36 (some none))->(∀u y,Aj H u=some y->u≠r0->u≠s->Aj a u=some y)->Wf a->K (Bo true) a=x):
 Ct (E L) (rt L (n+5)) (.yl s) [c] H K=x:=by
 show XA6 (rt L (n+5)) s [c] H K=x;rw[OY p (by kernel_rfl)];have i:(rt L (n+5)).run= λA=>OK (E L) (rt L (n+4)) A:=rfl;rw[i,oD,Ph p];have g:=Bq (r:=s) (y:=lpS b c2 (.ptr r0 0 0) c4 c5 c6 c34 c35 c36 none) N;have m:Aj (upd H s (lpS b c2 (.ptr r0 0 0) c4 c5 c6 c34 c35 c36 none)) r0=some (.cells q0 e0 (DZ t.l)):=by rw[Ag d];exact hr
 have v:Aj (upd H s (lpS b c2 (.ptr r0 0 0) c4 c5 c6 c34 c35 c36 none)) s=some (lpS b c2 (.ptr r0 0 0) c4 c5 c6 c34 c35 c36 none):=Ff p;have j:Chk (upd H s (lpS b c2 (.ptr r0 0 0) c4 c5 c6 c34 c35 c36 none)) c l:=by
  rcases hc with h|⟨r,o,q,e,cs,h1,h2,B,C⟩
  ·exact .inl h
  ·refine .inr ⟨r,o,q,e,cs,h1,?_,B,C⟩;rw[Ag (k r ⟨_,_,_,h1⟩)];exact h2
 refine C3j J D g m j ?_;intro a F hb hc;have f:=hb.keep g s _ v (λh=>d h.symm);show E7 a s false (some none) _=_;unfold lpS at f;rw[Pg f];refine O _ ?_ (Ff f) ?_ (Bq hc)
 ·rw[Ag d];exact F
 ·intro u y M h1 h2;rw[Ag h2];refine hb.keep g u y ?_ h1;rw[Ag h2];exact M
def B9K{k:Ru}{w c2 c4 c5 c6 c34 c35 c36:AV}{s r0 r1 r2 rm m N O em:Nat}{q0 q1 q2 J:Bool}{l:Ha}(V:100<L)(hm:l.length=64*m)(hl:l.length<200000000000)(M:r0≠s)(d1:r1≠s)(d2:r2≠s)(y:rm≠s)(d:r1≠r0)(a:r2≠r0)(e:rm≠r0)(X:∀H,Aj H r0=some (.cells q0 e0 (DZ (dX l m).l))->Aj H s=some (lpS w c2 (.ptr r0 0 0) c4 c5 c6 c34 c35 c36 (some none))->Wf H->k H=x):
 ∀(f i:Nat)(H:Hp),i<=m->m-i<f->Aj H r0=some (.cells q0 e0 (DZ (dX l i).l))->Aj H s=some (lpS w c2 (.ptr r0 0 0) c4 c5 c6 c34 c35 c36 (some none))->
  Aj H r1=some (.cells q1 N [.sl 1 rm 0 l.length])->Aj H r2=some (.cells q2 O [I 64])->Aj H rm=some (.cells J em (Mr l))->Wf H->
  FO L (rt L (n+5)) K k f (.yl s) (.ptr r1 0 0) (.ptr r2 0 0) (I ((64*i:Nat):Int)) H=x:=by
 intro f
 induction f with
 |zero=>intro i H _ h;omega
 |succ f ih=>
  intro i H Z Y B C h1 h2 b D;rw[Mz];unfold FP;have l1:∀K,AD AW (.ptr r1 0 0) H K=K (.sl 1 rm 0 l.length):=λK=>AQ (p:=0) rfl h1 (by simp);have l2:∀K,AD Ab (.ptr r2 0 0) H K=K (I 64):=λK=>AQ (p:=0) rfl h2 (by decide);have F:∀k o K,Bm AW (.sl 1 rm o k) K=K (I k):=λ_ _ _=>id rfl;rw[l1,F,DO,FA];by_cases h:i<m
  ·rw[Dl (by simp;omega)];have P:∀K,C8 AW (.sl 1 rm 0 l.length) (some (I ((64*i:Nat):Int))) none none K=K (.sl 1 rm (0+64*i) (l.length-64*i)):=λK=>A3Z _ rfl rfl (by omega);have A:((64*i:Nat):Int)+64=((64*(i+1):Nat):Int):=by omega
   have Q:∀K,C8 AW (.sl 1 rm 0 l.length) (some (I ((64*i:Nat):Int))) (some (I ((64*(i+1):Nat):Int))) (some (I ((64*(i+1):Nat):Int))) K=K (.sl 1 rm (0+64*i) (64*(i+1)-64*i)):=λK=>A7k _ _ _ rfl rfl rfl rfl (by omega) (by omega) (by omega);have R:64*(i+1)-64*i=64:=by omega
   simp(disch:=omega) only[OD,l1,l2,P,F,B1e,Do,CV,A,Q,R,Jt];refine B3w (l:=(l.drop (64*i)).take 64) (by simp;omega) V D B (.inr ⟨rm,64*i,J,em,Mr l,?_,b,?_,?_⟩) C ?_ M ?_
   ·have:((l.drop (64*i)).take 64).length=64:=by simp;omega
    rw[this]
   ·have:((l.drop (64*i)).take 64).length=64:=by simp;omega
    rw[this,Qf];omega
   ·have:((l.drop (64*i)).take 64).length=64:=by simp;omega
    rw[this];unfold Mr;rw[List.map_take,List.map_drop]
   ·rintro s' ⟨_,_,_,j⟩;injection j with _ j
    subst j;exact y
   ·intro v g q c r;have u:∀K,AD Ab (.ptr r2 0 0) v K=K (I 64):=λK=>AQ (p:=0) rfl (c r2 _ h2 a d2) (by decide);rw[Et,FA,C5 (by simp),u,Do,CV (by omega) (by omega),A];exact ih (i+1) v (by omega) (by omega) g q (c r1 _ h1 d d1) (c r2 _ h2 a d2) (c rm _ b e y) r
  ·rw[C5 (by simp;omega)];have:i=m:=by omega
   subst this;exact X _ B C D
end
section
variable{k:AV->AV->AV->AV->AV->AV->AV->KV}{H:Hp}{s:Ha}{y:Row}
variable{L n:Nat}{K:KV}{x:Af}
def B1X{v:AV}{l:Ha}{r0:Nat}(b:UInt8)(h:B0 H Bu 1 v l.length (Mr l))(w:Wf H)(hn:l.length<1000000000000)(d:Aj H r0=some y)(j:¬A8 v r0):
 ∃c a,(∀K:KV,(GM Bu 1 Bl 1 [(0,1,By b)] H λv1 e=>E5 Bu 1 Bl AW v v1 e K)=K c a)/\B0 a Bu 1 c (l++[b]).length (Mr (l++[b]))/\Wf a/\Aj a r0=some y/\¬A8 c r0:=by
 obtain⟨c,a,h1,h2,f,p,g,i⟩:=B1Y b h w hn;exact⟨c,a,h1,h2,f,g r0 y d j,λm=>by have:=i r0 m;have:=w.lt d;omega⟩
def C1u{r0:Nat}{w0 w1 g D w5 i m p:AV}(J:s.length<100000000000)(B:∀v H,B0 H Bu 1 v (pre s).length (Mr (pre s))->Wf H->Aj H r0=some y->¬A8 v r0->k w0 w1 g v w5 i m p H=x):
 ∀(f j:Nat)(v:AV)(H:Hp),j<=eK s.length->eK s.length-j<f->B0 H Bu 1 v (s++[128]++List.replicate j 0).length (Mr (s++[128]++List.replicate j 0))->Wf H->Aj H r0=some y->¬A8 v r0->
  Ux L (rt L n) K k f w0 w1 g v D w5 i m p H=x:=by
 intro f
 induction f with
 |zero=>intro j v H _ h;omega
 |succ f ih=>
  intro j v H w F hv d b c;rw[pJ];unfold Uy A3;have a:(s++[128]++List.replicate j (0:UInt8)).length=s.length+1+j:=by simp;omega
  have hz:eK s.length<64:=by unfold eK;omega
  rw[Le rfl hv,Qu (by decide),IS,FA];have hm:((s++[128]++List.replicate j (0:UInt8)).length:Int).tmod 64=(((s.length+1+j)%64:Nat):Int):=by rw[a];exact(Int.ofNat_tmod _ _).symm
  rw[hm];by_cases h:j=eK s.length
  ·subst h;have:(s.length+1+eK s.length)%64=56:=by unfold eK;omega
   rw[this];simp only[Z?,decide_eq_false_iff_not];rw[C5 (by simp)];exact B _ _ hv d b c
  ·have A:(s.length+1+j)%64≠56:=by unfold eK at h w;omega
   rw[Dl (by simp;omega)];obtain⟨C,q,h1,h2,r,t,u⟩:=B1X (0:UInt8) hv d (by omega) b c;have e:(AV.v (.int .u8 0))=By 0:=rfl;rw[e];rw[h1];refine ih (j+1) C q (by omega) (by omega) ?_ r t u;rw[List.replicate_succ',<-ZL];exact h2
def C1v{r0:Nat}{w1 d w5 q e g:AV}(P:s.length<100000000000)(J:∀v w H,B0 H Bu 1 v (ext s).length (Mr (ext s))->Wf H->Aj H r0=some y->¬A8 v r0->k (S s) w1 d v w w5 e g H=x):
 ∀(f i:Nat)(l:Ha)(v:AV)(H:Hp),i<=8->i<f->l++XF s.length i=ext s->B0 H Bu 1 v l.length (Mr l)->Wf H->Aj H r0=some y->¬A8 v r0->
  Qc L (rt L n) K k f (S s) w1 d v (I ((i:Int)-1)) w5 q e g H=x:=by
 have hz:eK s.length<64:=by unfold eK;omega
 intro f
 induction f with
 |zero=>intro i l v H _ h;omega
 |succ f ih=>
  intro i l v H O N b hv p j m;have F:l.length<=s.length+1+64+8:=by
   have:=congrArg List.length b;simp[ext,pre,xY]at this;omega
  rw[pK];unfold Uz A3;rw[KC,FA];cases i with
  |zero=>
   rw[C5 (by simp)];have:l=ext s:=by simpa [XF] using b
   subst this;exact J _ _ _ hv p j m
  |succ i=>
   rw[Dl (by simp)];have t:((i+1:Nat):Int)-1=(i:Int):=by omega
   rw[t];rw[PQ rfl,Qv,Qv,CV (by omega) (by omega),CV (by omega) (by omega)];have u:(8:Int)*(s.length:Int)=((8*s.length:Nat):Int):=by omega
   have A:(8:Int)*(i:Int)=((8*i:Nat):Int):=by omega
   rw[u,A,uP (by omega)];rw[A1T rfl];obtain⟨M,r,h1,h2,B,C,D⟩:=B1X (dN s.length i) hv p (by omega) j m;simp(disch:=omega) only[KB,CV];have h1:=h1 (λc a=>Qc L (rt L n) K k f (S s) w1 d c (I ((i:Int)-1)) w5 q e g a);unfold dN at h1;rw[h1];refine ih i (l++[dN s.length i]) M r (by omega) (by omega) ?_ h2 B C D;rw[ZL];exact b
def A57{R:Rt}{N g:Nat}{cap:Is}{t:Tm}{ps:Array Tmp}{b d:Code}{K:Option (Option Code)->Ru}:nQ R N (.fn (.func g) [] cap) t ps b d H K=R.call g (.yl (As H)::cap) ((As H,.loop N t ps b d (some none))::H) λ_ c=>I6 c (As H) λx=>ZJ x λ_ _ _ _ _ a=>Ll c (As H) .gone λf=>K a f:=by
 have e:nQ R N (.fn (.func g) [] cap) t ps b d H K=Ik H λs=>R.call g (.yl s::cap) ((s,.loop N t ps b d (some none))::H) λ_ c=>I6 c s λx=>ZJ x λ_ _ _ _ _ a=>Ll c s .gone λf=>K a f:=rfl;rw[e,BW]
def C1A(hs:s.length<100000000000)(hL:s.length+200<L):CS (rt L (n+8)) WK [S s] (S (sha s)):=by
 intro K hK;rw[tJ];unfold Wk A3;simp only[BJ];have X:∀K:K2,Ca AP [(0,1,(AV.v (.int .u32 1779033703))),(1,1,(AV.v (.int .u32 3144134277))),(2,1,(AV.v (.int .u32 1013904242))),(3,1,(AV.v (.int .u32 2773480762))),(4,1,(AV.v (.int .u32 1359893119))),(5,1,(AV.v (.int .u32 2600822924))),(6,1,(AV.v (.int .u32 528734635))),(7,1,(AV.v (.int .u32 1541459225)))] K=K (.agg (DZ iv.l)):=λK=>by kernel_rfl
 rw[X,B3 (cs:=DZ (List.replicate 8 0)) rfl];have O:=Az (H:=[]) (x:=.cells true BH (DZ (List.replicate 8 0))) (by simp);rw[Ch (vs:=DZ iv.l) O rfl rfl (YP _)];have B:=AC (q:=true) (e:=BH) (cs:=DZ iv.l) O;have J:=Bq (r:=As []) (y:=.cells true BH (DZ iv.l)) (AJ (x:=.cells true BH (DZ (List.replicate 8 0))) Fl);generalize upd ((As [],c_ BH (DZ (List.replicate 8 0)))::[]) (As []) (c_ BH (DZ iv.l))=t at B J;have P:∀K:KV,A1I Bu (S s) t K=K (.sl 1 (As t) 0 s.length) ((As t,.cells false Bu (Mr s))::t):=λK=>by
  have e:A1I Bu (S s) t K=G6 s 0 λn=>dU s λcs=>Ik t λr=>K (.sl 1 r 0 n) ((r,.cells false Bu cs)::t):=rfl;rw[e,Cl,Zd,BW,Jt];rfl
 rw[P];have Y:=J.lt B;have Z:=A7 (x:=.cells false Bu (Mr s)) Y B;have ad:=AJ (x:=.cells false Bu (Mr s)) J;have ac:=NI (H:=t) (e:=Bu) (n:=s.length) (cs:=Mr s) (Qf s);have e:(AV.v (.int .u8 128))=By 128:=rfl;obtain⟨v',H',h1,h2,h3,h4,h5⟩:=B1X (128:UInt8) ac ad (by omega) Z (λ⟨_,_,_,hh⟩=>by injection hh with _ hh;omega);rw[e,h1];have hz:eK s.length<64:=by unfold eK;omega
 refine C1u hs ?_ L 0 v' H' (by omega) (by omega) (by simpa using h2) h3 h4 h5;intro v H hv F hr R;refine C1v hs ?_ L 8 (pre s) v H (by omega) (by omega) rfl hv F hr R;intro v w H hv F hr R;obtain⟨m,hm,af⟩:=A5J s;rcases hv with⟨_,h,_⟩|⟨rm,qm,rfl,D,ae⟩
 ·simp[ext]at h
 have V:rm≠As []:=λh=>R ⟨_,_,_,by rw[h]⟩;rw[Qi];unfold I0 A3;simp only[BJ];rw[B52,mG rfl];have j:=A7 (x:=.cells true Pd [.sl 1 rm 0 (ext s).length]) (F.lt hr) hr;have c:=A7 (x:=.cells true Pd [.sl 1 rm 0 (ext s).length]) (F.lt D) D;have g:=Az (H:=H) (x:=.cells true Pd [.sl 1 rm 0 (ext s).length]) (by simp);have a:=AJ (x:=.cells true Pd [.sl 1 rm 0 (ext s).length]) F;have a1:=F.lt hr;have a2:=F.lt D;have a3:=a.lt g;generalize ((As H,c_ Pd [.sl 1 rm 0 (ext s).length])::H)=N at j c g a a3;have C:=A7 (x:=.cells true Hd [I 64]) (a.lt j) j;have f:=A7 (x:=.cells true Hd [I 64]) (a.lt c) c;have A:=A7 (x:=.cells true Hd [I 64]) (a.lt g) g;have i:=Az (H:=N) (x:=.cells true Hd [I 64]) (by simp);have d:=AJ (x:=.cells true Hd [I 64]) a;have a4:=a.lt j;have a5:=a.lt c;have a6:=d.lt i;generalize ((As N,c_ Hd [I 64])::N)=u at C f A i d a6;have l2:∀K,AD Ab (.ptr (As N) 0 0) u K=K (I 64):=λK=>AQ (p:=0) rfl i (by decide);rw[l2,DO,FA,C5 (by decide),A57,Na];unfold Gf A3;simp only[BJ];have a7:=d.lt C;have a8:=d.lt f;have a9:=d.lt A;refine B9K (n:=n+1) (m:=m) (l:=ext s) (s:=As u) (r0:=As []) (r1:=As H) (r2:=As N) (rm:=rm) (by omega) hm (by omega) (by omega) (by omega) (by omega) (by omega) (by omega) (by omega) V ?_ L 0 _ (by omega) (by omega) (A7 a7 C) (Az (x:=lpS (S s) (AV.v (.string ⟨⟨[]⟩⟩)) (.ptr (As []) 0 0) (.sl 1 rm 0 (ext s).length) _ _ _ _ _ (some none)) (by simp[lpS])) (A7 a9 A) (A7 a6 i) (A7 a8 f) (AJ d);intro M h0 aa ag;rw[AX aa];show Ll M (As u) .gone _=_;rw[Dh];show AD AP (.ptr (As []) 0 0) (upd M (As u) .gone) _=_;have Q:Aj (upd M (As u) .gone) (As [])=some (c_ BH (DZ (dX (ext s) m).l)):=by rw[Ag (by omega)];exact h0
 rw[Bv rfl rfl Q];have ab:∀K,Ao (rt L (n+7)) GL [.agg (DZ (dX (ext s) m).l)] (upd M (As u) .gone) K=K (S (XT (dX (ext s) m).l 8)):=λK=>AR (A9b (L:=L) (n:=n+6) (by omega)) (An (L2 (KS (λx:BitVec 32=>Value.int .u32 (x.toNat:Int)) _)) AK);show Ao (rt L (n+7)) GL [.agg (DZ (dX (ext s) m).l)] (upd M (As u) .gone) _=_;rw[ab];have e:XT (dX (ext s) m).l 8=sha s:=by
  unfold sha;have:(ext s).length/64=m:=by omega
  rw[this]
 rw[e];exact hK _ _ (λb=>⟨false,C7⟩)
end
end Go.Abs
end
