import Derived.Test.YtjbpmepbnkbmfaaGreatDoorP06
set_option linter.all false
set_option maxHeartbeats 0
noncomputable section
namespace Go.Abs
open Go.RowKit Go.Proofs
set_option maxRecDepth 100000
section
variable{v w:AV}{K:K2}{x:Af}{b:Bool}{H:Hp}{s:Ha}{L e n:Nat}{R:Rt}{t t':TI}
def C1l{l:Ha}{i:Nat}(c:t.d=.string)(h:i<l.length):kG t t' (S l) (I i) K=K (By l[i]):=by
 have e:kG t t' (S l) (I i) K=iN (i:Int) λn=>B7z (Dn n l) K:=by
  have⟨a,b,d,z⟩:=t;simp only at c;subst c;rfl
 rw[e,JU,CA,rV h];show fN l[i].toNat (λn=>K (.v (.int .u8 (.ofNat n))))=_;rw[DF];rfl
def Qt{l:Ha}(c:t.d=.string):Ba t (S l) K=K (I l.length):=by
 have:Ba t (S l) K=HN l 0 λn=>K (.v (.int .i64 (.ofNat n))):=by
  have⟨a,b,d,z⟩:=t;simp only at c;subst c;rfl
 rw[this,C4,JZ];rfl
def LD{e sz n:Nat}{cs:Is}{f g:Nat}(c:t.d=.slice f g)(h:Bp H e sz v n cs):Ba t v K=K (I n):=by
 have⟨a,b,d,z⟩:=t;simp only at c;subst c;rcases h with⟨rfl,rfl,_⟩|⟨r,q,rfl,_⟩<;>rfl
def B2X{l:Ha}(b:UInt8)(h:Bp H B3 1 v l.length (MM l))(w:Wf H)(hn:l.length<1000000000000):
 ∃d a,(∀K:KV,(GF B3 1 Bq 1 [(0,1,By b)] H λv1 j=>E0 B3 1 Bq AZ v v1 j K)=K d a)/\Bp a B3 1 d (l++[b]).length (MM (l++[b]))/\Wf a/\Ar H<=Ar a/\(∀s x,Ah H s=some x->¬A8 v s->Ah a s=some x)/\(∀s,A8 d s->Ar H<=s):=by
 have i:Bp ((Ar H,.cells false B3 [By b])::H) B3 1 v l.length (MM l):=h.lat w (Lat.cons H _ (λ_=>False)) (λ_ _ h=>h);have c:=Oo (H:=H) (e:=B3) (n:=1) (cs:=[By b]) rfl;have⟨d,a,h1,h2,k,m⟩:=apt (ie:=Bq) (i2:=AZ) i (λK=>RL (K:=K) c) rfl rfl (by decide) rfl rfl (by show(l.length+1)*1<=_;omega) (by omega);have f:=(Lat.cons H (.cells false B3 [By b]) (A8 v)).trans m (R:=A8 v) (λ_ _ h=>h) (λ_ _ h=>h);refine⟨d,a,λK=>?_,by rw[EN,<-A0s];exact h2,f.wf w,f.nx,λs x g hn=>f.keep w s x g hn,λs g=>?_⟩
 ·rw[wU (z:=By 0) (λ_=>rfl) (λ_=>rfl) rfl];exact h1 K
 ·rw[k s g];exact l1u _
def gR(n:Nat):Nat:=(119-n%64)%64
def fQ(n i:Nat):UInt8:=UInt8.ofNat (8*n/2^(8*i))
def pre(s:Ha):Ha:=s++[128]++List.replicate (gR s.length) 0
def ext(s:Ha):Ha:=pre s++[fQ s.length 7,fQ s.length 6,fQ s.length 5,fQ s.length 4,fQ s.length 3,fQ s.length 2,fQ s.length 1,fQ s.length 0]
def C1a{K:KV}{k:AV->AV->AV->KV}(r:s.length<100000000000)(g:∀v H,Bp H B3 1 v s.length (MM s)->Wf H->k (S s) v (I s.length) w H=x):
 ∀(f i:Nat)(v:AV)(H:Hp),i<=s.length->s.length-i<f->Bp H B3 1 v (s.take i).length (MM (s.take i))->Wf H->Ou L R K k f (S s) v (I i) w H=x:=by
 intro f
 induction f with
 |zero=>intro i v H _ h;omega
 |succ f ih=>
  intro i v H hi q hv a;rw[dE];unfold Ow A4;rw[Qt rfl,DO,FD];by_cases h:i<s.length
  ·rw[Dv (by simpa using h)];rw[C1l rfl h];have⟨j,c,h1,h2,d,m,p,_⟩:=B2X s[i] hv a (by simp;omega);rw[h1];simp(disch:=omega) only[Dp,CX];refine ih (i+1) j c (by omega) (by omega) ?_ d;rw[nL h];exact h2
  ·rw[CL (by simpa using h)];have:i=s.length:=by omega
   subst this;exact g _ _ (by simpa using hv) a
def wK{j:TI}{a k:Nat}(c:k<=64):Aq j .shr (I a) (I k) K=K (I (a/2^k:Nat)):=by
 have:Aq j .shr (I a) (I k) K=ck (qZ 0 (k:Int)) (fI ((a:Int).fdiv (2^(min (k:Int).toNat 64))) λz=>K (.v (.int .i64 z))):=rfl;rw[this,VW];have h1:qZ 0 (k:Int)=true:=by rw[LZ];simp
 have h2:(a:Int).fdiv (2^(min (k:Int).toNat 64))=((a/2^k:Nat):Int):=by
  rw[kY,l22 c];have:((2:Int)^k)=((2^k:Nat):Int):=by simp
  rw[this,Int.fdiv_eq_ediv_of_nonneg _ (Int.natCast_nonneg _)];exact(Int.natCast_ediv _ _).symm
 rw[h1,h2];rfl
def A2L{m:Nat}(c:t'.d=.int .u8):Jk t t' (I m) K=K (By (UInt8.ofNat m)):=by
 have:Jk t t' (I m) K=OX .u8 (m:Int) λz=>K (.v (.int .u8 z)):=by
  have⟨a,b,d,z⟩:=t';simp only at c;subst c;rfl
 rw[this,IX,eP rfl];have:(m:Int)%(2^IntKind.u8.bits:Nat)=((UInt8.ofNat m).toNat:Int):=by
  rw[UInt8.toNat_ofNat'];exact(Int.natCast_emod _ _).symm
 rw[this]
def YC(n:Nat):Nat->Ha
 |0=>[]
 |i+1=>fQ n i::YC n i
def zZ(n i:Nat):(YC n i).length=i:=by
 induction i with
 |zero=>rfl
 |succ i ih=>simp[YC,ih]
def C1b{K:KV}{k:AV->AV->KV}{w1 d u:AV}(C:s.length<100000000000)(q:∀v H,Bp H B3 1 v (pre s).length (MM (pre s))->Wf H->k w1 v d H=x):
 ∀(f j:Nat)(v:AV)(H:Hp),j<=gR s.length->gR s.length-j<f->Bp H B3 1 v (s++[128]++List.replicate j 0).length (MM (s++[128]++List.replicate j 0))->Wf H->Ov L R K k f w1 v d u H=x:=by
 intro f
 induction f with
 |zero=>intro j v H _ h;omega
 |succ f ih=>
  intro j v H m B hv c;rw[dF];unfold Ox A4;have a:(s++[128]++List.replicate j (0:UInt8)).length=s.length+1+j:=by simp;omega
  have hz:gR s.length<64:=by unfold gR;omega
  rw[LD rfl hv,Tz (by decide),I2,FD];have hm:((s++[128]++List.replicate j (0:UInt8)).length:Int).tmod 64=(((s.length+1+j)%64:Nat):Int):=by rw[a];exact(Int.ofNat_tmod _ _).symm
  rw[hm];by_cases h:j=gR s.length
  ·subst h;have:(s.length+1+gR s.length)%64=56:=by unfold gR;omega
   rw[this];simp only[l19,decide_eq_false_iff_not];rw[CL (by simp)];exact q _ _ hv c
  ·have p:(s.length+1+j)%64≠56:=by unfold gR at h m;omega
   rw[Dv (by simp;omega)];have⟨r,g,h1,h2,i,y,A,_⟩:=B2X (0:UInt8) hv c (by omega);have e:(AV.v (.int .u8 0))=By 0:=rfl;rw[e];rw[h1];refine ih (j+1) r g (by omega) (by omega) ?_ i;rw[List.replicate_succ',<-eI];exact h2
def C1c{K:KV}{k:KV}(F:s.length<100000000000)(y:∀v H,Bp H B3 1 v (pre s++YC s.length 8).length (MM (pre s++YC s.length 8))->Wf H->k v H=x):
 ∀(f i:Nat)(l:Ha)(v:AV)(H:Hp),i<=8->i<f->l++YC s.length i=pre s++YC s.length 8->Bp H B3 1 v l.length (MM l)->Wf H->L5 L R K k f (S s) v w (I ((i:Int)-1)) H=x:=by
 have hz:gR s.length<64:=by unfold gR;omega
 intro f
 induction f with
 |zero=>intro i l v H _ h;omega
 |succ f ih=>
  intro i l v H hi D c hv g;have u:l.length<=s.length+1+64+8:=by
   have:=congrArg List.length c;simp[pre,zZ]at this;omega
  rw[dG];unfold Oy A4;rw[Mi,FD];cases i with
  |zero=>
   rw[CL (by simp)];have:l=pre s++YC s.length 8:=by simpa [YC] using c
   subst this;exact y _ _ hv g
  |succ i=>
   rw[Dv (by simp)];have m:((i+1:Nat):Int)-1=(i:Int):=by omega
   rw[m];rw[Qt rfl,QS,QS,CX (by omega) (by omega),CX (by omega) (by omega)];have p:(8:Int)*(s.length:Int)=((8*s.length:Nat):Int):=by omega
   have q:(8:Int)*(i:Int)=((8*i:Nat):Int):=by omega
   rw[p,q,wK (by omega)];rw[A2L rfl];have⟨A,j,h1,h2,r,B,C,_⟩:=B2X (fQ s.length i) hv g (by omega);simp(disch:=omega) only[Le,CX];have h1:=h1 (λd a=>L5 L R K k f (S s) d w (I ((i:Int)-1)) a);unfold fQ at h1;rw[h1];refine ih i (l++[fQ s.length i]) A j (by omega) (by omega) ?_ h2 r;rw[eI];exact c
def XR(l:Ha):AV:=.list l.length (MM l)
def A06{cs:Is}(h:Bp H e 1 v n cs)(hn:n≠0){α:Type}(f:α->Value)(l:List α)(hc:cs=l.map λx=>.v (f x)):Fx b depth v (.list n cs) H true:=by
 subst hc;rcases h with⟨_,h2,_⟩|⟨r,q,rfl,h2,a⟩
 ·exact absurd h2 hn
 ·exact Yb (q':=false) h2 a (Lz f l)
def C13{l:Ha}(h:Bp H B3 1 v l.length (MM l))(a:l≠[]):Fx b depth v (XR l) H true:=
 A06 h (λh=>a (gM h)) (λb:UInt8=>Value.int .u8 (b.toNat:Int)) l rfl
def fx1{x:Value}:RZ true depth [.v x] [.v x] H false:=Al (q:=false) (q':=false) C7 AD
def A42(s:Ha)(c:s.length<100000000000)(k:s.length+100<L):CS (rt L (n+1)) Qr [S s] (XR (ext s)):=by
 intro K g;rw[fF];unfold PZ A4;simp only[BF];refine C1a c ?_ L 0 _ [] (by omega) (by omega) (.inl ⟨rfl,rfl,rfl⟩) Ft;intro v H hv a;have⟨h,d,h1,h2,f,i,j,_⟩:=B2X (128:UInt8) hv a (by omega);have e:(AV.v (.int .u8 128))=By 128:=rfl;rw[e,h1];refine C1b c ?_ L 0 h d (by omega) (by have:gR s.length<64:=(by unfold gR;omega);omega) (by simpa using h2) f;intro v H hv a;refine C1c c ?_ L 8 (pre s) v H (by omega) (by omega) rfl hv a;intro v H hv a;exact g _ _ (λb=>⟨true,C13 (l:=ext s) hv (by simp[ext])⟩)
end
section
variable{K:K2}{q:Bool}{H:Hp}{L e k n p r:Nat}{t:TI}{x:Value}
def Ln(x:BitVec 32)(k:Nat):BitVec 32:=(x>>>k)|||(x<<<(32-k))
def C4f{x y:Value}:RZ true depth [.v x,.v y] [.v x,.v y] H false:=Al (q:=false) (q':=false) C7 fx1
def fxq{b:Bool}:Fx b depth (.v x) (.v x) H false:=C7
def A7w(x:BitVec 32)(k:Nat)(d:k<=32):PS (rt L (n+1)) D7 [W x,I k] (W (Ln x k)):=by
 refine CS.ps (λK c=>?_) (λH=>C4f);rw[iY];unfold Rb LF;have a:((32:Int)-(k:Int))=((32-k:Nat):Int):=by omega
 simp(disch:=omega) only[JT rfl d,B2z,Le,CX,a,Mh rfl (show 32-k<=32 by omega),kJ];exact c _ _ (λb=>⟨false,fxq⟩)
def kk:List (BitVec 32):=[0x428a2f98,0x71374491,0xb5c0fbcf,0xe9b5dba5,0x3956c25b,0x59f111f1,0x923f82a4,0xab1c5ed5,
 0xd807aa98,0x12835b01,0x243185be,0x550c7dc3,0x72be5d74,0x80deb1fe,0x9bdc06a7,0xc19bf174,
 0xe49b69c1,0xefbe4786,0x0fc19dc6,0x240ca1cc,0x2de92c6f,0x4a7484aa,0x5cb0a9dc,0x76f988da,
 0x983e5152,0xa831c66d,0xb00327c8,0xbf597fc7,0xc6e00bf3,0xd5a79147,0x06ca6351,0x14292967,
 0x27b70a85,0x2e1b2138,0x4d2c6dfc,0x53380d13,0x650a7354,0x766a0abb,0x81c2c92e,0x92722c85,
 0xa2bfe8a1,0xa81a664b,0xc24b8b70,0xc76c51a3,0xd192e819,0xd6990624,0xf40e3585,0x106aa070,
 0x19a4c116,0x1e376c08,0x2748774c,0x34b0bcb5,0x391c0cb3,0x4ed8aa4a,0x5b9cca4f,0x682e6ff3,
 0x748f82ee,0x78a5636f,0x84c87814,0x8cc70208,0x90befffa,0xa4506ceb,0xbef9a3f7,0xc67178f2]
def A4C:kk.length=64:=rfl
def A1t:CS (rt L (n+1)) Pf [] (.list 64 (Ej kk)):=by
 intro K a;rw[dI];have e:OC L (rt L n) [] K=K (.sl 1 0 0 64) [(0,.cells false Cs (Ej kk))]:=by kernel_rfl
 rw[e];exact a _ _ (λb=>⟨true,A06 (e:=Cs) (.inr ⟨0,false,rfl,rfl,rfl⟩) (by decide) (λx:BitVec 32=>Value.int .u32 (x.toNat:Int)) kk rfl⟩)
def B2N{l:Ha}(h:k<l.length):(MM l).getD k .dk=By (l.getD k 0):=by
 simp[MM,TV,h]
def MN{l:List (BitVec 32)}(h:k<l.length):(Ej l).getD k .dk=W (l.getD k 0):=by
 simp[Ej,TV,h]
def HV(l:List (BitVec 32)):(Ej l).length=l.length:=by simp[Ej]
def B3w(a b:List (BitVec 32)):Ej a++Ej b=Ej (a++b):=by simp[Ej]
def ZF(l:List (BitVec 32)):(Ej l).all AV.one=true:=by simp[Ej,AV.one,Value.oneCell']
def Zz{cs:Is}{z:Int}(g:t.d=.slice e 1)(hc:cs.length=n)(s:0<=z)(h1:z<n):D4 t (.list n cs) (I z) K=K (.iptr [cs.getD z.toNat .dk]):=by
 obtain⟨m,rfl⟩:=Int.eq_ofNat_of_zero_le s;have h:D4 t (.list n cs) (I (m:Int)) K=iN (m:Int) λm=>ck (Nat.blt m n) (To 1 (Dn (Nat.mul m 1) cs) λc=>K (.iptr c)):=by
  have⟨a,b,d,z⟩:=t;simp only at g;subst g;rfl
 have hm:m<n:=by omega
 rw[h,JU,CA,OY];have:Nat.blt m n=true:=by rw[Wg];exact hm
 rw[this];have i:Nat.mul m 1=m:=rT m;have j:(cs.drop m).take 1=[cs.getD m .dk]:=by
  have f:m<cs.length:=by omega
  rw[rV f,TV,KJ f];rfl
 rw[i,j];rfl
def A0j{z:Int}(c:t.d=.slice e 1)(h:0<=z)(h1:z<n):D4 t (.sl 1 r 0 n) (I z) K=K (.ptr r z.toNat 0):=by
 obtain⟨m,rfl⟩:=Int.eq_ofNat_of_zero_le h;have f:D4 t (.sl 1 r 0 n) (I (m:Int)) K=iN (m:Int) λm=>ck (Nat.blt m n) (fN (Nat.add 0 (Nat.mul m 1)) λp=>K (.ptr r p 0)):=by
  have⟨a,b,d,z⟩:=t;simp only at c;subst c;rfl
 have hm:m<n:=by omega
 rw[f,JU,DF];have:Nat.blt m n=true:=by rw[Wg];exact hm
 have g:Nat.add 0 (Nat.mul m 1)=m:=by show 0+m*1=m;omega
 rw[this,g];rfl
def NI{c:AV}(h:t.d.isAgg=false):AE t (.iptr [c]) H K=K c:=by
 have:AE t (.iptr [c]) H K=@Bool.rec (λ_=>Af) (K c) (E9 t.size [c] λc=>K (.agg c)) t.d.isAgg:=rfl;rw[this,h]
def B2j{cs:Is}(h:t.d.isAgg=false)(b:Ah H r=some (.cells q e cs))(a:p<cs.length):AE t (.ptr r p 0) H K=K (cs.getD p .dk):=by
 have:AE t (.ptr r p 0) H K=IP H r λx=>Kb x λ_ cs=>@Bool.rec (λ_=>Af) (hdK (Dn (Nat.add p 0) cs) K) (E9 t.size (Dn (Nat.add p 0) cs) λc=>K (.agg c)) t.d.isAgg:=rfl;rw[this,h,Bl b];show hdK (Dn p cs) K=_;rw[CA,rV a,TV,KJ a];rfl
def B2m{l:Ha}{z:Int}(a:0<=z)(h1:z<l.length):D4 AZ (XR l) (I z) K=K (.iptr [By (l.getD z.toNat 0)]):=by
 unfold XR;rw[Zz rfl (Q8 l) a h1,B2N (by omega)]
def C4D{z:Int}(a:0<=z)(h1:z<n):D4 AJ (.sl 1 r 0 n) (I z) K=K (.ptr r z.toNat 0):=A0j rfl a h1
def C4C{l:List (BitVec 32)}(b:Ah H r=some (.cells q e (Ej l)))(a:p<l.length):AE Ao (.ptr r p 0) H K=K (W (l.getD p 0)):=by
 rw[B2j rfl b (by rw[HV];exact a),MN a]
def J?{b:UInt8}:Jk Bq Ao (By b) K=K (W (BitVec.ofNat 32 b.toNat)):=B2r
def C53{v:AV}{l:List (BitVec 32)}(b:BitVec 32)(h:Bp H Cs 1 v l.length (Ej l))(w:Wf H)(hn:l.length<1000000000000):
 ∃r q a,(∀K:KV,(Ei (GF Cs 1 Ao 1 [(0,1,W b)] H λv H=>some (v,H)) λv1 i=>Ei (E0 Cs 1 Ao AJ v v1 i λv H=>some (v,H)) K)=K (.sl 1 r 0 (l.length+1)) a)/\Ah a r=some (.cells q Cs (Ej (l++[b])))/\Wf a/\Ar H<=Ar a/\(∀s x,Ah H s=some x->¬A8 v s->Ah a s=some x)/\Ar H<=r:=by
 have f:Bp ((Ar H,.cells false Cs [W b])::H) Cs 1 v l.length (Ej l):=h.lat w (Lat.cons H _ (λ_=>False)) (λ_ _ h=>h);have c:=Oo (H:=H) (e:=Cs) (n:=1) (cs:=[W b]) rfl;have⟨A,a,h1,h2,j,m⟩:=apt (ie:=Ao) (i2:=AJ) f (λK=>RL (K:=K) c) rfl rfl (by decide) rfl rfl (by show(l.length+1)*4<=_;omega) (by omega);have d:=(Lat.cons H (.cells false Cs [W b]) (A8 v)).trans m (R:=A8 v) (λ_ _ h=>h) (λ_ _ h=>h);rcases h2 with⟨_,g,_⟩|⟨r,q,rfl,g,y⟩
 ·omega
 ·refine⟨r,q,a,λK=>?_,by rw[<-B3w];exact g,d.wf w,d.nx,λs x u hn=>d.keep w s x u hn,?_⟩
  ·rw[wU (z:=W 0) (λ_=>rfl) (λ_=>rfl) rfl,A5c,h1 (λv H=>some (v,H)),A5c]
  ·rw[j r ⟨_,_,_,rfl⟩];exact l1u _
end
section
variable{v:AV}{H:Hp}
def Pt{K:K2}:Ax (some (v,H)) K=K v:=B2z
def T3{K:KV}:Ei (some (v,H)) K=K v H:=A5c
def eG{L n:Nat}{x:BitVec 32}{z:Int}(k:Nat)(a:z=(k:Int))(h:k<=32){K:K2}:Ap (rt L (n+1)) D7 [W x,I z] H K=K (W (Ln x k)):=by
 subst a;exact A7w x k (by omega) H K
def A5p{l:List (BitVec 32)}{n:Nat}(b:BitVec 32)(d:l.length=n)(h:Bp H Cs 1 v n (Ej l))(w:Wf H)(hn:n<1000000000000):
 ∃r q a,(∀K:KV,(Ei (GF Cs 1 Ao 1 [(0,1,W b)] H λv H=>some (v,H)) λv1 c=>Ei (E0 Cs 1 Ao AJ v v1 c λv H=>some (v,H)) K)=K (.sl 1 r 0 (n+1)) a)/\Ah a r=some (.cells q Cs (Ej (l++[b])))/\Wf a/\Ar H<=Ar a/\(∀s x,Ah H s=some x->¬A8 v s->Ah a s=some x)/\Ar H<=r:=by
 subst d;exact C53 b h w hn
def bw(l:Ha)(i:Nat):BitVec 32:=BitVec.ofNat 32 (l.getD i 0).toNat
def A5G(l:Ha)(i:Nat):BitVec 32:=bw l (4*i)<<<24|||bw l (4*i+1)<<<16|||bw l (4*i+2)<<<8|||bw l (4*i+3)
def w16(l:Ha)(n:Nat):List (BitVec 32):=(List.range n).map (A5G l)
def sg0(x:BitVec 32):BitVec 32:=Ln x 7^^^Ln x 18^^^x>>>3
def sg1(x:BitVec 32):BitVec 32:=Ln x 17^^^Ln x 19^^^x>>>10
def Ob(l:Ha):Nat->List (BitVec 32)
 |0=>w16 l 16
 |i+1=>Ob l i++[(Ob l i).getD i 0+sg0 ((Ob l i).getD (i+1) 0)+(Ob l i).getD (i+9) 0+sg1 ((Ob l i).getD (i+14) 0)]
def iB(l:Ha)(n:Nat):(w16 l n).length=n:=by simp[w16]
def Sk(l:Ha)(i:Nat):(Ob l i).length=16+i:=by
 induction i with
 |zero=>simp[Ob,iB]
 |succ i ih=>simp[Ob,ih];omega
structure S8 where
 a:BitVec 32
 b:BitVec 32
 c:BitVec 32
 d:BitVec 32
 e:BitVec 32
 f:BitVec 32
 g:BitVec 32
 h:BitVec 32
def S8.l(s:S8):List (BitVec 32):=[s.a,s.b,s.c,s.d,s.e,s.f,s.g,s.h]
def rt1(s:S8)(k w:BitVec 32):BitVec 32:=s.h+(Ln s.e 6^^^Ln s.e 11^^^Ln s.e 25)+((s.e&&&s.f)^^^(~~~s.e&&&s.g))+k+w
def rt2(s:S8):BitVec 32:=(Ln s.a 2^^^Ln s.a 13^^^Ln s.a 22)+((s.a&&&s.b)^^^(s.a&&&s.c)^^^(s.b&&&s.c))
def rnd(s:S8)(k w:BitVec 32):S8:=⟨rt1 s k w+rt2 s,s.a,s.b,s.c,s.d+rt1 s k w,s.e,s.f,s.g⟩
def pJ(ws:List (BitVec 32))(s:S8):Nat->S8
 |0=>s
 |i+1=>rnd (pJ ws s i) (kk.getD i 0) (ws.getD i 0)
def C54(s t:S8):S8:=⟨s.a+t.a,s.b+t.b,s.c+t.c,s.d+t.d,s.e+t.e,s.f+t.f,s.g+t.g,s.h+t.h⟩
def blk(s:S8)(l:Ha):S8:=C54 s (pJ (Ob l 48) s 64)
variable{L n:Nat}{K:KV}{x:Af}
def A14(l:Ha)(i:Nat):BitVec.ofNat 32 (l.getD (4*i) 0).toNat<<<24|||BitVec.ofNat 32 (l.getD (4*i+1) 0).toNat<<<16|||BitVec.ofNat 32 (l.getD (4*i+2) 0).toNat<<<8|||BitVec.ofNat 32 (l.getD (4*i+3) 0).toNat=A5G l i:=rfl
def A1k(l:Ha)(i:Nat):w16 l (i+1)=w16 l i++[A5G l i]:=by simp[w16,List.range_succ]
def B9M(x:BitVec 32):Ln x 7^^^Ln x 18^^^x>>>3=sg0 x:=rfl
def B9L(x:BitVec 32):Ln x 17^^^Ln x 19^^^x>>>10=sg1 x:=rfl
def Si(i:Nat):(i:Int)+1=((i+1:Nat):Int):=rfl
def C1K{k:AV->AV->AV->AV->AV->AV->AV->AV->KV}{l:Ha}{a0 w1 b c d w5 e:AV}(C:l.length=64)(w:∀v H,Bp H Cs 1 v 16 (Ej (w16 l 16))->Wf H->k a0 (XR l) v (I 16) b c d w5 e H=x):
 ∀(f i:Nat)(v:AV)(H:Hp),i<=16->16-i<f->Bp H Cs 1 v i (Ej (w16 l i))->Wf H->S0 L (rt L n) K k f a0 (XR l) v (I i) w1 b c d w5 e H=x:=by
 intro f
 induction f with
 |zero=>intro i v H _ h;omega
 |succ f ih=>
  intro i v H hi B hv a;rw[mB];unfold SE Kx A4;rw[DO,FD];by_cases h:i<16
  ·rw[Dv (by simp;omega)];simp(disch:=omega) only[QS,Dp,CX,Pt,B2m,NI (t:=Bq) rfl,J?,Mh (z:=24) (k:=24) rfl (by decide),Mh (z:=16) (k:=16) rfl (by decide),Mh (z:=8) (k:=8) rfl (by decide),kJ];have j:((4:Int)*(i:Int)).toNat=4*i:=by omega
   have m:((4:Int)*(i:Int)+1).toNat=4*i+1:=by omega
   have p:((4:Int)*(i:Int)+2).toNat=4*i+2:=by omega
   have s:((4:Int)*(i:Int)+3).toNat=4*i+3:=by omega
   rw[j,m,p,s,A14];have⟨r,q,g,h1,h2,u,y,A,_⟩:=A5p (A5G l i) (iB l i) hv a (by omega);rw[h1,Si];refine ih (i+1) _ g (by omega) (by omega) (.inr ⟨r,q,rfl,?_,?_⟩) u
   ·rw[A1k];exact h2
   ·rw[HV,iB];omega
  ·rw[CL (by simp;omega)];have:i=16:=by omega
   subst this;exact w _ _ hv a
def C1L{k:AV->AV->AV->AV->AV->AV->KV}{l:Ha}{w0 w1 c A B w5 d e:AV}(u:∀r q H,Ah H r=some (.cells q Cs (Ej (Ob l 48)))->Wf H->k w0 w1 (.sl 1 r 0 64) c (I 64) d e H=x):
 ∀(f i r:Nat)(q:Bool)(H:Hp),i<=48->48-i<f->Ah H r=some (.cells q Cs (Ej (Ob l i)))->Wf H->SB L (rt L (n+1)) K k f w0 w1 (.sl 1 r 0 (16+i)) c (I ((16+i:Nat):Int)) A B w5 d e H=x:=by
 intro f
 induction f with
 |zero=>intro i r q H _ h;omega
 |succ f ih=>
  intro i r q H hi F hv b;rw[mC];unfold SF Kx A4;rw[DO,FD];by_cases h:i<48
  ·rw[Dv (by simp;omega)];have a:=Sk l i;have j:((16+i:Nat):Int)-15=((i+1:Nat):Int):=by omega
   have m:((16+i:Nat):Int)-2=((i+14:Nat):Int):=by omega
   have p:((16+i:Nat):Int)-16=((i:Nat):Int):=by omega
   have s:((16+i:Nat):Int)-7=((i+9:Nat):Int):=by omega
   simp(disch:=omega) only[Le,CX,Pt,j,m,p,s,C4D,kY,C4C hv,eG (z:=7) 7 rfl (by decide),eG (z:=18) 18 rfl (by decide),eG (z:=17) 17 rfl (by decide),eG (z:=19) 19 rfl (by decide),VZ,JT (z:=3) (k:=3) rfl (by decide),JT (z:=10) (k:=10) rfl (by decide),Qv];rw[B9M,B9L];have⟨y,w,g,h1,h2,t,C,D,_⟩:=A5p ((Ob l i).getD i 0+sg0 ((Ob l i).getD (i+1) 0)+(Ob l i).getD (i+9) 0+sg1 ((Ob l i).getD (i+14) 0)) (v:=.sl 1 r 0 (16+i)) a (.inr ⟨r,q,rfl,hv,by rw[HV,a];omega⟩) b (by omega);rw[h1];simp(disch:=omega) only[Dp,CX];rw[Si];exact ih (i+1) y w g (by omega) (by omega) h2 t
  ·rw[CL (by simp;omega)];have:i=48:=by omega
   subst this;exact u _ _ _ hv b
end
section
variable{v:AV}{H:Hp}{t:TI}
def Rd(H:Hp)(v:AV)(n:Nat)(cs:Is):Prop:=cs.length=n/\(v=.list n cs\/∃r q e,v=.sl 1 r 0 n/\Ah H r=some (.cells q e cs))
def rdp(v:AV)(i:Nat):AV:=match v with
 |.list _ cs=>.iptr [cs.getD i .dk]
 |.sl _ r _ _=>.ptr r i 0
 |_=>.dk
def Bp.rd{H:Hp}{e n:Nat}{v:AV}{cs:Is}(h:Bp H e 1 v n cs)(hn:n≠0):Rd H v n cs:=by
 rcases h with⟨_,h,_⟩|⟨r,q,h1,h2,a⟩
 ·exact absurd h hn
 ·exact⟨by omega,.inr ⟨r,q,e,h1,h2⟩⟩
def rP{n:Nat}{cs:Is}(h:cs.length=n):Rd H (.list n cs) n cs:=⟨h,.inl rfl⟩
def Qu{e n:Nat}{cs:Is}(h:Rd H v n cs)(a:t.d=.slice e 1){z:Int}(k:Nat)(hz:z=k)(c:k<n){K:K2}:D4 t v (I z) K=K (rdp v k):=by
 subst hz;rcases h with⟨b,rfl|⟨r,q,e,rfl,h2⟩⟩
 ·rw[Zz a b (by omega) (by omega)];rfl
 ·rw[A0j a (by omega) (by omega)];rfl
def oE{n:Nat}{cs:Is}(h:Rd H v n cs)(a:t.d.isAgg=false){k:Nat}(c:k<n){K:K2}:AE t (rdp v k) H K=K (cs.getD k .dk):=by
 rcases h with⟨b,rfl|⟨r,q,e,rfl,h2⟩⟩
 ·exact NI a
 ·exact B2j a h2 (by omega)
def C3z{a b c d e f g h:BitVec 32}(K:KV):GF Cs 1 Ao 8 [(0,1,W a),(1,1,W b),(2,1,W c),(3,1,W d),(4,1,W e),(5,1,W f),(6,1,W g),(7,1,W h)] H K=K (.sl 1 (Ar H) 0 8) ((Ar H,.cells false Cs (Ej [a,b,c,d,e,f,g,h]))::H):=by
 have i:GF Cs 1 Ao 8 [(0,1,W a),(1,1,W b),(2,1,W c),(3,1,W d),(4,1,W e),(5,1,W f),(6,1,W g),(7,1,W h)] H K=HE H λs=>K (.sl 1 s 0 8) ((s,.cells false Cs (Ej [a,b,c,d,e,f,g,h]))::H):=rfl;rw[i,BS]
def I_{x:BitVec 32}{K:K2}:MJ .xor (W x) K=K (W (~~~x)):=B27
def B7e{k:Nat}(h:k<64):(Ej kk).getD k .dk=W (kk.getD k 0):=MN (by rw[A4C];exact h)
variable{L n:Nat}{K:KV}{x:Af}
def B0f(s:S8)(k w:BitVec 32):[s.h+(Ln s.e 6^^^Ln s.e 11^^^Ln s.e 25)+((s.e&&&s.f)^^^(~~~s.e&&&s.g))+k+w+((Ln s.a 2^^^Ln s.a 13^^^Ln s.a 22)+((s.a&&&s.b)^^^(s.a&&&s.c)^^^(s.b&&&s.c))),s.a,s.b,s.c,s.d+(s.h+(Ln s.e 6^^^Ln s.e 11^^^Ln s.e 25)+((s.e&&&s.f)^^^(~~~s.e&&&s.g))+k+w),s.e,s.f,s.g]=(rnd s k w).l:=rfl
def C1M{k:AV->AV->AV->AV->AV->AV->AV->KV}{ws:List (BitVec 32)}{s0:S8}{rw:Nat}{w0 w1 w y w6 w7:AV}(r:ws.length=64)(Q:∀v q H,Bp H Cs 1 v 8 (Ej (pJ ws s0 64).l)->Ah H rw=some (.cells q Cs (Ej ws))->Wf H->k w0 w1 (.sl 1 rw 0 64) w y (.list 64 (Ej kk)) v (I 64) H=x):
 ∀(f i:Nat)(v:AV)(q:Bool)(H:Hp),i<=64->64-i<f->Bp H Cs 1 v 8 (Ej (pJ ws s0 i).l)->Ah H rw=some (.cells q Cs (Ej ws))->Wf H->SC L (rt L (n+1)) K k f w0 w1 (.sl 1 rw 0 64) w y (.list 64 (Ej kk)) v (I i) w6 w7 H=x:=by
 intro f
 induction f with
 |zero=>intro i v q H _ h;omega
 |succ f ih=>
  intro i v q H hi hf hv hr p;rw[mD];unfold SG Kx A4;rw[DO,FD];by_cases h:i<64
  ·rw[Dv (by simp;omega)];have rv:=hv.rd (by decide);have u:Rd H (.list 64 (Ej kk)) 64 (Ej kk):=rP (by rw[HV,A4C]);have rs:Rd H (.sl 1 rw 0 64) 64 (Ej ws):=⟨by rw[HV,r],.inr ⟨rw,q,Cs,rfl,hr⟩⟩
   generalize P:pJ ws s0 i=s at rv hv;have A:(Ej s.l).getD 0 .dk=W s.a:=id rfl;have B:(Ej s.l).getD 1 .dk=W s.b:=id rfl;have C:(Ej s.l).getD 2 .dk=W s.c:=id rfl;have D:(Ej s.l).getD 3 .dk=W s.d:=id rfl;have F:(Ej s.l).getD 4 .dk=W s.e:=id rfl;have J:(Ej s.l).getD 5 .dk=W s.f:=id rfl;have M:(Ej s.l).getD 6 .dk=W s.g:=id rfl;have N:(Ej s.l).getD 7 .dk=W s.h:=id rfl;have O:(Ej ws).getD i .dk=W (ws.getD i 0):=MN (by omega);have R:=λK=>Qu (t:=AJ) rv rfl (z:=0) 0 rfl (by decide) (K:=K);have i1:=λK=>Qu (t:=AJ) rv rfl (z:=1) 1 rfl (by decide) (K:=K);have i2:=λK=>Qu (t:=AJ) rv rfl (z:=2) 2 rfl (by decide) (K:=K);have V:=λK=>Qu (t:=AJ) rv rfl (z:=3) 3 rfl (by decide) (K:=K);have X:=λK=>Qu (t:=AJ) rv rfl (z:=4) 4 rfl (by decide) (K:=K);have Y:=λK=>Qu (t:=AJ) rv rfl (z:=5) 5 rfl (by decide) (K:=K);have Z:=λK=>Qu (t:=AJ) rv rfl (z:=6) 6 rfl (by decide) (K:=K);have i7:=λK=>Qu (t:=AJ) rv rfl (z:=7) 7 rfl (by decide) (K:=K);have ik:=λK=>Qu (t:=AJ) u rfl (z:=i) i rfl h (K:=K);have iw:=λK=>Qu (t:=AJ) rs rfl (z:=i) i rfl h (K:=K);have lv:=λk j K=>oE (t:=Ao) rv rfl (k:=k) j (K:=K);have lk:=λk j K=>oE (t:=Ao) u rfl (k:=k) j (K:=K);have lw:=λk j K=>oE (t:=Ao) rs rfl (k:=k) j (K:=K);simp(disch:=omega) only[Pt,R,i1,i2,V,X,Y,Z,i7,ik,iw,lv,lk,lw,A,B,C,D,F,J,M,N,O,B7e h,VZ,J_,Qv,I_,
    eG (z:=6) 6 rfl (by decide),eG (z:=11) 11 rfl (by decide),eG (z:=25) 25 rfl (by decide),eG (z:=2) 2 rfl (by decide),eG (z:=13) 13 rfl (by decide),eG (z:=22) 22 rfl (by decide)]
   rw[C3z,T3,Dp,CX (by omega) (by omega),B0f,Si];have m:pJ ws s0 (i+1)=rnd s (kk.getD i 0) (ws.getD i 0):=by rw[<-P];rfl
   rw[<-m];exact ih (i+1) _ q _ (by omega) (by omega) (Oo rfl) (A6 (p.lt hr) hr) (AG p)
  ·rw[CL (by simp;omega)];have:i=64:=by omega
   subst this;exact Q _ _ _ hv hr p
def kT(a b:List (BitVec 32))(i:Nat):List (BitVec 32):=(List.range i).map λi=>a.getD i 0+b.getD i 0
def TC(a b:List (BitVec 32))(i:Nat):(kT a b i).length=i:=by simp[kT]
def N!(a b:List (BitVec 32))(i:Nat):kT a b (i+1)=kT a b i++[a.getD i 0+b.getD i 0]:=by simp[kT,List.range_succ]
def C1V(s t:S8):kT s.l t.l 8=(C54 s t).l:=rfl
def C1N{k:KV}{a b:List (BitVec 32)}{A B w1 w2 w3 w4 w5 w7:AV}(V:∀v H,Bp H Cs 1 v 8 (Ej (kT a b 8))->Wf H->k v H=x)(w:A=.list 8 (Ej a))(P:a.length=8)(hb:b.length=8):
 ∀(f i:Nat)(v:AV)(H:Hp),i<=8->8-i<f->Bp H Cs 1 v i (Ej (kT a b i))->Bp H Cs 1 B 8 (Ej b)->(∀s,A8 v s->¬A8 B s)->Wf H->SD L (rt L n) K k f A w1 w2 w3 w4 w5 B w7 v (I i) H=x:=by
 intro f
 induction f with
 |zero=>intro i v H _ h;omega
 |succ f ih=>
  intro i v H hi hf hv c Q y;rw[mE];unfold SH Kx A4;rw[DO,FD];by_cases h:i<8
  ·rw[Dv (by simp;omega)];have C:Rd H A 8 (Ej a):=by subst w;exact rP (by rw[HV,P])
   have D:=c.rd (by decide);have J:(Ej a).getD i .dk=W (a.getD i 0):=MN (by omega);have M:(Ej b).getD i .dk=W (b.getD i 0):=MN (by omega);have ia:=λK=>Qu (t:=AJ) C rfl (z:=i) i rfl h (K:=K);have X:=λK=>Qu (t:=AJ) D rfl (z:=i) i rfl h (K:=K);have Y:=λK=>oE (t:=Ao) C rfl (k:=i) h (K:=K);have Z:=λK=>oE (t:=Ao) D rfl (k:=i) h (K:=K);simp only[Pt,ia,X,Y,Z,J,M,Qv];have⟨r,q,F,h1,h2,N,h4,O,h6⟩:=A5p (a.getD i 0+b.getD i 0) (TC a b i) hv y (by omega);rw[h1,Dp,CX (by omega) (by omega),Si];refine ih (i+1) _ F (by omega) (by omega) (.inr ⟨r,q,rfl,?_,?_⟩) ?_ ?_ N
   ·rw[N!];exact h2
   ·rw[HV,TC];omega
   ·rcases c with⟨d,e,g⟩|⟨r2,q2,d,e,g⟩
    ·exact .inl ⟨d,e,g⟩
    ·exact .inr ⟨r2,q2,d,O _ _ e (λR=>Q _ R ⟨1,0,8,d⟩),g⟩
   ·intro s ⟨p,o,m,j⟩ u;injection j with _ j
    subst j;have:=c.lt y u;omega
  ·rw[CL (by simp;omega)];have:i=8:=by omega
   subst this;exact V _ _ hv y
def S8.len(s:S8):s.l.length=8:=rfl
def B4v{s:S8}{l:Ha}(k:l.length=64)(u:100<L):CS (rt L (n+2)) Vd [.list 8 (Ej s.l),XR l] (.list 8 (Ej (blk s l).l)):=by
 intro K j;rw[qM];unfold UN A4;simp only[BF];refine C1K k ?_ L 0 _ [] (by omega) (by omega) (.inl ⟨rfl,rfl,rfl⟩) Ft;intro v H hv c;rcases hv with⟨_,h,_⟩|⟨r,q,rfl,h2,i⟩
 ·exact absurd h (by decide)
 refine C1L ?_ L 0 r q H (by omega) (by omega) h2 c;intro r q H hr c;rw[AO A1t AD];have⟨p,g,h1,h2,i,f⟩:=apt (ie:=Ao) (i2:=AJ) (H:=H) (e:=Cs) (sz:=1) (n:=0) (m:=8) (v:=.v (.slice none 0 0)) (src:=.list 8 (Ej s.l)) (cs:=[]) (ys:=Ej s.l) (.inl ⟨rfl,rfl,rfl⟩) (λK=>VX) rfl (ZF _) (by decide) rfl rfl (by decide) (by decide);rw[h1];have d:=f.keep c r _ hr (λ⟨_,_,_,h⟩=>by cases h);refine C1M (s0:=s) (by rw[Sk]) ?_ L 0 p q g (by omega) (by omega) h2 d (f.wf c);intro v q H hv hr c;refine C1N (a:=s.l) (b:=(pJ (Ob l 48) s 64).l) ?_ rfl rfl rfl L 0 _ H (by omega) (by omega) (.inl ⟨rfl,rfl,rfl⟩) hv (λs ⟨_,_,_,h⟩=>by cases h) c;intro v H hv c;rw[C1V]at hv;exact j _ _ (λb=>⟨true,A06 hv (by decide) (λx:BitVec 32=>Value.int .u32 (x.toNat:Int)) _ rfl⟩)
end
section
variable{v:AV}{H:Hp}{s:Ha}{e m:Nat}
def A2y{t:TI}{cs:Is}{x y:Int}(a b:Nat){K:K2}(f:t.d=.slice e 1)(i:x=a)(j:y=b)(h1:a<=b)(h2:b<=m):D3 t (.list m cs) (some (I x)) (some (I y)) none K=K (.list (b-a) ((cs.drop a).take (b-a))):=by
 subst i j;have g:D3 t (.list m cs) (some (I a)) (some (I b)) none K=iN (a:Int) λl=>iN (b:Int) λh=>fN m λx=>ck ((true||(some (I (b:Int))).isSome)&&(Nat.ble l h&&(Nat.ble h x&&Nat.ble x m))) (fN (Nat.sub h l) λn=>To (Nat.mul n 1) (Dn (Nat.mul l 1) cs) λc=>K (.list n c)):=by
  have⟨_,_,d,z⟩:=t;simp only at f;subst f;rfl
 rw[g,JU,JU,DF];have c:((true||(some (I (b:Int))).isSome)&&(Nat.ble a b&&(Nat.ble b m&&Nat.ble m m)))=true:=by simp only[Bool.true_or,l1b,KW,kZ];omega
 rw[c];show fN (Nat.sub b a) (λn=>To (Nat.mul n 1) (Dn (Nat.mul a 1) cs) λc=>K (.list n c))=_;rw[DF,OY,CA];show K (.list (b-a) ((cs.drop (a*1)).take ((b-a)*1)))=_;rw[rT,rT]
def iv:S8:=⟨1779033703,3144134277,1013904242,2773480762,1359893119,2600822924,528734635,1541459225⟩
def gC(s:Ha):Nat->S8
 |0=>iv
 |i+1=>blk (gC s i) ((s.drop (64*i)).take 64)
def wb(w:BitVec 32):Ha:=[UInt8.ofNat (w.toNat/2^24),UInt8.ofNat (w.toNat/2^16),UInt8.ofNat (w.toNat/2^8),UInt8.ofNat w.toNat]
def YQ(l:List (BitVec 32)):Nat->Ha
 |0=>[]
 |i+1=>YQ l i++wb (l.getD i 0)
def YP(l:List (BitVec 32))(i:Nat):(YQ l i).length=4*i:=by
 induction i with
 |zero=>rfl
 |succ i ih=>simp[YQ,ih,wb];omega
def sha(s:Ha):Ha:=YQ (gC (ext s) ((ext s).length/64)).l 8
variable{L n:Nat}{K:KV}{x:Af}
def C4g{l:List (BitVec 32)}(h:Rd H v n (Ej l)):∃q,Fx true depth v (.list n (Ej l)) H q:=by
 rcases h with⟨a,rfl|⟨r,q,e,rfl,h2⟩⟩
 ·exact⟨_,OW⟩
 ·exact⟨_,Yb (q':=false) h2 (by omega) (Lz (λx:BitVec 32=>Value.int .u32 (x.toNat:Int)) l)⟩
def B9I{k:AV->AV->KV}{t u:AV}(hm:s.length=64*m)(y:s.length<200000000000)(p:100<L)(a:m≠0)(r:∀j,k (.list 8 (Ej (gC s m).l)) (XR s) j H=x):
 ∀(f i:Nat)(v:AV),i<=m->m-i<f->Rd H v 8 (Ej (gC s i).l)->(i≠0->v=.list 8 (Ej (gC s i).l))->Wz L (rt L (n+2)) K k f v (XR s) (I ((64*i:Nat):Int)) t u H=x:=by
 intro f
 induction f with
 |zero=>intro i v _ h;omega
 |succ f ih=>
  intro i v hi w hv b;rw[tW];unfold WQ A4;have el:∀K,Ba AZ (XR s) K=K (I (s.length:Int)):=λ_=>id rfl;rw[el,DO,FD];by_cases h:i<m
  ·rw[Dv (by simp;omega)];simp(disch:=omega) only[Dp,CX];have c:((64*i:Nat):Int)+64=((64*(i+1):Nat):Int):=by omega
   unfold XR;rw[c,A2y (64*i) (64*(i+1)) rfl rfl rfl (by omega) (by omega)];have d:64*(i+1)-64*i=64:=by omega
   have g:AV.list 64 (((MM s).drop (64*i)).take 64)=XR ((s.drop (64*i)).take 64):=by
    unfold XR MM;have:((s.drop (64*i)).take 64).length=64:=by simp;omega
    rw[this,List.map_take,List.map_drop]
   rw[d,g];have⟨q,hq⟩:=C4g hv;rw[AO (B4v (n:=n) (s:=gC s i) (l:=(s.drop (64*i)).take 64) (by simp;omega) p) (Al hq (Al (by unfold XR;exact OW) AD))];exact ih (i+1) _ (by omega) (by omega) (rP (by rw[HV];rfl)) (λ_=>rfl)
  ·rw[CL (by simp;omega)];have:i=m:=by omega
   subst this;rw[b a];exact r _
def J!{w:BitVec 32}{K:K2}:Jk Ao Bq (W w) K=K (By (UInt8.ofNat w.toNat)):=B2q
def C3A{a b c d:UInt8}(K:KV):GF B3 1 Bq 4 [(0,1,By a),(1,1,By b),(2,1,By c),(3,1,By d)] H K=K (.sl 1 (Ar H) 0 4) ((Ar H,.cells false B3 (MM [a,b,c,d]))::H):=by
 have f:GF B3 1 Bq 4 [(0,1,By a),(1,1,By b),(2,1,By c),(3,1,By d)] H K=HE H λs=>K (.sl 1 s 0 4) ((s,.cells false B3 (MM [a,b,c,d]))::H):=rfl;rw[f,BS]
def B5N(l:Ha):∀K:Ha->Af,fu8 (MM l) K=K l:=by
 induction l with
 |nil=>intro K;rfl
 |cons b l ih=>
  intro K;have e:fu8 (MM (b::l)) K=iN (b.toNat:Int) λn=>fu8 (MM l) λl=>K (UInt8.ofNat n::l):=rfl;rw[e,JU,ih];simp
def A6G{l:Ha}{K:K2}(h:Bp H e 1 v n (MM l)):zF v H K=K (S l):=by
 have a:zF v H K=Tw H v λm cs=>HN cs 0 λk=>ck (Nat.beq k m) (fu8 cs λl=>K (.v (.string ⟨⟨l⟩⟩))):=by
  rcases h with⟨rfl,_⟩|⟨r,q,rfl,_⟩<;>rfl
 have hn:(MM l).length=n:=by
  rcases h with⟨_,rfl,h⟩|⟨r,q,_,_,h⟩
  ·rw[h];rfl
  ·omega
 rw[a,RL h,C4,JZ,hn,oW];exact B5N l _
def B9J{k:KV}{s:S8}{v w1 C:AV}(A:∀u H,Bp H B3 1 u 32 (MM (YQ s.l 8))->k u H=x):
 ∀(f i:Nat)(u:AV)(H:Hp),i<=8->8-i<f->Bp H B3 1 u (4*i) (MM (YQ s.l i))->v=.list 8 (Ej s.l)->Wf H->W0 L (rt L n) K k f v w1 C u (I i) H=x:=by
 intro f
 induction f with
 |zero=>intro i v H _ h;omega
 |succ f ih=>
  intro i u H hi F j hv p;rw[tX];unfold WV Kx A4;rw[DO,FD];by_cases h:i<8
  ·rw[Dv (by simp;omega)];have q:Rd H v 8 (Ej s.l):=by subst hv;exact rP (by rw[HV];rfl)
   have w:(Ej s.l).getD i .dk=W (s.l.getD i 0):=MN h;have ia:=λK=>Qu (t:=AJ) q rfl (z:=i) i rfl h (K:=K);have B:=λK=>oE (t:=Ao) q rfl (k:=i) h (K:=K);simp only[Pt,ia,B,w,JT (z:=24) (k:=24) rfl (by decide),JT (z:=16) (k:=16) rfl (by decide),JT (z:=8) (k:=8) rfl (by decide),J!,C3A,T3];generalize hc:[UInt8.ofNat (s.l.getD i 0>>>24).toNat,UInt8.ofNat (s.l.getD i 0>>>16).toNat,UInt8.ofNat (s.l.getD i 0>>>8).toNat,UInt8.ofNat (s.l.getD i 0).toNat]=c;have a:c.length=4:=by rw[<-hc];rfl
   have d:c=wb (s.l.getD i 0):=by rw[<-hc];unfold wb;simp only[BitVec.toNat_ushiftRight,Nat.shiftRight_eq_div_pow]
   have g:Bp ((Ar H,.cells false B3 (MM c))::H) B3 1 u (4*i) (MM (YQ s.l i)):=j.lat p (Lat.cons H _ (λ_=>False)) (λ_ _ h=>h);have b:=Oo (H:=H) (e:=B3) (n:=4) (cs:=MM c) (by rw[Q8,a]);have⟨J,r,h1,h2,D,y⟩:=apt (ie:=Bq) (i2:=AZ) g (λK=>RL (K:=K) b) (by rw[Q8,a]) (A6L _) (by decide) rfl rfl (by show(4*i+4)*1<=_;omega) (by omega);rw[h1,T3,Dp,CX (by omega) (by omega),Si];refine ih (i+1) _ r (by omega) (by omega) ?_ hv (y.wf (AG p));rw[A0s,d]at h2;exact h2
  ·rw[CL (by simp;omega)];have:i=8:=by omega
   subst this;exact A _ _ j
def A6A(s:Ha):∃m,(ext s).length=64*m/\64*m<=s.length+73:=by
 refine⟨(ext s).length/64,?_,?_⟩
 ·have:(ext s).length=s.length+1+gR s.length+8:=by simp[ext,pre];omega
  unfold gR at this;omega
 ·have:(ext s).length=s.length+1+gR s.length+8:=by simp[ext,pre];omega
  unfold gR at this;omega
def B6Q(r:s.length<100000000000)(w:s.length+200<L):CS (rt L (n+3)) Zv [S s] (S (sha s)):=by
 intro K p;rw[yQ];unfold Zb A4;simp only[BF];have⟨m,hm,q⟩:=A6A s;have i:∀K:KV,GF Cs 1 Ao 8 [(0,1,(AV.v (.int .u32 1779033703))),(1,1,(AV.v (.int .u32 3144134277))),(2,1,(AV.v (.int .u32 1013904242))),(3,1,(AV.v (.int .u32 2773480762))),(4,1,(AV.v (.int .u32 1359893119))),(5,1,(AV.v (.int .u32 2600822924))),(6,1,(AV.v (.int .u32 528734635))),(7,1,(AV.v (.int .u32 1541459225)))] [] K=K (.sl 1 0 0 8) [(0,.cells false Cs (Ej iv.l))]:=λK=>C3z (H:=[]) (a:=1779033703) (b:=3144134277) (c:=1013904242) (d:=2773480762) (e:=1359893119) (f:=2600822924) (g:=528734635) (h:=1541459225) K;rw[i,AO (A42 (n:=n+1) s r (by omega)) fx1];have k:m≠0:=λh=>by subst h;simp[ext]at hm
 refine B9I (n:=n) (m:=m) hm (by omega) (by omega) k ?_ L 0 _ (by omega) (by omega) ((Oo (H:=[]) rfl).rd (by decide)) (λh=>absurd rfl h);intro j;refine B9J (n:=n+2) (s:=gC (ext s) m) ?_ L 0 _ _ (by omega) (by omega) (.inl ⟨rfl,rfl,rfl⟩) rfl (AG Ft);intro u H t;rw[A6G t];have e:YQ (gC (ext s) m).l 8=sha s:=by
  unfold sha;have:(ext s).length/64=m:=by omega
  rw[this]
 rw[e];exact p _ _ (λb=>⟨false,C7⟩)
end
section
variable{w:BitVec 32}{H:Hp}{ks:Hb}{k r:Nat}
def U(n:Nat):AV:=.v (.int .u64 (n:Int))
def B4D{x:BitVec 32}(g:1<=k)(h:k<32){L n:Nat}{K:KV}:(rt L (n+1)).call Hr [W x,I (-(k:Int))] H K=K (W (Ln x k)) H:=by
 rw[SW];unfold JJ LF;have a:∀K:K2,(Jk Ad G8 (I (-(k:Int))) λv1=>Aq G8 .and v1 (AV.v (.int .u64 31)) λf=>K f)=K (U (32-k)):=by
  intro K;have:k=1\/k=2\/k=3\/k=4\/k=5\/k=6\/k=7\/k=8\/k=9\/k=10\/k=11\/k=12\/k=13\/k=14\/k=15\/k=16\/k=17\/k=18\/k=19\/k=20\/k=21\/k=22\/k=23\/k=24\/k=25\/k=26\/k=27\/k=28\/k=29\/k=30\/k=31:=by omega
  rcases this with rfl|rfl|rfl|rfl|rfl|rfl|rfl|rfl|rfl|rfl|rfl|rfl|rfl|rfl|rfl|rfl|rfl|rfl|rfl|rfl|rfl|rfl|rfl|rfl|rfl|rfl|rfl|rfl|rfl|rfl|rfl<;>rfl
 rw[a];have b:∀K:K2,Aq G8 .sub (AV.v (.int .u64 32)) (U (32-k)) K=K (U k):=by
  intro K;have e:Aq G8 .sub (AV.v (.int .u64 32)) (U (32-k)) K=OX .u64 ((32:Int)-((32-k:Nat):Int)) λz=>K (.v (.int .u64 z)):=rfl;rw[e,IX];have:(32:Int)-((32-k:Nat):Int)=(k:Int):=by omega
  rw[this,eP rfl];have:(k:Int)%(2^IntKind.u64.bits:Nat)=(k:Int):=Int.emod_eq_of_lt (by omega) (by show(k:Int)<(18446744073709551616:Int);omega);rw[this];rfl
 have c:∀K:K2,Aq Ao .shl (W x) (U (32-k)) K=K (W (x<<<(32-k))):=λK=>Mh rfl (by omega);have d:∀K:K2,Aq Ao .shr (W x) (U k) K=K (W (x>>>k)):=λK=>JT rfl (by omega);rw[c,b,d,kJ];have:x<<<(32-k)|||x>>>k=Ln x k:=by unfold Ln;exact BitVec.or_comm _ _
 rw[this]
def B9P{L n:Nat}{x:BitVec 32}(a:1<=k)(h:k<32):PS (rt L (n+1)) Hr [W x,I (-(k:Int))] (W (Ln x k)):=by
 refine CS.ps (λK c=>?_) (λH=>C4f);rw[B4D a h];exact c _ _ (λb=>⟨false,fxq⟩)
def Zk(ks:Hb):Is:=ks.map λk:Nat=>.v (.int .i64 (k:Int))
def A84{l:Hb}(h:k<l.length):(Zk l).getD k .dk=I (l[k]:Nat):=by
 simp[Zk,TV,h]
def TO(x:BitVec 32)(ks:Hb):BitVec 32:=ks.foldl (λa k=>a^^^Ln x k) 0
def A8h(a:k<32){K:K2}:MJ .neg (I k) K=K (I (-(k:Int))):=by
 have e:MJ .neg (I k) K=OX .i64 (0-(k:Int)) λz=>K (.v (.int .i64 z)):=rfl;rw[e,IX,Int.zero_sub,CX (by omega) (by omega)]
variable{L n:Nat}{K:KV}{x:Af}
def B1f{k:KV}(b:∀k∈ks,1<=k/\k<32)(g:ks.length<32)(c:k (W (TO w ks)) H=x):
 ∀(f i:Nat),i<=ks.length->ks.length-i<f->Ro L (rt L (n+1)) K k f (W w) (W (TO w (ks.take i))) (.list ks.length (Zk ks)) (I ks.length) (I i) H=x:=by
 intro f
 induction f with
 |zero=>intro i _ h;omega
 |succ f ih=>
  intro i hi d;rw[kL];unfold Rp Ia A4;rw[DO,FD];by_cases h:i<ks.length
  ·rw[Dv (by simp;omega)];have a:=b ks[i] (Ql h);rw[Zz rfl (by simp[Zk]) (by omega) (by omega),kY,NI rfl,A84 h,A8h a.2,B9P a.1 a.2,VZ,Dp,CX (by omega) (by omega),Si];have e:TO w (ks.take (i+1))=TO w (ks.take i)^^^Ln w ks[i]:=by
    unfold TO;rw[nL h,List.foldl_append];rfl
   rw[<-e];exact ih (i+1) (by omega) (by omega)
  ·rw[CL (by simp;omega)];have:i=ks.length:=by omega
   subst this;rw[rW];exact c
def B4u(c:∀k∈ks,1<=k/\k<32)(d:ks.length<32)(f:32<L):CS (rt L (n+2)) EP [W w,.list ks.length (Zk ks)] (W (TO w ks)):=by
 intro K a;rw[mY];unfold Tb A4;simp only[BF];have e:∀K,Ba Bi (.list ks.length (Zk ks)) K=K (I ks.length):=λK=>id rfl;rw[e];refine B1f c d ?_ L 0 (by omega) (by omega);exact a _ _ (λb=>⟨false,C7⟩)
def C3s:TO w [7,18]^^^w>>>3=sg0 w:=by simp[TO,sg0]
def C3r:TO w [17,19]^^^w>>>10=sg1 w:=by simp[TO,sg1]
def pad(l:List (BitVec 32))(n:Nat):List (BitVec 32):=l++List.replicate (n-l.length) 0
def A67{l:List (BitVec 32)}(h:l.length<=n):(pad l n).length=n:=by simp[pad];omega
def A66{l:List (BitVec 32)}(w:BitVec 32)(a:l.length=k)(h:k<n):(Ej (pad l n)).set k (W w)=Ej (pad (l++[w]) n):=by
 subst a;have e:n-l.length=(n-(l.length+1))+1:=by omega
 simp[pad,Ej,e,l1c,List.set_append_right]
def B13{l:List (BitVec 32)}(h:k<l.length):(Ej (pad l n)).getD k .dk=W (l.getD k 0):=by
 simp[pad,Ej,TV,h,List.getElem?_append]
def B14{l:List (BitVec 32)}(h:l.length=n):pad l n=l:=by simp[pad,h]
def B7a(a b:Nat)(K:K2):Z6 1 Ad 2 [(0,1,I a),(1,1,I b)] K=K (.list 2 (Zk [a,b])):=id rfl
def B79(a b c:Nat)(K:K2):Z6 1 Ad 3 [(0,1,I a),(1,1,I b),(2,1,I c)] K=K (.list 3 (Zk [a,b,c])):=id rfl
def Y!{K:K2}(b:∀k∈ks,1<=k/\k<32)(c:ks.length<32)(a:32<L):Ap (rt L (n+2)) EP [W w,.list ks.length (Zk ks)] H K=K (W (TO w ks)):=
 AO (B4u b c a) (Al C7 (Al OW AD))
def B9N{k:AV->AV->KV}{l:Ha}{w:AV}(m:l.length=64)(g:∀q H,Ah H r=some (.cells q Dm (Ej (pad (w16 l 16) 64)))->Wf H->k (XR l) (.ptr r 0 0) (I 16) H=x):
 ∀(f i:Nat)(q:Bool)(H:Hp),i<=16->16-i<f->Ah H r=some (.cells q Dm (Ej (pad (w16 l i) 64)))->Wf H->NJ L (rt L n) K k f (XR l) (.ptr r 0 0) w (I i) H=x:=by
 intro f
 induction f with
 |zero=>intro i q H _ h;omega
 |succ f ih=>
  intro i q H hi j hr a;rw[Z7];unfold NL Kx A4;rw[DO,FD];by_cases h:i<16
  ·rw[Dv (by simp;omega)];simp(disch:=omega) only[QS,Dp,CX,Pt,B2m,NI (t:=Bq) rfl,J?,Mh (z:=24) (k:=24) rfl (by decide),Mh (z:=16) (k:=16) rfl (by decide),Mh (z:=8) (k:=8) rfl (by decide),kJ];have b:((4:Int)*(i:Int)).toNat=4*i:=by omega
   have c:((4:Int)*(i:Int)+1).toNat=4*i+1:=by omega
   have d:((4:Int)*(i:Int)+2).toNat=4*i+2:=by omega
   have e:((4:Int)*(i:Int)+3).toNat=4*i+3:=by omega
   rw[b,c,d,e,A14,XA0 i rfl rfl (by omega),Pt,DT hr (by rw[HV,A67 (by rw[iB];omega)];omega) rfl rfl rfl,T3,A66 _ (iB l i) (by omega),<-A1k,Si];exact ih (i+1) q _ (by omega) (by omega) (AC hr) (Bm a)
  ·rw[CL (by simp;omega)];have:i=16:=by omega
   subst this;exact g _ _ hr a
def B9O{k:KV}{l:Ha}{w0 w1:AV}(B:100<L)(u:∀q H,Ah H r=some (.cells q Dm (Ej (Ob l 48)))->Wf H->k (.ptr r 0 0) H=x):
 ∀(f i:Nat)(q:Bool)(H:Hp),i<=48->48-i<f->Ah H r=some (.cells q Dm (Ej (pad (Ob l i) 64)))->Wf H->NK L (rt L (n+2)) K k f w0 (.ptr r 0 0) (I ((16+i:Nat):Int)) w1 H=x:=by
 intro f
 induction f with
 |zero=>intro i q H _ h;omega
 |succ f ih=>
  intro i q H hi C hr d;rw[Z8];unfold NM Kx A4;rw[DO,FD];have c:=Sk l i;by_cases h:i<48
  ·rw[Dv (by simp;omega)];have D:(Ej (pad (Ob l i) 64)).length=64:=by rw[HV,A67 (by rw[c];omega)]
   have e:((16+i:Nat):Int)-15=((i+1:Nat):Int):=by omega
   have g:((16+i:Nat):Int)-2=((i+14:Nat):Int):=by omega
   have j:((16+i:Nat):Int)-16=((i:Nat):Int):=by omega
   have m:((16+i:Nat):Int)-7=((i+9:Nat):Int):=by omega
   have ia:=λ(k:Nat)a K=>XA0 (t:=Cv) (s:=r) (z:=(k:Int)) k (K:=K) rfl rfl a;have y:=λk a K=>AL (t:=Ao) (p:=k) (K:=K) rfl hr a;have b:=λk a=>B13 (n:=64) (l:=Ob l i) (k:=k) a;simp(disch:=omega) only[Le,CX,Pt,e,g,j,m,ia,y,b];have i1:∀K,Z6 1 Ad 2 [(0,1,.v (.int .i64 7)),(1,1,.v (.int .i64 18))] K=K (.list 2 (Zk [7,18])):=λK=>B7a 7 18 K;have i2:∀K,Z6 1 Ad 2 [(0,1,.v (.int .i64 17)),(1,1,.v (.int .i64 19))] K=K (.list 2 (Zk [17,19])):=λK=>B7a 17 19 K;have m1:∀w K,Ap (rt L (n+2)) EP [W w,.list 2 (Zk [7,18])] H K=K (W (TO w [7,18])):=λw K=>Y! (ks:=[7,18]) (by decide) (by decide) (by omega);have A:∀w K,Ap (rt L (n+2)) EP [W w,.list 2 (Zk [17,19])] H K=K (W (TO w [17,19])):=λw K=>Y! (ks:=[17,19]) (by decide) (by decide) (by omega);simp(disch:=omega) only[Pt,b,i1,i2,m1,A,JT (z:=3) (k:=3) rfl (by decide),JT (z:=10) (k:=10) rfl (by decide),VZ,Qv,C3s,C3r];rw[DT hr (by omega) rfl rfl rfl,T3,A66 _ c (by omega),Dp,CX (by omega) (by omega),Si];exact ih (i+1) q _ (by omega) (by omega) (AC hr) (Bm d)
  ·rw[CL (by simp;omega)];have:i=48:=by omega
   subst this;rw[B14 (by rw[Sk])]at hr;exact u _ _ hr d
def arr(l:List (BitVec 32)):AV:=.agg (Ej l)
def A41{l:Ha}(a:l.length=64)(e:100<L):CS (rt L (n+3)) Pn [XR l] (arr (Ob l 48)):=by
 intro K d;rw[dU];unfold OR A4;simp only[BF];rw[Bv (cs:=Ej (pad (w16 l 0) 64)) rfl];refine B9N a ?_ L 0 true _ (by omega) (by omega) (Ay (by simp)) (AG Ft);intro q H hr c;refine B9O (n:=n) (l:=l) e ?_ L 0 q H (by omega) (by omega) hr c;intro q H hr c;have a:(Ej (Ob l 48)).length=64:=by rw[HV,Sk]
 rw[Bu rfl a.symm hr,BO hr rfl a.symm (ZF _),Bu rfl a.symm (AC hr)];exact d _ _ (λb=>⟨false,L0 (Lz (λx:BitVec 32=>Value.int .u32 (x.toNat:Int)) _)⟩)
end
section
variable{q q0:Bool}{H H' H0:Hp}{D e0 r r8 s0:Nat}{P:Nat->Prop}{y:Row}
def XF{b:Bool}{sz s o n:Nat}{e:TypeId}{cs cs':Is}{q':Bool}(g:Ah H s=some (.cells q e cs))(hn:o+n*sz<=cs.length)(h:RZ b D ((cs.drop o).take (n*sz)) cs' H q'):Fx b (D+1) (.sl sz s o n) (.list n cs') H true:=λK=>by
 have d:HU b H (D+1) (.sl sz s o n) K=IP H s λx=>Kb x λ_ cs=>E9 (Nat.mul n sz) (Dn o cs) λc=>IG (HU b H D) c λ_ a=>K true (.list n a):=rfl;rw[d,Bl g];have f:(Kb (.cells q e cs) λ_ cs=>E9 (Nat.mul n sz) (Dn o cs) λc=>IG (HU b H D) c λ_ a=>K true (.list n a))=E9 (n*sz) (Dn o cs) λc=>IG (HU b H D) c λ_ a=>K true (.list n a):=rfl;rw[f,CA,Km _ _ _ (by simp;omega),h]
def B2a{r o n e:Nat}{cs:Is}{K:Nat->Is->Af}(a:Ah H r=some (.cells q e cs))(hn:o+n<=cs.length):Tw H (.sl 1 r o n) K=K n ((cs.drop o).take n):=by
 have:Tw H (.sl 1 r o n) K=IP H r λx=>Kb x λ_ cs=>E9 (Nat.mul n 1) (Dn o cs) λc=>K n c:=rfl;rw[this,Bl a];show E9 (Nat.mul n 1) (Dn o cs) (λc=>K n c)=_;have e:Nat.mul n 1=n:=rT n;rw[e,CA,Km _ _ _ (by simp;omega)]
def A4U{n r e:Nat}(a b:Nat){cs:Is}{c hi:Option AV}{K:K2}(f:∀K:Nat->Af,Yp c 0 K=K a)(d:∀K:Nat->Af,Yp hi n K=K b)(i:Ah H r=some (.cells q e cs))(hn:n<=cs.length)(h1:a<=b)(h2:b<=n):zD n 1 (.ptr r 0 0) c hi H K=K (.sl 1 r a (b-a)):=by
 have g:zD n 1 (.ptr r 0 0) c hi H K=IP H r λy=>Kb y λ_ cs=>HN cs 0 λcl=>ck (Nat.ble (Nat.add 0 (Nat.mul n 1)) cl) (Yp c 0 λl=>Yp hi n λh=>ck (Nat.ble l h&&Nat.ble h n) (fN (Nat.add 0 (Nat.mul l 1)) λj=>fN (Nat.sub h l) λm=>K (.sl 1 r j m))):=rfl;rw[g,Bl i];show HN cs 0 _=_;rw[C4,f,d,DF,DF];have f1:Nat.ble (Nat.add 0 (Nat.mul n 1)) (0+cs.length)=true:=by rw[kZ];show 0+n*1<=_;omega
 have f2:(Nat.ble a b&&Nat.ble b n)=true:=by simp only[KW,kZ];omega
 have f3:Nat.add 0 (Nat.mul a 1)=a:=by show 0+a*1=a;omega
 rw[f1,f2,f3];rfl
def C1o{r o n m e:Nat}{cs ys:Is}{src:AV}{K:KV}(c:∀K:Nat->Is->Af,Tw H src K=K m ys)(d:ys.length=m)(hm:m<=n)(hn:0<n)(h1:ys.all AV.one=true)(a:Sj 1 src=true)(b:Ah H r=some (.cells q e cs))(f:o+m<=cs.length):A2K 1 (.sl 1 r o n) src H K=K (I m) (upd H r (.cells q e (splice cs o ys))):=by
 unfold A2K;rw[c,C4];have f1:(Nat.beq (0+ys.length) (Nat.mul m 1)&&(Nat.beq 1 1&&(Nat.blt 0 n&&(Nat.ble m n&&(Oe ys&&Sj 1 src)))))=true:=by
  have:Nat.mul m 1=m:=rT m;rw[FM,h1,a,d,this,JZ,oW];simp only[l1b,l1g,oW,KW,Wg,kZ];omega
 simp only[f1];show IP H r _=_;rw[Bl b];show Ey o ys cs _=_;rw[It _ _ _ _ (by omega),Dh];rfl
def Lat.upd_new(k:Lat H H' P)(hr:Ar H<=r):Lat H (Go.Abs.upd H' r y) P:=
 ⟨λw=>Bm (k.wf w),by rw[B9];exact k.nx,λw s x a hn=>by rw[Ag (by have:=w.lt a;omega)];exact k.keep w s x a hn⟩
def Lat.new(k:Lat H H' P):Lat H ((Ar H',y)::H') P:=k.trans (Lat.cons H' y P) (λ_ _ h=>h) (λ_ _ h=>h)
def Lat.upd_old(k:Lat H H' P)(hr:P r):Lat H (Go.Abs.upd H' r y) P:=k.trans (Lat.upd H' r y hr) (λ_ _ h=>h) (λ_ _ h=>h)
def Chk(H:Hp)(v:AV)(l:Ha):Prop:=v=XR l\/∃r o q e cs,v=.sl 1 r o l.length/\Ah H r=some (.cells q e cs)/\o+l.length<=cs.length/\(cs.drop o).take l.length=MM l
def B5I{b:Bool}(l:Ha):RZ b D (MM l) (MM l) H false:=Lz (λb:UInt8=>Value.int .u8 (b.toNat:Int)) l
def Chk.fx{v:AV}{l:Ha}(h:Chk H v l):∃q,Fx true depth v (XR l) H q:=by
 rcases h with rfl|⟨r,o,q,e,cs,rfl,h1,h2,a⟩
 ·exact⟨_,OW⟩
 ·exact⟨_,XF h1 (by omega) (by rw[rT,a];exact B5I l)⟩
variable{L n:Nat}{K:KV}{x:Af}
def C5P(s:S8)(k w:BitVec 32):(Ej [s.h+TO s.e [6,11,25]+((s.e&&&s.f)^^^(~~~s.e&&&s.g))+k+w+(TO s.a [2,13,22]+((s.a&&&s.b)^^^(s.a&&&s.c)^^^(s.b&&&s.c))),s.a,s.b,s.c,s.d+(s.h+TO s.e [6,11,25]+((s.e&&&s.f)^^^(~~~s.e&&&s.g))+k+w),s.e,s.f,s.g])=Ej (rnd s k w).l:=by
 have i:TO s.e [6,11,25]=Ln s.e 6^^^Ln s.e 11^^^Ln s.e 25:=by simp[TO]
 have j:TO s.a [2,13,22]=Ln s.a 2^^^Ln s.a 13^^^Ln s.a 22:=by simp[TO]
 rw[i,j,B0f]
def C1T{k:AV->AV->AV->AV->KV}{ws:List (BitVec 32)}{s0:S8}{r2 r8:Nat}{v0 w5:AV}(aa:ws.length=64)(hL:100<L)(h2:Ar H0<=r2)(R:Ar H0<=r8)(F:r2≠r8)(hx:∀A u H,Ah H r8=some (.cells A u (Ej (pJ ws s0 64).l))->Lat H0 H (λ_=>False)->Wf H->k v0 (.ptr r2 0 0) (.ptr r8 0 0) (arr kk) (I 64) H=x):
 ∀(f i:Nat)(q2:Bool)(Q:Nat)(A:Bool)(u:Nat)(H:Hp),i<=64->64-i<f->Ah H r2=some (.cells q2 Q (Ej ws))->Ah H r8=some (.cells A u (Ej (pJ ws s0 i).l))->Lat H0 H (λ_=>False)->Wf H->
  Lp L (rt L (n+2)) K k f v0 (.ptr r2 0 0) (.ptr r8 0 0) (arr kk) (I i) w5 H=x:=by
 intro f
 induction f with
 |zero=>intro i _ _ _ _ H _ h;omega
 |succ f ih=>
  intro i q2 Q A u H hi hf M j J hw;rw[VG];unfold Lr Kx A4;rw[DO,FD];by_cases h:i<64
  ·rw[Dv (by simp;omega)];generalize hs:pJ ws s0 i=s at j;have g0:(Ej s.l).getD 0 .dk=W s.a:=id rfl;have g1:(Ej s.l).getD 1 .dk=W s.b:=id rfl;have g2:(Ej s.l).getD 2 .dk=W s.c:=id rfl;have g4:(Ej s.l).getD 4 .dk=W s.e:=id rfl;have g5:(Ej s.l).getD 5 .dk=W s.f:=id rfl;have g6:(Ej s.l).getD 6 .dk=W s.g:=id rfl;have g7:(Ej s.l).getD 7 .dk=W s.h:=id rfl;have gw:(Ej ws).getD i .dk=W (ws.getD i 0):=MN (by omega);have i0:=λK=>XA0 (t:=AR) (s:=r8) (z:=0) 0 (K:=K) rfl rfl (by decide);have i1:=λK=>XA0 (t:=AR) (s:=r8) (z:=1) 1 (K:=K) rfl rfl (by decide);have i2:=λK=>XA0 (t:=AR) (s:=r8) (z:=2) 2 (K:=K) rfl rfl (by decide);have i4:=λK=>XA0 (t:=AR) (s:=r8) (z:=4) 4 (K:=K) rfl rfl (by decide);have i5:=λK=>XA0 (t:=AR) (s:=r8) (z:=5) 5 (K:=K) rfl rfl (by decide);have i6:=λK=>XA0 (t:=AR) (s:=r8) (z:=6) 6 (K:=K) rfl rfl (by decide);have i7:=λK=>XA0 (t:=AR) (s:=r8) (z:=7) 7 (K:=K) rfl rfl (by decide);have iw:=λK=>XA0 (t:=Cv) (s:=r2) (z:=(i:Int)) i (K:=K) rfl rfl h;have l8:(Ej s.l).length=8:=rfl;have lw:(Ej ws).length=64:=by rw[HV,aa]
   have j1:∀K,Z6 1 Ad 3 [(0,1,.v (.int .i64 6)),(1,1,.v (.int .i64 11)),(2,1,.v (.int .i64 25))] K=K (.list 3 (Zk [6,11,25])):=λK=>B79 6 11 25 K;have j2:∀K,Z6 1 Ad 3 [(0,1,.v (.int .i64 2)),(1,1,.v (.int .i64 13)),(2,1,.v (.int .i64 22))] K=K (.list 3 (Zk [2,13,22])):=λK=>B79 2 13 22 K;have m1:∀w K,Ap (rt L (n+2)) EP [W w,.list 3 (Zk [6,11,25])] H K=K (W (TO w [6,11,25])):=λw K=>Y! (ks:=[6,11,25]) (by decide) (by decide) (by omega);have m2:∀w K,Ap (rt L (n+2)) EP [W w,.list 3 (Zk [2,13,22])] H K=K (W (TO w [2,13,22])):=λw K=>Y! (ks:=[2,13,22]) (by decide) (by decide) (by omega);have la:=λ(k:Nat)V K=>AL (t:=Ao) (p:=k) (K:=K) rfl j V;have O:=λ(k:Nat)V K=>AL (t:=Ao) (p:=k) (K:=K) rfl M V;have ki:∀K,kG Cv Ao (arr kk) (I i) K=K (W (kk.getD i 0)):=λK=>by
    unfold arr;rw[A6F i rfl rfl rfl h (by rw[HV,A4C];decide),B7e h]
   simp(disch:=omega) only[Pt,T3,i0,i1,i2,i4,i5,i6,i7,iw,la,O,g0,g1,g2,g4,g5,g6,g7,gw,ki,j1,j2,m1,m2,VZ,J_,Qv,I_];rw[A4U 1 8 (λK=>rfl) (λK=>rfl) j (by omega) (by decide) (by decide),Pt,A4U 0 7 (λK=>rfl) (λK=>rfl) j (by omega) (by decide) (by decide),Pt];rw[C1o (λK=>B2a j (by omega)) rfl (by decide) (by decide) rfl rfl j (by rw[l8];decide),T3];clear la O j1 j2 m1 m2;have m:=AC (q:=A) (e:=u) (cs:=Ej [s.a,s.a,s.b,s.c,s.d,s.e,s.f,s.g]) j;have C:Ah (upd H r8 (.cells A u (Ej [s.a,s.a,s.b,s.c,s.d,s.e,s.f,s.g]))) r2=some (.cells q2 Q (Ej ws)):=by rw[Ag F];exact M
   have N:=Bm (r:=r8) (y:=.cells A u (Ej [s.a,s.a,s.b,s.c,s.d,s.e,s.f,s.g])) hw;have B:=J.upd_new (y:=.cells A u (Ej [s.a,s.a,s.b,s.c,s.d,s.e,s.f,s.g])) R;have Y:splice (Ej s.l) 1 (((Ej s.l).drop 0).take (7-0))=Ej [s.a,s.a,s.b,s.c,s.d,s.e,s.f,s.g]:=id rfl;rw[Y];generalize upd H r8 (.cells A u (Ej [s.a,s.a,s.b,s.c,s.d,s.e,s.f,s.g]))=H3 at m C N B;rw[AL rfl m (by show 4<8;decide)];have g3:(Ej [s.a,s.a,s.b,s.c,s.d,s.e,s.f,s.g]).getD 4 .dk=W s.d:=id rfl;rw[g3,Qv,DT m (by show 0<8;decide) rfl rfl rfl,DT (AC m) (by rw[List.length_set];show 4<8;decide) rfl rfl rfl,Dp,CX (by omega) (by omega),Si];have X:pJ ws s0 (i+1)=rnd s (kk.getD i 0) (ws.getD i 0):=by rw[<-hs];rfl
   have Z:∀a d:BitVec 32,((Ej [s.a,s.a,s.b,s.c,s.d,s.e,s.f,s.g]).set 0 (W a)).set 4 (W d)=Ej [a,s.a,s.b,s.c,d,s.e,s.f,s.g]:=λ_ _=>id rfl;refine ih (i+1) q2 Q A u _ (by omega) (by omega) ?_ ?_ ((B.upd_new R).upd_new R) (Bm (Bm N))
   ·rw[Ag F,Ag F];exact C
   ·rw[X,<-C5P,<-Z];exact AC (AC m)
  ·rw[CL (by simp;omega)];have:i=64:=by omega
   subst this;exact hx _ _ _ j J hw
def C1U{k:Ru}{a b:List (BitVec 32)}{Q R V:AV}(C:a.length=8)(hb:b.length=8)(j:s0≠r8)(J:∀H,Ah H s0=some (.cells q0 e0 (Ej (kT a b 8)))->Lat H0 H (λt=>t=s0)->Wf H->k H=x):
 ∀(f i:Nat)(v:Bool)(g:Nat)(H:Hp),i<=8->8-i<f->Ah H s0=some (.cells q0 e0 (Ej (kT a b i++a.drop i)))->Ah H r8=some (.cells v g (Ej b))->Lat H0 H (λt=>t=s0)->Wf H->
  Lq L (rt L n) K k f (.ptr s0 0 0) Q (.ptr r8 0 0) R V (I i) H=x:=by
 intro f
 induction f with
 |zero=>intro i _ _ H _ h;omega
 |succ f ih=>
  intro i v g H hi X c e d w;rw[VH];unfold Lt Kx A4;rw[DO,FD];by_cases h:i<8
  ·rw[Dv (by simp;omega)];have m:(Ej (kT a b i++a.drop i)).length=8:=by rw[HV,EN,TC,l0u,C];omega
   have F:(Ej b).length=8:=by rw[HV,hb]
   have A:(Ej (kT a b i++a.drop i)).getD i .dk=W (a.getD i 0):=by
    rw[MN (by rw[HV]at m;omega)]
    congr 1
    rw[TV,TV,l0o (by rw[TC];omega),TC,Nat.sub_self,qX,Nat.add_zero]
   have B:(Ej b).getD i .dk=W (b.getD i 0):=MN (by omega);have ia:=λK=>XA0 (t:=AR) (s:=s0) (z:=(i:Int)) i (K:=K) rfl rfl h;have M:=λK=>XA0 (t:=AR) (s:=r8) (z:=(i:Int)) i (K:=K) rfl rfl h;have N:=λK=>AL (t:=Ao) (p:=i) (K:=K) rfl c (by omega);have O:=λK=>AL (t:=Ao) (p:=i) (K:=K) rfl e (by omega);simp only[Iy,Pt,ia,M,N,O,A,B,Qv];rw[DT c (by omega) rfl rfl rfl,T3,Dp,CX (by omega) (by omega),Si];have u:(Ej (kT a b i++a.drop i)).set i (W (a.getD i 0+b.getD i 0))=Ej (kT a b (i+1)++a.drop (i+1)):=by
    rw[N!,eI];have:a.drop i=a.getD i 0::a.drop (i+1):=by rw[rV (by omega),TV,KJ (by omega)];rfl
    rw[this];unfold Ej;rw[dW,dW,List.set_append_right _ _ (by rw[QK,TC];omega),QK,TC,Nat.sub_self];rfl
   refine ih (i+1) v g _ (by omega) (by omega) ?_ ?_ (d.upd_old rfl) (Bm w)
   ·rw[<-u];exact AC c
   ·rw[Ag (Ne.symm j)];exact e
  ·rw[CL (by simp;omega)];have:i=8:=by omega
   subst this;rw[List.drop_of_length_le (by omega),Vq]at c;exact J _ c d w
def C4P{s:S8}{l:Ha}{c:AV}(hl:l.length=64)(Y:100<L)(O:Wf H)(hr:Ah H s0=some (.cells q0 e0 (Ej s.l)))(hc:Chk H c l)(hx:∀H',Ah H' s0=some (.cells q0 e0 (Ej (blk s l).l))->Lat H H' (λt=>t=s0)->Wf H'->K (.tup []) H'=x):(rt L (n+4)).call Me [.ptr s0 0 0,c] H K=x:=by
 rw[Xp];unfold LV A4;simp only[BF];have⟨q,hq⟩:=hc.fx;rw[AO (A41 (n:=n) hl Y) (Al hq AD)];have h0:=O.lt hr;rw[Bv (cs:=Ej (List.replicate 64 0)) rfl];unfold arr;have v:=Ay (H:=H) (x:=.cells true Dm (Ej (List.replicate 64 0))) (by simp);rw[BO v (by rw[HV,HV,Sk];rfl) (by rw[HV];rfl) (ZF _),Iy];have k:=AC (q:=true) (e:=Dm) (cs:=Ej (Ob l 48)) v;have m:Ah (upd ((Ar H,c_ Dm (Ej (List.replicate 64 0)))::H) (Ar H) (c_ Dm (Ej (Ob l 48)))) s0=some (.cells q0 e0 (Ej s.l)):=by
  rw[Ag (by omega)];exact A6 h0 hr
 have g:=Bm (r:=Ar H) (y:=.cells true Dm (Ej (Ob l 48))) (AG (x:=.cells true Dm (Ej (List.replicate 64 0))) O);have i:=((Lat.refl H (λ_=>False)).new (y:=.cells true Dm (Ej (List.replicate 64 0)))).upd_new (r:=Ar H) (y:=.cells true Dm (Ej (Ob l 48))) (MC _);generalize upd ((Ar H,c_ Dm (Ej (List.replicate 64 0)))::H) (Ar H) (c_ Dm (Ej (Ob l 48)))=f at k m g i;rw[Bu rfl rfl m,Bv (cs:=Ej (List.replicate 8 0)) rfl];have A:=Ay (H:=f) (x:=.cells true BR (Ej (List.replicate 8 0))) (by simp);rw[BO (vs:=Ej s.l) A rfl rfl (ZF _)];have p:=g.lt k;have X:=g.lt m;have B:=AC (q:=true) (e:=BR) (cs:=Ej s.l) A;have F:Ah (upd ((Ar f,c_ BR (Ej (List.replicate 8 0)))::f) (Ar f) (c_ BR (Ej s.l))) (Ar H)=some (c_ Dm (Ej (Ob l 48))):=by
  rw[Ag (by omega)];exact A6 p k
 have J:=Bm (r:=Ar f) (y:=.cells true BR (Ej s.l)) (AG (x:=.cells true BR (Ej (List.replicate 8 0))) g);have j:=(i.new (y:=.cells true BR (Ej (List.replicate 8 0)))).upd_new (r:=Ar f) (y:=.cells true BR (Ej s.l)) (by omega);generalize upd ((Ar f,c_ BR (Ej (List.replicate 8 0)))::f) (Ar f) (c_ BR (Ej s.l))=V at B F J j;have hg:∀K:K2,AE Cv (AV.iptr gl0) V K=K (arr kk):=λK=>by kernel_rfl
 rw[hg];refine C1T (n:=n+1) (ws:=Ob l 48) (s0:=s) (H0:=H) (by rw[Sk]) Y (MC _) (by omega) (by omega) ?_ L 0 true _ true _ V (by omega) (by omega) F B j J;intro q8 e8 Z N d Q;have C:=d.keep O s0 _ hr (λh=>h);refine C1U (a:=s.l) (b:=(pJ (Ob l 48) s 64).l) (H0:=H) rfl rfl (by omega) ?_ L 0 q8 e8 Z (by omega) (by omega) C N ⟨d.wf,d.nx,λw t x ht _=>d.keep w t x ht (λh=>h)⟩ Q;intro H6 M u R;exact hx H6 M u R
end
section
variable{q:Bool}{e r:Nat}{s:S8}
def qB(l:Ha)(n:Nat):Ha:=l++List.replicate (n-l.length) 0
def B16{l:Ha}{n:Nat}(h:l.length<=n):(qB l n).length=n:=by simp[qB];omega
def B15{l:Ha}{n k:Nat}(w:UInt8)(a:l.length=k)(h:k<n):(MM (qB l n)).set k (By w)=MM (qB (l++[w]) n):=by
 subst a;have e:n-l.length=(n-(l.length+1))+1:=by omega
 simp[qB,MM,e,l1c,List.set_append_right]
def A7N{l:Ha}{n:Nat}(h:l.length=n):qB l n=l:=by simp[qB,h]
def B3x(w:BitVec 32){j:Nat}(h:j<4):(wb w).take (j+1)=(wb w).take j++[UInt8.ofNat (w>>>(24-8*j)).toNat]:=by
 have:j=0\/j=1\/j=2\/j=3:=by omega
 rcases this with rfl|rfl|rfl|rfl<;>simp[wb,BitVec.toNat_ushiftRight,Nat.shiftRight_eq_div_pow]
def B7M(w:BitVec 32):(wb w).length=4:=rfl
variable{L n:Nat}{K:KV}{x:Af}
def C1r{k:AV->AV->AV->AV->AV->KV}{w:BitVec 32}{b:Ha}{i r e:Nat}{a c:AV}(hi:i<8)(hb:b.length=4*i)(p:∀H,Ah H r=some (.cells q e (MM (qB (b++wb w) 32)))->k (.ptr r 0 0) (I i) (W w) a c (I 4) H=x):
 ∀(f j:Nat)(H:Hp),j<=4->4-j<f->Ah H r=some (.cells q e (MM (qB (b++(wb w).take j) 32)))->KP L (rt L n) K k f (.ptr r 0 0) (I i) (W w) a c (I j) H=x:=by
 intro f
 induction f with
 |zero=>intro j H _ h;omega
 |succ f ih=>
  intro j H u t hr;rw[Vh];unfold KS A4;rw[DO,FD];by_cases h:j<4
  ·rw[Dv (by simp;omega)];have d:(4:Int)*(i:Int)+(j:Int)=((4*i+j:Nat):Int):=by omega
   have g:(24:Int)-8*(j:Int)=((24-8*j:Nat):Int):=by omega
   simp(disch:=omega) only[QS,Dp,Le,CX,d,g,J!,JT (z:=((24-8*j:Nat):Int)) (k:=24-8*j) rfl (by omega)];have m:(b++(wb w).take j).length=4*i+j:=by rw[EN,hb,E!,B7M];omega
   rw[XA0 (4*i+j) rfl rfl (by omega),DT hr (by rw[Q8,B16 (by omega)];omega) rfl rfl rfl,B15 _ m (by omega),eI,<-B3x w h,Si];exact ih (j+1) _ (by omega) (by omega) (AC hr)
  ·rw[CL (by simp;omega)];have:j=4:=by omega
   subst this;exact p _ hr
def C1s{k:KV}{w0 w1 w5:AV}(c:10<L)(a:∀H,Ah H r=some (.cells q e (MM (YQ s.l 8)))->k (.ptr r 0 0) H=x):
 ∀(f i:Nat)(w0 w1 w5:AV)(H:Hp),i<=8->8-i<f->Ah H r=some (.cells q e (MM (qB (YQ s.l i) 32)))->KR L (rt L n) K k f (.ptr r 0 0) w0 w1 (arr s.l) (I i) w5 H=x:=by
 intro f
 induction f with
 |zero=>intro i _ _ _ H _ h;omega
 |succ f ih=>
  intro i w0 w1 w5 H hi d hr;rw[Vi];unfold KT A4;rw[DO,FD];by_cases h:i<8
  ·rw[Dv (by simp;omega)];simp only[BF];unfold arr;rw[A6F i rfl rfl rfl h (by show 8<=8;decide),MN (show i<s.l.length from h)];refine C1r (b:=YQ s.l i) h (YP _ _) ?_ L 0 H (by omega) (by omega) (by simpa using hr);intro H hr;rw[Dp,CX (by omega) (by omega),Si];exact ih (i+1) _ _ _ H (by omega) (by omega) hr
  ·rw[CL (by simp;omega)];have:i=8:=by omega
   subst this;rw[A7N (YP _ _)]at hr;exact a _ hr
def B0b(d:10<L):CS (rt L (n+1)) GN [arr s.l] (S (YQ s.l 8)):=by
 intro K c;rw[VO];unfold Lx A4;simp only[BF];unfold arr;rw[DZ (ZF _),Bv (cs:=MM (qB (YQ s.l 0) 32)) rfl];have a:Ah ((Ar [(Ar [],c_ BR (Ej s.l))],c_ Wq (MM (qB (YQ s.l 0) 32)))::[(Ar [],c_ BR (Ej s.l))]) (Ar [])=some (c_ BR (Ej s.l)):=id rfl;rw[Bu rfl rfl a];refine C1s (w0:=.dk) (w1:=.dk) (w5:=.dk) d ?_ L 0 _ _ _ _ (by omega) (by omega) (Ay (by simp));intro H hr;have f:(MM (YQ s.l 8)).length=32:=by rw[Q8,YP]
 rw[A4U 0 32 (λK=>rfl) (λK=>rfl) hr (by omega) (by decide) (by decide),A6G (e:=Wq) (.inr ⟨_,_,rfl,hr,by omega⟩)];exact c _ _ (λb=>⟨false,C7⟩)
end
section
variable{q0:Bool}{H:Hp}{e0:Nat}{t:TI}
def A8k{e r o m:Nat}{x y z:Int}(a b c:Nat){K:K2}(f:t.d=.slice e 1)(i:x=a)(j:y=b)(hz:z=c)(h1:a<=b)(h2:b<=c)(p:c<=m):D3 t (.sl 1 r o m) (some (I x)) (some (I y)) (some (I z)) K=K (.sl 1 r (o+a) (b-a)):=by
 subst i j hz;have g:D3 t (.sl 1 r o m) (some (I a)) (some (I b)) (some (I c)) K=iN (a:Int) λl=>iN (b:Int) λh=>iN (c:Int) λx=>ck (Nat.ble l h&&(Nat.ble h x&&Nat.ble x m)) (fN (Nat.add o (Nat.mul l 1)) λk=>fN (Nat.sub h l) λn=>K (.sl 1 r k n)):=by
  have⟨_,_,d,z⟩:=t;simp only at f;subst f;rfl
 rw[g,JU,JU,JU];have f1:(Nat.ble a b&&(Nat.ble b c&&Nat.ble c m))=true:=by simp only[KW,kZ];omega
 have f2:Nat.add o (Nat.mul a 1)=o+a:=by show o+a*1=_;omega
 rw[f1,f2,DF,DF];rfl
def A4S{e r o m:Nat}{x:Int}(a:Nat){K:K2}(b:t.d=.slice e 1)(f:x=a)(h1:a<=m):D3 t (.sl 1 r o m) (some (I x)) none none K=K (.sl 1 r (o+a) (m-a)):=by
 subst f;have c:D3 t (.sl 1 r o m) (some (I a)) none none K=iN (a:Int) λl=>fN m λh=>fN m λx=>ck (Nat.ble l h&&(Nat.ble h x&&Nat.ble x m)) (fN (Nat.add o (Nat.mul l 1)) λg=>fN (Nat.sub h l) λn=>K (.sl 1 r g n)):=by
  have⟨_,_,d,z⟩:=t;simp only at b;subst b;rfl
 rw[c,JU,DF,DF];have f1:(Nat.ble a m&&(Nat.ble m m&&Nat.ble m m))=true:=by simp only[KW,kZ];omega
 have f2:Nat.add o (Nat.mul a 1)=o+a:=by show o+a*1=_;omega
 rw[f1,f2,DF,DF];rfl
def B2d{x y:Int}(h:x<=y){K:K2}:eMM true (I x) (I y) K=K (I x):=by
 have:eMM true (I x) (I y) K=ck (decide (IntKind.i64=IntKind.i64)) (@Bool.rec (λ_=>Af) (K (I y)) (K (I x)) (qZ x y)):=rfl;rw[this,LZ,Hu h];rfl
def B6e{ty sz r o m:Nat}{K:KV}:FV ty (.sl sz r o m) H K=K (.ptr (Ar H) 0 0) ((Ar H,c_ ty [.sl sz r o m])::H):=by
 unfold FV;rw[CP,FM,BS];rfl
def DK{b:Bool}{K:K2}:MJ .not (Bo b) K=K (Bo (!b)):=by cases b<;>rfl
variable{L n:Nat}{K:KV}{x:Af}
def lpS(a c2 c3 c4 c5 c6 c34 c35 c36:AV)(p:Option (Option Code)):Row:=.loop 40 [(0,a),(2,c2),(3,c3),(4,c4),(5,c5),(6,c6),(34,c34),(35,c35),(36,c36)] (FA).2.1 (FA).2.2.1 (FA).2.2.2 p
def B4y{b c2 c4 c5 c6 c34 c35 c36 c:AV}{s r0:Nat}{t:S8}{l:Ha}(J:l.length=64)(D:100<L)(N:Wf H)(hr:Ah H r0=some (.cells q0 e0 (Ej t.l)))(hc:Chk H c l)(p:Ah H s=some (lpS b c2 (.ptr r0 0 0) c4 c5 c6 c34 c35 c36 (some none)))(k:∀w,A8 c w->w≠s)(d:r0≠s)(O:∀a,Ah a r0=some (.cells q0 e0 (Ej (blk t l).l))->Ah a s=some (lpS b c2 (.ptr r0 0 0) c4 c5 c6 c34 c35 c36 (some none))->(∀u y,Ah H u=some y->u≠r0->u≠s->Ah a u=some y)->Wf a->K (Bo true) a=x):
 CH (E L) (rt L (n+5)) (.yl s) [c] H K=x:=by
 show Oj (rt L (n+5)) s [c] H K=x;rw[PG p (by kernel_rfl)];have i:(rt L (n+5)).run= λA=>MD (E L) (rt L (n+4)) A:=rfl;rw[i,pY,PQ p];have g:=Bm (r:=s) (y:=lpS b c2 (.ptr r0 0 0) c4 c5 c6 c34 c35 c36 none) N;have m:Ah (upd H s (lpS b c2 (.ptr r0 0 0) c4 c5 c6 c34 c35 c36 none)) r0=some (.cells q0 e0 (Ej t.l)):=by rw[Ag d];exact hr
 have v:Ah (upd H s (lpS b c2 (.ptr r0 0 0) c4 c5 c6 c34 c35 c36 none)) s=some (lpS b c2 (.ptr r0 0 0) c4 c5 c6 c34 c35 c36 none):=Fl p;have j:Chk (upd H s (lpS b c2 (.ptr r0 0 0) c4 c5 c6 c34 c35 c36 none)) c l:=by
  rcases hc with h|⟨r,o,q,e,cs,h1,h2,B,C⟩
  ·exact .inl h
  ·refine .inr ⟨r,o,q,e,cs,h1,?_,B,C⟩;rw[Ag (k r ⟨_,_,_,h1⟩)];exact h2
 refine C4P J D g m j ?_;intro a F hb hc;have f:=hb.keep g s _ v (λh=>d h.symm);show EC a s false (some none) _=_;unfold lpS at f;rw[PN f];refine O _ ?_ (Fl f) ?_ (Bm hc)
 ·rw[Ag d];exact F
 ·intro u y M h1 h2;rw[Ag h2];refine hb.keep g u y ?_ h1;rw[Ag h2];exact M
def C18{k:Ru}{w c2 c4 c5 c6 c34 c35 c36:AV}{s r0 r1 r2 rm m N O em:Nat}{q0 q1 q2 M:Bool}{l:Ha}(V:100<L)(hm:l.length=64*m)(hl:l.length<200000000000)(d0:r0≠s)(d1:r1≠s)(d2:r2≠s)(y:rm≠s)(d:r1≠r0)(a:r2≠r0)(e:rm≠r0)(X:∀H,Ah H r0=some (.cells q0 e0 (Ej (gC l m).l))->Ah H s=some (lpS w c2 (.ptr r0 0 0) c4 c5 c6 c34 c35 c36 (some none))->Wf H->k H=x):
 ∀(f i:Nat)(H:Hp),i<=m->m-i<f->Ah H r0=some (.cells q0 e0 (Ej (gC l i).l))->Ah H s=some (lpS w c2 (.ptr r0 0 0) c4 c5 c6 c34 c35 c36 (some none))->
  Ah H r1=some (.cells q1 N [.sl 1 rm 0 l.length])->Ah H r2=some (.cells q2 O [I 64])->Ah H rm=some (.cells M em (MM l))->Wf H->
  FQ L (rt L (n+5)) K k f (.yl s) (.ptr r1 0 0) (.ptr r2 0 0) (I ((64*i:Nat):Int)) H=x:=by
 intro f
 induction f with
 |zero=>intro i H _ h;omega
 |succ f ih=>
  intro i H hi Z B C h1 h2 b D;rw[MR];unfold FR;have F:∀K,AE AZ (.ptr r1 0 0) H K=K (.sl 1 rm 0 l.length):=λK=>AL (p:=0) rfl h1 (by simp);have Y:∀K,AE Ad (.ptr r2 0 0) H K=K (I 64):=λK=>AL (p:=0) rfl h2 (by decide);have J:∀k o K,Ba AZ (.sl 1 rm o k) K=K (I k):=λ_ _ _=>id rfl;rw[F,J,DO,FD];by_cases h:i<m
  ·rw[Dv (by simp;omega)];have P:∀K,D3 AZ (.sl 1 rm 0 l.length) (some (I ((64*i:Nat):Int))) none none K=K (.sl 1 rm (0+64*i) (l.length-64*i)):=λK=>A4S _ rfl rfl (by omega);have A:((64*i:Nat):Int)+64=((64*(i+1):Nat):Int):=by omega
   have Q:∀K,D3 AZ (.sl 1 rm 0 l.length) (some (I ((64*i:Nat):Int))) (some (I ((64*(i+1):Nat):Int))) (some (I ((64*(i+1):Nat):Int))) K=K (.sl 1 rm (0+64*i) (64*(i+1)-64*i)):=λK=>A8k _ _ _ rfl rfl rfl rfl (by omega) (by omega) (by omega);have R:64*(i+1)-64*i=64:=by omega
   simp(disch:=omega) only[Pt,F,Y,P,J,B2d,Dp,CX,A,Q,R,JZ];refine B4y (l:=(l.drop (64*i)).take 64) (by simp;omega) V D B (.inr ⟨rm,64*i,M,em,MM l,?_,b,?_,?_⟩) C ?_ d0 ?_
   ·have:((l.drop (64*i)).take 64).length=64:=by simp;omega
    rw[this]
   ·have:((l.drop (64*i)).take 64).length=64:=by simp;omega
    rw[this,Q8];omega
   ·have:((l.drop (64*i)).take 64).length=64:=by simp;omega
    rw[this];unfold MM;rw[List.map_take,List.map_drop]
   ·rintro s' ⟨_,_,_,j⟩;injection j with _ j
    subst j;exact y
   ·intro v g q c r;have u:∀K,AE Ad (.ptr r2 0 0) v K=K (I 64):=λK=>AL (p:=0) rfl (c r2 _ h2 a d2) (by decide);rw[DK,FD,CL (by simp),u,Dp,CX (by omega) (by omega),A];exact ih (i+1) v (by omega) (by omega) g q (c r1 _ h1 d d1) (c r2 _ h2 a d2) (c rm _ b e y) r
  ·rw[CL (by simp;omega)];have:i=m:=by omega
   subst this;exact X _ B C D
end
section
variable{k:AV->AV->AV->AV->AV->AV->AV->KV}{H:Hp}{s:Ha}{y:Row}
variable{L n:Nat}{K:KV}{x:Af}
def B2W{v:AV}{l:Ha}{r0:Nat}(b:UInt8)(h:Bp H B3 1 v l.length (MM l))(w:Wf H)(hn:l.length<1000000000000)(d:Ah H r0=some y)(j:¬A8 v r0):
 ∃c a,(∀K:KV,(GF B3 1 Bq 1 [(0,1,By b)] H λv1 e=>E0 B3 1 Bq AZ v v1 e K)=K c a)/\Bp a B3 1 c (l++[b]).length (MM (l++[b]))/\Wf a/\Ah a r0=some y/\¬A8 c r0:=by
 have⟨c,a,h1,h2,f,p,g,i⟩:=B2X b h w hn;exact⟨c,a,h1,h2,f,g r0 y d j,λm=>by have:=i r0 m;have:=w.lt d;omega⟩
def C2Q{r0:Nat}{w0 w1 g D w5 i m p:AV}(J:s.length<100000000000)(B:∀v H,Bp H B3 1 v (pre s).length (MM (pre s))->Wf H->Ah H r0=some y->¬A8 v r0->k w0 w1 g v w5 i m p H=x):
 ∀(f j:Nat)(v:AV)(H:Hp),j<=gR s.length->gR s.length-j<f->Bp H B3 1 v (s++[128]++List.replicate j 0).length (MM (s++[128]++List.replicate j 0))->Wf H->Ah H r0=some y->¬A8 v r0->
  Vj L (rt L n) K k f w0 w1 g v D w5 i m p H=x:=by
 intro f
 induction f with
 |zero=>intro j v H _ h;omega
 |succ f ih=>
  intro j v H w F hv d b c;rw[rC];unfold Vk A4;have a:(s++[128]++List.replicate j (0:UInt8)).length=s.length+1+j:=by simp;omega
  have hz:gR s.length<64:=by unfold gR;omega
  rw[LD rfl hv,Tz (by decide),I2,FD];have hm:((s++[128]++List.replicate j (0:UInt8)).length:Int).tmod 64=(((s.length+1+j)%64:Nat):Int):=by rw[a];exact(Int.ofNat_tmod _ _).symm
  rw[hm];by_cases h:j=gR s.length
  ·subst h;have:(s.length+1+gR s.length)%64=56:=by unfold gR;omega
   rw[this];simp only[l19,decide_eq_false_iff_not];rw[CL (by simp)];exact B _ _ hv d b c
  ·have A:(s.length+1+j)%64≠56:=by unfold gR at h w;omega
   rw[Dv (by simp;omega)];have⟨C,q,h1,h2,r,t,u⟩:=B2W (0:UInt8) hv d (by omega) b c;have e:(AV.v (.int .u8 0))=By 0:=rfl;rw[e];rw[h1];refine ih (j+1) C q (by omega) (by omega) ?_ r t u;rw[List.replicate_succ',<-eI];exact h2
def C2R{r0:Nat}{w1 d w5 q e g:AV}(O:s.length<100000000000)(J:∀v w H,Bp H B3 1 v (ext s).length (MM (ext s))->Wf H->Ah H r0=some y->¬A8 v r0->k (S s) w1 d v w w5 e g H=x):
 ∀(f i:Nat)(l:Ha)(v:AV)(H:Hp),i<=8->i<f->l++YC s.length i=ext s->Bp H B3 1 v l.length (MM l)->Wf H->Ah H r0=some y->¬A8 v r0->
  Qy L (rt L n) K k f (S s) w1 d v (I ((i:Int)-1)) w5 q e g H=x:=by
 have hz:gR s.length<64:=by unfold gR;omega
 intro f
 induction f with
 |zero=>intro i l v H _ h;omega
 |succ f ih=>
  intro i l v H hi N b hv p j m;have F:l.length<=s.length+1+64+8:=by
   have:=congrArg List.length b;simp[ext,pre,zZ]at this;omega
  rw[rE];unfold Vl A4;rw[Mi,FD];cases i with
  |zero=>
   rw[CL (by simp)];have:l=ext s:=by simpa [YC] using b
   subst this;exact J _ _ _ hv p j m
  |succ i=>
   rw[Dv (by simp)];have t:((i+1:Nat):Int)-1=(i:Int):=by omega
   rw[t];rw[Qt rfl,QS,QS,CX (by omega) (by omega),CX (by omega) (by omega)];have u:(8:Int)*(s.length:Int)=((8*s.length:Nat):Int):=by omega
   have A:(8:Int)*(i:Int)=((8*i:Nat):Int):=by omega
   rw[u,A,wK (by omega)];rw[A2L rfl];have⟨M,r,h1,h2,B,C,D⟩:=B2W (fQ s.length i) hv p (by omega) j m;simp(disch:=omega) only[Le,CX];have h1:=h1 (λc a=>Qy L (rt L n) K k f (S s) w1 d c (I ((i:Int)-1)) w5 q e g a);unfold fQ at h1;rw[h1];refine ih i (l++[fQ s.length i]) M r (by omega) (by omega) ?_ h2 B C D;rw[eI];exact b
def A5X{R:Rt}{N g:Nat}{cap:Is}{t:Tm}{ps:Array Tmp}{b d:Code}{K:Option (Option Code)->Ru}:pH R N (.fn (.func g) [] cap) t ps b d H K=R.call g (.yl (Ar H)::cap) ((Ar H,.loop N t ps b d (some none))::H) λ_ c=>IP c (Ar H) λx=>eH x λ_ _ _ _ _ a=>LJ c (Ar H) .gone λf=>K a f:=by
 have e:pH R N (.fn (.func g) [] cap) t ps b d H K=HE H λs=>R.call g (.yl s::cap) ((s,.loop N t ps b d (some none))::H) λ_ c=>IP c s λx=>eH x λ_ _ _ _ _ a=>LJ c s .gone λf=>K a f:=rfl;rw[e,BS]
def C2W(hs:s.length<100000000000)(hL:s.length+200<L):CS (rt L (n+8)) XL [S s] (S (sha s)):=by
 intro K hK;rw[vK];unfold Xv A4;simp only[BF];have X:∀K:K2,Cb AR [(0,1,(AV.v (.int .u32 1779033703))),(1,1,(AV.v (.int .u32 3144134277))),(2,1,(AV.v (.int .u32 1013904242))),(3,1,(AV.v (.int .u32 2773480762))),(4,1,(AV.v (.int .u32 1359893119))),(5,1,(AV.v (.int .u32 2600822924))),(6,1,(AV.v (.int .u32 528734635))),(7,1,(AV.v (.int .u32 1541459225)))] K=K (.agg (Ej iv.l)):=λK=>by kernel_rfl
 rw[X,Bv (cs:=Ej (List.replicate 8 0)) rfl];have O:=Ay (H:=[]) (x:=.cells true BR (Ej (List.replicate 8 0))) (by simp);rw[BO (vs:=Ej iv.l) O rfl rfl (ZF _)];have B:=AC (q:=true) (e:=BR) (cs:=Ej iv.l) O;have J:=Bm (r:=Ar []) (y:=.cells true BR (Ej iv.l)) (AG (x:=.cells true BR (Ej (List.replicate 8 0))) Ft);generalize upd ((Ar [],c_ BR (Ej (List.replicate 8 0)))::[]) (Ar []) (c_ BR (Ej iv.l))=t at B J;have P:∀K:KV,A2z B3 (S s) t K=K (.sl 1 (Ar t) 0 s.length) ((Ar t,.cells false B3 (MM s))::t):=λK=>by
  have e:A2z B3 (S s) t K=HN s 0 λn=>fZ s λcs=>HE t λr=>K (.sl 1 r 0 n) ((r,.cells false B3 cs)::t):=rfl;rw[e,C4,ZT,BS,JZ];rfl
 rw[P];have Y:=J.lt B;have Z:=A6 (x:=.cells false B3 (MM s)) Y B;have ad:=AG (x:=.cells false B3 (MM s)) J;have ac:=Oo (H:=t) (e:=B3) (n:=s.length) (cs:=MM s) (Q8 s);have e:(AV.v (.int .u8 128))=By 128:=rfl;have⟨v',H',h1,h2,h3,h4,h5⟩:=B2W (128:UInt8) ac ad (by omega) Z (λ⟨_,_,_,hh⟩=>by injection hh with _ hh;omega);rw[e,h1];have hz:gR s.length<64:=by unfold gR;omega
 refine C2Q hs ?_ L 0 v' H' (by omega) (by omega) (by simpa using h2) h3 h4 h5;intro v H hv F hr R;refine C2R hs ?_ L 8 (pre s) v H (by omega) (by omega) rfl hv F hr R;intro v w H hv F hr R;have⟨m,hm,af⟩:=A6A s;rcases hv with⟨_,h,_⟩|⟨rm,qm,rfl,D,ae⟩
 ·simp[ext]at h
 have V:rm≠Ar []:=λh=>R ⟨_,_,_,by rw[h]⟩;rw[QD];unfold I4 A4;simp only[BF];rw[B6e,oG rfl];have j:=A6 (x:=.cells true PJ [.sl 1 rm 0 (ext s).length]) (F.lt hr) hr;have c:=A6 (x:=.cells true PJ [.sl 1 rm 0 (ext s).length]) (F.lt D) D;have g:=Ay (H:=H) (x:=.cells true PJ [.sl 1 rm 0 (ext s).length]) (by simp);have a:=AG (x:=.cells true PJ [.sl 1 rm 0 (ext s).length]) F;have a1:=F.lt hr;have a2:=F.lt D;have a3:=a.lt g;generalize ((Ar H,c_ PJ [.sl 1 rm 0 (ext s).length])::H)=N at j c g a a3;have C:=A6 (x:=.cells true Hh [I 64]) (a.lt j) j;have f:=A6 (x:=.cells true Hh [I 64]) (a.lt c) c;have A:=A6 (x:=.cells true Hh [I 64]) (a.lt g) g;have i:=Ay (H:=N) (x:=.cells true Hh [I 64]) (by simp);have d:=AG (x:=.cells true Hh [I 64]) a;have a4:=a.lt j;have a5:=a.lt c;have a6:=d.lt i;generalize ((Ar N,c_ Hh [I 64])::N)=u at C f A i d a6;have l2:∀K,AE Ad (.ptr (Ar N) 0 0) u K=K (I 64):=λK=>AL (p:=0) rfl i (by decide);rw[l2,DO,FD,CL (by decide),A5X,N8];unfold Gi A4;simp only[BF];have a7:=d.lt C;have a8:=d.lt f;have a9:=d.lt A;refine C18 (n:=n+1) (m:=m) (l:=ext s) (s:=Ar u) (r0:=Ar []) (r1:=Ar H) (r2:=Ar N) (rm:=rm) (by omega) hm (by omega) (by omega) (by omega) (by omega) (by omega) (by omega) (by omega) V ?_ L 0 _ (by omega) (by omega) (A6 a7 C) (Ay (x:=lpS (S s) (AV.v (.string ⟨⟨[]⟩⟩)) (.ptr (Ar []) 0 0) (.sl 1 rm 0 (ext s).length) _ _ _ _ _ (some none)) (by simp[lpS])) (A6 a9 A) (A6 a6 i) (A6 a8 f) (AG d);intro M h0 aa ag;rw[Bl aa];show LJ M (Ar u) .gone _=_;rw[Dh];show AE AR (.ptr (Ar []) 0 0) (upd M (Ar u) .gone) _=_;have Q:Ah (upd M (Ar u) .gone) (Ar [])=some (c_ BR (Ej (gC (ext s) m).l)):=by rw[Ag (by omega)];exact h0
 rw[Bu rfl rfl Q];have ab:∀K,Ap (rt L (n+7)) GN [.agg (Ej (gC (ext s) m).l)] (upd M (Ar u) .gone) K=K (S (YQ (gC (ext s) m).l 8)):=λK=>AO (B0b (L:=L) (n:=n+6) (by omega)) (Al (L0 (Lz (λx:BitVec 32=>Value.int .u32 (x.toNat:Int)) _)) AD);show Ap (rt L (n+7)) GN [.agg (Ej (gC (ext s) m).l)] (upd M (Ar u) .gone) _=_;rw[ab];have e:YQ (gC (ext s) m).l 8=sha s:=by
  unfold sha;have:(ext s).length/64=m:=by omega
  rw[this]
 rw[e];exact hK _ _ (λb=>⟨false,C7⟩)
end
end Go.Abs
end
