import Derived.Test.YtlbhdmbfdcohhaaGreatDoorS10
import Derived.Test.YtlbhdmbfdcohhaaGreatDoorS15
import Derived.Test.YtlbhdmbfdcohhaaGreatDoorS17
set_option linter.all false
set_option maxHeartbeats 100000000
noncomputable section
namespace Go.Abs
open Go.RowKit Go.Proofs
set_option maxRecDepth 100000
theorem C2W {t t':TI} {K:AV→Aj} {l:List UInt8} {i:Nat} (hd:t.d= .string) (h:i<l.length):Tr t t' (S l) (I i) K=K (By l[i]):=by
 have e:Tr t t' (S l) (I i) K=iN (i:Int) λn=>B9m (Dv n l) K:=by
  obtain⟨a,b,d,z⟩:=t;simp only at hd;subst hd;rfl
 rw[e,Jn,CE,l11 h]
 show fN l[i].toNat (λn=>K (.v (.int .u8 (.ofNat n))))=_
 rw[Di];rfl
theorem NI {t:TI} {K:AV→Aj} {l:List UInt8} (hd:t.d= .string):AQ t (S l) K=K (I l.length):=by
 have:AQ t (S l) K=GP l 0 λn=>K (.v (.int .i64 (.ofNat n))):=by
  obtain⟨a,b,d,z⟩:=t;simp only at hd;subst hd;rfl
 rw[this,Co,KF];rfl
theorem JI {H:Hp} {e sz n:Nat} {v:AV} {cs:List AV} {t:TI} {e' z':Nat} {K:AV→Aj} (hd:t.d= .slice e' z') (h:Bv H e sz v n cs):AQ t v K=K (I n):=by
 obtain⟨a,b,d,z⟩:=t
 simp only at hd
 subst hd
 rcases h with⟨rfl,rfl,_⟩|⟨r,q,rfl,_⟩<;>rfl
theorem B5B {H:Hp} {v:AV} {l:List UInt8} (b:UInt8) (h:Bv H AY 1 v l.length (KD l)) (w:Wf H) (hn:l.length<1000000000000):
 ∃v' H',(∀K:KV,(F3 AY 1 AE 1 [(0,1,By b)] H λv1 H1=>DN AY 1 AE AC v v1 H1 K)=K v' H')∧Bv H' AY 1 v' (l++[b]).length (KD (l++[b]))∧Wf H'∧A2 H≤A2 H'∧(∀s x,Aq H s=some x→¬AG v s→Aq H' s=some x)∧(∀s,AG v' s→A2 H≤s):=by
 have hv1:Bv ((A2 H,.cells false AY [By b])::H) AY 1 v l.length (KD l):=h.lat w (Lat.cons H _ (λ_=>False)) (λ_ _ h=>h)
 have hsrc:=LP (H:=H) (e:=AY) (n:=1) (cs:=[By b]) rfl
 obtain⟨v',H',h1,h2,h3,h4⟩:=apt (ie:=AE) (i2:=AC) hv1 (λK=>Pt (K:=K) hsrc) rfl rfl (by decide) rfl rfl (by show(l.length+1)*1≤_;omega) (by omega)
 have h5:=(Lat.cons H (.cells false AY [By b]) (AG v)).trans h4 (R:=AG v) (λ_ _ h=>h) (λ_ _ h=>h)
 refine⟨v',H',λK=> ?_,by rw[Fl,←A5s];exact h2,h5.wf w,h5.nx,λs x hs hn=>h5.keep w s x hs hn,λs hs=> ?_⟩
 ·rw[A2q (z:=By 0) (λ_=>rfl) (λ_=>rfl) rfl]
  exact h1 K
 ·rw[h3 s hs];exact l1p _
def W0 (n:Nat):Nat:=(119-n%64)%64
def Wj (n i:Nat):UInt8:=UInt8.ofNat (8*n/2^(8*i))
def pre (s:List UInt8):List UInt8:=s++[128]++List.replicate (W0 s.length) 0
def ext (s:List UInt8):List UInt8:=pre s++[Wj s.length 7,Wj s.length 6,Wj s.length 5,Wj s.length 4,Wj s.length 3,Wj s.length 2,Wj s.length 1,Wj s.length 0]
theorem C2P {L:Nat} {R:Rt} {K:KV} {k:AV→AV→AV→AV→Hp→Aj} {s:List UInt8} {x:Aj} {w:AV} (hs:s.length<100000000000) (hx:∀v H,Bv H AY 1 v s.length (KD s)→Wf H→k (S s) v (I s.length) w H=x):
 ∀(f i:Nat) (v:AV) (H:Hp),i≤s.length→s.length-i<f→Bv H AY 1 v (s.take i).length (KD (s.take i))→Wf H→JC L R K k f (S s) v (I i) w H=x:=by
 intro f
 induction f with
 |zero=>intro i v H _ h;omega
 |succ f ih=>
  intro i v H hi hf hv hw
  rw[Vy]
  unfold LY Av
  rw[NI rfl,DL,EB]
  by_cases h:i<s.length
  ·rw[if_pos (by simpa using h)]
   rw[C2W rfl h]
   obtain⟨v',H',h1,h2,h3,h4,h5,_⟩:=B5B s[i] hv hw (by simp;omega)
   rw[h1]
   simp(disch:=omega) only[CH,Cp]
   refine ih (i+1) v' H' (by omega) (by omega) ?_ h3
   rw[l04 h]
   exact h2
  ·rw[if_neg (by simpa using h)]
   have:i=s.length:=by omega
   subst this
   exact hx _ _ (by simpa using hv) hw
theorem A2i {j:TI} {K:AV→Aj} {a k:Nat} (hk:k≤64):Ak j .shr (I a) (I k) K=K (I (a/2^k:Nat)):=by
 have:Ak j .shr (I a) (I k) K=ck (ile 0 (k:Int)) (fI ((a:Int).fdiv (2^(min (k:Int).toNat 64))) λz=>K (.v (.int .i64 z))):=rfl
 rw[this,Sh]
 have h1:ile 0 (k:Int)=true:=by rw[JZ];simp
 have h2:(a:Int).fdiv (2^(min (k:Int).toNat 64))=((a/2^k:Nat):Int):=by
  rw[XP,l1x hk]
  have:((2:Int)^k)=((2^k:Nat):Int):=by simp
  rw[this,Int.fdiv_eq_ediv_of_nonneg _ (Int.natCast_nonneg _)]
  exact(Int.natCast_ediv _ _).symm
 rw[h1,h2];rfl
theorem A7k {t t':TI} {K:AV→Aj} {m:Nat} (hd:t'.d= .int .u8):F2 t t' (I m) K=K (By (UInt8.ofNat m)):=by
 have:F2 t t' (I m) K=MD .u8 (m:Int) λz=>K (.v (.int .u8 z)):=by
  obtain⟨a,b,d,z⟩:=t';simp only at hd;subst hd;rfl
 rw[this,He,VP rfl]
 have:(m:Int)%(2^IntKind.u8.bits:Nat)=((UInt8.ofNat m).toNat:Int):=by
  rw[UInt8.toNat_ofNat']
  exact(Int.natCast_emod _ _).symm
 rw[this]
def Uf (n:Nat):Nat→List UInt8
 |0=>[]
 |i+1=>Wj n i::Uf n i
theorem A3y (n i:Nat):(Uf n i).length=i:=by
 induction i with
 |zero=>rfl
 |succ i ih=>simp[Uf,ih]
theorem C2Q {L:Nat} {R:Rt} {K:KV} {k:AV→AV→AV→Hp→Aj} {s:List UInt8} {x:Aj} {w1 w2 w3:AV} (hs:s.length<100000000000) (hx:∀v H,Bv H AY 1 v (pre s).length (KD (pre s))→Wf H→k w1 v w2 H=x):
 ∀(f j:Nat) (v:AV) (H:Hp),j≤W0 s.length→W0 s.length-j<f→Bv H AY 1 v (s++[128]++List.replicate j 0).length (KD (s++[128]++List.replicate j 0))→Wf H→JD L R K k f w1 v w2 w3 H=x:=by
 intro f
 induction f with
 |zero=>intro j v H _ h;omega
 |succ f ih=>
  intro j v H hj hf hv hw
  rw[Vz]
  unfold LZ Av
  have hlen:(s++[128]++List.replicate j (0:UInt8)).length=s.length+1+j:=by simp;omega
  have hz:W0 s.length<64:=by unfold W0;omega
  rw[JI rfl hv,UZ (by decide),G6,EB]
  have hm:((s++[128]++List.replicate j (0:UInt8)).length:Int).tmod 64=(((s.length+1+j)%64:Nat):Int):=by rw[hlen];exact(Int.ofNat_tmod _ _).symm
  rw[hm]
  by_cases h:j=W0 s.length
  ·subst h
   have:(s.length+1+W0 s.length)%64=56:=by unfold W0;omega
   rw[this]
   simp only[l14,decide_eq_false_iff_not]
   rw[if_neg (by simp)]
   exact hx _ _ hv hw
  ·have hne:(s.length+1+j)%64≠56:=by unfold W0 at h hj;omega
   rw[if_pos (by simp;omega)]
   obtain⟨v',H',h1,h2,h3,h4,h5,_⟩:=B5B (0:UInt8) hv hw (by omega)
   have e:(AV.v (.int .u8 0))=By 0:=rfl
   rw[e]
   rw[h1]
   refine ih (j+1) v' H' (by omega) (by omega) ?_ h3
   rw[List.replicate_succ',←l0k]
   exact h2
theorem C2R {L:Nat} {R:Rt} {K:KV} {k:AV→Hp→Aj} {s:List UInt8} {x:Aj} {w:AV} (hs:s.length<100000000000) (hx:∀v H,Bv H AY 1 v (pre s++Uf s.length 8).length (KD (pre s++Uf s.length 8))→Wf H→k v H=x):
 ∀(f i:Nat) (l:List UInt8) (v:AV) (H:Hp),i≤8→i<f→l++Uf s.length i=pre s++Uf s.length 8→Bv H AY 1 v l.length (KD l)→Wf H→HK L R K k f (S s) v w (I ((i:Int)-1)) H=x:=by
 have hz:W0 s.length<64:=by unfold W0;omega
 intro f
 induction f with
 |zero=>intro i l v H _ h;omega
 |succ f ih=>
  intro i l v H hi hf hl hv hw
  have hll:l.length≤s.length+1+64+8:=by
   have:=congrArg List.length hl
   simp[pre,A3y] at this
   omega
  rw[V0]
  unfold Ma Av
  rw[MR,EB]
  cases i with
  |zero=>
   rw[if_neg (by simp)]
   have:l=pre s++Uf s.length 8:=by simpa [Uf] using hl
   subst this
   exact hx _ _ hv hw
  |succ i=>
   rw[if_pos (by simp)]
   have e1:((i+1:Nat):Int)-1=(i:Int):=by omega
   rw[e1]
   rw[NI rfl,OB,OB,Cp (by omega) (by omega),Cp (by omega) (by omega)]
   have e2:(8:Int)*(s.length:Int)=((8*s.length:Nat):Int):=by omega
   have e3:(8:Int)*(i:Int)=((8*i:Nat):Int):=by omega
   rw[e2,e3,A2i (by omega)]
   rw[A7k rfl]
   obtain⟨v',H',h1,h2,h3,h4,h5,_⟩:=B5B (Wj s.length i) hv hw (by omega)
   simp(disch:=omega) only[HY,Cp]
   have h1:=h1 (λv37 H36=>HK L R K k f (S s) v37 w (I ((i:Int)-1)) H36)
   unfold Wj at h1
   rw[h1]
   refine ih i (l++[Wj s.length i]) v' H' (by omega) (by omega) ?_ h2 h3
   rw[l0k]
   exact hl
def Tw (l:List UInt8):AV:= .list l.length (KD l)
theorem A25 {b:Bool} {H:Hp} {v:AV} {e n:Nat} {cs:List AV} (h:Bv H e 1 v n cs) (hn:n≠0) {α:Type} (f:α→Value) (l:List α) (hc:cs=l.map λx=> .v (f x)):Fx b depth v (.list n cs) H true:=by
 subst hc
 rcases h with⟨_,h2,_⟩|⟨r,q,rfl,h2,h3⟩
 ·exact absurd h2 hn
 ·exact Xt (q':=false) h2 h3 (KA f l)
theorem C2K {b:Bool} {H:Hp} {v:AV} {l:List UInt8} (h:Bv H AY 1 v l.length (KD l)) (hne:l≠[]):Fx b depth v (Tw l) H true:=
 A25 h (λh=>hne (l1s h)) (λb:UInt8=>Value.int .u8 (b.toNat:Int)) l rfl
theorem fx1 {H:Hp} {x:Value}:Pu true depth [.v x] [.v x] H false:=Ay (q:=false) (q':=false) D2 Be
theorem A8o {L n:Nat} (s:List UInt8) (hs:s.length<100000000000) (hL:s.length+100<L):CS (rt L (n+1)) XA6 [S s] (Tw (ext s)):=by
 intro K hK
 rw[Wb]
 unfold No Av
 simp only[BX]
 refine C2P hs ?_ L 0 _ [] (by omega) (by omega) (.inl ⟨rfl,rfl,rfl⟩) FH
 intro v H hv hw
 obtain⟨v',H',h1,h2,h3,h4,h5,_⟩:=B5B (128:UInt8) hv hw (by omega)
 have e:(AV.v (.int .u8 128))=By 128:=rfl
 rw[e,h1]
 refine C2Q hs ?_ L 0 v' H' (by omega) (by have:W0 s.length<64:=(by unfold W0;omega);omega) (by simpa using h2) h3
 intro v H hv hw
 refine C2R hs ?_ L 8 (pre s) v H (by omega) (by omega) rfl hv hw
 intro v H hv hw
 exact hK _ _ (λb=>⟨true,C2K (l:=ext s) hv (by simp[ext])⟩)
def Jy (x:BitVec 32) (k:Nat):BitVec 32:=(x>>>k)|||(x<<<(32-k))
theorem C5G {H:Hp} {x y:Value}:Pu true depth [.v x,.v y] [.v x,.v y] H false:=Ay (q:=false) (q':=false) D2 fx1
theorem fxq {b:Bool} {x:Value} {H:Hp}:Fx b depth (.v x) (.v x) H false:=D2
theorem B17 {L n:Nat} (x:BitVec 32) (k:Nat) (hk:k≤32):PS (rt L (n+1)) CP [W x,I k] (W (Jy x k)):=by
 refine CS.ps (λK hK=> ?_) (λH=>C5G)
 rw[Xc]
 unfold OJ Av
 have h32:((32:Int)-(k:Int))=((32-k:Nat):Int):=by omega
 simp(disch:=omega) only[Ir rfl hk,B5i,HY,Cp,h32,Ke rfl (show 32-k≤32 by omega),X7]
 exact hK _ _ (λb=>⟨false,fxq⟩)
def kk:List (BitVec 32):=[0x428a2f98,0x71374491,0xb5c0fbcf,0xe9b5dba5,0x3956c25b,0x59f111f1,0x923f82a4,0xab1c5ed5,
 0xd807aa98,0x12835b01,0x243185be,0x550c7dc3,0x72be5d74,0x80deb1fe,0x9bdc06a7,0xc19bf174,
 0xe49b69c1,0xefbe4786,0x0fc19dc6,0x240ca1cc,0x2de92c6f,0x4a7484aa,0x5cb0a9dc,0x76f988da,
 0x983e5152,0xa831c66d,0xb00327c8,0xbf597fc7,0xc6e00bf3,0xd5a79147,0x06ca6351,0x14292967,
 0x27b70a85,0x2e1b2138,0x4d2c6dfc,0x53380d13,0x650a7354,0x766a0abb,0x81c2c92e,0x92722c85,
 0xa2bfe8a1,0xa81a664b,0xc24b8b70,0xc76c51a3,0xd192e819,0xd6990624,0xf40e3585,0x106aa070,
 0x19a4c116,0x1e376c08,0x2748774c,0x34b0bcb5,0x391c0cb3,0x4ed8aa4a,0x5b9cca4f,0x682e6ff3,
 0x748f82ee,0x78a5636f,0x84c87814,0x8cc70208,0x90befffa,0xa4506ceb,0xbef9a3f7,0xc67178f2]
theorem A8T:kk.length=64:=rfl
theorem A6h {L n:Nat}:CS (rt L (n+1)) MJ [] (.list 64 (Dx kk)):=by
 intro K hK
 rw[V1]
 have e:Mm L (rt L n) [] K=K (.sl 1 0 0 64) [(0,.cells false BG (Dx kk))]:=by kernel_rfl
 rw[e]
 exact hK _ _ (λb=>⟨true,A25 (e:=BG) (.inr ⟨0,false,rfl,rfl,rfl⟩) (by decide) (λx:BitVec 32=>Value.int .u32 (x.toNat:Int)) kk rfl⟩)
theorem B5q {l:List UInt8} {k:Nat} (h:k<l.length):(KD l).getD k .dk=By (l.getD k 0):=by
 simp[KD,TW,h]
theorem KG {l:List (BitVec 32)} {k:Nat} (h:k<l.length):(Dx l).getD k .dk=W (l.getD k 0):=by
 simp[Dx,TW,h]
theorem Ge (l:List (BitVec 32)):(Dx l).length=l.length:=by simp[Dx]
theorem B60 (a b:List (BitVec 32)):Dx a++Dx b=Dx (a++b):=by simp[Dx]
theorem Vg (l:List (BitVec 32)):(Dx l).all AV.one=true:=by simp[Dx,AV.one,Value.oneCell']
theorem UX {t:TI} {e n:Nat} {cs:List AV} {z:Int} {K:AV→Aj} (hd:t.d= .slice e 1) (hc:cs.length=n) (h0:0≤z) (h1:z<n):B9 t (.list n cs) (I z) K=K (.iptr [cs.getD z.toNat .dk]):=by
 obtain⟨m,rfl⟩:=Int.eq_ofNat_of_zero_le h0
 have e1:B9 t (.list n cs) (I (m:Int)) K=iN (m:Int) λm=>ck (Nat.blt m n) (Ot 1 (Dv (Nat.mul m 1) cs) λc=>K (.iptr c)):=by
  obtain⟨a,b,d,z⟩:=t;simp only at hd;subst hd;rfl
 have hm:m<n:=by omega
 rw[e1,Jn,CE,KR]
 have:Nat.blt m n=true:=by rw[UK];exact hm
 rw[this]
 have e2:Nat.mul m 1=m:=l28 m
 have e3:(cs.drop m).take 1=[cs.getD m .dk]:=by
  have hlt:m<cs.length:=by omega
  rw[l11 hlt,TW,Kq hlt];rfl
 rw[e2,e3];rfl
theorem A5l {t:TI} {e r n:Nat} {z:Int} {K:AV→Aj} (hd:t.d= .slice e 1) (h0:0≤z) (h1:z<n):B9 t (.sl 1 r 0 n) (I z) K=K (.ptr r z.toNat 0):=by
 obtain⟨m,rfl⟩:=Int.eq_ofNat_of_zero_le h0
 have e1:B9 t (.sl 1 r 0 n) (I (m:Int)) K=iN (m:Int) λm=>ck (Nat.blt m n) (fN (Nat.add 0 (Nat.mul m 1)) λp=>K (.ptr r p 0)):=by
  obtain⟨a,b,d,z⟩:=t;simp only at hd;subst hd;rfl
 have hm:m<n:=by omega
 rw[e1,Jn,Di]
 have:Nat.blt m n=true:=by rw[UK];exact hm
 have e2:Nat.add 0 (Nat.mul m 1)=m:=by show 0+m*1=m;omega
 rw[this,e2];rfl
theorem NJ {t:TI} {H:Hp} {c:AV} {K:AV→Aj} (h:t.d.isAgg=false):Ar t (.iptr [c]) H K=K c:=by
 have:Ar t (.iptr [c]) H K=@Bool.rec (λ_=>Aj) (K c) (Gs t.size [c] λc=>K (.agg c)) t.d.isAgg:=rfl
 rw[this,h]
theorem B55 {t:TI} {H:Hp} {r p e:Nat} {q:Bool} {cs:List AV} {K:AV→Aj} (h:t.d.isAgg=false) (hl:Aq H r=some (.cells q e cs)) (hp:p<cs.length):Ar t (.ptr r p 0) H K=K (cs.getD p .dk):=by
 have:Ar t (.ptr r p 0) H K=JL H r λx=>Ky x λ_ cs=>@Bool.rec (λ_=>Aj) (hdK (Dv (Nat.add p 0) cs) K) (Gs t.size (Dv (Nat.add p 0) cs) λc=>K (.agg c)) t.d.isAgg:=rfl
 rw[this,h,BI hl]
 show hdK (Dv p cs) K=_
 rw[CE,l11 hp,TW,Kq hp];rfl
theorem B57 {l:List UInt8} {z:Int} {K:AV→Aj} (h0:0≤z) (h1:z<l.length):B9 AC (Tw l) (I z) K=K (.iptr [By (l.getD z.toNat 0)]):=by
 unfold Tw
 rw[UX rfl (Og l) h0 h1,B5q (by omega)]
theorem C5X {r n:Nat} {z:Int} {K:AV→Aj} (h0:0≤z) (h1:z<n):B9 A8 (.sl 1 r 0 n) (I z) K=K (.ptr r z.toNat 0):=A5l rfl h0 h1
theorem C5W {H:Hp} {r p e:Nat} {q:Bool} {l:List (BitVec 32)} {K:AV→Aj} (hl:Aq H r=some (.cells q e (Dx l))) (hp:p<l.length):Ar Ao (.ptr r p 0) H K=K (W (l.getD p 0)):=by
 rw[B55 rfl hl (by rw[Ge];exact hp),KG hp]
theorem A43 {b:UInt8} {K:AV→Aj}:F2 AE Ao (By b) K=K (W (BitVec.ofNat 32 b.toNat)):=B5b
theorem C6g {H:Hp} {v:AV} {l:List (BitVec 32)} (b:BitVec 32) (h:Bv H BG 1 v l.length (Dx l)) (w:Wf H) (hn:l.length<1000000000000):
 ∃r q H',(∀K:KV,(Ea (F3 BG 1 Ao 1 [(0,1,W b)] H λv H=>some (v,H)) λv1 H1=>Ea (DN BG 1 Ao A8 v v1 H1 λv H=>some (v,H)) K)=K (.sl 1 r 0 (l.length+1)) H')∧Aq H' r=some (.cells q BG (Dx (l++[b])))∧Wf H'∧A2 H≤A2 H'∧(∀s x,Aq H s=some x→¬AG v s→Aq H' s=some x)∧A2 H≤r:=by
 have hv1:Bv ((A2 H,.cells false BG [W b])::H) BG 1 v l.length (Dx l):=h.lat w (Lat.cons H _ (λ_=>False)) (λ_ _ h=>h)
 have hsrc:=LP (H:=H) (e:=BG) (n:=1) (cs:=[W b]) rfl
 obtain⟨v',H',h1,h2,h3,h4⟩:=apt (ie:=Ao) (i2:=A8) hv1 (λK=>Pt (K:=K) hsrc) rfl rfl (by decide) rfl rfl (by show(l.length+1)*4≤_;omega) (by omega)
 have h5:=(Lat.cons H (.cells false BG [W b]) (AG v)).trans h4 (R:=AG v) (λ_ _ h=>h) (λ_ _ h=>h)
 rcases h2 with⟨_,h6,_⟩|⟨r,q,rfl,h6,h7⟩
 ·omega
 ·refine⟨r,q,H',λK=> ?_,by rw[←B60];exact h6,h5.wf w,h5.nx,λs x hs hn=>h5.keep w s x hs hn,?_⟩
  ·rw[A2q (z:=W 0) (λ_=>rfl) (λ_=>rfl) rfl,A9k,h1 (λv H=>some (v,H)),A9k]
  ·rw[h3 r ⟨_,_,_,rfl⟩];exact l1p _
section
theorem MS {v:AV} {H:Hp} {K:AV→Aj}:Ai (some (v,H)) K=K v:=B5i
theorem Qz {v:AV} {H:Hp} {K:KV}:Ea (some (v,H)) K=K v H:=A9k
theorem VI {L n:Nat} {x:BitVec 32} {z:Int} (k:Nat) (h0:z=(k:Int)) (h:k≤32) {H:Hp} {K:AV→Aj}:Ah (rt L (n+1)) CP [W x,I z] H K=K (W (Jy x k)):=by
 subst h0
 exact B17 x k (by omega) H K
theorem A9w {H:Hp} {v:AV} {l:List (BitVec 32)} {n:Nat} (b:BitVec 32) (hl:l.length=n) (h:Bv H BG 1 v n (Dx l)) (w:Wf H) (hn:n<1000000000000):
 ∃r q H',(∀K:KV,(Ea (F3 BG 1 Ao 1 [(0,1,W b)] H λv H=>some (v,H)) λv1 H1=>Ea (DN BG 1 Ao A8 v v1 H1 λv H=>some (v,H)) K)=K (.sl 1 r 0 (n+1)) H')∧Aq H' r=some (.cells q BG (Dx (l++[b])))∧Wf H'∧A2 H≤A2 H'∧(∀s x,Aq H s=some x→¬AG v s→Aq H' s=some x)∧A2 H≤r:=by
 subst hl;exact C6g b h w hn
def bw (l:List UInt8) (i:Nat):BitVec 32:=BitVec.ofNat 32 (l.getD i 0).toNat
def A9L (l:List UInt8) (i:Nat):BitVec 32:=bw l (4*i)<<<24|||bw l (4*i+1)<<<16|||bw l (4*i+2)<<<8|||bw l (4*i+3)
def w16 (l:List UInt8) (n:Nat):List (BitVec 32):=(List.range n).map (A9L l)
def sg0 (x:BitVec 32):BitVec 32:=Jy x 7^^^Jy x 18^^^x>>>3
def sg1 (x:BitVec 32):BitVec 32:=Jy x 17^^^Jy x 19^^^x>>>10
def LG (l:List UInt8):Nat→List (BitVec 32)
 |0=>w16 l 16
 |i+1=>LG l i++[(LG l i).getD i 0+sg0 ((LG l i).getD (i+1) 0)+(LG l i).getD (i+9) 0+sg1 ((LG l i).getD (i+14) 0)]
theorem XA8 (l:List UInt8) (n:Nat):(w16 l n).length=n:=by simp[w16]
theorem PI (l:List UInt8) (i:Nat):(LG l i).length=16+i:=by
 induction i with
 |zero=>simp[LG,XA8]
 |succ i ih=>simp[LG,ih];omega
structure S8 where
 a:BitVec 32
 b:BitVec 32
 c:BitVec 32
 d:BitVec 32
 e:BitVec 32
 f:BitVec 32
 g:BitVec 32
 h:BitVec 32
def S8.l (s:S8):List (BitVec 32):=[s.a,s.b,s.c,s.d,s.e,s.f,s.g,s.h]
def rt1 (s:S8) (k w:BitVec 32):BitVec 32:=s.h+(Jy s.e 6^^^Jy s.e 11^^^Jy s.e 25)+((s.e&&&s.f)^^^(~~~s.e&&&s.g))+k+w
def rt2 (s:S8):BitVec 32:=(Jy s.a 2^^^Jy s.a 13^^^Jy s.a 22)+((s.a&&&s.b)^^^(s.a&&&s.c)^^^(s.b&&&s.c))
def rnd (s:S8) (k w:BitVec 32):S8:=⟨rt1 s k w+rt2 s,s.a,s.b,s.c,s.d+rt1 s k w,s.e,s.f,s.g⟩
def Zz (ws:List (BitVec 32)) (s:S8):Nat→S8
 |0=>s
 |i+1=>rnd (Zz ws s i) (kk.getD i 0) (ws.getD i 0)
def C6h (s t:S8):S8:=⟨s.a+t.a,s.b+t.b,s.c+t.c,s.d+t.d,s.e+t.e,s.f+t.f,s.g+t.g,s.h+t.h⟩
def blk (s:S8) (l:List UInt8):S8:=C6h s (Zz (LG l 48) s 64)
variable {L n:Nat} {K:KV} {x:Aj}
theorem A5X (l:List UInt8) (i:Nat):BitVec.ofNat 32 (l.getD (4*i) 0).toNat<<<24|||BitVec.ofNat 32 (l.getD (4*i+1) 0).toNat<<<16|||BitVec.ofNat 32 (l.getD (4*i+2) 0).toNat<<<8|||BitVec.ofNat 32 (l.getD (4*i+3) 0).toNat=A9L l i:=rfl
theorem A69 (l:List UInt8) (i:Nat):w16 l (i+1)=w16 l i++[A9L l i]:=by simp[w16,List.range_succ]
theorem C1y (x:BitVec 32):Jy x 7^^^Jy x 18^^^x>>>3=sg0 x:=rfl
theorem C1x (x:BitVec 32):Jy x 17^^^Jy x 19^^^x>>>10=sg1 x:=rfl
theorem PH (i:Nat):(i:Int)+1=((i+1:Nat):Int):=rfl
theorem C3c {k:AV→AV→AV→AV→AV→AV→AV→AV→AV→Hp→Aj} {l:List UInt8} {a0 w1 w2 w3 w4 w5 w6:AV} (hl:l.length=64) (hx:∀v H,Bv H BG 1 v 16 (Dx (w16 l 16))→Wf H→k a0 (Tw l) v (I 16) w2 w3 w4 w5 w6 H=x):
 ∀(f i:Nat) (v:AV) (H:Hp),i≤16→16-i<f→Bv H BG 1 v i (Dx (w16 l i))→Wf H→Mb L (rt L n) K k f a0 (Tw l) v (I i) w1 w2 w3 w4 w5 w6 H=x:=by
 intro f
 induction f with
 |zero=>intro i v H _ h;omega
 |succ f ih=>
  intro i v H hi hf hv hw
  rw[Yp]
  unfold PR Av
  rw[DL,EB]
  by_cases h:i<16
  ·rw[if_pos (by simp;omega)]
   simp(disch:=omega) only[OB,CH,Cp,MS,B57,NJ (t:=AE) rfl,A43,Ke (z:=24) (k:=24) rfl (by decide),Ke (z:=16) (k:=16) rfl (by decide),Ke (z:=8) (k:=8) rfl (by decide),X7]
   have e0:((4:Int)*(i:Int)).toNat=4*i:=by omega
   have e1:((4:Int)*(i:Int)+1).toNat=4*i+1:=by omega
   have e2:((4:Int)*(i:Int)+2).toNat=4*i+2:=by omega
   have e3:((4:Int)*(i:Int)+3).toNat=4*i+3:=by omega
   rw[e0,e1,e2,e3,A5X]
   obtain⟨r,q,H',h1,h2,h3,h4,h5,_⟩:=A9w (A9L l i) (XA8 l i) hv hw (by omega)
   rw[h1,PH]
   refine ih (i+1) _ H' (by omega) (by omega) (.inr ⟨r,q,rfl,?_,?_⟩) h3
   ·rw[A69]
    exact h2
   ·rw[Ge,XA8];omega
  ·rw[if_neg (by simp;omega)]
   have:i=16:=by omega
   subst this
   exact hx _ _ hv hw
theorem C3d {k:AV→AV→AV→AV→AV→AV→AV→Hp→Aj} {l:List UInt8} {w0 w1 w2 w3 w4 w5 w6 w7:AV} (hx:∀r q H,Aq H r=some (.cells q BG (Dx (LG l 48)))→Wf H→k w0 w1 (.sl 1 r 0 64) w2 (I 64) w6 w7 H=x):
 ∀(f i r:Nat) (q:Bool) (H:Hp),i≤48→48-i<f→Aq H r=some (.cells q BG (Dx (LG l i)))→Wf H→Me L (rt L (n+1)) K k f w0 w1 (.sl 1 r 0 (16+i)) w2 (I ((16+i:Nat):Int)) w3 w4 w5 w6 w7 H=x:=by
 intro f
 induction f with
 |zero=>intro i r q H _ h;omega
 |succ f ih=>
  intro i r q H hi hf hv hw
  rw[Yq]
  unfold PT Av
  rw[DL,EB]
  by_cases h:i<48
  ·rw[if_pos (by simp;omega)]
   have hl:=PI l i
   have e1:((16+i:Nat):Int)-15=((i+1:Nat):Int):=by omega
   have e2:((16+i:Nat):Int)-2=((i+14:Nat):Int):=by omega
   have e3:((16+i:Nat):Int)-16=((i:Nat):Int):=by omega
   have e4:((16+i:Nat):Int)-7=((i+9:Nat):Int):=by omega
   simp(disch:=omega) only[HY,Cp,MS,e1,e2,e3,e4,C5X,XP,C5W hv,VI (z:=7) 7 rfl (by decide),VI (z:=18) 18 rfl (by decide),VI (z:=17) 17 rfl (by decide),VI (z:=19) 19 rfl (by decide),Sk,Ir (z:=3) (k:=3) rfl (by decide),Ir (z:=10) (k:=10) rfl (by decide),NM]
   rw[C1y,C1x]
   obtain⟨r',q',H',h1,h2,h3,h4,h5,_⟩:=A9w ((LG l i).getD i 0+sg0 ((LG l i).getD (i+1) 0)+(LG l i).getD (i+9) 0+sg1 ((LG l i).getD (i+14) 0)) (v:= .sl 1 r 0 (16+i)) hl (.inr ⟨r,q,rfl,hv,by rw[Ge,hl];omega⟩) hw (by omega)
   rw[h1]
   simp(disch:=omega) only[CH,Cp]
   rw[PH]
   exact ih (i+1) r' q' H' (by omega) (by omega) h2 h3
  ·rw[if_neg (by simp;omega)]
   have:i=48:=by omega
   subst this
   exact hx _ _ _ hv hw
end
section
def Rd (H:Hp) (v:AV) (n:Nat) (cs:List AV):Prop:=cs.length=n∧(v= .list n cs∨∃r q e,v= .sl 1 r 0 n∧Aq H r=some (.cells q e cs))
def rdp (v:AV) (i:Nat):AV:=match v with
 | .list _ cs=> .iptr [cs.getD i .dk]
 | .sl _ r _ _=> .ptr r i 0
 |_=> .dk
theorem Bv.rd {H:Hp} {e n:Nat} {v:AV} {cs:List AV} (h:Bv H e 1 v n cs) (hn:n≠0):Rd H v n cs:=by
 rcases h with⟨_,h,_⟩|⟨r,q,h1,h2,h3⟩
 ·exact absurd h hn
 ·exact⟨by omega,.inr ⟨r,q,e,h1,h2⟩⟩
theorem A0l {H:Hp} {n:Nat} {cs:List AV} (h:cs.length=n):Rd H (.list n cs) n cs:=⟨h,.inl rfl⟩
theorem Rd.lat {H H':Hp} {v:AV} {n:Nat} {cs:List AV} {P:Nat→Prop} (h:Rd H v n cs) (w:Wf H) (k:Lat H H' P) (hP:∀s,AG v s→¬P s):Rd H' v n cs:=by
 rcases h with⟨h0,h|⟨r,q,e,h1,h2⟩⟩
 ·exact⟨h0,.inl h⟩
 ·exact⟨h0,.inr ⟨r,q,e,h1,k.keep w r _ h2 (hP r ⟨1,0,n,h1⟩)⟩⟩
theorem NK {t:TI} {e n:Nat} {v:AV} {H:Hp} {cs:List AV} (h:Rd H v n cs) (hd:t.d= .slice e 1) {z:Int} (k:Nat) (hz:z=k) (hk:k<n) {K:AV→Aj}:B9 t v (I z) K=K (rdp v k):=by
 subst hz
 rcases h with⟨h0,rfl|⟨r,q,e,rfl,h2⟩⟩
 ·rw[UX hd h0 (by omega) (by omega)];rfl
 ·rw[A5l hd (by omega) (by omega)];rfl
theorem YR {t:TI} {n:Nat} {v:AV} {H:Hp} {cs:List AV} (h:Rd H v n cs) (hd:t.d.isAgg=false) {k:Nat} (hk:k<n) {K:AV→Aj}:Ar t (rdp v k) H K=K (cs.getD k .dk):=by
 rcases h with⟨h0,rfl|⟨r,q,e,rfl,h2⟩⟩
 ·exact NJ hd
 ·exact B55 hd h2 (by omega)
theorem C51 {H:Hp} {a b c d e f g h:BitVec 32} (K:KV):F3 BG 1 Ao 8 [(0,1,W a),(1,1,W b),(2,1,W c),(3,1,W d),(4,1,W e),(5,1,W f),(6,1,W g),(7,1,W h)] H K=K (.sl 1 (A2 H) 0 8) ((A2 H,.cells false BG (Dx [a,b,c,d,e,f,g,h]))::H):=by
 have e1:F3 BG 1 Ao 8 [(0,1,W a),(1,1,W b),(2,1,W c),(3,1,W d),(4,1,W e),(5,1,W f),(6,1,W g),(7,1,W h)] H K=XA3 H λs=>K (.sl 1 s 0 8) ((s,.cells false BG (Dx [a,b,c,d,e,f,g,h]))::H):=rfl
 rw[e1,BZ]
theorem A3Y {x:BitVec 32} {K:AV→Aj}:GR .xor (W x) K=K (W (~~~x)):=B4V
theorem B97 {k:Nat} (h:k<64):(Dx kk).getD k .dk=W (kk.getD k 0):=KG (by rw[A8T];exact h)
variable {L n:Nat} {K:KV} {x:Aj}
theorem B3i (s:S8) (k w:BitVec 32):[s.h+(Jy s.e 6^^^Jy s.e 11^^^Jy s.e 25)+((s.e&&&s.f)^^^(~~~s.e&&&s.g))+k+w+((Jy s.a 2^^^Jy s.a 13^^^Jy s.a 22)+((s.a&&&s.b)^^^(s.a&&&s.c)^^^(s.b&&&s.c))),s.a,s.b,s.c,s.d+(s.h+(Jy s.e 6^^^Jy s.e 11^^^Jy s.e 25)+((s.e&&&s.f)^^^(~~~s.e&&&s.g))+k+w),s.e,s.f,s.g]=(rnd s k w).l:=rfl
theorem C3e {k:AV→AV→AV→AV→AV→AV→AV→AV→Hp→Aj} {ws:List (BitVec 32)} {s0:S8} {rw:Nat} {w0 w1 w3 w4 w6 w7:AV} (hws:ws.length=64) (hx:∀v q H,Bv H BG 1 v 8 (Dx (Zz ws s0 64).l)→Aq H rw=some (.cells q BG (Dx ws))→Wf H→k w0 w1 (.sl 1 rw 0 64) w3 w4 (.list 64 (Dx kk)) v (I 64) H=x):
 ∀(f i:Nat) (v:AV) (q:Bool) (H:Hp),i≤64→64-i<f→Bv H BG 1 v 8 (Dx (Zz ws s0 i).l)→Aq H rw=some (.cells q BG (Dx ws))→Wf H→Mf L (rt L (n+1)) K k f w0 w1 (.sl 1 rw 0 64) w3 w4 (.list 64 (Dx kk)) v (I i) w6 w7 H=x:=by
 intro f
 induction f with
 |zero=>intro i v q H _ h;omega
 |succ f ih=>
  intro i v q H hi hf hv hr hw
  rw[Yr]
  unfold PU Av
  rw[DL,EB]
  by_cases h:i<64
  ·rw[if_pos (by simp;omega)]
   have rv:=hv.rd (by decide)
   have rk:Rd H (.list 64 (Dx kk)) 64 (Dx kk):=A0l (by rw[Ge,A8T])
   have rs:Rd H (.sl 1 rw 0 64) 64 (Dx ws):=⟨by rw[Ge,hws],.inr ⟨rw,q,BG,rfl,hr⟩⟩
   generalize hs:Zz ws s0 i=s at rv hv
   have g0:(Dx s.l).getD 0 .dk=W s.a:=id rfl
   have g1:(Dx s.l).getD 1 .dk=W s.b:=id rfl
   have g2:(Dx s.l).getD 2 .dk=W s.c:=id rfl
   have g3:(Dx s.l).getD 3 .dk=W s.d:=id rfl
   have g4:(Dx s.l).getD 4 .dk=W s.e:=id rfl
   have g5:(Dx s.l).getD 5 .dk=W s.f:=id rfl
   have g6:(Dx s.l).getD 6 .dk=W s.g:=id rfl
   have g7:(Dx s.l).getD 7 .dk=W s.h:=id rfl
   have gw:(Dx ws).getD i .dk=W (ws.getD i 0):=KG (by omega)
   have i0:= λK=>NK (t:=A8) rv rfl (z:=0) 0 rfl (by decide) (K:=K)
   have i1:= λK=>NK (t:=A8) rv rfl (z:=1) 1 rfl (by decide) (K:=K)
   have i2:= λK=>NK (t:=A8) rv rfl (z:=2) 2 rfl (by decide) (K:=K)
   have i3:= λK=>NK (t:=A8) rv rfl (z:=3) 3 rfl (by decide) (K:=K)
   have i4:= λK=>NK (t:=A8) rv rfl (z:=4) 4 rfl (by decide) (K:=K)
   have i5:= λK=>NK (t:=A8) rv rfl (z:=5) 5 rfl (by decide) (K:=K)
   have i6:= λK=>NK (t:=A8) rv rfl (z:=6) 6 rfl (by decide) (K:=K)
   have i7:= λK=>NK (t:=A8) rv rfl (z:=7) 7 rfl (by decide) (K:=K)
   have ik:= λK=>NK (t:=A8) rk rfl (z:=i) i rfl h (K:=K)
   have iw:= λK=>NK (t:=A8) rs rfl (z:=i) i rfl h (K:=K)
   have lv:= λk hk K=>YR (t:=Ao) rv rfl (k:=k) hk (K:=K)
   have lk:= λk hk K=>YR (t:=Ao) rk rfl (k:=k) hk (K:=K)
   have lw:= λk hk K=>YR (t:=Ao) rs rfl (k:=k) hk (K:=K)
   simp(disch:=omega) only[MS,i0,i1,i2,i3,i4,i5,i6,i7,ik,iw,lv,lk,lw,g0,g1,g2,g3,g4,g5,g6,g7,gw,B97 h,Sk,A44,NM,A3Y,
    VI (z:=6) 6 rfl (by decide),VI (z:=11) 11 rfl (by decide),VI (z:=25) 25 rfl (by decide),VI (z:=2) 2 rfl (by decide),VI (z:=13) 13 rfl (by decide),VI (z:=22) 22 rfl (by decide)]
   rw[C51,Qz,CH,Cp (by omega) (by omega),B3i,PH]
   have hr':Zz ws s0 (i+1)=rnd s (kk.getD i 0) (ws.getD i 0):=by rw[←hs];rfl
   rw[←hr']
   exact ih (i+1) _ q _ (by omega) (by omega) (LP rfl) (AS (hw.lt hr) hr) (Br hw)
  ·rw[if_neg (by simp;omega)]
   have:i=64:=by omega
   subst this
   exact hx _ _ _ hv hr hw
def XL (a b:List (BitVec 32)) (i:Nat):List (BitVec 32):=(List.range i).map λi=>a.getD i 0+b.getD i 0
theorem Q9 (a b:List (BitVec 32)) (i:Nat):(XL a b i).length=i:=by simp[XL]
theorem A4c (a b:List (BitVec 32)) (i:Nat):XL a b (i+1)=XL a b i++[a.getD i 0+b.getD i 0]:=by simp[XL,List.range_succ]
theorem C3n (s t:S8):XL s.l t.l 8=(C6h s t).l:=rfl
theorem C3f {k:AV→Hp→Aj} {a b:List (BitVec 32)} {va vb w1 w2 w3 w4 w5 w7:AV} (hx:∀v H,Bv H BG 1 v 8 (Dx (XL a b 8))→Wf H→k v H=x) (hva:va= .list 8 (Dx a)) (ha:a.length=8) (hb:b.length=8):
 ∀(f i:Nat) (v:AV) (H:Hp),i≤8→8-i<f→Bv H BG 1 v i (Dx (XL a b i))→Bv H BG 1 vb 8 (Dx b)→(∀s,AG v s→¬AG vb s)→Wf H→Mg L (rt L n) K k f va w1 w2 w3 w4 w5 vb w7 v (I i) H=x:=by
 intro f
 induction f with
 |zero=>intro i v H _ h;omega
 |succ f ih=>
  intro i v H hi hf hv hvb hd hw
  rw[Ys]
  unfold PV Av
  rw[DL,EB]
  by_cases h:i<8
  ·rw[if_pos (by simp;omega)]
   have ra:Rd H va 8 (Dx a):=by subst hva;exact A0l (by rw[Ge,ha])
   have rb:=hvb.rd (by decide)
   have ga:(Dx a).getD i .dk=W (a.getD i 0):=KG (by omega)
   have gb:(Dx b).getD i .dk=W (b.getD i 0):=KG (by omega)
   have ia:= λK=>NK (t:=A8) ra rfl (z:=i) i rfl h (K:=K)
   have ib:= λK=>NK (t:=A8) rb rfl (z:=i) i rfl h (K:=K)
   have la:= λK=>YR (t:=Ao) ra rfl (k:=i) h (K:=K)
   have lb:= λK=>YR (t:=Ao) rb rfl (k:=i) h (K:=K)
   simp only[MS,ia,ib,la,lb,ga,gb,NM]
   obtain⟨r,q,H',h1,h2,h3,h4,h5,h6⟩:=A9w (a.getD i 0+b.getD i 0) (Q9 a b i) hv hw (by omega)
   rw[h1,CH,Cp (by omega) (by omega),PH]
   refine ih (i+1) _ H' (by omega) (by omega) (.inr ⟨r,q,rfl,?_,?_⟩) ?_ ?_ h3
   ·rw[A4c];exact h2
   ·rw[Ge,Q9];omega
   ·rcases hvb with⟨e1,e2,e3⟩|⟨r2,q2,e1,e2,e3⟩
    ·exact .inl ⟨e1,e2,e3⟩
    ·exact .inr ⟨r2,q2,e1,h5 _ _ e2 (λhh=>hd _ hh ⟨1,0,8,e1⟩),e3⟩
   ·intro s ⟨p,o,m,hs⟩ hs2
    injection hs with _ hs
    subst hs
    have:=hvb.lt hw hs2
    omega
  ·rw[if_neg (by simp;omega)]
   have:i=8:=by omega
   subst this
   exact hx _ _ hv hw
theorem S8.len (s:S8):s.l.length=8:=rfl
theorem B70 {s:S8} {l:List UInt8} (hl:l.length=64) (hL:100<L):CS (rt L (n+2)) Rx [.list 8 (Dx s.l),Tw l] (.list 8 (Dx (blk s l).l)):=by
 intro K hK
 rw[ZX]
 unfold Rn Av
 simp only[BX]
 refine C3c hl ?_ L 0 _ [] (by omega) (by omega) (.inl ⟨rfl,rfl,rfl⟩) FH
 intro v H hv hw
 rcases hv with⟨_,h,_⟩|⟨r,q,rfl,h2,h3⟩
 ·exact absurd h (by decide)
 refine C3d ?_ L 0 r q H (by omega) (by omega) h2 hw
 intro r q H hr hw
 rw[Ba A6h Be]
 obtain⟨v',H',h1,h2,h3,h4⟩:=apt (ie:=Ao) (i2:=A8) (H:=H) (e:=BG) (sz:=1) (n:=0) (m:=8) (v:= .v (.slice none 0 0)) (src:= .list 8 (Dx s.l)) (cs:=[]) (ys:=Dx s.l) (.inl ⟨rfl,rfl,rfl⟩) (λK=>A3Z) rfl (Vg _) (by decide) rfl rfl (by decide) (by decide)
 rw[h1]
 have hr':=h4.keep hw r _ hr (λ⟨_,_,_,h⟩=>by cases h)
 refine C3e (s0:=s) (by rw[PI]) ?_ L 0 v' q H' (by omega) (by omega) h2 hr' (h4.wf hw)
 intro v q H hv hr hw
 refine C3f (a:=s.l) (b:=(Zz (LG l 48) s 64).l) ?_ rfl rfl rfl L 0 _ H (by omega) (by omega) (.inl ⟨rfl,rfl,rfl⟩) hv (λs ⟨_,_,_,h⟩=>by cases h) hw
 intro v H hv hw
 rw[C3n] at hv
 exact hK _ _ (λb=>⟨true,A25 hv (by decide) (λx:BitVec 32=>Value.int .u32 (x.toNat:Int)) _ rfl⟩)
end
section
theorem A7a {t:TI} {e m:Nat} {cs:List AV} {x y:Int} (a b:Nat) {K:AV→Aj} (hd:t.d= .slice e 1) (hx:x=a) (hy:y=b) (h1:a≤b) (h2:b≤m):Dh t (.list m cs) (some (I x)) (some (I y)) none K=K (.list (b-a) ((cs.drop a).take (b-a))):=by
 subst hx hy
 have e1:Dh t (.list m cs) (some (I a)) (some (I b)) none K=iN (a:Int) λl=>iN (b:Int) λh=>fN m λx=>ck ((true||(some (I (b:Int))).isSome)&&(Nat.ble l h&&(Nat.ble h x&&Nat.ble x m))) (fN (Nat.sub h l) λn=>Ot (Nat.mul n 1) (Dv (Nat.mul l 1) cs) λc=>K (.list n c)):=by
  obtain⟨_,_,d,z⟩:=t;simp only at hd;subst hd;rfl
 rw[e1,Jn,Jn,Di]
 have c:((true||(some (I (b:Int))).isSome)&&(Nat.ble a b&&(Nat.ble b m&&Nat.ble m m)))=true:=by simp only[Bool.true_or,l16,Jm,XQ];omega
 rw[c]
 show fN (Nat.sub b a) (λn=>Ot (Nat.mul n 1) (Dv (Nat.mul a 1) cs) λc=>K (.list n c))=_
 rw[Di,KR,CE]
 show K (.list (b-a) ((cs.drop (a*1)).take ((b-a)*1)))=_
 rw[l28,l28]
def iv:S8:=⟨1779033703,3144134277,1013904242,2773480762,1359893119,2600822924,528734635,1541459225⟩
def Wp (s:List UInt8):Nat→S8
 |0=>iv
 |i+1=>blk (Wp s i) ((s.drop (64*i)).take 64)
def wb (w:BitVec 32):List UInt8:=[UInt8.ofNat (w.toNat/2^24),UInt8.ofNat (w.toNat/2^16),UInt8.ofNat (w.toNat/2^8),UInt8.ofNat w.toNat]
def Uu (l:List (BitVec 32)):Nat→List UInt8
 |0=>[]
 |i+1=>Uu l i++wb (l.getD i 0)
theorem Ut (l:List (BitVec 32)) (i:Nat):(Uu l i).length=4*i:=by
 induction i with
 |zero=>rfl
 |succ i ih=>simp[Uu,ih,wb];omega
def sha (s:List UInt8):List UInt8:=Uu (Wp (ext s) ((ext s).length/64)).l 8
variable {L n:Nat} {K:KV} {x:Aj}
theorem C5H {H:Hp} {v:AV} {n:Nat} {l:List (BitVec 32)} (h:Rd H v n (Dx l)):∃q,Fx true depth v (.list n (Dx l)) H q:=by
 rcases h with⟨h0,rfl|⟨r,q,e,rfl,h2⟩⟩
 ·exact⟨_,Pj⟩
 ·exact⟨_,Xt (q':=false) h2 (by omega) (KA (λx:BitVec 32=>Value.int .u32 (x.toNat:Int)) l)⟩
theorem C1u {k:AV→AV→AV→Hp→Aj} {s:List UInt8} {m:Nat} {H:Hp} {w3 w4:AV} (hm:s.length=64*m) (hs:s.length<200000000000) (hL:100<L) (hm0:m≠0) (hx:∀j,k (.list 8 (Dx (Wp s m).l)) (Tw s) j H=x):
 ∀(f i:Nat) (v:AV),i≤m→m-i<f→Rd H v 8 (Dx (Wp s i).l)→(i≠0→v= .list 8 (Dx (Wp s i).l))→Pc L (rt L (n+2)) K k f v (Tw s) (I ((64*i:Nat):Int)) w3 w4 H=x:=by
 intro f
 induction f with
 |zero=>intro i v _ h;omega
 |succ f ih=>
  intro i v hi hf hv hv2
  rw[A1l]
  unfold SG Av
  have el:∀K,AQ AC (Tw s) K=K (I (s.length:Int)):= λ_=>id rfl
  rw[el,DL,EB]
  by_cases h:i<m
  ·rw[if_pos (by simp;omega)]
   simp(disch:=omega) only[CH,Cp]
   have e1:((64*i:Nat):Int)+64=((64*(i+1):Nat):Int):=by omega
   unfold Tw
   rw[e1,A7a (64*i) (64*(i+1)) rfl rfl rfl (by omega) (by omega)]
   have e2:64*(i+1)-64*i=64:=by omega
   have e3:AV.list 64 (((KD s).drop (64*i)).take 64)=Tw ((s.drop (64*i)).take 64):=by
    unfold Tw KD
    have:((s.drop (64*i)).take 64).length=64:=by simp;omega
    rw[this,List.map_take,List.map_drop]
   rw[e2,e3]
   obtain⟨q,hq⟩:=C5H hv
   rw[Ba (B70 (n:=n) (s:=Wp s i) (l:=(s.drop (64*i)).take 64) (by simp;omega) hL) (Ay hq (Ay (by unfold Tw;exact Pj) Be))]
   exact ih (i+1) _ (by omega) (by omega) (A0l (by rw[Ge];rfl)) (λ_=>rfl)
  ·rw[if_neg (by simp;omega)]
   have:i=m:=by omega
   subst this
   rw[hv2 hm0]
   exact hx _
theorem A42 {w:BitVec 32} {K:AV→Aj}:F2 Ao AE (W w) K=K (By (UInt8.ofNat w.toNat)):=B5a
theorem C52 {H:Hp} {a b c d:UInt8} (K:KV):F3 AY 1 AE 4 [(0,1,By a),(1,1,By b),(2,1,By c),(3,1,By d)] H K=K (.sl 1 (A2 H) 0 4) ((A2 H,.cells false AY (KD [a,b,c,d]))::H):=by
 have e1:F3 AY 1 AE 4 [(0,1,By a),(1,1,By b),(2,1,By c),(3,1,By d)] H K=XA3 H λs=>K (.sl 1 s 0 4) ((s,.cells false AY (KD [a,b,c,d]))::H):=rfl
 rw[e1,BZ]
theorem B88 (l:List UInt8):∀K:List UInt8→Aj,fu8 (KD l) K=K l:=by
 induction l with
 |nil=>intro K;rfl
 |cons b l ih=>
  intro K
  have e:fu8 (KD (b::l)) K=iN (b.toNat:Int) λn=>fu8 (KD l) λl=>K (UInt8.ofNat n::l):=rfl
  rw[e,Jn,ih]
  simp
theorem B0u {H:Hp} {e n:Nat} {v:AV} {l:List UInt8} {K:AV→Aj} (h:Bv H e 1 v n (KD l)):A2j v H K=K (S l):=by
 have e1:A2j v H K=UV H v λm cs=>GP cs 0 λk=>ck (Nat.beq k m) (fu8 cs λl=>K (.v (.string ⟨⟨l⟩⟩))):=by
  rcases h with⟨rfl,_⟩|⟨r,q,rfl,_⟩<;>rfl
 have hn:(KD l).length=n:=by
  rcases h with⟨_,rfl,h⟩|⟨r,q,_,_,h⟩
  ·rw[h];rfl
  ·omega
 rw[e1,Pt h,Co,KF,hn,Zj]
 exact B88 l _
theorem C1v {k:AV→Hp→Aj} {s:S8} {v w1 w2:AV} (hx:∀u H,Bv H AY 1 u 32 (KD (Uu s.l 8))→k u H=x):
 ∀(f i:Nat) (u:AV) (H:Hp),i≤8→8-i<f→Bv H AY 1 u (4*i) (KD (Uu s.l i))→v= .list 8 (Dx s.l)→Wf H→Pd L (rt L n) K k f v w1 w2 u (I i) H=x:=by
 intro f
 induction f with
 |zero=>intro i v H _ h;omega
 |succ f ih=>
  intro i u H hi hf hu hv hw
  rw[A1m]
  unfold SH Av
  rw[DL,EB]
  by_cases h:i<8
  ·rw[if_pos (by simp;omega)]
   have ra:Rd H v 8 (Dx s.l):=by subst hv;exact A0l (by rw[Ge];rfl)
   have ga:(Dx s.l).getD i .dk=W (s.l.getD i 0):=KG h
   have ia:= λK=>NK (t:=A8) ra rfl (z:=i) i rfl h (K:=K)
   have la:= λK=>YR (t:=Ao) ra rfl (k:=i) h (K:=K)
   simp only[MS,ia,la,ga,Ir (z:=24) (k:=24) rfl (by decide),Ir (z:=16) (k:=16) rfl (by decide),Ir (z:=8) (k:=8) rfl (by decide),A42,C52,Qz]
   generalize hc:[UInt8.ofNat (s.l.getD i 0>>>24).toNat,UInt8.ofNat (s.l.getD i 0>>>16).toNat,UInt8.ofNat (s.l.getD i 0>>>8).toNat,UInt8.ofNat (s.l.getD i 0).toNat]=c
   have hcl:c.length=4:=by rw[←hc];rfl
   have hcw:c=wb (s.l.getD i 0):=by rw[←hc];unfold wb;simp only[BitVec.toNat_ushiftRight,Nat.shiftRight_eq_div_pow]
   have hu1:Bv ((A2 H,.cells false AY (KD c))::H) AY 1 u (4*i) (KD (Uu s.l i)):=hu.lat hw (Lat.cons H _ (λ_=>False)) (λ_ _ h=>h)
   have hsrc:=LP (H:=H) (e:=AY) (n:=4) (cs:=KD c) (by rw[Og,hcl])
   obtain⟨v',H',h1,h2,h3,h4⟩:=apt (ie:=AE) (i2:=AC) hu1 (λK=>Pt (K:=K) hsrc) (by rw[Og,hcl]) (B0y _) (by decide) rfl rfl (by show(4*i+4)*1≤_;omega) (by omega)
   rw[h1,Qz,CH,Cp (by omega) (by omega),PH]
   refine ih (i+1) _ H' (by omega) (by omega) ?_ hv (h4.wf (Br hw))
   rw[A5s,hcw] at h2
   exact h2
  ·rw[if_neg (by simp;omega)]
   have:i=8:=by omega
   subst this
   exact hx _ _ hu
theorem B0o (s:List UInt8):∃m,(ext s).length=64*m∧64*m≤s.length+73:=by
 refine⟨(ext s).length/64,?_,?_⟩
 ·have:(ext s).length=s.length+1+W0 s.length+8:=by simp[ext,pre];omega
  unfold W0 at this;omega
 ·have:(ext s).length=s.length+1+W0 s.length+8:=by simp[ext,pre];omega
  unfold W0 at this;omega
theorem B8S {s:List UInt8} (hs:s.length<100000000000) (hL:s.length+200<L):CS (rt L (n+3)) Ow [S s] (S (sha s)):=by
 intro K hK
 rw[A39]
 unfold UB Av
 simp only[BX]
 obtain⟨m,hm,hm2⟩:=B0o s
 have hiv:∀K:KV,F3 BG 1 Ao 8 [(0,1,(AV.v (.int .u32 1779033703))),(1,1,(AV.v (.int .u32 3144134277))),(2,1,(AV.v (.int .u32 1013904242))),(3,1,(AV.v (.int .u32 2773480762))),(4,1,(AV.v (.int .u32 1359893119))),(5,1,(AV.v (.int .u32 2600822924))),(6,1,(AV.v (.int .u32 528734635))),(7,1,(AV.v (.int .u32 1541459225)))] [] K=K (.sl 1 0 0 8) [(0,.cells false BG (Dx iv.l))]:= λK=>C51 (H:=[]) (a:=1779033703) (b:=3144134277) (c:=1013904242) (d:=2773480762) (e:=1359893119) (f:=2600822924) (g:=528734635) (h:=1541459225) K
 rw[hiv,Ba (A8o (n:=n+1) s hs (by omega)) fx1]
 have hm0:m≠0:= λh=>by subst h;simp[ext] at hm
 refine C1u (n:=n) (m:=m) hm (by omega) (by omega) hm0 ?_ L 0 _ (by omega) (by omega) ((LP (H:=[]) rfl).rd (by decide)) (λh=>absurd rfl h)
 intro j
 refine C1v (n:=n+2) (s:=Wp (ext s) m) ?_ L 0 _ _ (by omega) (by omega) (.inl ⟨rfl,rfl,rfl⟩) rfl (Br FH)
 intro u H hu
 rw[B0u hu]
 have e:Uu (Wp (ext s) m).l 8=sha s:=by
  unfold sha
  have:(ext s).length/64=m:=by omega
  rw[this]
 rw[e]
 exact hK _ _ (λb=>⟨false,D2⟩)
end
section
def U (n:Nat):AV:= .v (.int .u64 (n:Int))
theorem B76 {x:BitVec 32} {k:Nat} (h0:1≤k) (h:k<32) {L n:Nat} {H:Hp} {K:KV}:(rt L (n+1)).call FF [W x,I (-(k:Int))] H K=K (W (Jy x k)) H:=by
 rw[Qe]
 unfold Ig
 have e1:∀K:AV→Aj,(F2 Ab BQ (I (-(k:Int))) λv1=>Ak BQ .and v1 (AV.v (.int .u64 31)) λv2=>K v2)=K (U (32-k)):=by
  intro K
  have:k=1∨k=2∨k=3∨k=4∨k=5∨k=6∨k=7∨k=8∨k=9∨k=10∨k=11∨k=12∨k=13∨k=14∨k=15∨k=16∨k=17∨k=18∨k=19∨k=20∨k=21∨k=22∨k=23∨k=24∨k=25∨k=26∨k=27∨k=28∨k=29∨k=30∨k=31:=by omega
  rcases this with rfl|rfl|rfl|rfl|rfl|rfl|rfl|rfl|rfl|rfl|rfl|rfl|rfl|rfl|rfl|rfl|rfl|rfl|rfl|rfl|rfl|rfl|rfl|rfl|rfl|rfl|rfl|rfl|rfl|rfl|rfl<;>rfl
 rw[e1]
 have e2:∀K:AV→Aj,Ak BQ .sub (AV.v (.int .u64 32)) (U (32-k)) K=K (U k):=by
  intro K
  have e:Ak BQ .sub (AV.v (.int .u64 32)) (U (32-k)) K=MD .u64 ((32:Int)-((32-k:Nat):Int)) λz=>K (.v (.int .u64 z)):=rfl
  rw[e,He]
  have:(32:Int)-((32-k:Nat):Int)=(k:Int):=by omega
  rw[this,VP rfl]
  have:(k:Int)%(2^IntKind.u64.bits:Nat)=(k:Int):=Int.emod_eq_of_lt (by omega) (by show(k:Int)<(18446744073709551616:Int);omega)
  rw[this];rfl
 have e3:∀K:AV→Aj,Ak Ao .shl (W x) (U (32-k)) K=K (W (x<<<(32-k))):= λK=>Ke rfl (by omega)
 have e4:∀K:AV→Aj,Ak Ao .shr (W x) (U k) K=K (W (x>>>k)):= λK=>Ir rfl (by omega)
 rw[e3,e2,e4,X7]
 have:x<<<(32-k)|||x>>>k=Jy x k:=by unfold Jy;exact BitVec.or_comm _ _
 rw[this]
theorem C1F {L n:Nat} {x:BitVec 32} {k:Nat} (h0:1≤k) (h:k<32):PS (rt L (n+1)) FF [W x,I (-(k:Int))] (W (Jy x k)):=by
 refine CS.ps (λK hK=> ?_) (λH=>C5G)
 rw[B76 h0 h]
 exact hK _ _ (λb=>⟨false,fxq⟩)
def UL (ks:List Nat):List AV:=ks.map λk:Nat=> .v (.int .i64 (k:Int))
theorem B1y {l:List Nat} {k:Nat} (h:k<l.length):(UL l).getD k .dk=I (l[k]:Nat):=by
 simp[UL,TW,h]
def QD (x:BitVec 32) (ks:List Nat):BitVec 32:=ks.foldl (λa k=>a^^^Jy x k) 0
theorem B1I {k:Nat} (hk:k<32) {K:AV→Aj}:GR .neg (I k) K=K (I (-(k:Int))):=by
 have e:GR .neg (I k) K=MD .i64 (0-(k:Int)) λz=>K (.v (.int .i64 z)):=rfl
 rw[e,He,Int.zero_sub,Cp (by omega) (by omega)]
variable {L n:Nat} {K:KV} {x:Aj}
theorem B4a {k:AV→Hp→Aj} {w:BitVec 32} {ks:List Nat} {H:Hp} (hk:∀k∈ks,1≤k∧k<32) (hl:ks.length<32) (hx:k (W (QD w ks)) H=x):
 ∀(f i:Nat),i≤ks.length→ks.length-i<f→Ld L (rt L (n+1)) K k f (W w) (W (QD w (ks.take i))) (.list ks.length (UL ks)) (I ks.length) (I i) H=x:=by
 intro f
 induction f with
 |zero=>intro i _ h;omega
 |succ f ih=>
  intro i hi hf
  rw[X9]
  unfold OR Av
  rw[DL,EB]
  by_cases h:i<ks.length
  ·rw[if_pos (by simp;omega)]
   have hki:=hk ks[i] (QE h)
   rw[UX rfl (by simp[UL]) (by omega) (by omega),XP,NJ rfl,B1y h,B1I hki.2,C1F hki.1 hki.2,Sk,CH,Cp (by omega) (by omega),PH]
   have e:QD w (ks.take (i+1))=QD w (ks.take i)^^^Jy w ks[i]:=by
    unfold QD
    rw[l04 h,List.foldl_append];rfl
   rw[←e]
   exact ih (i+1) (by omega) (by omega)
  ·rw[if_neg (by simp;omega)]
   have:i=ks.length:=by omega
   subst this
   rw[l06]
   exact hx
theorem B6U {w:BitVec 32} {ks:List Nat} (hk:∀k∈ks,1≤k∧k<32) (hl:ks.length<32) (hL:32<L):CS (rt L (n+2)) DY [W w,.list ks.length (UL ks)] (W (QD w ks)):=by
 intro K hK
 rw[Y3]
 unfold Qf Av
 simp only[BX]
 have e:∀K,AQ Ag (.list ks.length (UL ks)) K=K (I ks.length):= λK=>id rfl
 rw[e]
 refine B4a hk hl ?_ L 0 (by omega) (by omega)
 exact hK _ _ (λb=>⟨false,D2⟩)
theorem C4X {w:BitVec 32}:QD w [7,18]^^^w>>>3=sg0 w:=by simp[QD,sg0]
theorem C4W {w:BitVec 32}:QD w [17,19]^^^w>>>10=sg1 w:=by simp[QD,sg1]
def pad (l:List (BitVec 32)) (n:Nat):List (BitVec 32):=l++List.replicate (n-l.length) 0
theorem B02 {l:List (BitVec 32)} {n:Nat} (h:l.length≤n):(pad l n).length=n:=by simp[pad];omega
theorem B01 {l:List (BitVec 32)} {n k:Nat} (w:BitVec 32) (hk:l.length=k) (h:k<n):(Dx (pad l n)).set k (W w)=Dx (pad (l++[w]) n):=by
 subst hk
 have e:n-l.length=(n-(l.length+1))+1:=by omega
 simp[pad,Dx,e,l17,List.set_append_right]
theorem B3Y {l:List (BitVec 32)} {n k:Nat} (h:k<l.length):(Dx (pad l n)).getD k .dk=W (l.getD k 0):=by
 simp[pad,Dx,TW,h,List.getElem?_append]
theorem B3Z {l:List (BitVec 32)} {n:Nat} (h:l.length=n):pad l n=l:=by simp[pad,h]
theorem B93 (a b:Nat) (K:AV→Aj):Sm 1 Ab 2 [(0,1,I a),(1,1,I b)] K=K (.list 2 (UL [a,b])):=id rfl
theorem B92 (a b c:Nat) (K:AV→Aj):Sm 1 Ab 3 [(0,1,I a),(1,1,I b),(2,1,I c)] K=K (.list 3 (UL [a,b,c])):=id rfl
theorem A4T {w:BitVec 32} {ks:List Nat} {H:Hp} {K:AV→Aj} (hk:∀k∈ks,1≤k∧k<32) (hl:ks.length<32) (hL:32<L):Ah (rt L (n+2)) DY [W w,.list ks.length (UL ks)] H K=K (W (QD w ks)):=
 Ba (B6U hk hl hL) (Ay D2 (Ay Pj Be))
theorem C1z {k:AV→AV→AV→Hp→Aj} {l:List UInt8} {r:Nat} {w:AV} (hl:l.length=64) (hx:∀q H,Aq H r=some (.cells q C7 (Dx (pad (w16 l 16) 64)))→Wf H→k (Tw l) (.ptr r 0 0) (I 16) H=x):
 ∀(f i:Nat) (q:Bool) (H:Hp),i≤16→16-i<f→Aq H r=some (.cells q C7 (Dx (pad (w16 l i) 64)))→Wf H→Jh L (rt L n) K k f (Tw l) (.ptr r 0 0) w (I i) H=x:=by
 intro f
 induction f with
 |zero=>intro i q H _ h;omega
 |succ f ih=>
  intro i q H hi hf hr hw
  rw[Va]
  unfold L1 Av
  rw[DL,EB]
  by_cases h:i<16
  ·rw[if_pos (by simp;omega)]
   simp(disch:=omega) only[OB,CH,Cp,MS,B57,NJ (t:=AE) rfl,A43,Ke (z:=24) (k:=24) rfl (by decide),Ke (z:=16) (k:=16) rfl (by decide),Ke (z:=8) (k:=8) rfl (by decide),X7]
   have e0:((4:Int)*(i:Int)).toNat=4*i:=by omega
   have e1:((4:Int)*(i:Int)+1).toNat=4*i+1:=by omega
   have e2:((4:Int)*(i:Int)+2).toNat=4*i+2:=by omega
   have e3:((4:Int)*(i:Int)+3).toNat=4*i+3:=by omega
   rw[e0,e1,e2,e3,A5X,DZ i rfl rfl (by omega),MS,Ez hr (by rw[Ge,B02 (by rw[XA8];omega)];omega) rfl rfl rfl,Qz,B01 _ (XA8 l i) (by omega),←A69,PH]
   exact ih (i+1) q _ (by omega) (by omega) (AB hr) (BR hw)
  ·rw[if_neg (by simp;omega)]
   have:i=16:=by omega
   subst this
   exact hx _ _ hr hw
theorem C1A {k:AV→Hp→Aj} {l:List UInt8} {r:Nat} {w0 w1:AV} (hL:100<L) (hx:∀q H,Aq H r=some (.cells q C7 (Dx (LG l 48)))→Wf H→k (.ptr r 0 0) H=x):
 ∀(f i:Nat) (q:Bool) (H:Hp),i≤48→48-i<f→Aq H r=some (.cells q C7 (Dx (pad (LG l i) 64)))→Wf H→Ji L (rt L (n+2)) K k f w0 (.ptr r 0 0) (I ((16+i:Nat):Int)) w1 H=x:=by
 intro f
 induction f with
 |zero=>intro i q H _ h;omega
 |succ f ih=>
  intro i q H hi hf hr hw
  rw[Vb]
  unfold L2 Av
  rw[DL,EB]
  have hl:=PI l i
  by_cases h:i<48
  ·rw[if_pos (by simp;omega)]
   have hp:(Dx (pad (LG l i) 64)).length=64:=by rw[Ge,B02 (by rw[hl];omega)]
   have e1:((16+i:Nat):Int)-15=((i+1:Nat):Int):=by omega
   have e2:((16+i:Nat):Int)-2=((i+14:Nat):Int):=by omega
   have e3:((16+i:Nat):Int)-16=((i:Nat):Int):=by omega
   have e4:((16+i:Nat):Int)-7=((i+9:Nat):Int):=by omega
   have ia:= λ(k:Nat) hk K=>DZ (t:=BL) (s:=r) (z:=(k:Int)) k (K:=K) rfl rfl hk
   have la:= λk hk K=>AP (t:=Ao) (p:=k) (K:=K) rfl hr hk
   have gg:= λk hk=>B3Y (n:=64) (l:=LG l i) (k:=k) hk
   simp(disch:=omega) only[HY,Cp,MS,e1,e2,e3,e4,ia,la,gg]
   have i1:∀K,Sm 1 Ab 2 [(0,1,.v (.int .i64 7)),(1,1,.v (.int .i64 18))] K=K (.list 2 (UL [7,18])):= λK=>B93 7 18 K
   have i2:∀K,Sm 1 Ab 2 [(0,1,.v (.int .i64 17)),(1,1,.v (.int .i64 19))] K=K (.list 2 (UL [17,19])):= λK=>B93 17 19 K
   have m1:∀w K,Ah (rt L (n+2)) DY [W w,.list 2 (UL [7,18])] H K=K (W (QD w [7,18])):= λw K=>A4T (ks:=[7,18]) (by decide) (by decide) (by omega)
   have m2:∀w K,Ah (rt L (n+2)) DY [W w,.list 2 (UL [17,19])] H K=K (W (QD w [17,19])):= λw K=>A4T (ks:=[17,19]) (by decide) (by decide) (by omega)
   simp(disch:=omega) only[MS,gg,i1,i2,m1,m2,Ir (z:=3) (k:=3) rfl (by decide),Ir (z:=10) (k:=10) rfl (by decide),Sk,NM,C4X,C4W]
   rw[Ez hr (by omega) rfl rfl rfl,Qz,B01 _ hl (by omega),CH,Cp (by omega) (by omega),PH]
   exact ih (i+1) q _ (by omega) (by omega) (AB hr) (BR hw)
  ·rw[if_neg (by simp;omega)]
   have:i=48:=by omega
   subst this
   rw[B3Z (by rw[PI])] at hr
   exact hx _ _ hr hw
def arr (l:List (BitVec 32)):AV:= .agg (Dx l)
theorem A8n {l:List UInt8} (hl:l.length=64) (hL:100<L):CS (rt L (n+3)) MO [Tw l] (arr (LG l 48)):=by
 intro K hK
 rw[VB]
 unfold Mz Av
 simp only[BX]
 rw[Bi (cs:=Dx (pad (w16 l 0) 64)) rfl]
 refine C1z hl ?_ L 0 true _ (by omega) (by omega) (A1 (by simp)) (Br FH)
 intro q H hr hw
 refine C1A (n:=n) (l:=l) hL ?_ L 0 q H (by omega) (by omega) hr hw
 intro q H hr hw
 have hl:(Dx (LG l 48)).length=64:=by rw[Ge,PI]
 rw[Bq rfl hl.symm hr,B7 hr rfl hl.symm (Vg _),Bq rfl hl.symm (AB hr)]
 exact hK _ _ (λb=>⟨false,Qm (KA (λx:BitVec 32=>Value.int .u32 (x.toNat:Int)) _)⟩)
end
end Go.Abs
end
