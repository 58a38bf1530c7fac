import Derived.Test.YtlbhdmbfdcohhaaGreatDoorP11
import Derived.Test.YtlbhdmbfdcohhaaGreatDoorP16
import Derived.Test.YtlbhdmbfdcohhaaGreatDoorP18
set_option linter.all false
set_option maxHeartbeats 100000000
noncomputable section
namespace Go.Abs
open Go.RowKit Go.Proofs
set_option maxRecDepth 100000
theorem C1n {t t':TI} {K:AV→Am} {l:List UInt8} {i:Nat} (hd:t.d= .string) (h:i<l.length):Sh t t' (S l) (I i) K=K (By l[i]):=by
 have e:Sh t t' (S l) (I i) K=iN (i:Int) λn=>B7P (Da n l) K:=by
  obtain⟨a,b,d,z⟩:=t;simp only at hd;subst hd;rfl
 rw[e,JM,Ct,l11 h]
 show fN l[i].toNat (λn=>K (.v (.int .u8 (.ofNat n))))=_
 rw[DX];rfl
theorem Mr {t:TI} {K:AV→Am} {l:List UInt8} (hd:t.d= .string):AM t (S l) K=K (I l.length):=by
 have:AM t (S l) K=Hw l 0 λn=>K (.v (.int .i64 (.ofNat n))):=by
  obtain⟨a,b,d,z⟩:=t;simp only at hd;subst hd;rfl
 rw[this,C4,Le];rfl
theorem IJ {H:Hp} {e sz n:Nat} {v:AV} {cs:List AV} {t:TI} {e' z':Nat} {K:AV→Am} (hd:t.d= .slice e' z') (h:B3 H e sz v n cs):AM t v K=K (I n):=by
 obtain⟨a,b,d,z⟩:=t
 simp only at hd
 subst hd
 rcases h with⟨rfl,rfl,_⟩|⟨r,q,rfl,_⟩<;>rfl
theorem B4f {H:Hp} {v:AV} {l:List UInt8} (b:UInt8) (h:B3 H AS 1 v l.length (JA l)) (w:Wf H) (hn:l.length<1000000000000):
 ∃v' H',(∀K:KV,(Fp AS 1 AD 1 [(0,1,By b)] H λv1 H1=>Ea AS 1 AD A6 v v1 H1 K)=K v' H')∧B3 H' AS 1 v' (l++[b]).length (JA (l++[b]))∧Wf H'∧A7 H≤A7 H'∧(∀s x,Aw H s=some x→¬Bh v s→Aw H' s=some x)∧(∀s,Bh v' s→A7 H≤s):=by
 have hv1:B3 ((A7 H,.cells false AS [By b])::H) AS 1 v l.length (JA l):=h.lat w (Lat.cons H _ (λ_=>False)) (λ_ _ h=>h)
 have hsrc:=Og (H:=H) (e:=AS) (n:=1) (cs:=[By b]) rfl
 obtain⟨v',H',h1,h2,h3,h4⟩:=apt (ie:=AD) (i2:=A6) hv1 (λK=>Sg (K:=K) hsrc) rfl rfl (by decide) rfl rfl (by show(l.length+1)*1≤_;omega) (by omega)
 have h5:=(Lat.cons H (.cells false AS [By b]) (Bh v)).trans h4 (R:=Bh v) (λ_ _ h=>h) (λ_ _ h=>h)
 refine⟨v',H',λK=> ?_,by rw[F5,←A4b];exact h2,h5.wf w,h5.nx,λs x hs hn=>h5.keep w s x hs hn,λs hs=> ?_⟩
 ·rw[A8c (z:=By 0) (λ_=>rfl) (λ_=>rfl) rfl]
  exact h1 K
 ·rw[h3 s hs];exact l1p _
def Vm (n:Nat):Nat:=(119-n%64)%64
def US (n i:Nat):UInt8:=UInt8.ofNat (8*n/2^(8*i))
def pre (s:List UInt8):List UInt8:=s++[128]++List.replicate (Vm s.length) 0
def ext (s:List UInt8):List UInt8:=pre s++[US s.length 7,US s.length 6,US s.length 5,US s.length 4,US s.length 3,US s.length 2,US s.length 1,US s.length 0]
theorem C1f {L:Nat} {R:Rt} {K:KV} {k:AV→AV→AV→AV→Hp→Am} {s:List UInt8} {x:Am} {w:AV} (hs:s.length<100000000000) (hx:∀v H,B3 H AS 1 v s.length (JA s)→Wf H→k (S s) v (I s.length) w H=x):
 ∀(f i:Nat) (v:AV) (H:Hp),i≤s.length→s.length-i<f→B3 H AS 1 v (s.take i).length (JA (s.take i))→Wf H→ID L R K k f (S s) v (I i) w H=x:=by
 intro f
 induction f with
 |zero=>intro i v H _ h;omega
 |succ f ih=>
  intro i v H hi hf hv hw
  rw[TX]
  unfold KG Aq
  rw[Mr rfl,Dj,DV]
  by_cases h:i<s.length
  ·rw[if_pos (by simpa using h)]
   rw[C1n rfl h]
   obtain⟨v',H',h1,h2,h3,h4,h5,_⟩:=B4f s[i] hv hw (by simp;omega)
   rw[h1]
   simp(disch:=omega) only[Co,Ca]
   refine ih (i+1) v' H' (by omega) (by omega) ?_ h3
   rw[l04 h]
   exact h2
  ·rw[if_neg (by simpa using h)]
   have:i=s.length:=by omega
   subst this
   exact hx _ _ (by simpa using hv) hw
theorem A1a {j:TI} {K:AV→Am} {a k:Nat} (hk:k≤64):Aj j .shr (I a) (I k) K=K (I (a/2^k:Nat)):=by
 have:Aj j .shr (I a) (I k) K=ck (YL 0 (k:Int)) (fI ((a:Int).fdiv (2^(min (k:Int).toNat 64))) λz=>K (.v (.int .i64 z))):=rfl
 rw[this,QT]
 have h1:YL 0 (k:Int)=true:=by rw[Jc];simp
 have h2:(a:Int).fdiv (2^(min (k:Int).toNat 64))=((a/2^k:Nat):Int):=by
  rw[WB,l1x hk]
  have:((2:Int)^k)=((2^k:Nat):Int):=by simp
  rw[this,Int.fdiv_eq_ediv_of_nonneg _ (Int.natCast_nonneg _)]
  exact(Int.natCast_ediv _ _).symm
 rw[h1,h2];rfl
theorem A5X {t t':TI} {K:AV→Am} {m:Nat} (hd:t'.d= .int .u8):EO t t' (I m) K=K (By (UInt8.ofNat m)):=by
 have:EO t t' (I m) K=Lg .u8 (m:Int) λz=>K (.v (.int .u8 z)):=by
  obtain⟨a,b,d,z⟩:=t';simp only at hd;subst hd;rfl
 rw[this,Ga,Uz rfl]
 have:(m:Int)%(2^IntKind.u8.bits:Nat)=((UInt8.ofNat m).toNat:Int):=by
  rw[UInt8.toNat_ofNat']
  exact(Int.natCast_emod _ _).symm
 rw[this]
def XA7 (n:Nat):Nat→List UInt8
 |0=>[]
 |i+1=>US n i::XA7 n i
theorem A2p (n i:Nat):(XA7 n i).length=i:=by
 induction i with
 |zero=>rfl
 |succ i ih=>simp[XA7,ih]
theorem C1g {L:Nat} {R:Rt} {K:KV} {k:AV→AV→AV→Hp→Am} {s:List UInt8} {x:Am} {w1 w2 w3:AV} (hs:s.length<100000000000) (hx:∀v H,B3 H AS 1 v (pre s).length (JA (pre s))→Wf H→k w1 v w2 H=x):
 ∀(f j:Nat) (v:AV) (H:Hp),j≤Vm s.length→Vm s.length-j<f→B3 H AS 1 v (s++[128]++List.replicate j 0).length (JA (s++[128]++List.replicate j 0))→Wf H→IE L R K k f w1 v w2 w3 H=x:=by
 intro f
 induction f with
 |zero=>intro j v H _ h;omega
 |succ f ih=>
  intro j v H hj hf hv hw
  rw[TY]
  unfold KH Aq
  have hlen:(s++[128]++List.replicate j (0:UInt8)).length=s.length+1+j:=by simp;omega
  have hz:Vm s.length<64:=by unfold Vm;omega
  rw[IJ rfl hv,T9 (by decide),F8,DV]
  have hm:((s++[128]++List.replicate j (0:UInt8)).length:Int).tmod 64=(((s.length+1+j)%64:Nat):Int):=by rw[hlen];exact(Int.ofNat_tmod _ _).symm
  rw[hm]
  by_cases h:j=Vm s.length
  ·subst h
   have:(s.length+1+Vm s.length)%64=56:=by unfold Vm;omega
   rw[this]
   simp only[l14,decide_eq_false_iff_not]
   rw[if_neg (by simp)]
   exact hx _ _ hv hw
  ·have hne:(s.length+1+j)%64≠56:=by unfold Vm at h hj;omega
   rw[if_pos (by simp;omega)]
   obtain⟨v',H',h1,h2,h3,h4,h5,_⟩:=B4f (0:UInt8) hv hw (by omega)
   have e:(AV.v (.int .u8 0))=By 0:=rfl
   rw[e]
   rw[h1]
   refine ih (j+1) v' H' (by omega) (by omega) ?_ h3
   rw[List.replicate_succ',←l0k]
   exact h2
theorem C1h {L:Nat} {R:Rt} {K:KV} {k:AV→Hp→Am} {s:List UInt8} {x:Am} {w:AV} (hs:s.length<100000000000) (hx:∀v H,B3 H AS 1 v (pre s++XA7 s.length 8).length (JA (pre s++XA7 s.length 8))→Wf H→k v H=x):
 ∀(f i:Nat) (l:List UInt8) (v:AV) (H:Hp),i≤8→i<f→l++XA7 s.length i=pre s++XA7 s.length 8→B3 H AS 1 v l.length (JA l)→Wf H→G8 L R K k f (S s) v w (I ((i:Int)-1)) H=x:=by
 have hz:Vm s.length<64:=by unfold Vm;omega
 intro f
 induction f with
 |zero=>intro i l v H _ h;omega
 |succ f ih=>
  intro i l v H hi hf hl hv hw
  have hll:l.length≤s.length+1+64+8:=by
   have:=congrArg List.length hl
   simp[pre,A2p] at this
   omega
  rw[TZ]
  unfold KI Aq
  rw[Lx,DV]
  cases i with
  |zero=>
   rw[if_neg (by simp)]
   have:l=pre s++XA7 s.length 8:=by simpa [XA7] using hl
   subst this
   exact hx _ _ hv hw
  |succ i=>
   rw[if_pos (by simp)]
   have e1:((i+1:Nat):Int)-1=(i:Int):=by omega
   rw[e1]
   rw[Mr rfl,Ni,Ni,Ca (by omega) (by omega),Ca (by omega) (by omega)]
   have e2:(8:Int)*(s.length:Int)=((8*s.length:Nat):Int):=by omega
   have e3:(8:Int)*(i:Int)=((8*i:Nat):Int):=by omega
   rw[e2,e3,A1a (by omega)]
   rw[A5X rfl]
   obtain⟨v',H',h1,h2,h3,h4,h5,_⟩:=B4f (US s.length i) hv hw (by omega)
   simp(disch:=omega) only[GN,Ca]
   have h1:=h1 (λv37 H36=>G8 L R K k f (S s) v37 w (I ((i:Int)-1)) H36)
   unfold US at h1
   rw[h1]
   refine ih i (l++[US s.length i]) v' H' (by omega) (by omega) ?_ h2 h3
   rw[l0k]
   exact hl
def Sm (l:List UInt8):AV:= .list l.length (JA l)
theorem A0U {b:Bool} {H:Hp} {v:AV} {e n:Nat} {cs:List AV} (h:B3 H e 1 v n cs) (hn:n≠0) {α:Type} (f:α→Value) (l:List α) (hc:cs=l.map λx=> .v (f x)):Fx b depth v (.list n cs) H true:=by
 subst hc
 rcases h with⟨_,h2,_⟩|⟨r,q,rfl,h2,h3⟩
 ·exact absurd h2 hn
 ·exact VZ (q':=false) h2 h3 (J6 f l)
theorem C1b {b:Bool} {H:Hp} {v:AV} {l:List UInt8} (h:B3 H AS 1 v l.length (JA l)) (hne:l≠[]):Fx b depth v (Sm l) H true:=
 A0U h (λh=>hne (l1s h)) (λb:UInt8=>Value.int .u8 (b.toNat:Int)) l rfl
theorem fx1 {H:Hp} {x:Value}:Py true depth [.v x] [.v x] H false:=Ay (q:=false) (q':=false) E1 Bl
theorem A76 {L n:Nat} (s:List UInt8) (hs:s.length<100000000000) (hL:s.length+100<L):CS (rt L (n+1)) Mn [S s] (Sm (ext s)):=by
 intro K hK
 rw[UN]
 unfold LR Aq
 simp only[Cm]
 refine C1f hs ?_ L 0 _ [] (by omega) (by omega) (.inl ⟨rfl,rfl,rfl⟩) Fw
 intro v H hv hw
 obtain⟨v',H',h1,h2,h3,h4,h5,_⟩:=B4f (128:UInt8) hv hw (by omega)
 have e:(AV.v (.int .u8 128))=By 128:=rfl
 rw[e,h1]
 refine C1g hs ?_ L 0 v' H' (by omega) (by have:Vm s.length<64:=(by unfold Vm;omega);omega) (by simpa using h2) h3
 intro v H hv hw
 refine C1h hs ?_ L 8 (pre s) v H (by omega) (by omega) rfl hv hw
 intro v H hv hw
 exact hK _ _ (λb=>⟨true,C1b (l:=ext s) hv (by simp[ext])⟩)
def I0 (x:BitVec 32) (k:Nat):BitVec 32:=(x>>>k)|||(x<<<(32-k))
theorem C3R {H:Hp} {x y:Value}:Py true depth [.v x,.v y] [.v x,.v y] H false:=Ay (q:=false) (q':=false) E1 fx1
theorem fxq {b:Bool} {x:Value} {H:Hp}:Fx b depth (.v x) (.v x) H false:=E1
theorem B01 {L n:Nat} (x:BitVec 32) (k:Nat) (hk:k≤32):PS (rt L (n+1)) Cv [W x,I k] (W (I0 x k)):=by
 refine CS.ps (λK hK=> ?_) (λH=>C3R)
 rw[VH]
 unfold No Aq
 have h32:((32:Int)-(k:Int))=((32-k:Nat):Int):=by omega
 simp(disch:=omega) only[He rfl hk,B3X,GN,Ca,h32,Jh rfl (show 32-k≤32 by omega),Ws]
 exact hK _ _ (λb=>⟨false,fxq⟩)
def kk:List (BitVec 32):=[0x428a2f98,0x71374491,0xb5c0fbcf,0xe9b5dba5,0x3956c25b,0x59f111f1,0x923f82a4,0xab1c5ed5,
 0xd807aa98,0x12835b01,0x243185be,0x550c7dc3,0x72be5d74,0x80deb1fe,0x9bdc06a7,0xc19bf174,
 0xe49b69c1,0xefbe4786,0x0fc19dc6,0x240ca1cc,0x2de92c6f,0x4a7484aa,0x5cb0a9dc,0x76f988da,
 0x983e5152,0xa831c66d,0xb00327c8,0xbf597fc7,0xc6e00bf3,0xd5a79147,0x06ca6351,0x14292967,
 0x27b70a85,0x2e1b2138,0x4d2c6dfc,0x53380d13,0x650a7354,0x766a0abb,0x81c2c92e,0x92722c85,
 0xa2bfe8a1,0xa81a664b,0xc24b8b70,0xc76c51a3,0xd192e819,0xd6990624,0xf40e3585,0x106aa070,
 0x19a4c116,0x1e376c08,0x2748774c,0x34b0bcb5,0x391c0cb3,0x4ed8aa4a,0x5b9cca4f,0x682e6ff3,
 0x748f82ee,0x78a5636f,0x84c87814,0x8cc70208,0x90befffa,0xa4506ceb,0xbef9a3f7,0xc67178f2]
theorem A7E:kk.length=64:=rfl
theorem A4S {L n:Nat}:CS (rt L (n+1)) Lp [] (.list 64 (CM kk)):=by
 intro K hK
 rw[Ua]
 have e:KS L (rt L n) [] K=K (.sl 1 0 0 64) [(0,.cells false B9 (CM kk))]:=by kernel_rfl
 rw[e]
 exact hK _ _ (λb=>⟨true,A0U (e:=B9) (.inr ⟨0,false,rfl,rfl,rfl⟩) (by decide) (λx:BitVec 32=>Value.int .u32 (x.toNat:Int)) kk rfl⟩)
theorem B44 {l:List UInt8} {k:Nat} (h:k<l.length):(JA l).getD k .dk=By (l.getD k 0):=by
 simp[JA,Tw,h]
theorem JD {l:List (BitVec 32)} {k:Nat} (h:k<l.length):(CM l).getD k .dk=W (l.getD k 0):=by
 simp[CM,Tw,h]
theorem XA2 (l:List (BitVec 32)):(CM l).length=l.length:=by simp[CM]
theorem B4A (a b:List (BitVec 32)):CM a++CM b=CM (a++b):=by simp[CM]
theorem TH (l:List (BitVec 32)):(CM l).all AV.one=true:=by simp[CM,AV.one,Value.oneCell']
theorem T7 {t:TI} {e n:Nat} {cs:List AV} {z:Int} {K:AV→Am} (hd:t.d= .slice e 1) (hc:cs.length=n) (h0:0≤z) (h1:z<n):B1 t (.list n cs) (I z) K=K (.iptr [cs.getD z.toNat .dk]):=by
 obtain⟨m,rfl⟩:=Int.eq_ofNat_of_zero_le h0
 have e1:B1 t (.list n cs) (I (m:Int)) K=iN (m:Int) λm=>ck (Nat.blt m n) (QQ 1 (Da (Nat.mul m 1) cs) λc=>K (.iptr c)):=by
  obtain⟨a,b,d,z⟩:=t;simp only at hd;subst hd;rfl
 have hm:m<n:=by omega
 rw[e1,JM,Ct,Lh]
 have:Nat.blt m n=true:=by rw[TS];exact hm
 rw[this]
 have e2:Nat.mul m 1=m:=l28 m
 have e3:(cs.drop m).take 1=[cs.getD m .dk]:=by
  have hlt:m<cs.length:=by omega
  rw[l11 hlt,Tw,Jw hlt];rfl
 rw[e2,e3];rfl
theorem A44 {t:TI} {e r n:Nat} {z:Int} {K:AV→Am} (hd:t.d= .slice e 1) (h0:0≤z) (h1:z<n):B1 t (.sl 1 r 0 n) (I z) K=K (.ptr r z.toNat 0):=by
 obtain⟨m,rfl⟩:=Int.eq_ofNat_of_zero_le h0
 have e1:B1 t (.sl 1 r 0 n) (I (m:Int)) K=iN (m:Int) λm=>ck (Nat.blt m n) (fN (Nat.add 0 (Nat.mul m 1)) λp=>K (.ptr r p 0)):=by
  obtain⟨a,b,d,z⟩:=t;simp only at hd;subst hd;rfl
 have hm:m<n:=by omega
 rw[e1,JM,DX]
 have:Nat.blt m n=true:=by rw[TS];exact hm
 have e2:Nat.add 0 (Nat.mul m 1)=m:=by show 0+m*1=m;omega
 rw[this,e2];rfl
theorem Qm {t:TI} {H:Hp} {c:AV} {K:AV→Am} (h:t.d.isAgg=false):Ap t (.iptr [c]) H K=K c:=by
 have:Ap t (.iptr [c]) H K=@Bool.rec (λ_=>Am) (K c) (F2 t.size [c] λc=>K (.agg c)) t.d.isAgg:=rfl
 rw[this,h]
theorem B3L {t:TI} {H:Hp} {r p e:Nat} {q:Bool} {cs:List AV} {K:AV→Am} (h:t.d.isAgg=false) (hl:Aw H r=some (.cells q e cs)) (hp:p<cs.length):Ap t (.ptr r p 0) H K=K (cs.getD p .dk):=by
 have:Ap t (.ptr r p 0) H K=Lf H r λx=>L2 x λ_ cs=>@Bool.rec (λ_=>Am) (hdK (Da (Nat.add p 0) cs) K) (F2 t.size (Da (Nat.add p 0) cs) λc=>K (.agg c)) t.d.isAgg:=rfl
 rw[this,h,C6 hl]
 show hdK (Da p cs) K=_
 rw[Ct,l11 hp,Tw,Jw hp];rfl
theorem B3N {l:List UInt8} {z:Int} {K:AV→Am} (h0:0≤z) (h1:z<l.length):B1 A6 (Sm l) (I z) K=K (.iptr [By (l.getD z.toNat 0)]):=by
 unfold Sm
 rw[T7 rfl (MO l) h0 h1,B44 (by omega)]
theorem C47 {r n:Nat} {z:Int} {K:AV→Am} (h0:0≤z) (h1:z<n):B1 A4 (.sl 1 r 0 n) (I z) K=K (.ptr r z.toNat 0):=A44 rfl h0 h1
theorem C46 {H:Hp} {r p e:Nat} {q:Bool} {l:List (BitVec 32)} {K:AV→Am} (hl:Aw H r=some (.cells q e (CM l))) (hp:p<l.length):Ap An (.ptr r p 0) H K=K (W (l.getD p 0)):=by
 rw[B3L rfl hl (by rw[XA2];exact hp),JD hp]
theorem A2W {b:UInt8} {K:AV→Am}:EO AD An (By b) K=K (W (BitVec.ofNat 32 b.toNat)):=B3S
theorem C4m {H:Hp} {v:AV} {l:List (BitVec 32)} (b:BitVec 32) (h:B3 H B9 1 v l.length (CM l)) (w:Wf H) (hn:l.length<1000000000000):
 ∃r q H',(∀K:KV,(DC (Fp B9 1 An 1 [(0,1,W b)] H λv H=>some (v,H)) λv1 H1=>DC (Ea B9 1 An A4 v v1 H1 λv H=>some (v,H)) K)=K (.sl 1 r 0 (l.length+1)) H')∧Aw H' r=some (.cells q B9 (CM (l++[b])))∧Wf H'∧A7 H≤A7 H'∧(∀s x,Aw H s=some x→¬Bh v s→Aw H' s=some x)∧A7 H≤r:=by
 have hv1:B3 ((A7 H,.cells false B9 [W b])::H) B9 1 v l.length (CM l):=h.lat w (Lat.cons H _ (λ_=>False)) (λ_ _ h=>h)
 have hsrc:=Og (H:=H) (e:=B9) (n:=1) (cs:=[W b]) rfl
 obtain⟨v',H',h1,h2,h3,h4⟩:=apt (ie:=An) (i2:=A4) hv1 (λK=>Sg (K:=K) hsrc) rfl rfl (by decide) rfl rfl (by show(l.length+1)*4≤_;omega) (by omega)
 have h5:=(Lat.cons H (.cells false B9 [W b]) (Bh v)).trans h4 (R:=Bh v) (λ_ _ h=>h) (λ_ _ h=>h)
 rcases h2 with⟨_,h6,_⟩|⟨r,q,rfl,h6,h7⟩
 ·omega
 ·refine⟨r,q,H',λK=> ?_,by rw[←B4A];exact h6,h5.wf w,h5.nx,λs x hs hn=>h5.keep w s x hs hn,?_⟩
  ·rw[A8c (z:=W 0) (λ_=>rfl) (λ_=>rfl) rfl,A89,h1 (λv H=>some (v,H)),A89]
  ·rw[h3 r ⟨_,_,_,rfl⟩];exact l1p _
section
theorem Ly {v:AV} {H:Hp} {K:AV→Am}:Ai (some (v,H)) K=K v:=B3X
theorem TC {v:AV} {H:Hp} {K:KV}:DC (some (v,H)) K=K v H:=A89
theorem Um {L n:Nat} {x:BitVec 32} {z:Int} (k:Nat) (h0:z=(k:Int)) (h:k≤32) {H:Hp} {K:AV→Am}:Ah (rt L (n+1)) Cv [W x,I z] H K=K (W (I0 x k)):=by
 subst h0
 exact B01 x k (by omega) H K
theorem A8k {H:Hp} {v:AV} {l:List (BitVec 32)} {n:Nat} (b:BitVec 32) (hl:l.length=n) (h:B3 H B9 1 v n (CM l)) (w:Wf H) (hn:n<1000000000000):
 ∃r q H',(∀K:KV,(DC (Fp B9 1 An 1 [(0,1,W b)] H λv H=>some (v,H)) λv1 H1=>DC (Ea B9 1 An A4 v v1 H1 λv H=>some (v,H)) K)=K (.sl 1 r 0 (n+1)) H')∧Aw H' r=some (.cells q B9 (CM (l++[b])))∧Wf H'∧A7 H≤A7 H'∧(∀s x,Aw H s=some x→¬Bh v s→Aw H' s=some x)∧A7 H≤r:=by
 subst hl;exact C4m b h w hn
def bw (l:List UInt8) (i:Nat):BitVec 32:=BitVec.ofNat 32 (l.getD i 0).toNat
def A8w (l:List UInt8) (i:Nat):BitVec 32:=bw l (4*i)<<<24|||bw l (4*i+1)<<<16|||bw l (4*i+2)<<<8|||bw l (4*i+3)
def w16 (l:List UInt8) (n:Nat):List (BitVec 32):=(List.range n).map (A8w l)
def sg0 (x:BitVec 32):BitVec 32:=I0 x 7^^^I0 x 18^^^x>>>3
def sg1 (x:BitVec 32):BitVec 32:=I0 x 17^^^I0 x 19^^^x>>>10
def K3 (l:List UInt8):Nat→List (BitVec 32)
 |0=>w16 l 16
 |i+1=>K3 l i++[(K3 l i).getD i 0+sg0 ((K3 l i).getD (i+1) 0)+(K3 l i).getD (i+9) 0+sg1 ((K3 l i).getD (i+14) 0)]
theorem Vu (l:List UInt8) (n:Nat):(w16 l n).length=n:=by simp[w16]
theorem Oh (l:List UInt8) (i:Nat):(K3 l i).length=16+i:=by
 induction i with
 |zero=>simp[K3,Vu]
 |succ i ih=>simp[K3,ih];omega
structure S8 where
 a:BitVec 32
 b:BitVec 32
 c:BitVec 32
 d:BitVec 32
 e:BitVec 32
 f:BitVec 32
 g:BitVec 32
 h:BitVec 32
def S8.l (s:S8):List (BitVec 32):=[s.a,s.b,s.c,s.d,s.e,s.f,s.g,s.h]
def rt1 (s:S8) (k w:BitVec 32):BitVec 32:=s.h+(I0 s.e 6^^^I0 s.e 11^^^I0 s.e 25)+((s.e&&&s.f)^^^(~~~s.e&&&s.g))+k+w
def rt2 (s:S8):BitVec 32:=(I0 s.a 2^^^I0 s.a 13^^^I0 s.a 22)+((s.a&&&s.b)^^^(s.a&&&s.c)^^^(s.b&&&s.c))
def rnd (s:S8) (k w:BitVec 32):S8:=⟨rt1 s k w+rt2 s,s.a,s.b,s.c,s.d+rt1 s k w,s.e,s.f,s.g⟩
def Yh (ws:List (BitVec 32)) (s:S8):Nat→S8
 |0=>s
 |i+1=>rnd (Yh ws s i) (kk.getD i 0) (ws.getD i 0)
def C4n (s t:S8):S8:=⟨s.a+t.a,s.b+t.b,s.c+t.c,s.d+t.d,s.e+t.e,s.f+t.f,s.g+t.g,s.h+t.h⟩
def blk (s:S8) (l:List UInt8):S8:=C4n s (Yh (K3 l 48) s 64)
variable {L n:Nat} {K:KV} {x:Am}
theorem A4A (l:List UInt8) (i:Nat):BitVec.ofNat 32 (l.getD (4*i) 0).toNat<<<24|||BitVec.ofNat 32 (l.getD (4*i+1) 0).toNat<<<16|||BitVec.ofNat 32 (l.getD (4*i+2) 0).toNat<<<8|||BitVec.ofNat 32 (l.getD (4*i+3) 0).toNat=A8w l i:=rfl
theorem A4K (l:List UInt8) (i:Nat):w16 l (i+1)=w16 l i++[A8w l i]:=by simp[w16,List.range_succ]
theorem B9Z (x:BitVec 32):I0 x 7^^^I0 x 18^^^x>>>3=sg0 x:=rfl
theorem B9Y (x:BitVec 32):I0 x 17^^^I0 x 19^^^x>>>10=sg1 x:=rfl
theorem Of (i:Nat):(i:Int)+1=((i+1:Nat):Int):=rfl
theorem C1y {k:AV→AV→AV→AV→AV→AV→AV→AV→AV→Hp→Am} {l:List UInt8} {a0 w1 w2 w3 w4 w5 w6:AV} (hl:l.length=64) (hx:∀v H,B3 H B9 1 v 16 (CM (w16 l 16))→Wf H→k a0 (Sm l) v (I 16) w2 w3 w4 w5 w6 H=x):
 ∀(f i:Nat) (v:AV) (H:Hp),i≤16→16-i<f→B3 H B9 1 v i (CM (w16 l i))→Wf H→KJ L (rt L n) K k f a0 (Sm l) v (I i) w1 w2 w3 w4 w5 w6 H=x:=by
 intro f
 induction f with
 |zero=>intro i v H _ h;omega
 |succ f ih=>
  intro i v H hi hf hv hw
  rw[Xb]
  unfold Ot Aq
  rw[Dj,DV]
  by_cases h:i<16
  ·rw[if_pos (by simp;omega)]
   simp(disch:=omega) only[Ni,Co,Ca,Ly,B3N,Qm (t:=AD) rfl,A2W,Jh (z:=24) (k:=24) rfl (by decide),Jh (z:=16) (k:=16) rfl (by decide),Jh (z:=8) (k:=8) rfl (by decide),Ws]
   have e0:((4:Int)*(i:Int)).toNat=4*i:=by omega
   have e1:((4:Int)*(i:Int)+1).toNat=4*i+1:=by omega
   have e2:((4:Int)*(i:Int)+2).toNat=4*i+2:=by omega
   have e3:((4:Int)*(i:Int)+3).toNat=4*i+3:=by omega
   rw[e0,e1,e2,e3,A4A]
   obtain⟨r,q,H',h1,h2,h3,h4,h5,_⟩:=A8k (A8w l i) (Vu l i) hv hw (by omega)
   rw[h1,Of]
   refine ih (i+1) _ H' (by omega) (by omega) (.inr ⟨r,q,rfl,?_,?_⟩) h3
   ·rw[A4K]
    exact h2
   ·rw[XA2,Vu];omega
  ·rw[if_neg (by simp;omega)]
   have:i=16:=by omega
   subst this
   exact hx _ _ hv hw
theorem C1z {k:AV→AV→AV→AV→AV→AV→AV→Hp→Am} {l:List UInt8} {w0 w1 w2 w3 w4 w5 w6 w7:AV} (hx:∀r q H,Aw H r=some (.cells q B9 (CM (K3 l 48)))→Wf H→k w0 w1 (.sl 1 r 0 64) w2 (I 64) w6 w7 H=x):
 ∀(f i r:Nat) (q:Bool) (H:Hp),i≤48→48-i<f→Aw H r=some (.cells q B9 (CM (K3 l i)))→Wf H→KK L (rt L (n+1)) K k f w0 w1 (.sl 1 r 0 (16+i)) w2 (I ((16+i:Nat):Int)) w3 w4 w5 w6 w7 H=x:=by
 intro f
 induction f with
 |zero=>intro i r q H _ h;omega
 |succ f ih=>
  intro i r q H hi hf hv hw
  rw[Xc]
  unfold Ou Aq
  rw[Dj,DV]
  by_cases h:i<48
  ·rw[if_pos (by simp;omega)]
   have hl:=Oh l i
   have e1:((16+i:Nat):Int)-15=((i+1:Nat):Int):=by omega
   have e2:((16+i:Nat):Int)-2=((i+14:Nat):Int):=by omega
   have e3:((16+i:Nat):Int)-16=((i:Nat):Int):=by omega
   have e4:((16+i:Nat):Int)-7=((i+9:Nat):Int):=by omega
   simp(disch:=omega) only[GN,Ca,Ly,e1,e2,e3,e4,C47,WB,C46 hv,Um (z:=7) 7 rfl (by decide),Um (z:=18) 18 rfl (by decide),Um (z:=17) 17 rfl (by decide),Um (z:=19) 19 rfl (by decide),QX,He (z:=3) (k:=3) rfl (by decide),He (z:=10) (k:=10) rfl (by decide),Mt]
   rw[B9Z,B9Y]
   obtain⟨r',q',H',h1,h2,h3,h4,h5,_⟩:=A8k ((K3 l i).getD i 0+sg0 ((K3 l i).getD (i+1) 0)+(K3 l i).getD (i+9) 0+sg1 ((K3 l i).getD (i+14) 0)) (v:= .sl 1 r 0 (16+i)) hl (.inr ⟨r,q,rfl,hv,by rw[XA2,hl];omega⟩) hw (by omega)
   rw[h1]
   simp(disch:=omega) only[Co,Ca]
   rw[Of]
   exact ih (i+1) r' q' H' (by omega) (by omega) h2 h3
  ·rw[if_neg (by simp;omega)]
   have:i=48:=by omega
   subst this
   exact hx _ _ _ hv hw
end
section
def Rd (H:Hp) (v:AV) (n:Nat) (cs:List AV):Prop:=cs.length=n∧(v= .list n cs∨∃r q e,v= .sl 1 r 0 n∧Aw H r=some (.cells q e cs))
def rdp (v:AV) (i:Nat):AV:=match v with
 | .list _ cs=> .iptr [cs.getD i .dk]
 | .sl _ r _ _=> .ptr r i 0
 |_=> .dk
theorem B3.rd {H:Hp} {e n:Nat} {v:AV} {cs:List AV} (h:B3 H e 1 v n cs) (hn:n≠0):Rd H v n cs:=by
 rcases h with⟨_,h,_⟩|⟨r,q,h1,h2,h3⟩
 ·exact absurd h hn
 ·exact⟨by omega,.inr ⟨r,q,e,h1,h2⟩⟩
theorem YZ {H:Hp} {n:Nat} {cs:List AV} (h:cs.length=n):Rd H (.list n cs) n cs:=⟨h,.inl rfl⟩
theorem Rd.lat {H H':Hp} {v:AV} {n:Nat} {cs:List AV} {P:Nat→Prop} (h:Rd H v n cs) (w:Wf H) (k:Lat H H' P) (hP:∀s,Bh v s→¬P s):Rd H' v n cs:=by
 rcases h with⟨h0,h|⟨r,q,e,h1,h2⟩⟩
 ·exact⟨h0,.inl h⟩
 ·exact⟨h0,.inr ⟨r,q,e,h1,k.keep w r _ h2 (hP r ⟨1,0,n,h1⟩)⟩⟩
theorem Ms {t:TI} {e n:Nat} {v:AV} {H:Hp} {cs:List AV} (h:Rd H v n cs) (hd:t.d= .slice e 1) {z:Int} (k:Nat) (hz:z=k) (hk:k<n) {K:AV→Am}:B1 t v (I z) K=K (rdp v k):=by
 subst hz
 rcases h with⟨h0,rfl|⟨r,q,e,rfl,h2⟩⟩
 ·rw[T7 hd h0 (by omega) (by omega)];rfl
 ·rw[A44 hd (by omega) (by omega)];rfl
theorem X8 {t:TI} {n:Nat} {v:AV} {H:Hp} {cs:List AV} (h:Rd H v n cs) (hd:t.d.isAgg=false) {k:Nat} (hk:k<n) {K:AV→Am}:Ap t (rdp v k) H K=K (cs.getD k .dk):=by
 rcases h with⟨h0,rfl|⟨r,q,e,rfl,h2⟩⟩
 ·exact Qm hd
 ·exact B3L hd h2 (by omega)
theorem C3e {H:Hp} {a b c d e f g h:BitVec 32} (K:KV):Fp B9 1 An 8 [(0,1,W a),(1,1,W b),(2,1,W c),(3,1,W d),(4,1,W e),(5,1,W f),(6,1,W g),(7,1,W h)] H K=K (.sl 1 (A7 H) 0 8) ((A7 H,.cells false B9 (CM [a,b,c,d,e,f,g,h]))::H):=by
 have e1:Fp B9 1 An 8 [(0,1,W a),(1,1,W b),(2,1,W c),(3,1,W d),(4,1,W e),(5,1,W f),(6,1,W g),(7,1,W h)] H K=Ij H λs=>K (.sl 1 s 0 8) ((s,.cells false B9 (CM [a,b,c,d,e,f,g,h]))::H):=rfl
 rw[e1,Cg]
theorem A2R {x:BitVec 32} {K:AV→Am}:EP .xor (W x) K=K (W (~~~x)):=B3E
theorem B7z {k:Nat} (h:k<64):(CM kk).getD k .dk=W (kk.getD k 0):=JD (by rw[A7E];exact h)
variable {L n:Nat} {K:KV} {x:Am}
theorem B29 (s:S8) (k w:BitVec 32):[s.h+(I0 s.e 6^^^I0 s.e 11^^^I0 s.e 25)+((s.e&&&s.f)^^^(~~~s.e&&&s.g))+k+w+((I0 s.a 2^^^I0 s.a 13^^^I0 s.a 22)+((s.a&&&s.b)^^^(s.a&&&s.c)^^^(s.b&&&s.c))),s.a,s.b,s.c,s.d+(s.h+(I0 s.e 6^^^I0 s.e 11^^^I0 s.e 25)+((s.e&&&s.f)^^^(~~~s.e&&&s.g))+k+w),s.e,s.f,s.g]=(rnd s k w).l:=rfl
theorem C1A {k:AV→AV→AV→AV→AV→AV→AV→AV→Hp→Am} {ws:List (BitVec 32)} {s0:S8} {rw:Nat} {w0 w1 w3 w4 w6 w7:AV} (hws:ws.length=64) (hx:∀v q H,B3 H B9 1 v 8 (CM (Yh ws s0 64).l)→Aw H rw=some (.cells q B9 (CM ws))→Wf H→k w0 w1 (.sl 1 rw 0 64) w3 w4 (.list 64 (CM kk)) v (I 64) H=x):
 ∀(f i:Nat) (v:AV) (q:Bool) (H:Hp),i≤64→64-i<f→B3 H B9 1 v 8 (CM (Yh ws s0 i).l)→Aw H rw=some (.cells q B9 (CM ws))→Wf H→KL L (rt L (n+1)) K k f w0 w1 (.sl 1 rw 0 64) w3 w4 (.list 64 (CM kk)) v (I i) w6 w7 H=x:=by
 intro f
 induction f with
 |zero=>intro i v q H _ h;omega
 |succ f ih=>
  intro i v q H hi hf hv hr hw
  rw[Xd]
  unfold Ov Aq
  rw[Dj,DV]
  by_cases h:i<64
  ·rw[if_pos (by simp;omega)]
   have rv:=hv.rd (by decide)
   have rk:Rd H (.list 64 (CM kk)) 64 (CM kk):=YZ (by rw[XA2,A7E])
   have rs:Rd H (.sl 1 rw 0 64) 64 (CM ws):=⟨by rw[XA2,hws],.inr ⟨rw,q,B9,rfl,hr⟩⟩
   generalize hs:Yh ws s0 i=s at rv hv
   have g0:(CM s.l).getD 0 .dk=W s.a:=id rfl
   have g1:(CM s.l).getD 1 .dk=W s.b:=id rfl
   have g2:(CM s.l).getD 2 .dk=W s.c:=id rfl
   have g3:(CM s.l).getD 3 .dk=W s.d:=id rfl
   have g4:(CM s.l).getD 4 .dk=W s.e:=id rfl
   have g5:(CM s.l).getD 5 .dk=W s.f:=id rfl
   have g6:(CM s.l).getD 6 .dk=W s.g:=id rfl
   have g7:(CM s.l).getD 7 .dk=W s.h:=id rfl
   have gw:(CM ws).getD i .dk=W (ws.getD i 0):=JD (by omega)
   have i0:= λK=>Ms (t:=A4) rv rfl (z:=0) 0 rfl (by decide) (K:=K)
   have i1:= λK=>Ms (t:=A4) rv rfl (z:=1) 1 rfl (by decide) (K:=K)
   have i2:= λK=>Ms (t:=A4) rv rfl (z:=2) 2 rfl (by decide) (K:=K)
   have i3:= λK=>Ms (t:=A4) rv rfl (z:=3) 3 rfl (by decide) (K:=K)
   have i4:= λK=>Ms (t:=A4) rv rfl (z:=4) 4 rfl (by decide) (K:=K)
   have i5:= λK=>Ms (t:=A4) rv rfl (z:=5) 5 rfl (by decide) (K:=K)
   have i6:= λK=>Ms (t:=A4) rv rfl (z:=6) 6 rfl (by decide) (K:=K)
   have i7:= λK=>Ms (t:=A4) rv rfl (z:=7) 7 rfl (by decide) (K:=K)
   have ik:= λK=>Ms (t:=A4) rk rfl (z:=i) i rfl h (K:=K)
   have iw:= λK=>Ms (t:=A4) rs rfl (z:=i) i rfl h (K:=K)
   have lv:= λk hk K=>X8 (t:=An) rv rfl (k:=k) hk (K:=K)
   have lk:= λk hk K=>X8 (t:=An) rk rfl (k:=k) hk (K:=K)
   have lw:= λk hk K=>X8 (t:=An) rs rfl (k:=k) hk (K:=K)
   simp(disch:=omega) only[Ly,i0,i1,i2,i3,i4,i5,i6,i7,ik,iw,lv,lk,lw,g0,g1,g2,g3,g4,g5,g6,g7,gw,B7z h,QX,A2X,Mt,A2R,
    Um (z:=6) 6 rfl (by decide),Um (z:=11) 11 rfl (by decide),Um (z:=25) 25 rfl (by decide),Um (z:=2) 2 rfl (by decide),Um (z:=13) 13 rfl (by decide),Um (z:=22) 22 rfl (by decide)]
   rw[C3e,TC,Co,Ca (by omega) (by omega),B29,Of]
   have hr':Yh ws s0 (i+1)=rnd s (kk.getD i 0) (ws.getD i 0):=by rw[←hs];rfl
   rw[←hr']
   exact ih (i+1) _ q _ (by omega) (by omega) (Og rfl) (Bn (hw.lt hr) hr) (BP hw)
  ·rw[if_neg (by simp;omega)]
   have:i=64:=by omega
   subst this
   exact hx _ _ _ hv hr hw
def W8 (a b:List (BitVec 32)) (i:Nat):List (BitVec 32):=(List.range i).map λi=>a.getD i 0+b.getD i 0
theorem OX (a b:List (BitVec 32)) (i:Nat):(W8 a b i).length=i:=by simp[W8]
theorem A36 (a b:List (BitVec 32)) (i:Nat):W8 a b (i+1)=W8 a b i++[a.getD i 0+b.getD i 0]:=by simp[W8,List.range_succ]
theorem C1H (s t:S8):W8 s.l t.l 8=(C4n s t).l:=rfl
theorem C1B {k:AV→Hp→Am} {a b:List (BitVec 32)} {va vb w1 w2 w3 w4 w5 w7:AV} (hx:∀v H,B3 H B9 1 v 8 (CM (W8 a b 8))→Wf H→k v H=x) (hva:va= .list 8 (CM a)) (ha:a.length=8) (hb:b.length=8):
 ∀(f i:Nat) (v:AV) (H:Hp),i≤8→8-i<f→B3 H B9 1 v i (CM (W8 a b i))→B3 H B9 1 vb 8 (CM b)→(∀s,Bh v s→¬Bh vb s)→Wf H→KM L (rt L n) K k f va w1 w2 w3 w4 w5 vb w7 v (I i) H=x:=by
 intro f
 induction f with
 |zero=>intro i v H _ h;omega
 |succ f ih=>
  intro i v H hi hf hv hvb hd hw
  rw[Xe]
  unfold Ow Aq
  rw[Dj,DV]
  by_cases h:i<8
  ·rw[if_pos (by simp;omega)]
   have ra:Rd H va 8 (CM a):=by subst hva;exact YZ (by rw[XA2,ha])
   have rb:=hvb.rd (by decide)
   have ga:(CM a).getD i .dk=W (a.getD i 0):=JD (by omega)
   have gb:(CM b).getD i .dk=W (b.getD i 0):=JD (by omega)
   have ia:= λK=>Ms (t:=A4) ra rfl (z:=i) i rfl h (K:=K)
   have ib:= λK=>Ms (t:=A4) rb rfl (z:=i) i rfl h (K:=K)
   have la:= λK=>X8 (t:=An) ra rfl (k:=i) h (K:=K)
   have lb:= λK=>X8 (t:=An) rb rfl (k:=i) h (K:=K)
   simp only[Ly,ia,ib,la,lb,ga,gb,Mt]
   obtain⟨r,q,H',h1,h2,h3,h4,h5,h6⟩:=A8k (a.getD i 0+b.getD i 0) (OX a b i) hv hw (by omega)
   rw[h1,Co,Ca (by omega) (by omega),Of]
   refine ih (i+1) _ H' (by omega) (by omega) (.inr ⟨r,q,rfl,?_,?_⟩) ?_ ?_ h3
   ·rw[A36];exact h2
   ·rw[XA2,OX];omega
   ·rcases hvb with⟨e1,e2,e3⟩|⟨r2,q2,e1,e2,e3⟩
    ·exact .inl ⟨e1,e2,e3⟩
    ·exact .inr ⟨r2,q2,e1,h5 _ _ e2 (λhh=>hd _ hh ⟨1,0,8,e1⟩),e3⟩
   ·intro s ⟨p,o,m,hs⟩ hs2
    injection hs with _ hs
    subst hs
    have:=hvb.lt hw hs2
    omega
  ·rw[if_neg (by simp;omega)]
   have:i=8:=by omega
   subst this
   exact hx _ _ hv hw
theorem S8.len (s:S8):s.l.length=8:=rfl
theorem B5w {s:S8} {l:List UInt8} (hl:l.length=64) (hL:100<L):CS (rt L (n+2)) Qk [.list 8 (CM s.l),Sm l] (.list 8 (CM (blk s l).l)):=by
 intro K hK
 rw[YC]
 unfold PV Aq
 simp only[Cm]
 refine C1y hl ?_ L 0 _ [] (by omega) (by omega) (.inl ⟨rfl,rfl,rfl⟩) Fw
 intro v H hv hw
 rcases hv with⟨_,h,_⟩|⟨r,q,rfl,h2,h3⟩
 ·exact absurd h (by decide)
 refine C1z ?_ L 0 r q H (by omega) (by omega) h2 hw
 intro r q H hr hw
 rw[AZ A4S Bl]
 obtain⟨v',H',h1,h2,h3,h4⟩:=apt (ie:=An) (i2:=A4) (H:=H) (e:=B9) (sz:=1) (n:=0) (m:=8) (v:= .v (.slice none 0 0)) (src:= .list 8 (CM s.l)) (cs:=[]) (ys:=CM s.l) (.inl ⟨rfl,rfl,rfl⟩) (λK=>B0H) rfl (TH _) (by decide) rfl rfl (by decide) (by decide)
 rw[h1]
 have hr':=h4.keep hw r _ hr (λ⟨_,_,_,h⟩=>by cases h)
 refine C1A (s0:=s) (by rw[Oh]) ?_ L 0 v' q H' (by omega) (by omega) h2 hr' (h4.wf hw)
 intro v q H hv hr hw
 refine C1B (a:=s.l) (b:=(Yh (K3 l 48) s 64).l) ?_ rfl rfl rfl L 0 _ H (by omega) (by omega) (.inl ⟨rfl,rfl,rfl⟩) hv (λs ⟨_,_,_,h⟩=>by cases h) hw
 intro v H hv hw
 rw[C1H] at hv
 exact hK _ _ (λb=>⟨true,A0U hv (by decide) (λx:BitVec 32=>Value.int .u32 (x.toNat:Int)) _ rfl⟩)
end
section
theorem A5O {t:TI} {e m:Nat} {cs:List AV} {x y:Int} (a b:Nat) {K:AV→Am} (hd:t.d= .slice e 1) (hx:x=a) (hy:y=b) (h1:a≤b) (h2:b≤m):Ei t (.list m cs) (some (I x)) (some (I y)) none K=K (.list (b-a) ((cs.drop a).take (b-a))):=by
 subst hx hy
 have e1:Ei t (.list m cs) (some (I a)) (some (I b)) none K=iN (a:Int) λl=>iN (b:Int) λh=>fN m λx=>ck ((true||(some (I (b:Int))).isSome)&&(Nat.ble l h&&(Nat.ble h x&&Nat.ble x m))) (fN (Nat.sub h l) λn=>QQ (Nat.mul n 1) (Da (Nat.mul l 1) cs) λc=>K (.list n c)):=by
  obtain⟨_,_,d,z⟩:=t;simp only at hd;subst hd;rfl
 rw[e1,JM,JM,DX]
 have c:((true||(some (I (b:Int))).isSome)&&(Nat.ble a b&&(Nat.ble b m&&Nat.ble m m)))=true:=by simp only[Bool.true_or,l16,Iv,Xu];omega
 rw[c]
 show fN (Nat.sub b a) (λn=>QQ (Nat.mul n 1) (Da (Nat.mul a 1) cs) λc=>K (.list n c))=_
 rw[DX,Lh,Ct]
 show K (.list (b-a) ((cs.drop (a*1)).take ((b-a)*1)))=_
 rw[l28,l28]
def iv:S8:=⟨1779033703,3144134277,1013904242,2773480762,1359893119,2600822924,528734635,1541459225⟩
def Vd (s:List UInt8):Nat→S8
 |0=>iv
 |i+1=>blk (Vd s i) ((s.drop (64*i)).take 64)
def wb (w:BitVec 32):List UInt8:=[UInt8.ofNat (w.toNat/2^24),UInt8.ofNat (w.toNat/2^16),UInt8.ofNat (w.toNat/2^8),UInt8.ofNat w.toNat]
def Th (l:List (BitVec 32)):Nat→List UInt8
 |0=>[]
 |i+1=>Th l i++wb (l.getD i 0)
theorem Tg (l:List (BitVec 32)) (i:Nat):(Th l i).length=4*i:=by
 induction i with
 |zero=>rfl
 |succ i ih=>simp[Th,ih,wb];omega
def sha (s:List UInt8):List UInt8:=Th (Vd (ext s) ((ext s).length/64)).l 8
variable {L n:Nat} {K:KV} {x:Am}
theorem C3S {H:Hp} {v:AV} {n:Nat} {l:List (BitVec 32)} (h:Rd H v n (CM l)):∃q,Fx true depth v (.list n (CM l)) H q:=by
 rcases h with⟨h0,rfl|⟨r,q,e,rfl,h2⟩⟩
 ·exact⟨_,NM⟩
 ·exact⟨_,VZ (q':=false) h2 (by omega) (J6 (λx:BitVec 32=>Value.int .u32 (x.toNat:Int)) l)⟩
theorem B9V {k:AV→AV→AV→Hp→Am} {s:List UInt8} {m:Nat} {H:Hp} {w3 w4:AV} (hm:s.length=64*m) (hs:s.length<200000000000) (hL:100<L) (hm0:m≠0) (hx:∀j,k (.list 8 (CM (Vd s m).l)) (Sm s) j H=x):
 ∀(f i:Nat) (v:AV),i≤m→m-i<f→Rd H v 8 (CM (Vd s i).l)→(i≠0→v= .list 8 (CM (Vd s i).l))→NB L (rt L (n+2)) K k f v (Sm s) (I ((64*i:Nat):Int)) w3 w4 H=x:=by
 intro f
 induction f with
 |zero=>intro i v _ h;omega
 |succ f ih=>
  intro i v hi hf hv hv2
  rw[A03]
  unfold Rr Aq
  have el:∀K,AM A6 (Sm s) K=K (I (s.length:Int)):= λ_=>id rfl
  rw[el,Dj,DV]
  by_cases h:i<m
  ·rw[if_pos (by simp;omega)]
   simp(disch:=omega) only[Co,Ca]
   have e1:((64*i:Nat):Int)+64=((64*(i+1):Nat):Int):=by omega
   unfold Sm
   rw[e1,A5O (64*i) (64*(i+1)) rfl rfl rfl (by omega) (by omega)]
   have e2:64*(i+1)-64*i=64:=by omega
   have e3:AV.list 64 (((JA s).drop (64*i)).take 64)=Sm ((s.drop (64*i)).take 64):=by
    unfold Sm JA
    have:((s.drop (64*i)).take 64).length=64:=by simp;omega
    rw[this,List.map_take,List.map_drop]
   rw[e2,e3]
   obtain⟨q,hq⟩:=C3S hv
   rw[AZ (B5w (n:=n) (s:=Vd s i) (l:=(s.drop (64*i)).take 64) (by simp;omega) hL) (Ay hq (Ay (by unfold Sm;exact NM) Bl))]
   exact ih (i+1) _ (by omega) (by omega) (YZ (by rw[XA2];rfl)) (λ_=>rfl)
  ·rw[if_neg (by simp;omega)]
   have:i=m:=by omega
   subst this
   rw[hv2 hm0]
   exact hx _
theorem A2V {w:BitVec 32} {K:AV→Am}:EO An AD (W w) K=K (By (UInt8.ofNat w.toNat)):=B3R
theorem C3f {H:Hp} {a b c d:UInt8} (K:KV):Fp AS 1 AD 4 [(0,1,By a),(1,1,By b),(2,1,By c),(3,1,By d)] H K=K (.sl 1 (A7 H) 0 4) ((A7 H,.cells false AS (JA [a,b,c,d]))::H):=by
 have e1:Fp AS 1 AD 4 [(0,1,By a),(1,1,By b),(2,1,By c),(3,1,By d)] H K=Ij H λs=>K (.sl 1 s 0 4) ((s,.cells false AS (JA [a,b,c,d]))::H):=rfl
 rw[e1,Cg]
theorem B6D (l:List UInt8):∀K:List UInt8→Am,fu8 (JA l) K=K l:=by
 induction l with
 |nil=>intro K;rfl
 |cons b l ih=>
  intro K
  have e:fu8 (JA (b::l)) K=iN (b.toNat:Int) λn=>fu8 (JA l) λl=>K (UInt8.ofNat n::l):=rfl
  rw[e,JM,ih]
  simp
theorem A9m {H:Hp} {e n:Nat} {v:AV} {l:List UInt8} {K:AV→Am} (h:B3 H e 1 v n (JA l)):A1b v H K=K (S l):=by
 have e1:A1b v H K=Vb H v λm cs=>Hw cs 0 λk=>ck (Nat.beq k m) (fu8 cs λl=>K (.v (.string ⟨⟨l⟩⟩))):=by
  rcases h with⟨rfl,_⟩|⟨r,q,rfl,_⟩<;>rfl
 have hn:(JA l).length=n:=by
  rcases h with⟨_,rfl,h⟩|⟨r,q,_,_,h⟩
  ·rw[h];rfl
  ·omega
 rw[e1,Sg h,C4,Le,hn,l29]
 exact B6D l _
theorem B9W {k:AV→Hp→Am} {s:S8} {v w1 w2:AV} (hx:∀u H,B3 H AS 1 u 32 (JA (Th s.l 8))→k u H=x):
 ∀(f i:Nat) (u:AV) (H:Hp),i≤8→8-i<f→B3 H AS 1 u (4*i) (JA (Th s.l i))→v= .list 8 (CM s.l)→Wf H→NC L (rt L n) K k f v w1 w2 u (I i) H=x:=by
 intro f
 induction f with
 |zero=>intro i v H _ h;omega
 |succ f ih=>
  intro i u H hi hf hu hv hw
  rw[A04]
  unfold Rs Aq
  rw[Dj,DV]
  by_cases h:i<8
  ·rw[if_pos (by simp;omega)]
   have ra:Rd H v 8 (CM s.l):=by subst hv;exact YZ (by rw[XA2];rfl)
   have ga:(CM s.l).getD i .dk=W (s.l.getD i 0):=JD h
   have ia:= λK=>Ms (t:=A4) ra rfl (z:=i) i rfl h (K:=K)
   have la:= λK=>X8 (t:=An) ra rfl (k:=i) h (K:=K)
   simp only[Ly,ia,la,ga,He (z:=24) (k:=24) rfl (by decide),He (z:=16) (k:=16) rfl (by decide),He (z:=8) (k:=8) rfl (by decide),A2V,C3f,TC]
   generalize hc:[UInt8.ofNat (s.l.getD i 0>>>24).toNat,UInt8.ofNat (s.l.getD i 0>>>16).toNat,UInt8.ofNat (s.l.getD i 0>>>8).toNat,UInt8.ofNat (s.l.getD i 0).toNat]=c
   have hcl:c.length=4:=by rw[←hc];rfl
   have hcw:c=wb (s.l.getD i 0):=by rw[←hc];unfold wb;simp only[BitVec.toNat_ushiftRight,Nat.shiftRight_eq_div_pow]
   have hu1:B3 ((A7 H,.cells false AS (JA c))::H) AS 1 u (4*i) (JA (Th s.l i)):=hu.lat hw (Lat.cons H _ (λ_=>False)) (λ_ _ h=>h)
   have hsrc:=Og (H:=H) (e:=AS) (n:=4) (cs:=JA c) (by rw[MO,hcl])
   obtain⟨v',H',h1,h2,h3,h4⟩:=apt (ie:=AD) (i2:=A6) hu1 (λK=>Sg (K:=K) hsrc) (by rw[MO,hcl]) (A9p _) (by decide) rfl rfl (by show(4*i+4)*1≤_;omega) (by omega)
   rw[h1,TC,Co,Ca (by omega) (by omega),Of]
   refine ih (i+1) _ H' (by omega) (by omega) ?_ hv (h4.wf (BP hw))
   rw[A4b,hcw] at h2
   exact h2
  ·rw[if_neg (by simp;omega)]
   have:i=8:=by omega
   subst this
   exact hx _ _ hu
theorem A9e (s:List UInt8):∃m,(ext s).length=64*m∧64*m≤s.length+73:=by
 refine⟨(ext s).length/64,?_,?_⟩
 ·have:(ext s).length=s.length+1+Vm s.length+8:=by simp[ext,pre];omega
  unfold Vm at this;omega
 ·have:(ext s).length=s.length+1+Vm s.length+8:=by simp[ext,pre];omega
  unfold Vm at this;omega
theorem B7f {s:List UInt8} (hs:s.length<100000000000) (hL:s.length+200<L):CS (rt L (n+3)) Na [S s] (S (sha s)):=by
 intro K hK
 rw[A1X]
 unfold Tq Aq
 simp only[Cm]
 obtain⟨m,hm,hm2⟩:=A9e s
 have hiv:∀K:KV,Fp B9 1 An 8 [(0,1,(AV.v (.int .u32 1779033703))),(1,1,(AV.v (.int .u32 3144134277))),(2,1,(AV.v (.int .u32 1013904242))),(3,1,(AV.v (.int .u32 2773480762))),(4,1,(AV.v (.int .u32 1359893119))),(5,1,(AV.v (.int .u32 2600822924))),(6,1,(AV.v (.int .u32 528734635))),(7,1,(AV.v (.int .u32 1541459225)))] [] K=K (.sl 1 0 0 8) [(0,.cells false B9 (CM iv.l))]:= λK=>C3e (H:=[]) (a:=1779033703) (b:=3144134277) (c:=1013904242) (d:=2773480762) (e:=1359893119) (f:=2600822924) (g:=528734635) (h:=1541459225) K
 rw[hiv,AZ (A76 (n:=n+1) s hs (by omega)) fx1]
 have hm0:m≠0:= λh=>by subst h;simp[ext] at hm
 refine B9V (n:=n) (m:=m) hm (by omega) (by omega) hm0 ?_ L 0 _ (by omega) (by omega) ((Og (H:=[]) rfl).rd (by decide)) (λh=>absurd rfl h)
 intro j
 refine B9W (n:=n+2) (s:=Vd (ext s) m) ?_ L 0 _ _ (by omega) (by omega) (.inl ⟨rfl,rfl,rfl⟩) rfl (BP Fw)
 intro u H hu
 rw[A9m hu]
 have e:Th (Vd (ext s) m).l 8=sha s:=by
  unfold sha
  have:(ext s).length/64=m:=by omega
  rw[this]
 rw[e]
 exact hK _ _ (λb=>⟨false,E1⟩)
end
section
def U (n:Nat):AV:= .v (.int .u64 (n:Int))
theorem B5C {x:BitVec 32} {k:Nat} (h0:1≤k) (h:k<32) {L n:Nat} {H:Hp} {K:KV}:(rt L (n+1)).call Fa [W x,I (-(k:Int))] H K=K (W (I0 x k)) H:=by
 rw[O5]
 unfold GR
 have e1:∀K:AV→Am,(EO Ab BJ (I (-(k:Int))) λv1=>Aj BJ .and v1 (AV.v (.int .u64 31)) λv2=>K v2)=K (U (32-k)):=by
  intro K
  have:k=1∨k=2∨k=3∨k=4∨k=5∨k=6∨k=7∨k=8∨k=9∨k=10∨k=11∨k=12∨k=13∨k=14∨k=15∨k=16∨k=17∨k=18∨k=19∨k=20∨k=21∨k=22∨k=23∨k=24∨k=25∨k=26∨k=27∨k=28∨k=29∨k=30∨k=31:=by omega
  rcases this with rfl|rfl|rfl|rfl|rfl|rfl|rfl|rfl|rfl|rfl|rfl|rfl|rfl|rfl|rfl|rfl|rfl|rfl|rfl|rfl|rfl|rfl|rfl|rfl|rfl|rfl|rfl|rfl|rfl|rfl|rfl<;>rfl
 rw[e1]
 have e2:∀K:AV→Am,Aj BJ .sub (AV.v (.int .u64 32)) (U (32-k)) K=K (U k):=by
  intro K
  have e:Aj BJ .sub (AV.v (.int .u64 32)) (U (32-k)) K=Lg .u64 ((32:Int)-((32-k:Nat):Int)) λz=>K (.v (.int .u64 z)):=rfl
  rw[e,Ga]
  have:(32:Int)-((32-k:Nat):Int)=(k:Int):=by omega
  rw[this,Uz rfl]
  have:(k:Int)%(2^IntKind.u64.bits:Nat)=(k:Int):=Int.emod_eq_of_lt (by omega) (by show(k:Int)<(18446744073709551616:Int);omega)
  rw[this];rfl
 have e3:∀K:AV→Am,Aj An .shl (W x) (U (32-k)) K=K (W (x<<<(32-k))):= λK=>Jh rfl (by omega)
 have e4:∀K:AV→Am,Aj An .shr (W x) (U k) K=K (W (x>>>k)):= λK=>He rfl (by omega)
 rw[e3,e2,e4,Ws]
 have:x<<<(32-k)|||x>>>k=I0 x k:=by unfold I0;exact BitVec.or_comm _ _
 rw[this]
theorem C06 {L n:Nat} {x:BitVec 32} {k:Nat} (h0:1≤k) (h:k<32):PS (rt L (n+1)) Fa [W x,I (-(k:Int))] (W (I0 x k)):=by
 refine CS.ps (λK hK=> ?_) (λH=>C3R)
 rw[B5C h0 h]
 exact hK _ _ (λb=>⟨false,fxq⟩)
def Tx (ks:List Nat):List AV:=ks.map λk:Nat=> .v (.int .i64 (k:Int))
theorem B0r {l:List Nat} {k:Nat} (h:k<l.length):(Tx l).getD k .dk=I (l[k]:Nat):=by
 simp[Tx,Tw,h]
def Pe (x:BitVec 32) (ks:List Nat):BitVec 32:=ks.foldl (λa k=>a^^^I0 x k) 0
theorem B0D {k:Nat} (hk:k<32) {K:AV→Am}:EP .neg (I k) K=K (I (-(k:Int))):=by
 have e:EP .neg (I k) K=Lg .i64 (0-(k:Int)) λz=>K (.v (.int .i64 z)):=rfl
 rw[e,Ga,Int.zero_sub,Ca (by omega) (by omega)]
variable {L n:Nat} {K:KV} {x:Am}
theorem B2X {k:AV→Hp→Am} {w:BitVec 32} {ks:List Nat} {H:Hp} (hk:∀k∈ks,1≤k∧k<32) (hl:ks.length<32) (hx:k (W (Pe w ks)) H=x):
 ∀(f i:Nat),i≤ks.length→ks.length-i<f→JY L (rt L (n+1)) K k f (W w) (W (Pe w (ks.take i))) (.list ks.length (Tx ks)) (I ks.length) (I i) H=x:=by
 intro f
 induction f with
 |zero=>intro i _ h;omega
 |succ f ih=>
  intro i hi hf
  rw[Wt]
  unfold Nx Aq
  rw[Dj,DV]
  by_cases h:i<ks.length
  ·rw[if_pos (by simp;omega)]
   have hki:=hk ks[i] (Qu h)
   rw[T7 rfl (by simp[Tx]) (by omega) (by omega),WB,Qm rfl,B0r h,B0D hki.2,C06 hki.1 hki.2,QX,Co,Ca (by omega) (by omega),Of]
   have e:Pe w (ks.take (i+1))=Pe w (ks.take i)^^^I0 w ks[i]:=by
    unfold Pe
    rw[l04 h,List.foldl_append];rfl
   rw[←e]
   exact ih (i+1) (by omega) (by omega)
  ·rw[if_neg (by simp;omega)]
   have:i=ks.length:=by omega
   subst this
   rw[l06]
   exact hx
theorem B5q {w:BitVec 32} {ks:List Nat} (hk:∀k∈ks,1≤k∧k<32) (hl:ks.length<32) (hL:32<L):CS (rt L (n+2)) Dw [W w,.list ks.length (Tx ks)] (W (Pe w ks)):=by
 intro K hK
 rw[Xq]
 unfold O7 Aq
 simp only[Cm]
 have e:∀K,AM Af (.list ks.length (Tx ks)) K=K (I ks.length):= λK=>id rfl
 rw[e]
 refine B2X hk hl ?_ L 0 (by omega) (by omega)
 exact hK _ _ (λb=>⟨false,E1⟩)
theorem C39 {w:BitVec 32}:Pe w [7,18]^^^w>>>3=sg0 w:=by simp[Pe,sg0]
theorem C38 {w:BitVec 32}:Pe w [17,19]^^^w>>>10=sg1 w:=by simp[Pe,sg1]
def pad (l:List (BitVec 32)) (n:Nat):List (BitVec 32):=l++List.replicate (n-l.length) 0
theorem A8M {l:List (BitVec 32)} {n:Nat} (h:l.length≤n):(pad l n).length=n:=by simp[pad];omega
theorem A8L {l:List (BitVec 32)} {n k:Nat} (w:BitVec 32) (hk:l.length=k) (h:k<n):(CM (pad l n)).set k (W w)=CM (pad (l++[w]) n):=by
 subst hk
 have e:n-l.length=(n-(l.length+1))+1:=by omega
 simp[pad,CM,e,l17,List.set_append_right]
theorem B2O {l:List (BitVec 32)} {n k:Nat} (h:k<l.length):(CM (pad l n)).getD k .dk=W (l.getD k 0):=by
 simp[pad,CM,Tw,h,List.getElem?_append]
theorem B2P {l:List (BitVec 32)} {n:Nat} (h:l.length=n):pad l n=l:=by simp[pad,h]
theorem B7p (a b:Nat) (K:AV→Am):QZ 1 Ab 2 [(0,1,I a),(1,1,I b)] K=K (.list 2 (Tx [a,b])):=id rfl
theorem B7o (a b c:Nat) (K:AV→Am):QZ 1 Ab 3 [(0,1,I a),(1,1,I b),(2,1,I c)] K=K (.list 3 (Tx [a,b,c])):=id rfl
theorem A3J {w:BitVec 32} {ks:List Nat} {H:Hp} {K:AV→Am} (hk:∀k∈ks,1≤k∧k<32) (hl:ks.length<32) (hL:32<L):Ah (rt L (n+2)) Dw [W w,.list ks.length (Tx ks)] H K=K (W (Pe w ks)):=
 AZ (B5q hk hl hL) (Ay E1 (Ay NM Bl))
theorem C00 {k:AV→AV→AV→Hp→Am} {l:List UInt8} {r:Nat} {w:AV} (hl:l.length=64) (hx:∀q H,Aw H r=some (.cells q Ck (CM (pad (w16 l 16) 64)))→Wf H→k (Sm l) (.ptr r 0 0) (I 16) H=x):
 ∀(f i:Nat) (q:Bool) (H:Hp),i≤16→16-i<f→Aw H r=some (.cells q Ck (CM (pad (w16 l i) 64)))→Wf H→Ih L (rt L n) K k f (Sm l) (.ptr r 0 0) w (I i) H=x:=by
 intro f
 induction f with
 |zero=>intro i q H _ h;omega
 |succ f ih=>
  intro i q H hi hf hr hw
  rw[TA]
  unfold Kt Aq
  rw[Dj,DV]
  by_cases h:i<16
  ·rw[if_pos (by simp;omega)]
   simp(disch:=omega) only[Ni,Co,Ca,Ly,B3N,Qm (t:=AD) rfl,A2W,Jh (z:=24) (k:=24) rfl (by decide),Jh (z:=16) (k:=16) rfl (by decide),Jh (z:=8) (k:=8) rfl (by decide),Ws]
   have e0:((4:Int)*(i:Int)).toNat=4*i:=by omega
   have e1:((4:Int)*(i:Int)+1).toNat=4*i+1:=by omega
   have e2:((4:Int)*(i:Int)+2).toNat=4*i+2:=by omega
   have e3:((4:Int)*(i:Int)+3).toNat=4*i+3:=by omega
   rw[e0,e1,e2,e3,A4A,Dx i rfl rfl (by omega),Ly,E9 hr (by rw[XA2,A8M (by rw[Vu];omega)];omega) rfl rfl rfl,TC,A8L _ (Vu l i) (by omega),←A4K,Of]
   exact ih (i+1) q _ (by omega) (by omega) (A8 hr) (C7 hw)
  ·rw[if_neg (by simp;omega)]
   have:i=16:=by omega
   subst this
   exact hx _ _ hr hw
theorem C01 {k:AV→Hp→Am} {l:List UInt8} {r:Nat} {w0 w1:AV} (hL:100<L) (hx:∀q H,Aw H r=some (.cells q Ck (CM (K3 l 48)))→Wf H→k (.ptr r 0 0) H=x):
 ∀(f i:Nat) (q:Bool) (H:Hp),i≤48→48-i<f→Aw H r=some (.cells q Ck (CM (pad (K3 l i) 64)))→Wf H→Ii L (rt L (n+2)) K k f w0 (.ptr r 0 0) (I ((16+i:Nat):Int)) w1 H=x:=by
 intro f
 induction f with
 |zero=>intro i q H _ h;omega
 |succ f ih=>
  intro i q H hi hf hr hw
  rw[TB]
  unfold Ku Aq
  rw[Dj,DV]
  have hl:=Oh l i
  by_cases h:i<48
  ·rw[if_pos (by simp;omega)]
   have hp:(CM (pad (K3 l i) 64)).length=64:=by rw[XA2,A8M (by rw[hl];omega)]
   have e1:((16+i:Nat):Int)-15=((i+1:Nat):Int):=by omega
   have e2:((16+i:Nat):Int)-2=((i+14:Nat):Int):=by omega
   have e3:((16+i:Nat):Int)-16=((i:Nat):Int):=by omega
   have e4:((16+i:Nat):Int)-7=((i+9:Nat):Int):=by omega
   have ia:= λ(k:Nat) hk K=>Dx (t:=BE) (s:=r) (z:=(k:Int)) k (K:=K) rfl rfl hk
   have la:= λk hk K=>AW (t:=An) (p:=k) (K:=K) rfl hr hk
   have gg:= λk hk=>B2O (n:=64) (l:=K3 l i) (k:=k) hk
   simp(disch:=omega) only[GN,Ca,Ly,e1,e2,e3,e4,ia,la,gg]
   have i1:∀K,QZ 1 Ab 2 [(0,1,.v (.int .i64 7)),(1,1,.v (.int .i64 18))] K=K (.list 2 (Tx [7,18])):= λK=>B7p 7 18 K
   have i2:∀K,QZ 1 Ab 2 [(0,1,.v (.int .i64 17)),(1,1,.v (.int .i64 19))] K=K (.list 2 (Tx [17,19])):= λK=>B7p 17 19 K
   have m1:∀w K,Ah (rt L (n+2)) Dw [W w,.list 2 (Tx [7,18])] H K=K (W (Pe w [7,18])):= λw K=>A3J (ks:=[7,18]) (by decide) (by decide) (by omega)
   have m2:∀w K,Ah (rt L (n+2)) Dw [W w,.list 2 (Tx [17,19])] H K=K (W (Pe w [17,19])):= λw K=>A3J (ks:=[17,19]) (by decide) (by decide) (by omega)
   simp(disch:=omega) only[Ly,gg,i1,i2,m1,m2,He (z:=3) (k:=3) rfl (by decide),He (z:=10) (k:=10) rfl (by decide),QX,Mt,C39,C38]
   rw[E9 hr (by omega) rfl rfl rfl,TC,A8L _ hl (by omega),Co,Ca (by omega) (by omega),Of]
   exact ih (i+1) q _ (by omega) (by omega) (A8 hr) (C7 hw)
  ·rw[if_neg (by simp;omega)]
   have:i=48:=by omega
   subst this
   rw[B2P (by rw[Oh])] at hr
   exact hx _ _ hr hw
def arr (l:List (BitVec 32)):AV:= .agg (CM l)
theorem A75 {l:List UInt8} (hl:l.length=64) (hL:100<L):CS (rt L (n+3)) Lv [Sm l] (arr (K3 l 48)):=by
 intro K hK
 rw[Ui]
 unfold Lc Aq
 simp only[Cm]
 rw[Ba (cs:=CM (pad (w16 l 0) 64)) rfl]
 refine C00 hl ?_ L 0 true _ (by omega) (by omega) (A0 (by simp)) (BP Fw)
 intro q H hr hw
 refine C01 (n:=n) (l:=l) hL ?_ L 0 q H (by omega) (by omega) hr hw
 intro q H hr hw
 have hl:(CM (K3 l 48)).length=64:=by rw[XA2,Oh]
 rw[Bf rfl hl.symm hr,B0 hr rfl hl.symm (TH _),Bf rfl hl.symm (A8 hr)]
 exact hK _ _ (λb=>⟨false,OH (J6 (λx:BitVec 32=>Value.int .u32 (x.toNat:Int)) _)⟩)
end
end Go.Abs
end
