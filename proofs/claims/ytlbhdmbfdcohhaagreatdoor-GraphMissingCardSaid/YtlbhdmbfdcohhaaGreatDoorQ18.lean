import Derived.Test.YtlbhdmbfdcohhaaGreatDoorQ10
import Derived.Test.YtlbhdmbfdcohhaaGreatDoorQ15
import Derived.Test.YtlbhdmbfdcohhaaGreatDoorQ17
set_option linter.all false
set_option maxHeartbeats 100000000
noncomputable section
namespace Go.Abs
open Go.RowKit Go.Proofs
set_option maxRecDepth 100000
theorem C22 {t t':TI} {K:AV→Al} {l:List UInt8} {i:Nat} (hd:t.d= .string) (h:i<l.length):SM t t' (S l) (I i) K=K (By l[i]):=by
 have e:SM t t' (S l) (I i) K=iN (i:Int) λn=>B8w (Dg n l) K:=by
  obtain⟨a,b,d,z⟩:=t;simp only at hd;subst hd;rfl
 rw[e,J6,Ct,l11 h]
 show fN l[i].toNat (λn=>K (.v (.int .u8 (.ofNat n))))=_
 rw[DL];rfl
theorem MS {t:TI} {K:AV→Al} {l:List UInt8} (hd:t.d= .string):AN t (S l) K=K (I l.length):=by
 have:AN t (S l) K=Ia l 0 λn=>K (.v (.int .i64 (.ofNat n))):=by
  obtain⟨a,b,d,z⟩:=t;simp only at hd;subst hd;rfl
 rw[this,CA,K1];rfl
theorem I5 {H:Hp} {e sz n:Nat} {v:AV} {cs:List AV} {t:TI} {e' z':Nat} {K:AV→Al} (hd:t.d= .slice e' z') (h:B1 H e sz v n cs):AN t v K=K (I n):=by
 obtain⟨a,b,d,z⟩:=t
 simp only at hd
 subst hd
 rcases h with⟨rfl,rfl,_⟩|⟨r,q,rfl,_⟩<;>rfl
theorem B4U {H:Hp} {v:AV} {l:List UInt8} (b:UInt8) (h:B1 H AS 1 v l.length (Ke l)) (w:Wf H) (hn:l.length<1000000000000):
 ∃v' H',(∀K:KV,(Ft AS 1 AD 1 [(0,1,By b)] H λv1 H1=>Ea AS 1 AD A8 v v1 H1 K)=K v' H')∧B1 H' AS 1 v' (l++[b]).length (Ke (l++[b]))∧Wf H'∧A3 H≤A3 H'∧(∀s x,Au H s=some x→¬Bb v s→Au H' s=some x)∧(∀s,Bb v' s→A3 H≤s):=by
 have hv1:B1 ((A3 H,.cells false AS [By b])::H) AS 1 v l.length (Ke l):=h.lat w (Lat.cons H _ (λ_=>False)) (λ_ _ h=>h)
 have hsrc:=OJ (H:=H) (e:=AS) (n:=1) (cs:=[By b]) rfl
 obtain⟨v',H',h1,h2,h3,h4⟩:=apt (ie:=AD) (i2:=A8) hv1 (λK=>SK (K:=K) hsrc) rfl rfl (by decide) rfl rfl (by show(l.length+1)*1≤_;omega) (by omega)
 have h5:=(Lat.cons H (.cells false AS [By b]) (Bb v)).trans h4 (R:=Bb v) (λ_ _ h=>h) (λ_ _ h=>h)
 refine⟨v',H',λK=> ?_,by rw[FK,←A4V];exact h2,h5.wf w,h5.nx,λs x hs hn=>h5.keep w s x hs hn,λs hs=> ?_⟩
 ·rw[A8W (z:=By 0) (λ_=>rfl) (λ_=>rfl) rfl]
  exact h1 K
 ·rw[h3 s hs];exact l1p _
def VN (n:Nat):Nat:=(119-n%64)%64
def V2 (n i:Nat):UInt8:=UInt8.ofNat (8*n/2^(8*i))
def pre (s:List UInt8):List UInt8:=s++[128]++List.replicate (VN s.length) 0
def ext (s:List UInt8):List UInt8:=pre s++[V2 s.length 7,V2 s.length 6,V2 s.length 5,V2 s.length 4,V2 s.length 3,V2 s.length 2,V2 s.length 1,V2 s.length 0]
theorem C1S {L:Nat} {R:Rt} {K:KV} {k:AV→AV→AV→AV→Hp→Al} {s:List UInt8} {x:Al} {w:AV} (hs:s.length<100000000000) (hx:∀v H,B1 H AS 1 v s.length (Ke s)→Wf H→k (S s) v (I s.length) w H=x):
 ∀(f i:Nat) (v:AV) (H:Hp),i≤s.length→s.length-i<f→B1 H AS 1 v (s.take i).length (Ke (s.take i))→Wf H→Jl L R K k f (S s) v (I i) w H=x:=by
 intro f
 induction f with
 |zero=>intro i v H _ h;omega
 |succ f ih=>
  intro i v H hi hf hv hw
  rw[UC]
  unfold Lr Ar
  rw[MS rfl,Dx,Er]
  by_cases h:i<s.length
  ·rw[if_pos (by simpa using h)]
   rw[C22 rfl h]
   obtain⟨v',H',h1,h2,h3,h4,h5,_⟩:=B4U s[i] hv hw (by simp;omega)
   rw[h1]
   simp(disch:=omega) only[Cv,Ca]
   refine ih (i+1) v' H' (by omega) (by omega) ?_ h3
   rw[l04 h]
   exact h2
  ·rw[if_neg (by simpa using h)]
   have:i=s.length:=by omega
   subst this
   exact hx _ _ (by simpa using hv) hw
theorem A1R {j:TI} {K:AV→Al} {a k:Nat} (hk:k≤64):Ak j .shr (I a) (I k) K=K (I (a/2^k:Nat)):=by
 have:Ak j .shr (I a) (I k) K=ck (Zu 0 (k:Int)) (fI ((a:Int).fdiv (2^(min (k:Int).toNat 64))) λz=>K (.v (.int .i64 z))):=rfl
 rw[this,R4]
 have h1:Zu 0 (k:Int)=true:=by rw[J5];simp
 have h2:(a:Int).fdiv (2^(min (k:Int).toNat 64))=((a/2^k:Nat):Int):=by
  rw[Xj,l1x hk]
  have:((2:Int)^k)=((2^k:Nat):Int):=by simp
  rw[this,Int.fdiv_eq_ediv_of_nonneg _ (Int.natCast_nonneg _)]
  exact(Int.natCast_ediv _ _).symm
 rw[h1,h2];rfl
theorem A6O {t t':TI} {K:AV→Al} {m:Nat} (hd:t'.d= .int .u8):Fl t t' (I m) K=K (By (UInt8.ofNat m)):=by
 have:Fl t t' (I m) K=LF .u8 (m:Int) λz=>K (.v (.int .u8 z)):=by
  obtain⟨a,b,d,z⟩:=t';simp only at hd;subst hd;rfl
 rw[this,G9,Vh rfl]
 have:(m:Int)%(2^IntKind.u8.bits:Nat)=((UInt8.ofNat m).toNat:Int):=by
  rw[UInt8.toNat_ofNat']
  exact(Int.natCast_emod _ _).symm
 rw[this]
def Tu (n:Nat):Nat→List UInt8
 |0=>[]
 |i+1=>V2 n i::Tu n i
theorem A32 (n i:Nat):(Tu n i).length=i:=by
 induction i with
 |zero=>rfl
 |succ i ih=>simp[Tu,ih]
theorem C1T {L:Nat} {R:Rt} {K:KV} {k:AV→AV→AV→Hp→Al} {s:List UInt8} {x:Al} {w1 w2 w3:AV} (hs:s.length<100000000000) (hx:∀v H,B1 H AS 1 v (pre s).length (Ke (pre s))→Wf H→k w1 v w2 H=x):
 ∀(f j:Nat) (v:AV) (H:Hp),j≤VN s.length→VN s.length-j<f→B1 H AS 1 v (s++[128]++List.replicate j 0).length (Ke (s++[128]++List.replicate j 0))→Wf H→Jm L R K k f w1 v w2 w3 H=x:=by
 intro f
 induction f with
 |zero=>intro j v H _ h;omega
 |succ f ih=>
  intro j v H hj hf hv hw
  rw[UE]
  unfold Lt Ar
  have hlen:(s++[128]++List.replicate j (0:UInt8)).length=s.length+1+j:=by simp;omega
  have hz:VN s.length<64:=by unfold VN;omega
  rw[I5 rfl hv,Ud (by decide),Hu,Er]
  have hm:((s++[128]++List.replicate j (0:UInt8)).length:Int).tmod 64=(((s.length+1+j)%64:Nat):Int):=by rw[hlen];exact(Int.ofNat_tmod _ _).symm
  rw[hm]
  by_cases h:j=VN s.length
  ·subst h
   have:(s.length+1+VN s.length)%64=56:=by unfold VN;omega
   rw[this]
   simp only[l14,decide_eq_false_iff_not]
   rw[if_neg (by simp)]
   exact hx _ _ hv hw
  ·have hne:(s.length+1+j)%64≠56:=by unfold VN at h hj;omega
   rw[if_pos (by simp;omega)]
   obtain⟨v',H',h1,h2,h3,h4,h5,_⟩:=B4U (0:UInt8) hv hw (by omega)
   have e:(AV.v (.int .u8 0))=By 0:=rfl
   rw[e]
   rw[h1]
   refine ih (j+1) v' H' (by omega) (by omega) ?_ h3
   rw[List.replicate_succ',←l0k]
   exact h2
theorem C1U {L:Nat} {R:Rt} {K:KV} {k:AV→Hp→Al} {s:List UInt8} {x:Al} {w:AV} (hs:s.length<100000000000) (hx:∀v H,B1 H AS 1 v (pre s++Tu s.length 8).length (Ke (pre s++Tu s.length 8))→Wf H→k v H=x):
 ∀(f i:Nat) (l:List UInt8) (v:AV) (H:Hp),i≤8→i<f→l++Tu s.length i=pre s++Tu s.length 8→B1 H AS 1 v l.length (Ke l)→Wf H→He L R K k f (S s) v w (I ((i:Int)-1)) H=x:=by
 have hz:VN s.length<64:=by unfold VN;omega
 intro f
 induction f with
 |zero=>intro i l v H _ h;omega
 |succ f ih=>
  intro i l v H hi hf hl hv hw
  have hll:l.length≤s.length+1+64+8:=by
   have:=congrArg List.length hl
   simp[pre,A32] at this
   omega
  rw[UF]
  unfold Lu Ar
  rw[LV,Er]
  cases i with
  |zero=>
   rw[if_neg (by simp)]
   have:l=pre s++Tu s.length 8:=by simpa [Tu] using hl
   subst this
   exact hx _ _ hv hw
  |succ i=>
   rw[if_pos (by simp)]
   have e1:((i+1:Nat):Int)-1=(i:Int):=by omega
   rw[e1]
   rw[MS rfl,NK,NK,Ca (by omega) (by omega),Ca (by omega) (by omega)]
   have e2:(8:Int)*(s.length:Int)=((8*s.length:Nat):Int):=by omega
   have e3:(8:Int)*(i:Int)=((8*i:Nat):Int):=by omega
   rw[e2,e3,A1R (by omega)]
   rw[A6O rfl]
   obtain⟨v',H',h1,h2,h3,h4,h5,_⟩:=B4U (V2 s.length i) hv hw (by omega)
   simp(disch:=omega) only[GE,Ca]
   have h1:=h1 (λv37 H36=>He L R K k f (S s) v37 w (I ((i:Int)-1)) H36)
   unfold V2 at h1
   rw[h1]
   refine ih i (l++[V2 s.length i]) v' H' (by omega) (by omega) ?_ h2 h3
   rw[l0k]
   exact hl
def SQ (l:List UInt8):AV:= .list l.length (Ke l)
theorem A1z {b:Bool} {H:Hp} {v:AV} {e n:Nat} {cs:List AV} (h:B1 H e 1 v n cs) (hn:n≠0) {α:Type} (f:α→Value) (l:List α) (hc:cs=l.map λx=> .v (f x)):Fx b depth v (.list n cs) H true:=by
 subst hc
 rcases h with⟨_,h2,_⟩|⟨r,q,rfl,h2,h3⟩
 ·exact absurd h2 hn
 ·exact UZ (q':=false) h2 h3 (Kb f l)
theorem C1M {b:Bool} {H:Hp} {v:AV} {l:List UInt8} (h:B1 H AS 1 v l.length (Ke l)) (hne:l≠[]):Fx b depth v (SQ l) H true:=
 A1z h (λh=>hne (l1s h)) (λb:UInt8=>Value.int .u8 (b.toNat:Int)) l rfl
theorem fx1 {H:Hp} {x:Value}:PH true depth [.v x] [.v x] H false:=A0 (q:=false) (q':=false) E5 Bp
theorem A7V {L n:Nat} (s:List UInt8) (hs:s.length<100000000000) (hL:s.length+100<L):CS (rt L (n+1)) MO [S s] (SQ (ext s)):=by
 intro K hK
 rw[Vw]
 unfold Mz Ar
 simp only[Cl]
 refine C1S hs ?_ L 0 _ [] (by omega) (by omega) (.inl ⟨rfl,rfl,rfl⟩) F3
 intro v H hv hw
 obtain⟨v',H',h1,h2,h3,h4,h5,_⟩:=B4U (128:UInt8) hv hw (by omega)
 have e:(AV.v (.int .u8 128))=By 128:=rfl
 rw[e,h1]
 refine C1T hs ?_ L 0 v' H' (by omega) (by have:VN s.length<64:=(by unfold VN;omega);omega) (by simpa using h2) h3
 intro v H hv hw
 refine C1U hs ?_ L 8 (pre s) v H (by omega) (by omega) rfl hv hw
 intro v H hv hw
 exact hK _ _ (λb=>⟨true,C1M (l:=ext s) hv (by simp[ext])⟩)
def IQ (x:BitVec 32) (k:Nat):BitVec 32:=(x>>>k)|||(x<<<(32-k))
theorem C4G {H:Hp} {x y:Value}:PH true depth [.v x,.v y] [.v x,.v y] H false:=A0 (q:=false) (q':=false) E5 fx1
theorem fxq {b:Bool} {x:Value} {H:Hp}:Fx b depth (.v x) (.v x) H false:=E5
theorem B0A {L n:Nat} (x:BitVec 32) (k:Nat) (hk:k≤32):PS (rt L (n+1)) C5 [W x,I k] (W (IQ x k)):=by
 refine CS.ps (λK hK=> ?_) (λH=>C4G)
 rw[Wt]
 unfold NR Ar
 have h32:((32:Int)-(k:Int))=((32-k:Nat):Int):=by omega
 simp(disch:=omega) only[HJ rfl hk,B4A,GE,Ca,h32,JB rfl (show 32-k≤32 by omega),WV]
 exact hK _ _ (λb=>⟨false,fxq⟩)
def kk:List (BitVec 32):=[0x428a2f98,0x71374491,0xb5c0fbcf,0xe9b5dba5,0x3956c25b,0x59f111f1,0x923f82a4,0xab1c5ed5,
 0xd807aa98,0x12835b01,0x243185be,0x550c7dc3,0x72be5d74,0x80deb1fe,0x9bdc06a7,0xc19bf174,
 0xe49b69c1,0xefbe4786,0x0fc19dc6,0x240ca1cc,0x2de92c6f,0x4a7484aa,0x5cb0a9dc,0x76f988da,
 0x983e5152,0xa831c66d,0xb00327c8,0xbf597fc7,0xc6e00bf3,0xd5a79147,0x06ca6351,0x14292967,
 0x27b70a85,0x2e1b2138,0x4d2c6dfc,0x53380d13,0x650a7354,0x766a0abb,0x81c2c92e,0x92722c85,
 0xa2bfe8a1,0xa81a664b,0xc24b8b70,0xc76c51a3,0xd192e819,0xd6990624,0xf40e3585,0x106aa070,
 0x19a4c116,0x1e376c08,0x2748774c,0x34b0bcb5,0x391c0cb3,0x4ed8aa4a,0x5b9cca4f,0x682e6ff3,
 0x748f82ee,0x78a5636f,0x84c87814,0x8cc70208,0x90befffa,0xa4506ceb,0xbef9a3f7,0xc67178f2]
theorem A8o:kk.length=64:=rfl
theorem A5K {L n:Nat}:CS (rt L (n+1)) LN [] (.list 64 (CZ kk)):=by
 intro K hK
 rw[UG]
 have e:L3 L (rt L n) [] K=K (.sl 1 0 0 64) [(0,.cells false BB (CZ kk))]:=by kernel_rfl
 rw[e]
 exact hK _ _ (λb=>⟨true,A1z (e:=BB) (.inr ⟨0,false,rfl,rfl,rfl⟩) (by decide) (λx:BitVec 32=>Value.int .u32 (x.toNat:Int)) kk rfl⟩)
theorem B4I {l:List UInt8} {k:Nat} (h:k<l.length):(Ke l).getD k .dk=By (l.getD k 0):=by
 simp[Ke,Th,h]
theorem Kg {l:List (BitVec 32)} {k:Nat} (h:k<l.length):(CZ l).getD k .dk=W (l.getD k 0):=by
 simp[CZ,Th,h]
theorem FG (l:List (BitVec 32)):(CZ l).length=l.length:=by simp[CZ]
theorem B5l (a b:List (BitVec 32)):CZ a++CZ b=CZ (a++b):=by simp[CZ]
theorem Ul (l:List (BitVec 32)):(CZ l).all AV.one=true:=by simp[CZ,AV.one,Value.oneCell']
theorem Ub {t:TI} {e n:Nat} {cs:List AV} {z:Int} {K:AV→Al} (hd:t.d= .slice e 1) (hc:cs.length=n) (h0:0≤z) (h1:z<n):Bv t (.list n cs) (I z) K=K (.iptr [cs.getD z.toNat .dk]):=by
 obtain⟨m,rfl⟩:=Int.eq_ofNat_of_zero_le h0
 have e1:Bv t (.list n cs) (I (m:Int)) K=iN (m:Int) λm=>ck (Nat.blt m n) (Po 1 (Dg (Nat.mul m 1) cs) λc=>K (.iptr c)):=by
  obtain⟨a,b,d,z⟩:=t;simp only at hd;subst hd;rfl
 have hm:m<n:=by omega
 rw[e1,J6,Ct,Kt]
 have:Nat.blt m n=true:=by rw[TU];exact hm
 rw[this]
 have e2:Nat.mul m 1=m:=l28 m
 have e3:(cs.drop m).take 1=[cs.getD m .dk]:=by
  have hlt:m<cs.length:=by omega
  rw[l11 hlt,Th,Ka hlt];rfl
 rw[e2,e3];rfl
theorem A4P {t:TI} {e r n:Nat} {z:Int} {K:AV→Al} (hd:t.d= .slice e 1) (h0:0≤z) (h1:z<n):Bv t (.sl 1 r 0 n) (I z) K=K (.ptr r z.toNat 0):=by
 obtain⟨m,rfl⟩:=Int.eq_ofNat_of_zero_le h0
 have e1:Bv t (.sl 1 r 0 n) (I (m:Int)) K=iN (m:Int) λm=>ck (Nat.blt m n) (fN (Nat.add 0 (Nat.mul m 1)) λp=>K (.ptr r p 0)):=by
  obtain⟨a,b,d,z⟩:=t;simp only at hd;subst hd;rfl
 have hm:m<n:=by omega
 rw[e1,J6,DL]
 have:Nat.blt m n=true:=by rw[TU];exact hm
 have e2:Nat.add 0 (Nat.mul m 1)=m:=by show 0+m*1=m;omega
 rw[this,e2];rfl
theorem QG {t:TI} {H:Hp} {c:AV} {K:AV→Al} (h:t.d.isAgg=false):Aq t (.iptr [c]) H K=K c:=by
 have:Aq t (.iptr [c]) H K=@Bool.rec (λ_=>Al) (K c) (FU t.size [c] λc=>K (.agg c)) t.d.isAgg:=rfl
 rw[this,h]
theorem B4p {t:TI} {H:Hp} {r p e:Nat} {q:Bool} {cs:List AV} {K:AV→Al} (h:t.d.isAgg=false) (hl:Au H r=some (.cells q e cs)) (hp:p<cs.length):Aq t (.ptr r p 0) H K=K (cs.getD p .dk):=by
 have:Aq t (.ptr r p 0) H K=Ks H r λx=>Ma x λ_ cs=>@Bool.rec (λ_=>Al) (hdK (Dg (Nat.add p 0) cs) K) (FU t.size (Dg (Nat.add p 0) cs) λc=>K (.agg c)) t.d.isAgg:=rfl
 rw[this,h,Cm hl]
 show hdK (Dg p cs) K=_
 rw[Ct,l11 hp,Th,Ka hp];rfl
theorem B4r {l:List UInt8} {z:Int} {K:AV→Al} (h0:0≤z) (h1:z<l.length):Bv A8 (SQ l) (I z) K=K (.iptr [By (l.getD z.toNat 0)]):=by
 unfold SQ
 rw[Ub rfl (Ns l) h0 h1,B4I (by omega)]
theorem C4W {r n:Nat} {z:Int} {K:AV→Al} (h0:0≤z) (h1:z<n):Bv A6 (.sl 1 r 0 n) (I z) K=K (.ptr r z.toNat 0):=A4P rfl h0 h1
theorem C4V {H:Hp} {r p e:Nat} {q:Bool} {l:List (BitVec 32)} {K:AV→Al} (hl:Au H r=some (.cells q e (CZ l))) (hp:p<l.length):Aq An (.ptr r p 0) H K=K (W (l.getD p 0)):=by
 rw[B4p rfl hl (by rw[FG];exact hp),Kg hp]
theorem A3B {b:UInt8} {K:AV→Al}:Fl AD An (By b) K=K (W (BitVec.ofNat 32 b.toNat)):=B4v
theorem C5c {H:Hp} {v:AV} {l:List (BitVec 32)} (b:BitVec 32) (h:B1 H BB 1 v l.length (CZ l)) (w:Wf H) (hn:l.length<1000000000000):
 ∃r q H',(∀K:KV,(DK (Ft BB 1 An 1 [(0,1,W b)] H λv H=>some (v,H)) λv1 H1=>DK (Ea BB 1 An A6 v v1 H1 λv H=>some (v,H)) K)=K (.sl 1 r 0 (l.length+1)) H')∧Au H' r=some (.cells q BB (CZ (l++[b])))∧Wf H'∧A3 H≤A3 H'∧(∀s x,Au H s=some x→¬Bb v s→Au H' s=some x)∧A3 H≤r:=by
 have hv1:B1 ((A3 H,.cells false BB [W b])::H) BB 1 v l.length (CZ l):=h.lat w (Lat.cons H _ (λ_=>False)) (λ_ _ h=>h)
 have hsrc:=OJ (H:=H) (e:=BB) (n:=1) (cs:=[W b]) rfl
 obtain⟨v',H',h1,h2,h3,h4⟩:=apt (ie:=An) (i2:=A6) hv1 (λK=>SK (K:=K) hsrc) rfl rfl (by decide) rfl rfl (by show(l.length+1)*4≤_;omega) (by omega)
 have h5:=(Lat.cons H (.cells false BB [W b]) (Bb v)).trans h4 (R:=Bb v) (λ_ _ h=>h) (λ_ _ h=>h)
 rcases h2 with⟨_,h6,_⟩|⟨r,q,rfl,h6,h7⟩
 ·omega
 ·refine⟨r,q,H',λK=> ?_,by rw[←B5l];exact h6,h5.wf w,h5.nx,λs x hs hn=>h5.keep w s x hs hn,?_⟩
  ·rw[A8W (z:=W 0) (λ_=>rfl) (λ_=>rfl) rfl,A8S,h1 (λv H=>some (v,H)),A8S]
  ·rw[h3 r ⟨_,_,_,rfl⟩];exact l1p _
section
theorem LW {v:AV} {H:Hp} {K:AV→Al}:Aj (some (v,H)) K=K v:=B4A
theorem Ug {v:AV} {H:Hp} {K:KV}:DK (some (v,H)) K=K v H:=A8S
theorem UW {L n:Nat} {x:BitVec 32} {z:Int} (k:Nat) (h0:z=(k:Int)) (h:k≤32) {H:Hp} {K:AV→Al}:Ah (rt L (n+1)) C5 [W x,I z] H K=K (W (IQ x k)):=by
 subst h0
 exact B0A x k (by omega) H K
theorem A94 {H:Hp} {v:AV} {l:List (BitVec 32)} {n:Nat} (b:BitVec 32) (hl:l.length=n) (h:B1 H BB 1 v n (CZ l)) (w:Wf H) (hn:n<1000000000000):
 ∃r q H',(∀K:KV,(DK (Ft BB 1 An 1 [(0,1,W b)] H λv H=>some (v,H)) λv1 H1=>DK (Ea BB 1 An A6 v v1 H1 λv H=>some (v,H)) K)=K (.sl 1 r 0 (n+1)) H')∧Au H' r=some (.cells q BB (CZ (l++[b])))∧Wf H'∧A3 H≤A3 H'∧(∀s x,Au H s=some x→¬Bb v s→Au H' s=some x)∧A3 H≤r:=by
 subst hl;exact C5c b h w hn
def bw (l:List UInt8) (i:Nat):BitVec 32:=BitVec.ofNat 32 (l.getD i 0).toNat
def A9g (l:List UInt8) (i:Nat):BitVec 32:=bw l (4*i)<<<24|||bw l (4*i+1)<<<16|||bw l (4*i+2)<<<8|||bw l (4*i+3)
def w16 (l:List UInt8) (n:Nat):List (BitVec 32):=(List.range n).map (A9g l)
def sg0 (x:BitVec 32):BitVec 32:=IQ x 7^^^IQ x 18^^^x>>>3
def sg1 (x:BitVec 32):BitVec 32:=IQ x 17^^^IQ x 19^^^x>>>10
def Lc (l:List UInt8):Nat→List (BitVec 32)
 |0=>w16 l 16
 |i+1=>Lc l i++[(Lc l i).getD i 0+sg0 ((Lc l i).getD (i+1) 0)+(Lc l i).getD (i+9) 0+sg1 ((Lc l i).getD (i+14) 0)]
theorem VV (l:List UInt8) (n:Nat):(w16 l n).length=n:=by simp[w16]
theorem OK (l:List UInt8) (i:Nat):(Lc l i).length=16+i:=by
 induction i with
 |zero=>simp[Lc,VV]
 |succ i ih=>simp[Lc,ih];omega
structure S8 where
 a:BitVec 32
 b:BitVec 32
 c:BitVec 32
 d:BitVec 32
 e:BitVec 32
 f:BitVec 32
 g:BitVec 32
 h:BitVec 32
def S8.l (s:S8):List (BitVec 32):=[s.a,s.b,s.c,s.d,s.e,s.f,s.g,s.h]
def rt1 (s:S8) (k w:BitVec 32):BitVec 32:=s.h+(IQ s.e 6^^^IQ s.e 11^^^IQ s.e 25)+((s.e&&&s.f)^^^(~~~s.e&&&s.g))+k+w
def rt2 (s:S8):BitVec 32:=(IQ s.a 2^^^IQ s.a 13^^^IQ s.a 22)+((s.a&&&s.b)^^^(s.a&&&s.c)^^^(s.b&&&s.c))
def rnd (s:S8) (k w:BitVec 32):S8:=⟨rt1 s k w+rt2 s,s.a,s.b,s.c,s.d+rt1 s k w,s.e,s.f,s.g⟩
def YK (ws:List (BitVec 32)) (s:S8):Nat→S8
 |0=>s
 |i+1=>rnd (YK ws s i) (kk.getD i 0) (ws.getD i 0)
def C5d (s t:S8):S8:=⟨s.a+t.a,s.b+t.b,s.c+t.c,s.d+t.d,s.e+t.e,s.f+t.f,s.g+t.g,s.h+t.h⟩
def blk (s:S8) (l:List UInt8):S8:=C5d s (YK (Lc l 48) s 64)
variable {L n:Nat} {K:KV} {x:Al}
theorem A5p (l:List UInt8) (i:Nat):BitVec.ofNat 32 (l.getD (4*i) 0).toNat<<<24|||BitVec.ofNat 32 (l.getD (4*i+1) 0).toNat<<<16|||BitVec.ofNat 32 (l.getD (4*i+2) 0).toNat<<<8|||BitVec.ofNat 32 (l.getD (4*i+3) 0).toNat=A9g l i:=rfl
theorem A5B (l:List UInt8) (i:Nat):w16 l (i+1)=w16 l i++[A9g l i]:=by simp[w16,List.range_succ]
theorem C0E (x:BitVec 32):IQ x 7^^^IQ x 18^^^x>>>3=sg0 x:=rfl
theorem C0D (x:BitVec 32):IQ x 17^^^IQ x 19^^^x>>>10=sg1 x:=rfl
theorem OI (i:Nat):(i:Int)+1=((i+1:Nat):Int):=rfl
theorem C2i {k:AV→AV→AV→AV→AV→AV→AV→AV→AV→Hp→Al} {l:List UInt8} {a0 w1 w2 w3 w4 w5 w6:AV} (hl:l.length=64) (hx:∀v H,B1 H BB 1 v 16 (CZ (w16 l 16))→Wf H→k a0 (SQ l) v (I 16) w2 w3 w4 w5 w6 H=x):
 ∀(f i:Nat) (v:AV) (H:Hp),i≤16→16-i<f→B1 H BB 1 v i (CZ (w16 l i))→Wf H→Lv L (rt L n) K k f a0 (SQ l) v (I i) w1 w2 w3 w4 w5 w6 H=x:=by
 intro f
 induction f with
 |zero=>intro i v H _ h;omega
 |succ f ih=>
  intro i v H hi hf hv hw
  rw[X8]
  unfold OR Ar
  rw[Dx,Er]
  by_cases h:i<16
  ·rw[if_pos (by simp;omega)]
   simp(disch:=omega) only[NK,Cv,Ca,LW,B4r,QG (t:=AD) rfl,A3B,JB (z:=24) (k:=24) rfl (by decide),JB (z:=16) (k:=16) rfl (by decide),JB (z:=8) (k:=8) rfl (by decide),WV]
   have e0:((4:Int)*(i:Int)).toNat=4*i:=by omega
   have e1:((4:Int)*(i:Int)+1).toNat=4*i+1:=by omega
   have e2:((4:Int)*(i:Int)+2).toNat=4*i+2:=by omega
   have e3:((4:Int)*(i:Int)+3).toNat=4*i+3:=by omega
   rw[e0,e1,e2,e3,A5p]
   obtain⟨r,q,H',h1,h2,h3,h4,h5,_⟩:=A94 (A9g l i) (VV l i) hv hw (by omega)
   rw[h1,OI]
   refine ih (i+1) _ H' (by omega) (by omega) (.inr ⟨r,q,rfl,?_,?_⟩) h3
   ·rw[A5B]
    exact h2
   ·rw[FG,VV];omega
  ·rw[if_neg (by simp;omega)]
   have:i=16:=by omega
   subst this
   exact hx _ _ hv hw
theorem C2j {k:AV→AV→AV→AV→AV→AV→AV→Hp→Al} {l:List UInt8} {w0 w1 w2 w3 w4 w5 w6 w7:AV} (hx:∀r q H,Au H r=some (.cells q BB (CZ (Lc l 48)))→Wf H→k w0 w1 (.sl 1 r 0 64) w2 (I 64) w6 w7 H=x):
 ∀(f i r:Nat) (q:Bool) (H:Hp),i≤48→48-i<f→Au H r=some (.cells q BB (CZ (Lc l i)))→Wf H→Lw L (rt L (n+1)) K k f w0 w1 (.sl 1 r 0 (16+i)) w2 (I ((16+i:Nat):Int)) w3 w4 w5 w6 w7 H=x:=by
 intro f
 induction f with
 |zero=>intro i r q H _ h;omega
 |succ f ih=>
  intro i r q H hi hf hv hw
  rw[X9]
  unfold OS Ar
  rw[Dx,Er]
  by_cases h:i<48
  ·rw[if_pos (by simp;omega)]
   have hl:=OK l i
   have e1:((16+i:Nat):Int)-15=((i+1:Nat):Int):=by omega
   have e2:((16+i:Nat):Int)-2=((i+14:Nat):Int):=by omega
   have e3:((16+i:Nat):Int)-16=((i:Nat):Int):=by omega
   have e4:((16+i:Nat):Int)-7=((i+9:Nat):Int):=by omega
   simp(disch:=omega) only[GE,Ca,LW,e1,e2,e3,e4,C4W,Xj,C4V hv,UW (z:=7) 7 rfl (by decide),UW (z:=18) 18 rfl (by decide),UW (z:=17) 17 rfl (by decide),UW (z:=19) 19 rfl (by decide),R8,HJ (z:=3) (k:=3) rfl (by decide),HJ (z:=10) (k:=10) rfl (by decide),MU]
   rw[C0E,C0D]
   obtain⟨r',q',H',h1,h2,h3,h4,h5,_⟩:=A94 ((Lc l i).getD i 0+sg0 ((Lc l i).getD (i+1) 0)+(Lc l i).getD (i+9) 0+sg1 ((Lc l i).getD (i+14) 0)) (v:= .sl 1 r 0 (16+i)) hl (.inr ⟨r,q,rfl,hv,by rw[FG,hl];omega⟩) hw (by omega)
   rw[h1]
   simp(disch:=omega) only[Cv,Ca]
   rw[OI]
   exact ih (i+1) r' q' H' (by omega) (by omega) h2 h3
  ·rw[if_neg (by simp;omega)]
   have:i=48:=by omega
   subst this
   exact hx _ _ _ hv hw
end
section
def Rd (H:Hp) (v:AV) (n:Nat) (cs:List AV):Prop:=cs.length=n∧(v= .list n cs∨∃r q e,v= .sl 1 r 0 n∧Au H r=some (.cells q e cs))
def rdp (v:AV) (i:Nat):AV:=match v with
 | .list _ cs=> .iptr [cs.getD i .dk]
 | .sl _ r _ _=> .ptr r i 0
 |_=> .dk
theorem B1.rd {H:Hp} {e n:Nat} {v:AV} {cs:List AV} (h:B1 H e 1 v n cs) (hn:n≠0):Rd H v n cs:=by
 rcases h with⟨_,h,_⟩|⟨r,q,h1,h2,h3⟩
 ·exact absurd h hn
 ·exact⟨by omega,.inr ⟨r,q,e,h1,h2⟩⟩
theorem ZH {H:Hp} {n:Nat} {cs:List AV} (h:cs.length=n):Rd H (.list n cs) n cs:=⟨h,.inl rfl⟩
theorem Rd.lat {H H':Hp} {v:AV} {n:Nat} {cs:List AV} {P:Nat→Prop} (h:Rd H v n cs) (w:Wf H) (k:Lat H H' P) (hP:∀s,Bb v s→¬P s):Rd H' v n cs:=by
 rcases h with⟨h0,h|⟨r,q,e,h1,h2⟩⟩
 ·exact⟨h0,.inl h⟩
 ·exact⟨h0,.inr ⟨r,q,e,h1,k.keep w r _ h2 (hP r ⟨1,0,n,h1⟩)⟩⟩
theorem MT {t:TI} {e n:Nat} {v:AV} {H:Hp} {cs:List AV} (h:Rd H v n cs) (hd:t.d= .slice e 1) {z:Int} (k:Nat) (hz:z=k) (hk:k<n) {K:AV→Al}:Bv t v (I z) K=K (rdp v k):=by
 subst hz
 rcases h with⟨h0,rfl|⟨r,q,e,rfl,h2⟩⟩
 ·rw[Ub hd h0 (by omega) (by omega)];rfl
 ·rw[A4P hd (by omega) (by omega)];rfl
theorem Yl {t:TI} {n:Nat} {v:AV} {H:Hp} {cs:List AV} (h:Rd H v n cs) (hd:t.d.isAgg=false) {k:Nat} (hk:k<n) {K:AV→Al}:Aq t (rdp v k) H K=K (cs.getD k .dk):=by
 rcases h with⟨h0,rfl|⟨r,q,e,rfl,h2⟩⟩
 ·exact QG hd
 ·exact B4p hd h2 (by omega)
theorem C42 {H:Hp} {a b c d e f g h:BitVec 32} (K:KV):Ft BB 1 An 8 [(0,1,W a),(1,1,W b),(2,1,W c),(3,1,W d),(4,1,W e),(5,1,W f),(6,1,W g),(7,1,W h)] H K=K (.sl 1 (A3 H) 0 8) ((A3 H,.cells false BB (CZ [a,b,c,d,e,f,g,h]))::H):=by
 have e1:Ft BB 1 An 8 [(0,1,W a),(1,1,W b),(2,1,W c),(3,1,W d),(4,1,W e),(5,1,W f),(6,1,W g),(7,1,W h)] H K=HM H λs=>K (.sl 1 s 0 8) ((s,.cells false BB (CZ [a,b,c,d,e,f,g,h]))::H):=rfl
 rw[e1,BW]
theorem A3w {x:BitVec 32} {K:AV→Al}:F2 .xor (W x) K=K (W (~~~x)):=B4h
theorem B8j {k:Nat} (h:k<64):(CZ kk).getD k .dk=W (kk.getD k 0):=Kg (by rw[A8o];exact h)
variable {L n:Nat} {K:KV} {x:Al}
theorem B2L (s:S8) (k w:BitVec 32):[s.h+(IQ s.e 6^^^IQ s.e 11^^^IQ s.e 25)+((s.e&&&s.f)^^^(~~~s.e&&&s.g))+k+w+((IQ s.a 2^^^IQ s.a 13^^^IQ s.a 22)+((s.a&&&s.b)^^^(s.a&&&s.c)^^^(s.b&&&s.c))),s.a,s.b,s.c,s.d+(s.h+(IQ s.e 6^^^IQ s.e 11^^^IQ s.e 25)+((s.e&&&s.f)^^^(~~~s.e&&&s.g))+k+w),s.e,s.f,s.g]=(rnd s k w).l:=rfl
theorem C2k {k:AV→AV→AV→AV→AV→AV→AV→AV→Hp→Al} {ws:List (BitVec 32)} {s0:S8} {rw:Nat} {w0 w1 w3 w4 w6 w7:AV} (hws:ws.length=64) (hx:∀v q H,B1 H BB 1 v 8 (CZ (YK ws s0 64).l)→Au H rw=some (.cells q BB (CZ ws))→Wf H→k w0 w1 (.sl 1 rw 0 64) w3 w4 (.list 64 (CZ kk)) v (I 64) H=x):
 ∀(f i:Nat) (v:AV) (q:Bool) (H:Hp),i≤64→64-i<f→B1 H BB 1 v 8 (CZ (YK ws s0 i).l)→Au H rw=some (.cells q BB (CZ ws))→Wf H→Lx L (rt L (n+1)) K k f w0 w1 (.sl 1 rw 0 64) w3 w4 (.list 64 (CZ kk)) v (I i) w6 w7 H=x:=by
 intro f
 induction f with
 |zero=>intro i v q H _ h;omega
 |succ f ih=>
  intro i v q H hi hf hv hr hw
  rw[XB]
  unfold OT Ar
  rw[Dx,Er]
  by_cases h:i<64
  ·rw[if_pos (by simp;omega)]
   have rv:=hv.rd (by decide)
   have rk:Rd H (.list 64 (CZ kk)) 64 (CZ kk):=ZH (by rw[FG,A8o])
   have rs:Rd H (.sl 1 rw 0 64) 64 (CZ ws):=⟨by rw[FG,hws],.inr ⟨rw,q,BB,rfl,hr⟩⟩
   generalize hs:YK ws s0 i=s at rv hv
   have g0:(CZ s.l).getD 0 .dk=W s.a:=id rfl
   have g1:(CZ s.l).getD 1 .dk=W s.b:=id rfl
   have g2:(CZ s.l).getD 2 .dk=W s.c:=id rfl
   have g3:(CZ s.l).getD 3 .dk=W s.d:=id rfl
   have g4:(CZ s.l).getD 4 .dk=W s.e:=id rfl
   have g5:(CZ s.l).getD 5 .dk=W s.f:=id rfl
   have g6:(CZ s.l).getD 6 .dk=W s.g:=id rfl
   have g7:(CZ s.l).getD 7 .dk=W s.h:=id rfl
   have gw:(CZ ws).getD i .dk=W (ws.getD i 0):=Kg (by omega)
   have i0:= λK=>MT (t:=A6) rv rfl (z:=0) 0 rfl (by decide) (K:=K)
   have i1:= λK=>MT (t:=A6) rv rfl (z:=1) 1 rfl (by decide) (K:=K)
   have i2:= λK=>MT (t:=A6) rv rfl (z:=2) 2 rfl (by decide) (K:=K)
   have i3:= λK=>MT (t:=A6) rv rfl (z:=3) 3 rfl (by decide) (K:=K)
   have i4:= λK=>MT (t:=A6) rv rfl (z:=4) 4 rfl (by decide) (K:=K)
   have i5:= λK=>MT (t:=A6) rv rfl (z:=5) 5 rfl (by decide) (K:=K)
   have i6:= λK=>MT (t:=A6) rv rfl (z:=6) 6 rfl (by decide) (K:=K)
   have i7:= λK=>MT (t:=A6) rv rfl (z:=7) 7 rfl (by decide) (K:=K)
   have ik:= λK=>MT (t:=A6) rk rfl (z:=i) i rfl h (K:=K)
   have iw:= λK=>MT (t:=A6) rs rfl (z:=i) i rfl h (K:=K)
   have lv:= λk hk K=>Yl (t:=An) rv rfl (k:=k) hk (K:=K)
   have lk:= λk hk K=>Yl (t:=An) rk rfl (k:=k) hk (K:=K)
   have lw:= λk hk K=>Yl (t:=An) rs rfl (k:=k) hk (K:=K)
   simp(disch:=omega) only[LW,i0,i1,i2,i3,i4,i5,i6,i7,ik,iw,lv,lk,lw,g0,g1,g2,g3,g4,g5,g6,g7,gw,B8j h,R8,A3C,MU,A3w,
    UW (z:=6) 6 rfl (by decide),UW (z:=11) 11 rfl (by decide),UW (z:=25) 25 rfl (by decide),UW (z:=2) 2 rfl (by decide),UW (z:=13) 13 rfl (by decide),UW (z:=22) 22 rfl (by decide)]
   rw[C42,Ug,Cv,Ca (by omega) (by omega),B2L,OI]
   have hr':YK ws s0 (i+1)=rnd s (kk.getD i 0) (ws.getD i 0):=by rw[←hs];rfl
   rw[←hr']
   exact ih (i+1) _ q _ (by omega) (by omega) (OJ rfl) (Bh (hw.lt hr) hr) (B3 hw)
  ·rw[if_neg (by simp;omega)]
   have:i=64:=by omega
   subst this
   exact hx _ _ _ hv hr hw
def Xf (a b:List (BitVec 32)) (i:Nat):List (BitVec 32):=(List.range i).map λi=>a.getD i 0+b.getD i 0
theorem PF (a b:List (BitVec 32)) (i:Nat):(Xf a b i).length=i:=by simp[Xf]
theorem A3L (a b:List (BitVec 32)) (i:Nat):Xf a b (i+1)=Xf a b i++[a.getD i 0+b.getD i 0]:=by simp[Xf,List.range_succ]
theorem C2r (s t:S8):Xf s.l t.l 8=(C5d s t).l:=rfl
theorem C2l {k:AV→Hp→Al} {a b:List (BitVec 32)} {va vb w1 w2 w3 w4 w5 w7:AV} (hx:∀v H,B1 H BB 1 v 8 (CZ (Xf a b 8))→Wf H→k v H=x) (hva:va= .list 8 (CZ a)) (ha:a.length=8) (hb:b.length=8):
 ∀(f i:Nat) (v:AV) (H:Hp),i≤8→8-i<f→B1 H BB 1 v i (CZ (Xf a b i))→B1 H BB 1 vb 8 (CZ b)→(∀s,Bb v s→¬Bb vb s)→Wf H→Ly L (rt L n) K k f va w1 w2 w3 w4 w5 vb w7 v (I i) H=x:=by
 intro f
 induction f with
 |zero=>intro i v H _ h;omega
 |succ f ih=>
  intro i v H hi hf hv hvb hd hw
  rw[XC]
  unfold OU Ar
  rw[Dx,Er]
  by_cases h:i<8
  ·rw[if_pos (by simp;omega)]
   have ra:Rd H va 8 (CZ a):=by subst hva;exact ZH (by rw[FG,ha])
   have rb:=hvb.rd (by decide)
   have ga:(CZ a).getD i .dk=W (a.getD i 0):=Kg (by omega)
   have gb:(CZ b).getD i .dk=W (b.getD i 0):=Kg (by omega)
   have ia:= λK=>MT (t:=A6) ra rfl (z:=i) i rfl h (K:=K)
   have ib:= λK=>MT (t:=A6) rb rfl (z:=i) i rfl h (K:=K)
   have la:= λK=>Yl (t:=An) ra rfl (k:=i) h (K:=K)
   have lb:= λK=>Yl (t:=An) rb rfl (k:=i) h (K:=K)
   simp only[LW,ia,ib,la,lb,ga,gb,MU]
   obtain⟨r,q,H',h1,h2,h3,h4,h5,h6⟩:=A94 (a.getD i 0+b.getD i 0) (PF a b i) hv hw (by omega)
   rw[h1,Cv,Ca (by omega) (by omega),OI]
   refine ih (i+1) _ H' (by omega) (by omega) (.inr ⟨r,q,rfl,?_,?_⟩) ?_ ?_ h3
   ·rw[A3L];exact h2
   ·rw[FG,PF];omega
   ·rcases hvb with⟨e1,e2,e3⟩|⟨r2,q2,e1,e2,e3⟩
    ·exact .inl ⟨e1,e2,e3⟩
    ·exact .inr ⟨r2,q2,e1,h5 _ _ e2 (λhh=>hd _ hh ⟨1,0,8,e1⟩),e3⟩
   ·intro s ⟨p,o,m,hs⟩ hs2
    injection hs with _ hs
    subst hs
    have:=hvb.lt hw hs2
    omega
  ·rw[if_neg (by simp;omega)]
   have:i=8:=by omega
   subst this
   exact hx _ _ hv hw
theorem S8.len (s:S8):s.l.length=8:=rfl
theorem B6j {s:S8} {l:List UInt8} (hl:l.length=64) (hL:100<L):CS (rt L (n+2)) QE [.list 8 (CZ s.l),SQ l] (.list 8 (CZ (blk s l).l)):=by
 intro K hK
 rw[Zl]
 unfold Qy Ar
 simp only[Cl]
 refine C2i hl ?_ L 0 _ [] (by omega) (by omega) (.inl ⟨rfl,rfl,rfl⟩) F3
 intro v H hv hw
 rcases hv with⟨_,h,_⟩|⟨r,q,rfl,h2,h3⟩
 ·exact absurd h (by decide)
 refine C2j ?_ L 0 r q H (by omega) (by omega) h2 hw
 intro r q H hr hw
 rw[Be A5K Bp]
 obtain⟨v',H',h1,h2,h3,h4⟩:=apt (ie:=An) (i2:=A6) (H:=H) (e:=BB) (sz:=1) (n:=0) (m:=8) (v:= .v (.slice none 0 0)) (src:= .list 8 (CZ s.l)) (cs:=[]) (ys:=CZ s.l) (.inl ⟨rfl,rfl,rfl⟩) (λK=>B1h) rfl (Ul _) (by decide) rfl rfl (by decide) (by decide)
 rw[h1]
 have hr':=h4.keep hw r _ hr (λ⟨_,_,_,h⟩=>by cases h)
 refine C2k (s0:=s) (by rw[OK]) ?_ L 0 v' q H' (by omega) (by omega) h2 hr' (h4.wf hw)
 intro v q H hv hr hw
 refine C2l (a:=s.l) (b:=(YK (Lc l 48) s 64).l) ?_ rfl rfl rfl L 0 _ H (by omega) (by omega) (.inl ⟨rfl,rfl,rfl⟩) hv (λs ⟨_,_,_,h⟩=>by cases h) hw
 intro v H hv hw
 rw[C2r] at hv
 exact hK _ _ (λb=>⟨true,A1z hv (by decide) (λx:BitVec 32=>Value.int .u32 (x.toNat:Int)) _ rfl⟩)
end
section
theorem A6E {t:TI} {e m:Nat} {cs:List AV} {x y:Int} (a b:Nat) {K:AV→Al} (hd:t.d= .slice e 1) (hx:x=a) (hy:y=b) (h1:a≤b) (h2:b≤m):El t (.list m cs) (some (I x)) (some (I y)) none K=K (.list (b-a) ((cs.drop a).take (b-a))):=by
 subst hx hy
 have e1:El t (.list m cs) (some (I a)) (some (I b)) none K=iN (a:Int) λl=>iN (b:Int) λh=>fN m λx=>ck ((true||(some (I (b:Int))).isSome)&&(Nat.ble l h&&(Nat.ble h x&&Nat.ble x m))) (fN (Nat.sub h l) λn=>Po (Nat.mul n 1) (Dg (Nat.mul l 1) cs) λc=>K (.list n c)):=by
  obtain⟨_,_,d,z⟩:=t;simp only at hd;subst hd;rfl
 rw[e1,J6,J6,DL]
 have c:((true||(some (I (b:Int))).isSome)&&(Nat.ble a b&&(Nat.ble b m&&Nat.ble m m)))=true:=by simp only[Bool.true_or,l16,Jp,XS];omega
 rw[c]
 show fN (Nat.sub b a) (λn=>Po (Nat.mul n 1) (Dg (Nat.mul a 1) cs) λc=>K (.list n c))=_
 rw[DL,Kt,Ct]
 show K (.list (b-a) ((cs.drop (a*1)).take ((b-a)*1)))=_
 rw[l28,l28]
def iv:S8:=⟨1779033703,3144134277,1013904242,2773480762,1359893119,2600822924,528734635,1541459225⟩
def VC (s:List UInt8):Nat→S8
 |0=>iv
 |i+1=>blk (VC s i) ((s.drop (64*i)).take 64)
def wb (w:BitVec 32):List UInt8:=[UInt8.ofNat (w.toNat/2^24),UInt8.ofNat (w.toNat/2^16),UInt8.ofNat (w.toNat/2^8),UInt8.ofNat w.toNat]
def TE (l:List (BitVec 32)):Nat→List UInt8
 |0=>[]
 |i+1=>TE l i++wb (l.getD i 0)
theorem TC (l:List (BitVec 32)) (i:Nat):(TE l i).length=4*i:=by
 induction i with
 |zero=>rfl
 |succ i ih=>simp[TE,ih,wb];omega
def sha (s:List UInt8):List UInt8:=TE (VC (ext s) ((ext s).length/64)).l 8
variable {L n:Nat} {K:KV} {x:Al}
theorem C4H {H:Hp} {v:AV} {n:Nat} {l:List (BitVec 32)} (h:Rd H v n (CZ l)):∃q,Fx true depth v (.list n (CZ l)) H q:=by
 rcases h with⟨h0,rfl|⟨r,q,e,rfl,h2⟩⟩
 ·exact⟨_,Qb⟩
 ·exact⟨_,UZ (q':=false) h2 (by omega) (Kb (λx:BitVec 32=>Value.int .u32 (x.toNat:Int)) l)⟩
theorem C0A {k:AV→AV→AV→Hp→Al} {s:List UInt8} {m:Nat} {H:Hp} {w3 w4:AV} (hm:s.length=64*m) (hs:s.length<200000000000) (hL:100<L) (hm0:m≠0) (hx:∀j,k (.list 8 (CZ (VC s m).l)) (SQ s) j H=x):
 ∀(f i:Nat) (v:AV),i≤m→m-i<f→Rd H v 8 (CZ (VC s i).l)→(i≠0→v= .list 8 (CZ (VC s i).l))→Om L (rt L (n+2)) K k f v (SQ s) (I ((64*i:Nat):Int)) w3 w4 H=x:=by
 intro f
 induction f with
 |zero=>intro i v _ h;omega
 |succ f ih=>
  intro i v hi hf hv hv2
  rw[A0G]
  unfold RS Ar
  have el:∀K,AN A8 (SQ s) K=K (I (s.length:Int)):= λ_=>id rfl
  rw[el,Dx,Er]
  by_cases h:i<m
  ·rw[if_pos (by simp;omega)]
   simp(disch:=omega) only[Cv,Ca]
   have e1:((64*i:Nat):Int)+64=((64*(i+1):Nat):Int):=by omega
   unfold SQ
   rw[e1,A6E (64*i) (64*(i+1)) rfl rfl rfl (by omega) (by omega)]
   have e2:64*(i+1)-64*i=64:=by omega
   have e3:AV.list 64 (((Ke s).drop (64*i)).take 64)=SQ ((s.drop (64*i)).take 64):=by
    unfold SQ Ke
    have:((s.drop (64*i)).take 64).length=64:=by simp;omega
    rw[this,List.map_take,List.map_drop]
   rw[e2,e3]
   obtain⟨q,hq⟩:=C4H hv
   rw[Be (B6j (n:=n) (s:=VC s i) (l:=(s.drop (64*i)).take 64) (by simp;omega) hL) (A0 hq (A0 (by unfold SQ;exact Qb) Bp))]
   exact ih (i+1) _ (by omega) (by omega) (ZH (by rw[FG];rfl)) (λ_=>rfl)
  ·rw[if_neg (by simp;omega)]
   have:i=m:=by omega
   subst this
   rw[hv2 hm0]
   exact hx _
theorem A3A {w:BitVec 32} {K:AV→Al}:Fl An AD (W w) K=K (By (UInt8.ofNat w.toNat)):=B4u
theorem C43 {H:Hp} {a b c d:UInt8} (K:KV):Ft AS 1 AD 4 [(0,1,By a),(1,1,By b),(2,1,By c),(3,1,By d)] H K=K (.sl 1 (A3 H) 0 4) ((A3 H,.cells false AS (Ke [a,b,c,d]))::H):=by
 have e1:Ft AS 1 AD 4 [(0,1,By a),(1,1,By b),(2,1,By c),(3,1,By d)] H K=HM H λs=>K (.sl 1 s 0 4) ((s,.cells false AS (Ke [a,b,c,d]))::H):=rfl
 rw[e1,BW]
theorem B7r (l:List UInt8):∀K:List UInt8→Al,fu8 (Ke l) K=K l:=by
 induction l with
 |nil=>intro K;rfl
 |cons b l ih=>
  intro K
  have e:fu8 (Ke (b::l)) K=iN (b.toNat:Int) λn=>fu8 (Ke l) λl=>K (UInt8.ofNat n::l):=rfl
  rw[e,J6,ih]
  simp
theorem A9Y {H:Hp} {e n:Nat} {v:AV} {l:List UInt8} {K:AV→Al} (h:B1 H e 1 v n (Ke l)):A1S v H K=K (S l):=by
 have e1:A1S v H K=VA H v λm cs=>Ia cs 0 λk=>ck (Nat.beq k m) (fu8 cs λl=>K (.v (.string ⟨⟨l⟩⟩))):=by
  rcases h with⟨rfl,_⟩|⟨r,q,rfl,_⟩<;>rfl
 have hn:(Ke l).length=n:=by
  rcases h with⟨_,rfl,h⟩|⟨r,q,_,_,h⟩
  ·rw[h];rfl
  ·omega
 rw[e1,SK h,CA,K1,hn,l29]
 exact B7r l _
theorem C0B {k:AV→Hp→Al} {s:S8} {v w1 w2:AV} (hx:∀u H,B1 H AS 1 u 32 (Ke (TE s.l 8))→k u H=x):
 ∀(f i:Nat) (u:AV) (H:Hp),i≤8→8-i<f→B1 H AS 1 u (4*i) (Ke (TE s.l i))→v= .list 8 (CZ s.l)→Wf H→On L (rt L n) K k f v w1 w2 u (I i) H=x:=by
 intro f
 induction f with
 |zero=>intro i v H _ h;omega
 |succ f ih=>
  intro i u H hi hf hu hv hw
  rw[A0H]
  unfold RU Ar
  rw[Dx,Er]
  by_cases h:i<8
  ·rw[if_pos (by simp;omega)]
   have ra:Rd H v 8 (CZ s.l):=by subst hv;exact ZH (by rw[FG];rfl)
   have ga:(CZ s.l).getD i .dk=W (s.l.getD i 0):=Kg h
   have ia:= λK=>MT (t:=A6) ra rfl (z:=i) i rfl h (K:=K)
   have la:= λK=>Yl (t:=An) ra rfl (k:=i) h (K:=K)
   simp only[LW,ia,la,ga,HJ (z:=24) (k:=24) rfl (by decide),HJ (z:=16) (k:=16) rfl (by decide),HJ (z:=8) (k:=8) rfl (by decide),A3A,C43,Ug]
   generalize hc:[UInt8.ofNat (s.l.getD i 0>>>24).toNat,UInt8.ofNat (s.l.getD i 0>>>16).toNat,UInt8.ofNat (s.l.getD i 0>>>8).toNat,UInt8.ofNat (s.l.getD i 0).toNat]=c
   have hcl:c.length=4:=by rw[←hc];rfl
   have hcw:c=wb (s.l.getD i 0):=by rw[←hc];unfold wb;simp only[BitVec.toNat_ushiftRight,Nat.shiftRight_eq_div_pow]
   have hu1:B1 ((A3 H,.cells false AS (Ke c))::H) AS 1 u (4*i) (Ke (TE s.l i)):=hu.lat hw (Lat.cons H _ (λ_=>False)) (λ_ _ h=>h)
   have hsrc:=OJ (H:=H) (e:=AS) (n:=4) (cs:=Ke c) (by rw[Ns,hcl])
   obtain⟨v',H',h1,h2,h3,h4⟩:=apt (ie:=AD) (i2:=A8) hu1 (λK=>SK (K:=K) hsrc) (by rw[Ns,hcl]) (B01 _) (by decide) rfl rfl (by show(4*i+4)*1≤_;omega) (by omega)
   rw[h1,Ug,Cv,Ca (by omega) (by omega),OI]
   refine ih (i+1) _ H' (by omega) (by omega) ?_ hv (h4.wf (B3 hw))
   rw[A4V,hcw] at h2
   exact h2
  ·rw[if_neg (by simp;omega)]
   have:i=8:=by omega
   subst this
   exact hx _ _ hu
theorem A9P (s:List UInt8):∃m,(ext s).length=64*m∧64*m≤s.length+73:=by
 refine⟨(ext s).length/64,?_,?_⟩
 ·have:(ext s).length=s.length+1+VN s.length+8:=by simp[ext,pre];omega
  unfold VN at this;omega
 ·have:(ext s).length=s.length+1+VN s.length+8:=by simp[ext,pre];omega
  unfold VN at this;omega
theorem B81 {s:List UInt8} (hs:s.length<100000000000) (hL:s.length+200<L):CS (rt L (n+3)) NC [S s] (S (sha s)):=by
 intro K hK
 rw[A2E]
 unfold TN Ar
 simp only[Cl]
 obtain⟨m,hm,hm2⟩:=A9P s
 have hiv:∀K:KV,Ft BB 1 An 8 [(0,1,(AV.v (.int .u32 1779033703))),(1,1,(AV.v (.int .u32 3144134277))),(2,1,(AV.v (.int .u32 1013904242))),(3,1,(AV.v (.int .u32 2773480762))),(4,1,(AV.v (.int .u32 1359893119))),(5,1,(AV.v (.int .u32 2600822924))),(6,1,(AV.v (.int .u32 528734635))),(7,1,(AV.v (.int .u32 1541459225)))] [] K=K (.sl 1 0 0 8) [(0,.cells false BB (CZ iv.l))]:= λK=>C42 (H:=[]) (a:=1779033703) (b:=3144134277) (c:=1013904242) (d:=2773480762) (e:=1359893119) (f:=2600822924) (g:=528734635) (h:=1541459225) K
 rw[hiv,Be (A7V (n:=n+1) s hs (by omega)) fx1]
 have hm0:m≠0:= λh=>by subst h;simp[ext] at hm
 refine C0A (n:=n) (m:=m) hm (by omega) (by omega) hm0 ?_ L 0 _ (by omega) (by omega) ((OJ (H:=[]) rfl).rd (by decide)) (λh=>absurd rfl h)
 intro j
 refine C0B (n:=n+2) (s:=VC (ext s) m) ?_ L 0 _ _ (by omega) (by omega) (.inl ⟨rfl,rfl,rfl⟩) rfl (B3 F3)
 intro u H hu
 rw[A9Y hu]
 have e:TE (VC (ext s) m).l 8=sha s:=by
  unfold sha
  have:(ext s).length/64=m:=by omega
  rw[this]
 rw[e]
 exact hK _ _ (λb=>⟨false,E5⟩)
end
section
def U (n:Nat):AV:= .v (.int .u64 (n:Int))
theorem B6q {x:BitVec 32} {k:Nat} (h0:1≤k) (h:k<32) {L n:Nat} {H:Hp} {K:KV}:(rt L (n+1)).call Fz [W x,I (-(k:Int))] H K=K (W (IQ x k)) H:=by
 rw[Pe]
 unfold HB
 have e1:∀K:AV→Al,(Fl Ab BK (I (-(k:Int))) λv1=>Ak BK .and v1 (AV.v (.int .u64 31)) λv2=>K v2)=K (U (32-k)):=by
  intro K
  have:k=1∨k=2∨k=3∨k=4∨k=5∨k=6∨k=7∨k=8∨k=9∨k=10∨k=11∨k=12∨k=13∨k=14∨k=15∨k=16∨k=17∨k=18∨k=19∨k=20∨k=21∨k=22∨k=23∨k=24∨k=25∨k=26∨k=27∨k=28∨k=29∨k=30∨k=31:=by omega
  rcases this with rfl|rfl|rfl|rfl|rfl|rfl|rfl|rfl|rfl|rfl|rfl|rfl|rfl|rfl|rfl|rfl|rfl|rfl|rfl|rfl|rfl|rfl|rfl|rfl|rfl|rfl|rfl|rfl|rfl|rfl|rfl<;>rfl
 rw[e1]
 have e2:∀K:AV→Al,Ak BK .sub (AV.v (.int .u64 32)) (U (32-k)) K=K (U k):=by
  intro K
  have e:Ak BK .sub (AV.v (.int .u64 32)) (U (32-k)) K=LF .u64 ((32:Int)-((32-k:Nat):Int)) λz=>K (.v (.int .u64 z)):=rfl
  rw[e,G9]
  have:(32:Int)-((32-k:Nat):Int)=(k:Int):=by omega
  rw[this,Vh rfl]
  have:(k:Int)%(2^IntKind.u64.bits:Nat)=(k:Int):=Int.emod_eq_of_lt (by omega) (by show(k:Int)<(18446744073709551616:Int);omega)
  rw[this];rfl
 have e3:∀K:AV→Al,Ak An .shl (W x) (U (32-k)) K=K (W (x<<<(32-k))):= λK=>JB rfl (by omega)
 have e4:∀K:AV→Al,Ak An .shr (W x) (U k) K=K (W (x>>>k)):= λK=>HJ rfl (by omega)
 rw[e3,e2,e4,WV]
 have:x<<<(32-k)|||x>>>k=IQ x k:=by unfold IQ;exact BitVec.or_comm _ _
 rw[this]
theorem C0L {L n:Nat} {x:BitVec 32} {k:Nat} (h0:1≤k) (h:k<32):PS (rt L (n+1)) Fz [W x,I (-(k:Int))] (W (IQ x k)):=by
 refine CS.ps (λK hK=> ?_) (λH=>C4G)
 rw[B6q h0 h]
 exact hK _ _ (λb=>⟨false,fxq⟩)
def TV (ks:List Nat):List AV:=ks.map λk:Nat=> .v (.int .i64 (k:Int))
theorem B12 {l:List Nat} {k:Nat} (h:k<l.length):(TV l).getD k .dk=I (l[k]:Nat):=by
 simp[TV,Th,h]
def PM (x:BitVec 32) (ks:List Nat):BitVec 32:=ks.foldl (λa k=>a^^^IQ x k) 0
theorem B1d {k:Nat} (hk:k<32) {K:AV→Al}:F2 .neg (I k) K=K (I (-(k:Int))):=by
 have e:F2 .neg (I k) K=LF .i64 (0-(k:Int)) λz=>K (.v (.int .i64 z)):=rfl
 rw[e,G9,Int.zero_sub,Ca (by omega) (by omega)]
variable {L n:Nat} {K:KV} {x:Al}
theorem B3B {k:AV→Hp→Al} {w:BitVec 32} {ks:List Nat} {H:Hp} (hk:∀k∈ks,1≤k∧k<32) (hl:ks.length<32) (hx:k (W (PM w ks)) H=x):
 ∀(f i:Nat),i≤ks.length→ks.length-i<f→K6 L (rt L (n+1)) K k f (W w) (W (PM w (ks.take i))) (.list ks.length (TV ks)) (I ks.length) (I i) H=x:=by
 intro f
 induction f with
 |zero=>intro i _ h;omega
 |succ f ih=>
  intro i hi hf
  rw[WX]
  unfold NZ Ar
  rw[Dx,Er]
  by_cases h:i<ks.length
  ·rw[if_pos (by simp;omega)]
   have hki:=hk ks[i] (Ow h)
   rw[Ub rfl (by simp[TV]) (by omega) (by omega),Xj,QG rfl,B12 h,B1d hki.2,C0L hki.1 hki.2,R8,Cv,Ca (by omega) (by omega),OI]
   have e:PM w (ks.take (i+1))=PM w (ks.take i)^^^IQ w ks[i]:=by
    unfold PM
    rw[l04 h,List.foldl_append];rfl
   rw[←e]
   exact ih (i+1) (by omega) (by omega)
  ·rw[if_neg (by simp;omega)]
   have:i=ks.length:=by omega
   subst this
   rw[l06]
   exact hx
theorem B6d {w:BitVec 32} {ks:List Nat} (hk:∀k∈ks,1≤k∧k<32) (hl:ks.length<32) (hL:32<L):CS (rt L (n+2)) DD [W w,.list ks.length (TV ks)] (W (PM w ks)):=by
 intro K hK
 rw[XO]
 unfold Pg Ar
 simp only[Cl]
 have e:∀K,AN Af (.list ks.length (TV ks)) K=K (I ks.length):= λK=>id rfl
 rw[e]
 refine B3B hk hl ?_ L 0 (by omega) (by omega)
 exact hK _ _ (λb=>⟨false,E5⟩)
theorem C3V {w:BitVec 32}:PM w [7,18]^^^w>>>3=sg0 w:=by simp[PM,sg0]
theorem C3U {w:BitVec 32}:PM w [17,19]^^^w>>>10=sg1 w:=by simp[PM,sg1]
def pad (l:List (BitVec 32)) (n:Nat):List (BitVec 32):=l++List.replicate (n-l.length) 0
theorem A9u {l:List (BitVec 32)} {n:Nat} (h:l.length≤n):(pad l n).length=n:=by simp[pad];omega
theorem A9t {l:List (BitVec 32)} {n k:Nat} (w:BitVec 32) (hk:l.length=k) (h:k<n):(CZ (pad l n)).set k (W w)=CZ (pad (l++[w]) n):=by
 subst hk
 have e:n-l.length=(n-(l.length+1))+1:=by omega
 simp[pad,CZ,e,l17,List.set_append_right]
theorem B3r {l:List (BitVec 32)} {n k:Nat} (h:k<l.length):(CZ (pad l n)).getD k .dk=W (l.getD k 0):=by
 simp[pad,CZ,Th,h,List.getElem?_append]
theorem B3s {l:List (BitVec 32)} {n:Nat} (h:l.length=n):pad l n=l:=by simp[pad,h]
theorem B8d (a b:Nat) (K:AV→Al):R9 1 Ab 2 [(0,1,I a),(1,1,I b)] K=K (.list 2 (TV [a,b])):=id rfl
theorem B8c (a b c:Nat) (K:AV→Al):R9 1 Ab 3 [(0,1,I a),(1,1,I b),(2,1,I c)] K=K (.list 3 (TV [a,b,c])):=id rfl
theorem A4q {w:BitVec 32} {ks:List Nat} {H:Hp} {K:AV→Al} (hk:∀k∈ks,1≤k∧k<32) (hl:ks.length<32) (hL:32<L):Ah (rt L (n+2)) DD [W w,.list ks.length (TV ks)] H K=K (W (PM w ks)):=
 Be (B6d hk hl hL) (A0 E5 (A0 Qb Bp))
theorem C0F {k:AV→AV→AV→Hp→Al} {l:List UInt8} {r:Nat} {w:AV} (hl:l.length=64) (hx:∀q H,Au H r=some (.cells q Cq (CZ (pad (w16 l 16) 64)))→Wf H→k (SQ l) (.ptr r 0 0) (I 16) H=x):
 ∀(f i:Nat) (q:Bool) (H:Hp),i≤16→16-i<f→Au H r=some (.cells q Cq (CZ (pad (w16 l i) 64)))→Wf H→I8 L (rt L n) K k f (SQ l) (.ptr r 0 0) w (I i) H=x:=by
 intro f
 induction f with
 |zero=>intro i q H _ h;omega
 |succ f ih=>
  intro i q H hi hf hr hw
  rw[Ue]
  unfold KR Ar
  rw[Dx,Er]
  by_cases h:i<16
  ·rw[if_pos (by simp;omega)]
   simp(disch:=omega) only[NK,Cv,Ca,LW,B4r,QG (t:=AD) rfl,A3B,JB (z:=24) (k:=24) rfl (by decide),JB (z:=16) (k:=16) rfl (by decide),JB (z:=8) (k:=8) rfl (by decide),WV]
   have e0:((4:Int)*(i:Int)).toNat=4*i:=by omega
   have e1:((4:Int)*(i:Int)+1).toNat=4*i+1:=by omega
   have e2:((4:Int)*(i:Int)+2).toNat=4*i+2:=by omega
   have e3:((4:Int)*(i:Int)+3).toNat=4*i+3:=by omega
   rw[e0,e1,e2,e3,A5p,DE i rfl rfl (by omega),LW,E1 hr (by rw[FG,A9u (by rw[VV];omega)];omega) rfl rfl rfl,Ug,A9t _ (VV l i) (by omega),←A5B,OI]
   exact ih (i+1) q _ (by omega) (by omega) (A9 hr) (BL hw)
  ·rw[if_neg (by simp;omega)]
   have:i=16:=by omega
   subst this
   exact hx _ _ hr hw
theorem C0G {k:AV→Hp→Al} {l:List UInt8} {r:Nat} {w0 w1:AV} (hL:100<L) (hx:∀q H,Au H r=some (.cells q Cq (CZ (Lc l 48)))→Wf H→k (.ptr r 0 0) H=x):
 ∀(f i:Nat) (q:Bool) (H:Hp),i≤48→48-i<f→Au H r=some (.cells q Cq (CZ (pad (Lc l i) 64)))→Wf H→I9 L (rt L (n+2)) K k f w0 (.ptr r 0 0) (I ((16+i:Nat):Int)) w1 H=x:=by
 intro f
 induction f with
 |zero=>intro i q H _ h;omega
 |succ f ih=>
  intro i q H hi hf hr hw
  rw[Uf]
  unfold KS Ar
  rw[Dx,Er]
  have hl:=OK l i
  by_cases h:i<48
  ·rw[if_pos (by simp;omega)]
   have hp:(CZ (pad (Lc l i) 64)).length=64:=by rw[FG,A9u (by rw[hl];omega)]
   have e1:((16+i:Nat):Int)-15=((i+1:Nat):Int):=by omega
   have e2:((16+i:Nat):Int)-2=((i+14:Nat):Int):=by omega
   have e3:((16+i:Nat):Int)-16=((i:Nat):Int):=by omega
   have e4:((16+i:Nat):Int)-7=((i+9:Nat):Int):=by omega
   have ia:= λ(k:Nat) hk K=>DE (t:=BF) (s:=r) (z:=(k:Int)) k (K:=K) rfl rfl hk
   have la:= λk hk K=>AQ (t:=An) (p:=k) (K:=K) rfl hr hk
   have gg:= λk hk=>B3r (n:=64) (l:=Lc l i) (k:=k) hk
   simp(disch:=omega) only[GE,Ca,LW,e1,e2,e3,e4,ia,la,gg]
   have i1:∀K,R9 1 Ab 2 [(0,1,.v (.int .i64 7)),(1,1,.v (.int .i64 18))] K=K (.list 2 (TV [7,18])):= λK=>B8d 7 18 K
   have i2:∀K,R9 1 Ab 2 [(0,1,.v (.int .i64 17)),(1,1,.v (.int .i64 19))] K=K (.list 2 (TV [17,19])):= λK=>B8d 17 19 K
   have m1:∀w K,Ah (rt L (n+2)) DD [W w,.list 2 (TV [7,18])] H K=K (W (PM w [7,18])):= λw K=>A4q (ks:=[7,18]) (by decide) (by decide) (by omega)
   have m2:∀w K,Ah (rt L (n+2)) DD [W w,.list 2 (TV [17,19])] H K=K (W (PM w [17,19])):= λw K=>A4q (ks:=[17,19]) (by decide) (by decide) (by omega)
   simp(disch:=omega) only[LW,gg,i1,i2,m1,m2,HJ (z:=3) (k:=3) rfl (by decide),HJ (z:=10) (k:=10) rfl (by decide),R8,MU,C3V,C3U]
   rw[E1 hr (by omega) rfl rfl rfl,Ug,A9t _ hl (by omega),Cv,Ca (by omega) (by omega),OI]
   exact ih (i+1) q _ (by omega) (by omega) (A9 hr) (BL hw)
  ·rw[if_neg (by simp;omega)]
   have:i=48:=by omega
   subst this
   rw[B3s (by rw[OK])] at hr
   exact hx _ _ hr hw
def arr (l:List (BitVec 32)):AV:= .agg (CZ l)
theorem A7U {l:List UInt8} (hl:l.length=64) (hL:100<L):CS (rt L (n+3)) XA5 [SQ l] (arr (Lc l 48)):=by
 intro K hK
 rw[UO]
 unfold LD Ar
 simp only[Cl]
 rw[Ba (cs:=CZ (pad (w16 l 0) 64)) rfl]
 refine C0F hl ?_ L 0 true _ (by omega) (by omega) (Ay (by simp)) (B3 F3)
 intro q H hr hw
 refine C0G (n:=n) (l:=l) hL ?_ L 0 q H (by omega) (by omega) hr hw
 intro q H hr hw
 have hl:(CZ (Lc l 48)).length=64:=by rw[FG,OK]
 rw[Bk rfl hl.symm hr,B0 hr rfl hl.symm (Ul _),Bk rfl hl.symm (A9 hr)]
 exact hK _ _ (λb=>⟨false,Pn (Kb (λx:BitVec 32=>Value.int .u32 (x.toNat:Int)) _)⟩)
end
end Go.Abs
end
