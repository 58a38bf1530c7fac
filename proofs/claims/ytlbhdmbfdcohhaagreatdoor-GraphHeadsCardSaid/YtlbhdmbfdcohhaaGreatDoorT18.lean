import Derived.Test.YtlbhdmbfdcohhaaGreatDoorT10
import Derived.Test.YtlbhdmbfdcohhaaGreatDoorT15
import Derived.Test.YtlbhdmbfdcohhaaGreatDoorT17
set_option linter.all false
set_option maxHeartbeats 100000000
noncomputable section
namespace Go.Abs
open Go.RowKit Go.Proofs
set_option maxRecDepth 100000
theorem C2W {t t':TI} {K:AV→Aj} {l:List UInt8} {i:Nat} (hd:t.d= .string) (h:i<l.length):Tv t t' (S l) (I i) K=K (By l[i]):=by
 have e:Tv t t' (S l) (I i) K=iN (i:Int) λn=>B9m (D4 n l) K:=by
  obtain⟨a,b,d,z⟩:=t;simp only at hd;subst hd;rfl
 rw[e,JD,CL,l11 h]
 show fN l[i].toNat (λn=>K (.v (.int .u8 (.ofNat n))))=_
 rw[Dt];rfl
theorem NH {t:TI} {K:AV→Aj} {l:List UInt8} (hd:t.d= .string):AR t (S l) K=K (I l.length):=by
 have:AR t (S l) K=GS l 0 λn=>K (.v (.int .i64 (.ofNat n))):=by
  obtain⟨a,b,d,z⟩:=t;simp only at hd;subst hd;rfl
 rw[this,Cq,KN];rfl
theorem JH {H:Hp} {e sz n:Nat} {v:AV} {cs:List AV} {t:TI} {e' z':Nat} {K:AV→Aj} (hd:t.d= .slice e' z') (h:Bu H e sz v n cs):AR t v K=K (I n):=by
 obtain⟨a,b,d,z⟩:=t
 simp only at hd
 subst hd
 rcases h with⟨rfl,rfl,_⟩|⟨r,q,rfl,_⟩<;>rfl
theorem B5C {H:Hp} {v:AV} {l:List UInt8} (b:UInt8) (h:Bu H AY 1 v l.length (KC l)) (w:Wf H) (hn:l.length<1000000000000):
 ∃v' H',(∀K:KV,(FG AY 1 AD 1 [(0,1,By b)] H λv1 H1=>DN AY 1 AD AB v v1 H1 K)=K v' H')∧Bu H' AY 1 v' (l++[b]).length (KC (l++[b]))∧Wf H'∧A2 H≤A2 H'∧(∀s x,Aq H s=some x→¬AF v s→Aq H' s=some x)∧(∀s,AF v' s→A2 H≤s):=by
 have hv1:Bu ((A2 H,.cells false AY [By b])::H) AY 1 v l.length (KC l):=h.lat w (Lat.cons H _ (λ_=>False)) (λ_ _ h=>h)
 have hsrc:=LO (H:=H) (e:=AY) (n:=1) (cs:=[By b]) rfl
 obtain⟨v',H',h1,h2,h3,h4⟩:=apt (ie:=AD) (i2:=AB) hv1 (λK=>Pt (K:=K) hsrc) rfl rfl (by decide) rfl rfl (by show(l.length+1)*1≤_;omega) (by omega)
 have h5:=(Lat.cons H (.cells false AY [By b]) (AF v)).trans h4 (R:=AF v) (λ_ _ h=>h) (λ_ _ h=>h)
 refine⟨v',H',λK=> ?_,by rw[XA2,←A5n];exact h2,h5.wf w,h5.nx,λs x hs hn=>h5.keep w s x hs hn,λs hs=> ?_⟩
 ·rw[A2u (z:=By 0) (λ_=>rfl) (λ_=>rfl) rfl]
  exact h1 K
 ·rw[h3 s hs];exact l1p _
def WB (n:Nat):Nat:=(119-n%64)%64
def Wn (n i:Nat):UInt8:=UInt8.ofNat (8*n/2^(8*i))
def pre (s:List UInt8):List UInt8:=s++[128]++List.replicate (WB s.length) 0
def ext (s:List UInt8):List UInt8:=pre s++[Wn s.length 7,Wn s.length 6,Wn s.length 5,Wn s.length 4,Wn s.length 3,Wn s.length 2,Wn s.length 1,Wn s.length 0]
theorem C2O {L:Nat} {R:Rt} {K:KV} {k:AV→AV→AV→AV→Hp→Aj} {s:List UInt8} {x:Aj} {w:AV} (hs:s.length<100000000000) (hx:∀v H,Bu H AY 1 v s.length (KC s)→Wf H→k (S s) v (I s.length) w H=x):
 ∀(f i:Nat) (v:AV) (H:Hp),i≤s.length→s.length-i<f→Bu H AY 1 v (s.take i).length (KC (s.take i))→Wf H→JA L R K k f (S s) v (I i) w H=x:=by
 intro f
 induction f with
 |zero=>intro i v H _ h;omega
 |succ f ih=>
  intro i v H hi hf hv hw
  rw[V0]
  unfold LX Av
  rw[NH rfl,DM,EH]
  by_cases h:i<s.length
  ·rw[if_pos (by simpa using h)]
   rw[C2W rfl h]
   obtain⟨v',H',h1,h2,h3,h4,h5,_⟩:=B5C s[i] hv hw (by simp;omega)
   rw[h1]
   simp(disch:=omega) only[CG,Cl]
   refine ih (i+1) v' H' (by omega) (by omega) ?_ h3
   rw[l04 h]
   exact h2
  ·rw[if_neg (by simpa using h)]
   have:i=s.length:=by omega
   subst this
   exact hx _ _ (by simpa using hv) hw
theorem A2l {j:TI} {K:AV→Aj} {a k:Nat} (hk:k≤64):Al j .shr (I a) (I k) K=K (I (a/2^k:Nat)):=by
 have:Al j .shr (I a) (I k) K=ck (ile 0 (k:Int)) (fI ((a:Int).fdiv (2^(min (k:Int).toNat 64))) λz=>K (.v (.int .i64 z))):=rfl
 rw[this,Sj]
 have h1:ile 0 (k:Int)=true:=by rw[JW];simp
 have h2:(a:Int).fdiv (2^(min (k:Int).toNat 64))=((a/2^k:Nat):Int):=by
  rw[XT,l1x hk]
  have:((2:Int)^k)=((2^k:Nat):Int):=by simp
  rw[this,Int.fdiv_eq_ediv_of_nonneg _ (Int.natCast_nonneg _)]
  exact(Int.natCast_ediv _ _).symm
 rw[h1,h2];rfl
theorem A7d {t t':TI} {K:AV→Aj} {m:Nat} (hd:t'.d= .int .u8):F7 t t' (I m) K=K (By (UInt8.ofNat m)):=by
 have:F7 t t' (I m) K=ME .u8 (m:Int) λz=>K (.v (.int .u8 z)):=by
  obtain⟨a,b,d,z⟩:=t';simp only at hd;subst hd;rfl
 rw[this,Hg,VU rfl]
 have:(m:Int)%(2^IntKind.u8.bits:Nat)=((UInt8.ofNat m).toNat:Int):=by
  rw[UInt8.toNat_ofNat']
  exact(Int.natCast_emod _ _).symm
 rw[this]
def Ui (n:Nat):Nat→List UInt8
 |0=>[]
 |i+1=>Wn n i::Ui n i
theorem A3A (n i:Nat):(Ui n i).length=i:=by
 induction i with
 |zero=>rfl
 |succ i ih=>simp[Ui,ih]
theorem C2P {L:Nat} {R:Rt} {K:KV} {k:AV→AV→AV→Hp→Aj} {s:List UInt8} {x:Aj} {w1 w2 w3:AV} (hs:s.length<100000000000) (hx:∀v H,Bu H AY 1 v (pre s).length (KC (pre s))→Wf H→k w1 v w2 H=x):
 ∀(f j:Nat) (v:AV) (H:Hp),j≤WB s.length→WB s.length-j<f→Bu H AY 1 v (s++[128]++List.replicate j 0).length (KC (s++[128]++List.replicate j 0))→Wf H→JB L R K k f w1 v w2 w3 H=x:=by
 intro f
 induction f with
 |zero=>intro j v H _ h;omega
 |succ f ih=>
  intro j v H hj hf hv hw
  rw[V1]
  unfold LY Av
  have hlen:(s++[128]++List.replicate j (0:UInt8)).length=s.length+1+j:=by simp;omega
  have hz:WB s.length<64:=by unfold WB;omega
  rw[JH rfl hv,Vd (by decide),Ib,EH]
  have hm:((s++[128]++List.replicate j (0:UInt8)).length:Int).tmod 64=(((s.length+1+j)%64:Nat):Int):=by rw[hlen];exact(Int.ofNat_tmod _ _).symm
  rw[hm]
  by_cases h:j=WB s.length
  ·subst h
   have:(s.length+1+WB s.length)%64=56:=by unfold WB;omega
   rw[this]
   simp only[l14,decide_eq_false_iff_not]
   rw[if_neg (by simp)]
   exact hx _ _ hv hw
  ·have hne:(s.length+1+j)%64≠56:=by unfold WB at h hj;omega
   rw[if_pos (by simp;omega)]
   obtain⟨v',H',h1,h2,h3,h4,h5,_⟩:=B5C (0:UInt8) hv hw (by omega)
   have e:(AV.v (.int .u8 0))=By 0:=rfl
   rw[e]
   rw[h1]
   refine ih (j+1) v' H' (by omega) (by omega) ?_ h3
   rw[List.replicate_succ',←l0k]
   exact h2
theorem C2Q {L:Nat} {R:Rt} {K:KV} {k:AV→Hp→Aj} {s:List UInt8} {x:Aj} {w:AV} (hs:s.length<100000000000) (hx:∀v H,Bu H AY 1 v (pre s++Ui s.length 8).length (KC (pre s++Ui s.length 8))→Wf H→k v H=x):
 ∀(f i:Nat) (l:List UInt8) (v:AV) (H:Hp),i≤8→i<f→l++Ui s.length i=pre s++Ui s.length 8→Bu H AY 1 v l.length (KC l)→Wf H→HN L R K k f (S s) v w (I ((i:Int)-1)) H=x:=by
 have hz:WB s.length<64:=by unfold WB;omega
 intro f
 induction f with
 |zero=>intro i l v H _ h;omega
 |succ f ih=>
  intro i l v H hi hf hl hv hw
  have hll:l.length≤s.length+1+64+8:=by
   have:=congrArg List.length hl
   simp[pre,A3A] at this
   omega
  rw[V2]
  unfold LZ Av
  rw[MS,EH]
  cases i with
  |zero=>
   rw[if_neg (by simp)]
   have:l=pre s++Ui s.length 8:=by simpa [Ui] using hl
   subst this
   exact hx _ _ hv hw
  |succ i=>
   rw[if_pos (by simp)]
   have e1:((i+1:Nat):Int)-1=(i:Int):=by omega
   rw[e1]
   rw[NH rfl,O9,O9,Cl (by omega) (by omega),Cl (by omega) (by omega)]
   have e2:(8:Int)*(s.length:Int)=((8*s.length:Nat):Int):=by omega
   have e3:(8:Int)*(i:Int)=((8*i:Nat):Int):=by omega
   rw[e2,e3,A2l (by omega)]
   rw[A7d rfl]
   obtain⟨v',H',h1,h2,h3,h4,h5,_⟩:=B5C (Wn s.length i) hv hw (by omega)
   simp(disch:=omega) only[Hn,Cl]
   have h1:=h1 (λv37 H36=>HN L R K k f (S s) v37 w (I ((i:Int)-1)) H36)
   unfold Wn at h1
   rw[h1]
   refine ih i (l++[Wn s.length i]) v' H' (by omega) (by omega) ?_ h2 h3
   rw[l0k]
   exact hl
def T2 (l:List UInt8):AV:= .list l.length (KC l)
theorem A26 {b:Bool} {H:Hp} {v:AV} {e n:Nat} {cs:List AV} (h:Bu H e 1 v n cs) (hn:n≠0) {α:Type} (f:α→Value) (l:List α) (hc:cs=l.map λx=> .v (f x)):Fx b depth v (.list n cs) H true:=by
 subst hc
 rcases h with⟨_,h2,_⟩|⟨r,q,rfl,h2,h3⟩
 ·exact absurd h2 hn
 ·exact Xz (q':=false) h2 h3 (K9 f l)
theorem C2J {b:Bool} {H:Hp} {v:AV} {l:List UInt8} (h:Bu H AY 1 v l.length (KC l)) (hne:l≠[]):Fx b depth v (T2 l) H true:=
 A26 h (λh=>hne (l1s h)) (λb:UInt8=>Value.int .u8 (b.toNat:Int)) l rfl
theorem fx1 {H:Hp} {x:Value}:OV true depth [.v x] [.v x] H false:=Ax (q:=false) (q':=false) D1 Ba
theorem A8i {L n:Nat} (s:List UInt8) (hs:s.length<100000000000) (hL:s.length+100<L):CS (rt L (n+1)) NC [S s] (T2 (ext s)):=by
 intro K hK
 rw[Wh]
 unfold No Av
 simp only[BW]
 refine C2O hs ?_ L 0 _ [] (by omega) (by omega) (.inl ⟨rfl,rfl,rfl⟩) F8
 intro v H hv hw
 obtain⟨v',H',h1,h2,h3,h4,h5,_⟩:=B5C (128:UInt8) hv hw (by omega)
 have e:(AV.v (.int .u8 128))=By 128:=rfl
 rw[e,h1]
 refine C2P hs ?_ L 0 v' H' (by omega) (by have:WB s.length<64:=(by unfold WB;omega);omega) (by simpa using h2) h3
 intro v H hv hw
 refine C2Q hs ?_ L 8 (pre s) v H (by omega) (by omega) rfl hv hw
 intro v H hv hw
 exact hK _ _ (λb=>⟨true,C2J (l:=ext s) hv (by simp[ext])⟩)
def Jv (x:BitVec 32) (k:Nat):BitVec 32:=(x>>>k)|||(x<<<(32-k))
theorem C5J {H:Hp} {x y:Value}:OV true depth [.v x,.v y] [.v x,.v y] H false:=Ax (q:=false) (q':=false) D1 fx1
theorem fxq {b:Bool} {x:Value} {H:Hp}:Fx b depth (.v x) (.v x) H false:=D1
theorem B14 {L n:Nat} (x:BitVec 32) (k:Nat) (hk:k≤32):PS (rt L (n+1)) CP [W x,I k] (W (Jv x k)):=by
 refine CS.ps (λK hK=> ?_) (λH=>C5J)
 rw[Xf]
 unfold OH Av
 have h32:((32:Int)-(k:Int))=((32-k:Nat):Int):=by omega
 simp(disch:=omega) only[Iw rfl hk,B5j,Hn,Cl,h32,Kb rfl (show 32-k≤32 by omega),XC]
 exact hK _ _ (λb=>⟨false,fxq⟩)
def kk:List (BitVec 32):=[0x428a2f98,0x71374491,0xb5c0fbcf,0xe9b5dba5,0x3956c25b,0x59f111f1,0x923f82a4,0xab1c5ed5,
 0xd807aa98,0x12835b01,0x243185be,0x550c7dc3,0x72be5d74,0x80deb1fe,0x9bdc06a7,0xc19bf174,
 0xe49b69c1,0xefbe4786,0x0fc19dc6,0x240ca1cc,0x2de92c6f,0x4a7484aa,0x5cb0a9dc,0x76f988da,
 0x983e5152,0xa831c66d,0xb00327c8,0xbf597fc7,0xc6e00bf3,0xd5a79147,0x06ca6351,0x14292967,
 0x27b70a85,0x2e1b2138,0x4d2c6dfc,0x53380d13,0x650a7354,0x766a0abb,0x81c2c92e,0x92722c85,
 0xa2bfe8a1,0xa81a664b,0xc24b8b70,0xc76c51a3,0xd192e819,0xd6990624,0xf40e3585,0x106aa070,
 0x19a4c116,0x1e376c08,0x2748774c,0x34b0bcb5,0x391c0cb3,0x4ed8aa4a,0x5b9cca4f,0x682e6ff3,
 0x748f82ee,0x78a5636f,0x84c87814,0x8cc70208,0x90befffa,0xa4506ceb,0xbef9a3f7,0xc67178f2]
theorem A8N:kk.length=64:=rfl
theorem A6c {L n:Nat}:CS (rt L (n+1)) ML [] (.list 64 (Dw kk)):=by
 intro K hK
 rw[V5]
 have e:Mm L (rt L n) [] K=K (.sl 1 0 0 64) [(0,.cells false BI (Dw kk))]:=by kernel_rfl
 rw[e]
 exact hK _ _ (λb=>⟨true,A26 (e:=BI) (.inr ⟨0,false,rfl,rfl,rfl⟩) (by decide) (λx:BitVec 32=>Value.int .u32 (x.toNat:Int)) kk rfl⟩)
theorem B5r {l:List UInt8} {k:Nat} (h:k<l.length):(KC l).getD k .dk=By (l.getD k 0):=by
 simp[KC,Ua,h]
theorem KE {l:List (BitVec 32)} {k:Nat} (h:k<l.length):(Dw l).getD k .dk=W (l.getD k 0):=by
 simp[Dw,Ua,h]
theorem Gi (l:List (BitVec 32)):(Dw l).length=l.length:=by simp[Dw]
theorem B63 (a b:List (BitVec 32)):Dw a++Dw b=Dw (a++b):=by simp[Dw]
theorem Vj (l:List (BitVec 32)):(Dw l).all AV.one=true:=by simp[Dw,AV.one,Value.oneCell']
theorem Vb {t:TI} {e n:Nat} {cs:List AV} {z:Int} {K:AV→Aj} (hd:t.d= .slice e 1) (hc:cs.length=n) (h0:0≤z) (h1:z<n):BA t (.list n cs) (I z) K=K (.iptr [cs.getD z.toNat .dk]):=by
 obtain⟨m,rfl⟩:=Int.eq_ofNat_of_zero_le h0
 have e1:BA t (.list n cs) (I (m:Int)) K=iN (m:Int) λm=>ck (Nat.blt m n) (Qo 1 (D4 (Nat.mul m 1) cs) λc=>K (.iptr c)):=by
  obtain⟨a,b,d,z⟩:=t;simp only at hd;subst hd;rfl
 have hm:m<n:=by omega
 rw[e1,JD,CL,MF]
 have:Nat.blt m n=true:=by rw[UM];exact hm
 rw[this]
 have e2:Nat.mul m 1=m:=l28 m
 have e3:(cs.drop m).take 1=[cs.getD m .dk]:=by
  have hlt:m<cs.length:=by omega
  rw[l11 hlt,Ua,Kn hlt];rfl
 rw[e2,e3];rfl
theorem A5g {t:TI} {e r n:Nat} {z:Int} {K:AV→Aj} (hd:t.d= .slice e 1) (h0:0≤z) (h1:z<n):BA t (.sl 1 r 0 n) (I z) K=K (.ptr r z.toNat 0):=by
 obtain⟨m,rfl⟩:=Int.eq_ofNat_of_zero_le h0
 have e1:BA t (.sl 1 r 0 n) (I (m:Int)) K=iN (m:Int) λm=>ck (Nat.blt m n) (fN (Nat.add 0 (Nat.mul m 1)) λp=>K (.ptr r p 0)):=by
  obtain⟨a,b,d,z⟩:=t;simp only at hd;subst hd;rfl
 have hm:m<n:=by omega
 rw[e1,JD,Dt]
 have:Nat.blt m n=true:=by rw[UM];exact hm
 have e2:Nat.add 0 (Nat.mul m 1)=m:=by show 0+m*1=m;omega
 rw[this,e2];rfl
theorem NI {t:TI} {H:Hp} {c:AV} {K:AV→Aj} (h:t.d.isAgg=false):Au t (.iptr [c]) H K=K c:=by
 have:Au t (.iptr [c]) H K=@Bool.rec (λ_=>Aj) (K c) (Gx t.size [c] λc=>K (.agg c)) t.d.isAgg:=rfl
 rw[this,h]
theorem B56 {t:TI} {H:Hp} {r p e:Nat} {q:Bool} {cs:List AV} {K:AV→Aj} (h:t.d.isAgg=false) (hl:Aq H r=some (.cells q e cs)) (hp:p<cs.length):Au t (.ptr r p 0) H K=K (cs.getD p .dk):=by
 have:Au t (.ptr r p 0) H K=J3 H r λx=>Kw x λ_ cs=>@Bool.rec (λ_=>Aj) (hdK (D4 (Nat.add p 0) cs) K) (Gx t.size (D4 (Nat.add p 0) cs) λc=>K (.agg c)) t.d.isAgg:=rfl
 rw[this,h,B5 hl]
 show hdK (D4 p cs) K=_
 rw[CL,l11 hp,Ua,Kn hp];rfl
theorem B58 {l:List UInt8} {z:Int} {K:AV→Aj} (h0:0≤z) (h1:z<l.length):BA AB (T2 l) (I z) K=K (.iptr [By (l.getD z.toNat 0)]):=by
 unfold T2
 rw[Vb rfl (Og l) h0 h1,B5r (by omega)]
theorem C60 {r n:Nat} {z:Int} {K:AV→Aj} (h0:0≤z) (h1:z<n):BA A7 (.sl 1 r 0 n) (I z) K=K (.ptr r z.toNat 0):=A5g rfl h0 h1
theorem C5Z {H:Hp} {r p e:Nat} {q:Bool} {l:List (BitVec 32)} {K:AV→Aj} (hl:Aq H r=some (.cells q e (Dw l))) (hp:p<l.length):Au Ao (.ptr r p 0) H K=K (W (l.getD p 0)):=by
 rw[B56 rfl hl (by rw[Gi];exact hp),KE hp]
theorem A45 {b:UInt8} {K:AV→Aj}:F7 AD Ao (By b) K=K (W (BitVec.ofNat 32 b.toNat)):=B5c
theorem C6m {H:Hp} {v:AV} {l:List (BitVec 32)} (b:BitVec 32) (h:Bu H BI 1 v l.length (Dw l)) (w:Wf H) (hn:l.length<1000000000000):
 ∃r q H',(∀K:KV,(Ed (FG BI 1 Ao 1 [(0,1,W b)] H λv H=>some (v,H)) λv1 H1=>Ed (DN BI 1 Ao A7 v v1 H1 λv H=>some (v,H)) K)=K (.sl 1 r 0 (l.length+1)) H')∧Aq H' r=some (.cells q BI (Dw (l++[b])))∧Wf H'∧A2 H≤A2 H'∧(∀s x,Aq H s=some x→¬AF v s→Aq H' s=some x)∧A2 H≤r:=by
 have hv1:Bu ((A2 H,.cells false BI [W b])::H) BI 1 v l.length (Dw l):=h.lat w (Lat.cons H _ (λ_=>False)) (λ_ _ h=>h)
 have hsrc:=LO (H:=H) (e:=BI) (n:=1) (cs:=[W b]) rfl
 obtain⟨v',H',h1,h2,h3,h4⟩:=apt (ie:=Ao) (i2:=A7) hv1 (λK=>Pt (K:=K) hsrc) rfl rfl (by decide) rfl rfl (by show(l.length+1)*4≤_;omega) (by omega)
 have h5:=(Lat.cons H (.cells false BI [W b]) (AF v)).trans h4 (R:=AF v) (λ_ _ h=>h) (λ_ _ h=>h)
 rcases h2 with⟨_,h6,_⟩|⟨r,q,rfl,h6,h7⟩
 ·omega
 ·refine⟨r,q,H',λK=> ?_,by rw[←B63];exact h6,h5.wf w,h5.nx,λs x hs hn=>h5.keep w s x hs hn,?_⟩
  ·rw[A2u (z:=W 0) (λ_=>rfl) (λ_=>rfl) rfl,A9e,h1 (λv H=>some (v,H)),A9e]
  ·rw[h3 r ⟨_,_,_,rfl⟩];exact l1p _
section
theorem MT {v:AV} {H:Hp} {K:AV→Aj}:Ah (some (v,H)) K=K v:=B5j
theorem Qz {v:AV} {H:Hp} {K:KV}:Ed (some (v,H)) K=K v H:=A9e
theorem VN {L n:Nat} {x:BitVec 32} {z:Int} (k:Nat) (h0:z=(k:Int)) (h:k≤32) {H:Hp} {K:AV→Aj}:Ai (rt L (n+1)) CP [W x,I z] H K=K (W (Jv x k)):=by
 subst h0
 exact B14 x k (by omega) H K
theorem A9q {H:Hp} {v:AV} {l:List (BitVec 32)} {n:Nat} (b:BitVec 32) (hl:l.length=n) (h:Bu H BI 1 v n (Dw l)) (w:Wf H) (hn:n<1000000000000):
 ∃r q H',(∀K:KV,(Ed (FG BI 1 Ao 1 [(0,1,W b)] H λv H=>some (v,H)) λv1 H1=>Ed (DN BI 1 Ao A7 v v1 H1 λv H=>some (v,H)) K)=K (.sl 1 r 0 (n+1)) H')∧Aq H' r=some (.cells q BI (Dw (l++[b])))∧Wf H'∧A2 H≤A2 H'∧(∀s x,Aq H s=some x→¬AF v s→Aq H' s=some x)∧A2 H≤r:=by
 subst hl;exact C6m b h w hn
def bw (l:List UInt8) (i:Nat):BitVec 32:=BitVec.ofNat 32 (l.getD i 0).toNat
def A9F (l:List UInt8) (i:Nat):BitVec 32:=bw l (4*i)<<<24|||bw l (4*i+1)<<<16|||bw l (4*i+2)<<<8|||bw l (4*i+3)
def w16 (l:List UInt8) (n:Nat):List (BitVec 32):=(List.range n).map (A9F l)
def sg0 (x:BitVec 32):BitVec 32:=Jv x 7^^^Jv x 18^^^x>>>3
def sg1 (x:BitVec 32):BitVec 32:=Jv x 17^^^Jv x 19^^^x>>>10
def LG (l:List UInt8):Nat→List (BitVec 32)
 |0=>w16 l 16
 |i+1=>LG l i++[(LG l i).getD i 0+sg0 ((LG l i).getD (i+1) 0)+(LG l i).getD (i+9) 0+sg1 ((LG l i).getD (i+14) 0)]
theorem WJ (l:List UInt8) (n:Nat):(w16 l n).length=n:=by simp[w16]
theorem PI (l:List UInt8) (i:Nat):(LG l i).length=16+i:=by
 induction i with
 |zero=>simp[LG,WJ]
 |succ i ih=>simp[LG,ih];omega
structure S8 where
 a:BitVec 32
 b:BitVec 32
 c:BitVec 32
 d:BitVec 32
 e:BitVec 32
 f:BitVec 32
 g:BitVec 32
 h:BitVec 32
def S8.l (s:S8):List (BitVec 32):=[s.a,s.b,s.c,s.d,s.e,s.f,s.g,s.h]
def rt1 (s:S8) (k w:BitVec 32):BitVec 32:=s.h+(Jv s.e 6^^^Jv s.e 11^^^Jv s.e 25)+((s.e&&&s.f)^^^(~~~s.e&&&s.g))+k+w
def rt2 (s:S8):BitVec 32:=(Jv s.a 2^^^Jv s.a 13^^^Jv s.a 22)+((s.a&&&s.b)^^^(s.a&&&s.c)^^^(s.b&&&s.c))
def rnd (s:S8) (k w:BitVec 32):S8:=⟨rt1 s k w+rt2 s,s.a,s.b,s.c,s.d+rt1 s k w,s.e,s.f,s.g⟩
def ZC (ws:List (BitVec 32)) (s:S8):Nat→S8
 |0=>s
 |i+1=>rnd (ZC ws s i) (kk.getD i 0) (ws.getD i 0)
def C6n (s t:S8):S8:=⟨s.a+t.a,s.b+t.b,s.c+t.c,s.d+t.d,s.e+t.e,s.f+t.f,s.g+t.g,s.h+t.h⟩
def blk (s:S8) (l:List UInt8):S8:=C6n s (ZC (LG l 48) s 64)
variable {L n:Nat} {K:KV} {x:Aj}
theorem A5T (l:List UInt8) (i:Nat):BitVec.ofNat 32 (l.getD (4*i) 0).toNat<<<24|||BitVec.ofNat 32 (l.getD (4*i+1) 0).toNat<<<16|||BitVec.ofNat 32 (l.getD (4*i+2) 0).toNat<<<8|||BitVec.ofNat 32 (l.getD (4*i+3) 0).toNat=A9F l i:=rfl
theorem A64 (l:List UInt8) (i:Nat):w16 l (i+1)=w16 l i++[A9F l i]:=by simp[w16,List.range_succ]
theorem C1w (x:BitVec 32):Jv x 7^^^Jv x 18^^^x>>>3=sg0 x:=rfl
theorem C1v (x:BitVec 32):Jv x 17^^^Jv x 19^^^x>>>10=sg1 x:=rfl
theorem PH (i:Nat):(i:Int)+1=((i+1:Nat):Int):=rfl
theorem C3d {k:AV→AV→AV→AV→AV→AV→AV→AV→AV→Hp→Aj} {l:List UInt8} {a0 w1 w2 w3 w4 w5 w6:AV} (hl:l.length=64) (hx:∀v H,Bu H BI 1 v 16 (Dw (w16 l 16))→Wf H→k a0 (T2 l) v (I 16) w2 w3 w4 w5 w6 H=x):
 ∀(f i:Nat) (v:AV) (H:Hp),i≤16→16-i<f→Bu H BI 1 v i (Dw (w16 l i))→Wf H→Ma L (rt L n) K k f a0 (T2 l) v (I i) w1 w2 w3 w4 w5 w6 H=x:=by
 intro f
 induction f with
 |zero=>intro i v H _ h;omega
 |succ f ih=>
  intro i v H hi hf hv hw
  rw[Ys]
  unfold PR Av
  rw[DM,EH]
  by_cases h:i<16
  ·rw[if_pos (by simp;omega)]
   simp(disch:=omega) only[O9,CG,Cl,MT,B58,NI (t:=AD) rfl,A45,Kb (z:=24) (k:=24) rfl (by decide),Kb (z:=16) (k:=16) rfl (by decide),Kb (z:=8) (k:=8) rfl (by decide),XC]
   have e0:((4:Int)*(i:Int)).toNat=4*i:=by omega
   have e1:((4:Int)*(i:Int)+1).toNat=4*i+1:=by omega
   have e2:((4:Int)*(i:Int)+2).toNat=4*i+2:=by omega
   have e3:((4:Int)*(i:Int)+3).toNat=4*i+3:=by omega
   rw[e0,e1,e2,e3,A5T]
   obtain⟨r,q,H',h1,h2,h3,h4,h5,_⟩:=A9q (A9F l i) (WJ l i) hv hw (by omega)
   rw[h1,PH]
   refine ih (i+1) _ H' (by omega) (by omega) (.inr ⟨r,q,rfl,?_,?_⟩) h3
   ·rw[A64]
    exact h2
   ·rw[Gi,WJ];omega
  ·rw[if_neg (by simp;omega)]
   have:i=16:=by omega
   subst this
   exact hx _ _ hv hw
theorem C3e {k:AV→AV→AV→AV→AV→AV→AV→Hp→Aj} {l:List UInt8} {w0 w1 w2 w3 w4 w5 w6 w7:AV} (hx:∀r q H,Aq H r=some (.cells q BI (Dw (LG l 48)))→Wf H→k w0 w1 (.sl 1 r 0 64) w2 (I 64) w6 w7 H=x):
 ∀(f i r:Nat) (q:Bool) (H:Hp),i≤48→48-i<f→Aq H r=some (.cells q BI (Dw (LG l i)))→Wf H→Mb L (rt L (n+1)) K k f w0 w1 (.sl 1 r 0 (16+i)) w2 (I ((16+i:Nat):Int)) w3 w4 w5 w6 w7 H=x:=by
 intro f
 induction f with
 |zero=>intro i r q H _ h;omega
 |succ f ih=>
  intro i r q H hi hf hv hw
  rw[Yt]
  unfold PT Av
  rw[DM,EH]
  by_cases h:i<48
  ·rw[if_pos (by simp;omega)]
   have hl:=PI l i
   have e1:((16+i:Nat):Int)-15=((i+1:Nat):Int):=by omega
   have e2:((16+i:Nat):Int)-2=((i+14:Nat):Int):=by omega
   have e3:((16+i:Nat):Int)-16=((i:Nat):Int):=by omega
   have e4:((16+i:Nat):Int)-7=((i+9:Nat):Int):=by omega
   simp(disch:=omega) only[Hn,Cl,MT,e1,e2,e3,e4,C60,XT,C5Z hv,VN (z:=7) 7 rfl (by decide),VN (z:=18) 18 rfl (by decide),VN (z:=17) 17 rfl (by decide),VN (z:=19) 19 rfl (by decide),Sm,Iw (z:=3) (k:=3) rfl (by decide),Iw (z:=10) (k:=10) rfl (by decide),NL]
   rw[C1w,C1v]
   obtain⟨r',q',H',h1,h2,h3,h4,h5,_⟩:=A9q ((LG l i).getD i 0+sg0 ((LG l i).getD (i+1) 0)+(LG l i).getD (i+9) 0+sg1 ((LG l i).getD (i+14) 0)) (v:= .sl 1 r 0 (16+i)) hl (.inr ⟨r,q,rfl,hv,by rw[Gi,hl];omega⟩) hw (by omega)
   rw[h1]
   simp(disch:=omega) only[CG,Cl]
   rw[PH]
   exact ih (i+1) r' q' H' (by omega) (by omega) h2 h3
  ·rw[if_neg (by simp;omega)]
   have:i=48:=by omega
   subst this
   exact hx _ _ _ hv hw
end
section
def Rd (H:Hp) (v:AV) (n:Nat) (cs:List AV):Prop:=cs.length=n∧(v= .list n cs∨∃r q e,v= .sl 1 r 0 n∧Aq H r=some (.cells q e cs))
def rdp (v:AV) (i:Nat):AV:=match v with
 | .list _ cs=> .iptr [cs.getD i .dk]
 | .sl _ r _ _=> .ptr r i 0
 |_=> .dk
theorem Bu.rd {H:Hp} {e n:Nat} {v:AV} {cs:List AV} (h:Bu H e 1 v n cs) (hn:n≠0):Rd H v n cs:=by
 rcases h with⟨_,h,_⟩|⟨r,q,h1,h2,h3⟩
 ·exact absurd h hn
 ·exact⟨by omega,.inr ⟨r,q,e,h1,h2⟩⟩
theorem A0o {H:Hp} {n:Nat} {cs:List AV} (h:cs.length=n):Rd H (.list n cs) n cs:=⟨h,.inl rfl⟩
theorem Rd.lat {H H':Hp} {v:AV} {n:Nat} {cs:List AV} {P:Nat→Prop} (h:Rd H v n cs) (w:Wf H) (k:Lat H H' P) (hP:∀s,AF v s→¬P s):Rd H' v n cs:=by
 rcases h with⟨h0,h|⟨r,q,e,h1,h2⟩⟩
 ·exact⟨h0,.inl h⟩
 ·exact⟨h0,.inr ⟨r,q,e,h1,k.keep w r _ h2 (hP r ⟨1,0,n,h1⟩)⟩⟩
theorem NJ {t:TI} {e n:Nat} {v:AV} {H:Hp} {cs:List AV} (h:Rd H v n cs) (hd:t.d= .slice e 1) {z:Int} (k:Nat) (hz:z=k) (hk:k<n) {K:AV→Aj}:BA t v (I z) K=K (rdp v k):=by
 subst hz
 rcases h with⟨h0,rfl|⟨r,q,e,rfl,h2⟩⟩
 ·rw[Vb hd h0 (by omega) (by omega)];rfl
 ·rw[A5g hd (by omega) (by omega)];rfl
theorem YX {t:TI} {n:Nat} {v:AV} {H:Hp} {cs:List AV} (h:Rd H v n cs) (hd:t.d.isAgg=false) {k:Nat} (hk:k<n) {K:AV→Aj}:Au t (rdp v k) H K=K (cs.getD k .dk):=by
 rcases h with⟨h0,rfl|⟨r,q,e,rfl,h2⟩⟩
 ·exact NI hd
 ·exact B56 hd h2 (by omega)
theorem C50 {H:Hp} {a b c d e f g h:BitVec 32} (K:KV):FG BI 1 Ao 8 [(0,1,W a),(1,1,W b),(2,1,W c),(3,1,W d),(4,1,W e),(5,1,W f),(6,1,W g),(7,1,W h)] H K=K (.sl 1 (A2 H) 0 8) ((A2 H,.cells false BI (Dw [a,b,c,d,e,f,g,h]))::H):=by
 have e1:FG BI 1 Ao 8 [(0,1,W a),(1,1,W b),(2,1,W c),(3,1,W d),(4,1,W e),(5,1,W f),(6,1,W g),(7,1,W h)] H K=Ih H λs=>K (.sl 1 s 0 8) ((s,.cells false BI (Dw [a,b,c,d,e,f,g,h]))::H):=rfl
 rw[e1,Ca]
theorem A40 {x:BitVec 32} {K:AV→Aj}:Iy .xor (W x) K=K (W (~~~x)):=B4W
theorem B97 {k:Nat} (h:k<64):(Dw kk).getD k .dk=W (kk.getD k 0):=KE (by rw[A8N];exact h)
variable {L n:Nat} {K:KV} {x:Aj}
theorem B3f (s:S8) (k w:BitVec 32):[s.h+(Jv s.e 6^^^Jv s.e 11^^^Jv s.e 25)+((s.e&&&s.f)^^^(~~~s.e&&&s.g))+k+w+((Jv s.a 2^^^Jv s.a 13^^^Jv s.a 22)+((s.a&&&s.b)^^^(s.a&&&s.c)^^^(s.b&&&s.c))),s.a,s.b,s.c,s.d+(s.h+(Jv s.e 6^^^Jv s.e 11^^^Jv s.e 25)+((s.e&&&s.f)^^^(~~~s.e&&&s.g))+k+w),s.e,s.f,s.g]=(rnd s k w).l:=rfl
theorem C3f {k:AV→AV→AV→AV→AV→AV→AV→AV→Hp→Aj} {ws:List (BitVec 32)} {s0:S8} {rw:Nat} {w0 w1 w3 w4 w6 w7:AV} (hws:ws.length=64) (hx:∀v q H,Bu H BI 1 v 8 (Dw (ZC ws s0 64).l)→Aq H rw=some (.cells q BI (Dw ws))→Wf H→k w0 w1 (.sl 1 rw 0 64) w3 w4 (.list 64 (Dw kk)) v (I 64) H=x):
 ∀(f i:Nat) (v:AV) (q:Bool) (H:Hp),i≤64→64-i<f→Bu H BI 1 v 8 (Dw (ZC ws s0 i).l)→Aq H rw=some (.cells q BI (Dw ws))→Wf H→Me L (rt L (n+1)) K k f w0 w1 (.sl 1 rw 0 64) w3 w4 (.list 64 (Dw kk)) v (I i) w6 w7 H=x:=by
 intro f
 induction f with
 |zero=>intro i v q H _ h;omega
 |succ f ih=>
  intro i v q H hi hf hv hr hw
  rw[Yu]
  unfold PU Av
  rw[DM,EH]
  by_cases h:i<64
  ·rw[if_pos (by simp;omega)]
   have rv:=hv.rd (by decide)
   have rk:Rd H (.list 64 (Dw kk)) 64 (Dw kk):=A0o (by rw[Gi,A8N])
   have rs:Rd H (.sl 1 rw 0 64) 64 (Dw ws):=⟨by rw[Gi,hws],.inr ⟨rw,q,BI,rfl,hr⟩⟩
   generalize hs:ZC ws s0 i=s at rv hv
   have g0:(Dw s.l).getD 0 .dk=W s.a:=id rfl
   have g1:(Dw s.l).getD 1 .dk=W s.b:=id rfl
   have g2:(Dw s.l).getD 2 .dk=W s.c:=id rfl
   have g3:(Dw s.l).getD 3 .dk=W s.d:=id rfl
   have g4:(Dw s.l).getD 4 .dk=W s.e:=id rfl
   have g5:(Dw s.l).getD 5 .dk=W s.f:=id rfl
   have g6:(Dw s.l).getD 6 .dk=W s.g:=id rfl
   have g7:(Dw s.l).getD 7 .dk=W s.h:=id rfl
   have gw:(Dw ws).getD i .dk=W (ws.getD i 0):=KE (by omega)
   have i0:= λK=>NJ (t:=A7) rv rfl (z:=0) 0 rfl (by decide) (K:=K)
   have i1:= λK=>NJ (t:=A7) rv rfl (z:=1) 1 rfl (by decide) (K:=K)
   have i2:= λK=>NJ (t:=A7) rv rfl (z:=2) 2 rfl (by decide) (K:=K)
   have i3:= λK=>NJ (t:=A7) rv rfl (z:=3) 3 rfl (by decide) (K:=K)
   have i4:= λK=>NJ (t:=A7) rv rfl (z:=4) 4 rfl (by decide) (K:=K)
   have i5:= λK=>NJ (t:=A7) rv rfl (z:=5) 5 rfl (by decide) (K:=K)
   have i6:= λK=>NJ (t:=A7) rv rfl (z:=6) 6 rfl (by decide) (K:=K)
   have i7:= λK=>NJ (t:=A7) rv rfl (z:=7) 7 rfl (by decide) (K:=K)
   have ik:= λK=>NJ (t:=A7) rk rfl (z:=i) i rfl h (K:=K)
   have iw:= λK=>NJ (t:=A7) rs rfl (z:=i) i rfl h (K:=K)
   have lv:= λk hk K=>YX (t:=Ao) rv rfl (k:=k) hk (K:=K)
   have lk:= λk hk K=>YX (t:=Ao) rk rfl (k:=k) hk (K:=K)
   have lw:= λk hk K=>YX (t:=Ao) rs rfl (k:=k) hk (K:=K)
   simp(disch:=omega) only[MT,i0,i1,i2,i3,i4,i5,i6,i7,ik,iw,lv,lk,lw,g0,g1,g2,g3,g4,g5,g6,g7,gw,B97 h,Sm,A46,NL,A40,
    VN (z:=6) 6 rfl (by decide),VN (z:=11) 11 rfl (by decide),VN (z:=25) 25 rfl (by decide),VN (z:=2) 2 rfl (by decide),VN (z:=13) 13 rfl (by decide),VN (z:=22) 22 rfl (by decide)]
   rw[C50,Qz,CG,Cl (by omega) (by omega),B3f,PH]
   have hr':ZC ws s0 (i+1)=rnd s (kk.getD i 0) (ws.getD i 0):=by rw[←hs];rfl
   rw[←hr']
   exact ih (i+1) _ q _ (by omega) (by omega) (LO rfl) (AM (hw.lt hr) hr) (Bj hw)
  ·rw[if_neg (by simp;omega)]
   have:i=64:=by omega
   subst this
   exact hx _ _ _ hv hr hw
def XQ (a b:List (BitVec 32)) (i:Nat):List (BitVec 32):=(List.range i).map λi=>a.getD i 0+b.getD i 0
theorem Q9 (a b:List (BitVec 32)) (i:Nat):(XQ a b i).length=i:=by simp[XQ]
theorem A4e (a b:List (BitVec 32)) (i:Nat):XQ a b (i+1)=XQ a b i++[a.getD i 0+b.getD i 0]:=by simp[XQ,List.range_succ]
theorem C3p (s t:S8):XQ s.l t.l 8=(C6n s t).l:=rfl
theorem C3g {k:AV→Hp→Aj} {a b:List (BitVec 32)} {va vb w1 w2 w3 w4 w5 w7:AV} (hx:∀v H,Bu H BI 1 v 8 (Dw (XQ a b 8))→Wf H→k v H=x) (hva:va= .list 8 (Dw a)) (ha:a.length=8) (hb:b.length=8):
 ∀(f i:Nat) (v:AV) (H:Hp),i≤8→8-i<f→Bu H BI 1 v i (Dw (XQ a b i))→Bu H BI 1 vb 8 (Dw b)→(∀s,AF v s→¬AF vb s)→Wf H→Mf L (rt L n) K k f va w1 w2 w3 w4 w5 vb w7 v (I i) H=x:=by
 intro f
 induction f with
 |zero=>intro i v H _ h;omega
 |succ f ih=>
  intro i v H hi hf hv hvb hd hw
  rw[Yv]
  unfold PV Av
  rw[DM,EH]
  by_cases h:i<8
  ·rw[if_pos (by simp;omega)]
   have ra:Rd H va 8 (Dw a):=by subst hva;exact A0o (by rw[Gi,ha])
   have rb:=hvb.rd (by decide)
   have ga:(Dw a).getD i .dk=W (a.getD i 0):=KE (by omega)
   have gb:(Dw b).getD i .dk=W (b.getD i 0):=KE (by omega)
   have ia:= λK=>NJ (t:=A7) ra rfl (z:=i) i rfl h (K:=K)
   have ib:= λK=>NJ (t:=A7) rb rfl (z:=i) i rfl h (K:=K)
   have la:= λK=>YX (t:=Ao) ra rfl (k:=i) h (K:=K)
   have lb:= λK=>YX (t:=Ao) rb rfl (k:=i) h (K:=K)
   simp only[MT,ia,ib,la,lb,ga,gb,NL]
   obtain⟨r,q,H',h1,h2,h3,h4,h5,h6⟩:=A9q (a.getD i 0+b.getD i 0) (Q9 a b i) hv hw (by omega)
   rw[h1,CG,Cl (by omega) (by omega),PH]
   refine ih (i+1) _ H' (by omega) (by omega) (.inr ⟨r,q,rfl,?_,?_⟩) ?_ ?_ h3
   ·rw[A4e];exact h2
   ·rw[Gi,Q9];omega
   ·rcases hvb with⟨e1,e2,e3⟩|⟨r2,q2,e1,e2,e3⟩
    ·exact .inl ⟨e1,e2,e3⟩
    ·exact .inr ⟨r2,q2,e1,h5 _ _ e2 (λhh=>hd _ hh ⟨1,0,8,e1⟩),e3⟩
   ·intro s ⟨p,o,m,hs⟩ hs2
    injection hs with _ hs
    subst hs
    have:=hvb.lt hw hs2
    omega
  ·rw[if_neg (by simp;omega)]
   have:i=8:=by omega
   subst this
   exact hx _ _ hv hw
theorem S8.len (s:S8):s.l.length=8:=rfl
theorem B73 {s:S8} {l:List UInt8} (hl:l.length=64) (hL:100<L):CS (rt L (n+2)) Rv [.list 8 (Dw s.l),T2 l] (.list 8 (Dw (blk s l).l)):=by
 intro K hK
 rw[A00]
 unfold Rn Av
 simp only[BW]
 refine C3d hl ?_ L 0 _ [] (by omega) (by omega) (.inl ⟨rfl,rfl,rfl⟩) F8
 intro v H hv hw
 rcases hv with⟨_,h,_⟩|⟨r,q,rfl,h2,h3⟩
 ·exact absurd h (by decide)
 refine C3e ?_ L 0 r q H (by omega) (by omega) h2 hw
 intro r q H hr hw
 rw[AT A6c Ba]
 obtain⟨v',H',h1,h2,h3,h4⟩:=apt (ie:=Ao) (i2:=A7) (H:=H) (e:=BI) (sz:=1) (n:=0) (m:=8) (v:= .v (.slice none 0 0)) (src:= .list 8 (Dw s.l)) (cs:=[]) (ys:=Dw s.l) (.inl ⟨rfl,rfl,rfl⟩) (λK=>A41) rfl (Vj _) (by decide) rfl rfl (by decide) (by decide)
 rw[h1]
 have hr':=h4.keep hw r _ hr (λ⟨_,_,_,h⟩=>by cases h)
 refine C3f (s0:=s) (by rw[PI]) ?_ L 0 v' q H' (by omega) (by omega) h2 hr' (h4.wf hw)
 intro v q H hv hr hw
 refine C3g (a:=s.l) (b:=(ZC (LG l 48) s 64).l) ?_ rfl rfl rfl L 0 _ H (by omega) (by omega) (.inl ⟨rfl,rfl,rfl⟩) hv (λs ⟨_,_,_,h⟩=>by cases h) hw
 intro v H hv hw
 rw[C3p] at hv
 exact hK _ _ (λb=>⟨true,A26 hv (by decide) (λx:BitVec 32=>Value.int .u32 (x.toNat:Int)) _ rfl⟩)
end
section
theorem A73 {t:TI} {e m:Nat} {cs:List AV} {x y:Int} (a b:Nat) {K:AV→Aj} (hd:t.d= .slice e 1) (hx:x=a) (hy:y=b) (h1:a≤b) (h2:b≤m):DI t (.list m cs) (some (I x)) (some (I y)) none K=K (.list (b-a) ((cs.drop a).take (b-a))):=by
 subst hx hy
 have e1:DI t (.list m cs) (some (I a)) (some (I b)) none K=iN (a:Int) λl=>iN (b:Int) λh=>fN m λx=>ck ((true||(some (I (b:Int))).isSome)&&(Nat.ble l h&&(Nat.ble h x&&Nat.ble x m))) (fN (Nat.sub h l) λn=>Qo (Nat.mul n 1) (D4 (Nat.mul l 1) cs) λc=>K (.list n c)):=by
  obtain⟨_,_,d,z⟩:=t;simp only at hd;subst hd;rfl
 rw[e1,JD,JD,Dt]
 have c:((true||(some (I (b:Int))).isSome)&&(Nat.ble a b&&(Nat.ble b m&&Nat.ble m m)))=true:=by simp only[Bool.true_or,l16,Jq,YE];omega
 rw[c]
 show fN (Nat.sub b a) (λn=>Qo (Nat.mul n 1) (D4 (Nat.mul a 1) cs) λc=>K (.list n c))=_
 rw[Dt,MF,CL]
 show K (.list (b-a) ((cs.drop (a*1)).take ((b-a)*1)))=_
 rw[l28,l28]
def iv:S8:=⟨1779033703,3144134277,1013904242,2773480762,1359893119,2600822924,528734635,1541459225⟩
def Wt (s:List UInt8):Nat→S8
 |0=>iv
 |i+1=>blk (Wt s i) ((s.drop (64*i)).take 64)
def wb (w:BitVec 32):List UInt8:=[UInt8.ofNat (w.toNat/2^24),UInt8.ofNat (w.toNat/2^16),UInt8.ofNat (w.toNat/2^8),UInt8.ofNat w.toNat]
def Ux (l:List (BitVec 32)):Nat→List UInt8
 |0=>[]
 |i+1=>Ux l i++wb (l.getD i 0)
theorem Uw (l:List (BitVec 32)) (i:Nat):(Ux l i).length=4*i:=by
 induction i with
 |zero=>rfl
 |succ i ih=>simp[Ux,ih,wb];omega
def sha (s:List UInt8):List UInt8:=Ux (Wt (ext s) ((ext s).length/64)).l 8
variable {L n:Nat} {K:KV} {x:Aj}
theorem C5K {H:Hp} {v:AV} {n:Nat} {l:List (BitVec 32)} (h:Rd H v n (Dw l)):∃q,Fx true depth v (.list n (Dw l)) H q:=by
 rcases h with⟨h0,rfl|⟨r,q,e,rfl,h2⟩⟩
 ·exact⟨_,Pj⟩
 ·exact⟨_,Xz (q':=false) h2 (by omega) (K9 (λx:BitVec 32=>Value.int .u32 (x.toNat:Int)) l)⟩
theorem C1s {k:AV→AV→AV→Hp→Aj} {s:List UInt8} {m:Nat} {H:Hp} {w3 w4:AV} (hm:s.length=64*m) (hs:s.length<200000000000) (hL:100<L) (hm0:m≠0) (hx:∀j,k (.list 8 (Dw (Wt s m).l)) (T2 s) j H=x):
 ∀(f i:Nat) (v:AV),i≤m→m-i<f→Rd H v 8 (Dw (Wt s i).l)→(i≠0→v= .list 8 (Dw (Wt s i).l))→Pc L (rt L (n+2)) K k f v (T2 s) (I ((64*i:Nat):Int)) w3 w4 H=x:=by
 intro f
 induction f with
 |zero=>intro i v _ h;omega
 |succ f ih=>
  intro i v hi hf hv hv2
  rw[A1o]
  unfold SI Av
  have el:∀K,AR AB (T2 s) K=K (I (s.length:Int)):= λ_=>id rfl
  rw[el,DM,EH]
  by_cases h:i<m
  ·rw[if_pos (by simp;omega)]
   simp(disch:=omega) only[CG,Cl]
   have e1:((64*i:Nat):Int)+64=((64*(i+1):Nat):Int):=by omega
   unfold T2
   rw[e1,A73 (64*i) (64*(i+1)) rfl rfl rfl (by omega) (by omega)]
   have e2:64*(i+1)-64*i=64:=by omega
   have e3:AV.list 64 (((KC s).drop (64*i)).take 64)=T2 ((s.drop (64*i)).take 64):=by
    unfold T2 KC
    have:((s.drop (64*i)).take 64).length=64:=by simp;omega
    rw[this,List.map_take,List.map_drop]
   rw[e2,e3]
   obtain⟨q,hq⟩:=C5K hv
   rw[AT (B73 (n:=n) (s:=Wt s i) (l:=(s.drop (64*i)).take 64) (by simp;omega) hL) (Ax hq (Ax (by unfold T2;exact Pj) Ba))]
   exact ih (i+1) _ (by omega) (by omega) (A0o (by rw[Gi];rfl)) (λ_=>rfl)
  ·rw[if_neg (by simp;omega)]
   have:i=m:=by omega
   subst this
   rw[hv2 hm0]
   exact hx _
theorem A44 {w:BitVec 32} {K:AV→Aj}:F7 Ao AD (W w) K=K (By (UInt8.ofNat w.toNat)):=B5b
theorem C51 {H:Hp} {a b c d:UInt8} (K:KV):FG AY 1 AD 4 [(0,1,By a),(1,1,By b),(2,1,By c),(3,1,By d)] H K=K (.sl 1 (A2 H) 0 4) ((A2 H,.cells false AY (KC [a,b,c,d]))::H):=by
 have e1:FG AY 1 AD 4 [(0,1,By a),(1,1,By b),(2,1,By c),(3,1,By d)] H K=Ih H λs=>K (.sl 1 s 0 4) ((s,.cells false AY (KC [a,b,c,d]))::H):=rfl
 rw[e1,Ca]
theorem B8b (l:List UInt8):∀K:List UInt8→Aj,fu8 (KC l) K=K l:=by
 induction l with
 |nil=>intro K;rfl
 |cons b l ih=>
  intro K
  have e:fu8 (KC (b::l)) K=iN (b.toNat:Int) λn=>fu8 (KC l) λl=>K (UInt8.ofNat n::l):=rfl
  rw[e,JD,ih]
  simp
theorem B0q {H:Hp} {e n:Nat} {v:AV} {l:List UInt8} {K:AV→Aj} (h:Bu H e 1 v n (KC l)):A2m v H K=K (S l):=by
 have e1:A2m v H K=UZ H v λm cs=>GS cs 0 λk=>ck (Nat.beq k m) (fu8 cs λl=>K (.v (.string ⟨⟨l⟩⟩))):=by
  rcases h with⟨rfl,_⟩|⟨r,q,rfl,_⟩<;>rfl
 have hn:(KC l).length=n:=by
  rcases h with⟨_,rfl,h⟩|⟨r,q,_,_,h⟩
  ·rw[h];rfl
  ·omega
 rw[e1,Pt h,Cq,KN,hn,Zq]
 exact B8b l _
theorem C1t {k:AV→Hp→Aj} {s:S8} {v w1 w2:AV} (hx:∀u H,Bu H AY 1 u 32 (KC (Ux s.l 8))→k u H=x):
 ∀(f i:Nat) (u:AV) (H:Hp),i≤8→8-i<f→Bu H AY 1 u (4*i) (KC (Ux s.l i))→v= .list 8 (Dw s.l)→Wf H→Pd L (rt L n) K k f v w1 w2 u (I i) H=x:=by
 intro f
 induction f with
 |zero=>intro i v H _ h;omega
 |succ f ih=>
  intro i u H hi hf hu hv hw
  rw[A1p]
  unfold SJ Av
  rw[DM,EH]
  by_cases h:i<8
  ·rw[if_pos (by simp;omega)]
   have ra:Rd H v 8 (Dw s.l):=by subst hv;exact A0o (by rw[Gi];rfl)
   have ga:(Dw s.l).getD i .dk=W (s.l.getD i 0):=KE h
   have ia:= λK=>NJ (t:=A7) ra rfl (z:=i) i rfl h (K:=K)
   have la:= λK=>YX (t:=Ao) ra rfl (k:=i) h (K:=K)
   simp only[MT,ia,la,ga,Iw (z:=24) (k:=24) rfl (by decide),Iw (z:=16) (k:=16) rfl (by decide),Iw (z:=8) (k:=8) rfl (by decide),A44,C51,Qz]
   generalize hc:[UInt8.ofNat (s.l.getD i 0>>>24).toNat,UInt8.ofNat (s.l.getD i 0>>>16).toNat,UInt8.ofNat (s.l.getD i 0>>>8).toNat,UInt8.ofNat (s.l.getD i 0).toNat]=c
   have hcl:c.length=4:=by rw[←hc];rfl
   have hcw:c=wb (s.l.getD i 0):=by rw[←hc];unfold wb;simp only[BitVec.toNat_ushiftRight,Nat.shiftRight_eq_div_pow]
   have hu1:Bu ((A2 H,.cells false AY (KC c))::H) AY 1 u (4*i) (KC (Ux s.l i)):=hu.lat hw (Lat.cons H _ (λ_=>False)) (λ_ _ h=>h)
   have hsrc:=LO (H:=H) (e:=AY) (n:=4) (cs:=KC c) (by rw[Og,hcl])
   obtain⟨v',H',h1,h2,h3,h4⟩:=apt (ie:=AD) (i2:=AB) hu1 (λK=>Pt (K:=K) hsrc) (by rw[Og,hcl]) (B0u _) (by decide) rfl rfl (by show(4*i+4)*1≤_;omega) (by omega)
   rw[h1,Qz,CG,Cl (by omega) (by omega),PH]
   refine ih (i+1) _ H' (by omega) (by omega) ?_ hv (h4.wf (Bj hw))
   rw[A5n,hcw] at h2
   exact h2
  ·rw[if_neg (by simp;omega)]
   have:i=8:=by omega
   subst this
   exact hx _ _ hu
theorem B0k (s:List UInt8):∃m,(ext s).length=64*m∧64*m≤s.length+73:=by
 refine⟨(ext s).length/64,?_,?_⟩
 ·have:(ext s).length=s.length+1+WB s.length+8:=by simp[ext,pre];omega
  unfold WB at this;omega
 ·have:(ext s).length=s.length+1+WB s.length+8:=by simp[ext,pre];omega
  unfold WB at this;omega
theorem B8S {s:List UInt8} (hs:s.length<100000000000) (hL:s.length+200<L):CS (rt L (n+3)) Ov [S s] (S (sha s)):=by
 intro K hK
 rw[A3c]
 unfold UF Av
 simp only[BW]
 obtain⟨m,hm,hm2⟩:=B0k s
 have hiv:∀K:KV,FG BI 1 Ao 8 [(0,1,(AV.v (.int .u32 1779033703))),(1,1,(AV.v (.int .u32 3144134277))),(2,1,(AV.v (.int .u32 1013904242))),(3,1,(AV.v (.int .u32 2773480762))),(4,1,(AV.v (.int .u32 1359893119))),(5,1,(AV.v (.int .u32 2600822924))),(6,1,(AV.v (.int .u32 528734635))),(7,1,(AV.v (.int .u32 1541459225)))] [] K=K (.sl 1 0 0 8) [(0,.cells false BI (Dw iv.l))]:= λK=>C50 (H:=[]) (a:=1779033703) (b:=3144134277) (c:=1013904242) (d:=2773480762) (e:=1359893119) (f:=2600822924) (g:=528734635) (h:=1541459225) K
 rw[hiv,AT (A8i (n:=n+1) s hs (by omega)) fx1]
 have hm0:m≠0:= λh=>by subst h;simp[ext] at hm
 refine C1s (n:=n) (m:=m) hm (by omega) (by omega) hm0 ?_ L 0 _ (by omega) (by omega) ((LO (H:=[]) rfl).rd (by decide)) (λh=>absurd rfl h)
 intro j
 refine C1t (n:=n+2) (s:=Wt (ext s) m) ?_ L 0 _ _ (by omega) (by omega) (.inl ⟨rfl,rfl,rfl⟩) rfl (Bj F8)
 intro u H hu
 rw[B0q hu]
 have e:Ux (Wt (ext s) m).l 8=sha s:=by
  unfold sha
  have:(ext s).length/64=m:=by omega
  rw[this]
 rw[e]
 exact hK _ _ (λb=>⟨false,D1⟩)
end
section
def U (n:Nat):AV:= .v (.int .u64 (n:Int))
theorem B7a {x:BitVec 32} {k:Nat} (h0:1≤k) (h:k<32) {L n:Nat} {H:Hp} {K:KV}:(rt L (n+1)).call FM [W x,I (-(k:Int))] H K=K (W (Jv x k)) H:=by
 rw[Qe]
 unfold Ij
 have e1:∀K:AV→Aj,(F7 Ab BR (I (-(k:Int))) λv1=>Al BR .and v1 (AV.v (.int .u64 31)) λv2=>K v2)=K (U (32-k)):=by
  intro K
  have:k=1∨k=2∨k=3∨k=4∨k=5∨k=6∨k=7∨k=8∨k=9∨k=10∨k=11∨k=12∨k=13∨k=14∨k=15∨k=16∨k=17∨k=18∨k=19∨k=20∨k=21∨k=22∨k=23∨k=24∨k=25∨k=26∨k=27∨k=28∨k=29∨k=30∨k=31:=by omega
  rcases this with rfl|rfl|rfl|rfl|rfl|rfl|rfl|rfl|rfl|rfl|rfl|rfl|rfl|rfl|rfl|rfl|rfl|rfl|rfl|rfl|rfl|rfl|rfl|rfl|rfl|rfl|rfl|rfl|rfl|rfl|rfl<;>rfl
 rw[e1]
 have e2:∀K:AV→Aj,Al BR .sub (AV.v (.int .u64 32)) (U (32-k)) K=K (U k):=by
  intro K
  have e:Al BR .sub (AV.v (.int .u64 32)) (U (32-k)) K=ME .u64 ((32:Int)-((32-k:Nat):Int)) λz=>K (.v (.int .u64 z)):=rfl
  rw[e,Hg]
  have:(32:Int)-((32-k:Nat):Int)=(k:Int):=by omega
  rw[this,VU rfl]
  have:(k:Int)%(2^IntKind.u64.bits:Nat)=(k:Int):=Int.emod_eq_of_lt (by omega) (by show(k:Int)<(18446744073709551616:Int);omega)
  rw[this];rfl
 have e3:∀K:AV→Aj,Al Ao .shl (W x) (U (32-k)) K=K (W (x<<<(32-k))):= λK=>Kb rfl (by omega)
 have e4:∀K:AV→Aj,Al Ao .shr (W x) (U k) K=K (W (x>>>k)):= λK=>Iw rfl (by omega)
 rw[e3,e2,e4,XC]
 have:x<<<(32-k)|||x>>>k=Jv x k:=by unfold Jv;exact BitVec.or_comm _ _
 rw[this]
theorem C1D {L n:Nat} {x:BitVec 32} {k:Nat} (h0:1≤k) (h:k<32):PS (rt L (n+1)) FM [W x,I (-(k:Int))] (W (Jv x k)):=by
 refine CS.ps (λK hK=> ?_) (λH=>C5J)
 rw[B7a h0 h]
 exact hK _ _ (λb=>⟨false,fxq⟩)
def UN (ks:List Nat):List AV:=ks.map λk:Nat=> .v (.int .i64 (k:Int))
theorem B1v {l:List Nat} {k:Nat} (h:k<l.length):(UN l).getD k .dk=I (l[k]:Nat):=by
 simp[UN,Ua,h]
def QD (x:BitVec 32) (ks:List Nat):BitVec 32:=ks.foldl (λa k=>a^^^Jv x k) 0
theorem B1F {k:Nat} (hk:k<32) {K:AV→Aj}:Iy .neg (I k) K=K (I (-(k:Int))):=by
 have e:Iy .neg (I k) K=ME .i64 (0-(k:Int)) λz=>K (.v (.int .i64 z)):=rfl
 rw[e,Hg,Int.zero_sub,Cl (by omega) (by omega)]
variable {L n:Nat} {K:KV} {x:Aj}
theorem B48 {k:AV→Hp→Aj} {w:BitVec 32} {ks:List Nat} {H:Hp} (hk:∀k∈ks,1≤k∧k<32) (hl:ks.length<32) (hx:k (W (QD w ks)) H=x):
 ∀(f i:Nat),i≤ks.length→ks.length-i<f→Lb L (rt L (n+1)) K k f (W w) (W (QD w (ks.take i))) (.list ks.length (UN ks)) (I ks.length) (I i) H=x:=by
 intro f
 induction f with
 |zero=>intro i _ h;omega
 |succ f ih=>
  intro i hi hf
  rw[XF]
  unfold OQ Av
  rw[DM,EH]
  by_cases h:i<ks.length
  ·rw[if_pos (by simp;omega)]
   have hki:=hk ks[i] (QN h)
   rw[Vb rfl (by simp[UN]) (by omega) (by omega),XT,NI rfl,B1v h,B1F hki.2,C1D hki.1 hki.2,Sm,CG,Cl (by omega) (by omega),PH]
   have e:QD w (ks.take (i+1))=QD w (ks.take i)^^^Jv w ks[i]:=by
    unfold QD
    rw[l04 h,List.foldl_append];rfl
   rw[←e]
   exact ih (i+1) (by omega) (by omega)
  ·rw[if_neg (by simp;omega)]
   have:i=ks.length:=by omega
   subst this
   rw[l06]
   exact hx
theorem B6X {w:BitVec 32} {ks:List Nat} (hk:∀k∈ks,1≤k∧k<32) (hl:ks.length<32) (hL:32<L):CS (rt L (n+2)) Eb [W w,.list ks.length (UN ks)] (W (QD w ks)):=by
 intro K hK
 rw[Y8]
 unfold Qf Av
 simp only[BW]
 have e:∀K,AR Ag (.list ks.length (UN ks)) K=K (I ks.length):= λK=>id rfl
 rw[e]
 refine B48 hk hl ?_ L 0 (by omega) (by omega)
 exact hK _ _ (λb=>⟨false,D1⟩)
theorem C4V {w:BitVec 32}:QD w [7,18]^^^w>>>3=sg0 w:=by simp[QD,sg0]
theorem C4U {w:BitVec 32}:QD w [17,19]^^^w>>>10=sg1 w:=by simp[QD,sg1]
def pad (l:List (BitVec 32)) (n:Nat):List (BitVec 32):=l++List.replicate (n-l.length) 0
theorem A9Y {l:List (BitVec 32)} {n:Nat} (h:l.length≤n):(pad l n).length=n:=by simp[pad];omega
theorem A9X {l:List (BitVec 32)} {n k:Nat} (w:BitVec 32) (hk:l.length=k) (h:k<n):(Dw (pad l n)).set k (W w)=Dw (pad (l++[w]) n):=by
 subst hk
 have e:n-l.length=(n-(l.length+1))+1:=by omega
 simp[pad,Dw,e,l17,List.set_append_right]
theorem B3W {l:List (BitVec 32)} {n k:Nat} (h:k<l.length):(Dw (pad l n)).getD k .dk=W (l.getD k 0):=by
 simp[pad,Dw,Ua,h,List.getElem?_append]
theorem B3X {l:List (BitVec 32)} {n:Nat} (h:l.length=n):pad l n=l:=by simp[pad,h]
theorem B93 (a b:Nat) (K:AV→Aj):Sn 1 Ab 2 [(0,1,I a),(1,1,I b)] K=K (.list 2 (UN [a,b])):=id rfl
theorem B92 (a b c:Nat) (K:AV→Aj):Sn 1 Ab 3 [(0,1,I a),(1,1,I b),(2,1,I c)] K=K (.list 3 (UN [a,b,c])):=id rfl
theorem A4S {w:BitVec 32} {ks:List Nat} {H:Hp} {K:AV→Aj} (hk:∀k∈ks,1≤k∧k<32) (hl:ks.length<32) (hL:32<L):Ai (rt L (n+2)) Eb [W w,.list ks.length (UN ks)] H K=K (W (QD w ks)):=
 AT (B6X hk hl hL) (Ax D1 (Ax Pj Ba))
theorem C1x {k:AV→AV→AV→Hp→Aj} {l:List UInt8} {r:Nat} {w:AV} (hl:l.length=64) (hx:∀q H,Aq H r=some (.cells q C9 (Dw (pad (w16 l 16) 64)))→Wf H→k (T2 l) (.ptr r 0 0) (I 16) H=x):
 ∀(f i:Nat) (q:Bool) (H:Hp),i≤16→16-i<f→Aq H r=some (.cells q C9 (Dw (pad (w16 l i) 64)))→Wf H→Jh L (rt L n) K k f (T2 l) (.ptr r 0 0) w (I i) H=x:=by
 intro f
 induction f with
 |zero=>intro i q H _ h;omega
 |succ f ih=>
  intro i q H hi hf hr hw
  rw[Ve]
  unfold L0 Av
  rw[DM,EH]
  by_cases h:i<16
  ·rw[if_pos (by simp;omega)]
   simp(disch:=omega) only[O9,CG,Cl,MT,B58,NI (t:=AD) rfl,A45,Kb (z:=24) (k:=24) rfl (by decide),Kb (z:=16) (k:=16) rfl (by decide),Kb (z:=8) (k:=8) rfl (by decide),XC]
   have e0:((4:Int)*(i:Int)).toNat=4*i:=by omega
   have e1:((4:Int)*(i:Int)+1).toNat=4*i+1:=by omega
   have e2:((4:Int)*(i:Int)+2).toNat=4*i+2:=by omega
   have e3:((4:Int)*(i:Int)+3).toNat=4*i+3:=by omega
   rw[e0,e1,e2,e3,A5T,Ec i rfl rfl (by omega),MT,E4 hr (by rw[Gi,A9Y (by rw[WJ];omega)];omega) rfl rfl rfl,Qz,A9X _ (WJ l i) (by omega),←A64,PH]
   exact ih (i+1) q _ (by omega) (by omega) (A9 hr) (BH hw)
  ·rw[if_neg (by simp;omega)]
   have:i=16:=by omega
   subst this
   exact hx _ _ hr hw
theorem C1y {k:AV→Hp→Aj} {l:List UInt8} {r:Nat} {w0 w1:AV} (hL:100<L) (hx:∀q H,Aq H r=some (.cells q C9 (Dw (LG l 48)))→Wf H→k (.ptr r 0 0) H=x):
 ∀(f i:Nat) (q:Bool) (H:Hp),i≤48→48-i<f→Aq H r=some (.cells q C9 (Dw (pad (LG l i) 64)))→Wf H→Ji L (rt L (n+2)) K k f w0 (.ptr r 0 0) (I ((16+i:Nat):Int)) w1 H=x:=by
 intro f
 induction f with
 |zero=>intro i q H _ h;omega
 |succ f ih=>
  intro i q H hi hf hr hw
  rw[Vf]
  unfold L1 Av
  rw[DM,EH]
  have hl:=PI l i
  by_cases h:i<48
  ·rw[if_pos (by simp;omega)]
   have hp:(Dw (pad (LG l i) 64)).length=64:=by rw[Gi,A9Y (by rw[hl];omega)]
   have e1:((16+i:Nat):Int)-15=((i+1:Nat):Int):=by omega
   have e2:((16+i:Nat):Int)-2=((i+14:Nat):Int):=by omega
   have e3:((16+i:Nat):Int)-16=((i:Nat):Int):=by omega
   have e4:((16+i:Nat):Int)-7=((i+9:Nat):Int):=by omega
   have ia:= λ(k:Nat) hk K=>Ec (t:=BN) (s:=r) (z:=(k:Int)) k (K:=K) rfl rfl hk
   have la:= λk hk K=>AK (t:=Ao) (p:=k) (K:=K) rfl hr hk
   have gg:= λk hk=>B3W (n:=64) (l:=LG l i) (k:=k) hk
   simp(disch:=omega) only[Hn,Cl,MT,e1,e2,e3,e4,ia,la,gg]
   have i1:∀K,Sn 1 Ab 2 [(0,1,.v (.int .i64 7)),(1,1,.v (.int .i64 18))] K=K (.list 2 (UN [7,18])):= λK=>B93 7 18 K
   have i2:∀K,Sn 1 Ab 2 [(0,1,.v (.int .i64 17)),(1,1,.v (.int .i64 19))] K=K (.list 2 (UN [17,19])):= λK=>B93 17 19 K
   have m1:∀w K,Ai (rt L (n+2)) Eb [W w,.list 2 (UN [7,18])] H K=K (W (QD w [7,18])):= λw K=>A4S (ks:=[7,18]) (by decide) (by decide) (by omega)
   have m2:∀w K,Ai (rt L (n+2)) Eb [W w,.list 2 (UN [17,19])] H K=K (W (QD w [17,19])):= λw K=>A4S (ks:=[17,19]) (by decide) (by decide) (by omega)
   simp(disch:=omega) only[MT,gg,i1,i2,m1,m2,Iw (z:=3) (k:=3) rfl (by decide),Iw (z:=10) (k:=10) rfl (by decide),Sm,NL,C4V,C4U]
   rw[E4 hr (by omega) rfl rfl rfl,Qz,A9X _ hl (by omega),CG,Cl (by omega) (by omega),PH]
   exact ih (i+1) q _ (by omega) (by omega) (A9 hr) (BH hw)
  ·rw[if_neg (by simp;omega)]
   have:i=48:=by omega
   subst this
   rw[B3X (by rw[PI])] at hr
   exact hx _ _ hr hw
def arr (l:List (BitVec 32)):AV:= .agg (Dw l)
theorem A8h {l:List UInt8} (hl:l.length=64) (hL:100<L):CS (rt L (n+3)) MQ [T2 l] (arr (LG l 48)):=by
 intro K hK
 rw[VF]
 unfold Mz Av
 simp only[BW]
 rw[Bi (cs:=Dw (pad (w16 l 0) 64)) rfl]
 refine C1x hl ?_ L 0 true _ (by omega) (by omega) (A1 (by simp)) (Bj F8)
 intro q H hr hw
 refine C1y (n:=n) (l:=l) hL ?_ L 0 q H (by omega) (by omega) hr hw
 intro q H hr hw
 have hl:(Dw (LG l 48)).length=64:=by rw[Gi,PI]
 rw[Br rfl hl.symm hr,B8 hr rfl hl.symm (Vj _),Br rfl hl.symm (A9 hr)]
 exact hK _ _ (λb=>⟨false,Qn (K9 (λx:BitVec 32=>Value.int .u32 (x.toNat:Int)) _)⟩)
end
end Go.Abs
end
