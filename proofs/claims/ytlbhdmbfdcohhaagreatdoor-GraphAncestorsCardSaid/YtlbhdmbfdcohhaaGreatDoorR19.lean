import Derived.Test.YtlbhdmbfdcohhaaGreatDoorR11
import Derived.Test.YtlbhdmbfdcohhaaGreatDoorR18
set_option linter.all false
set_option maxHeartbeats 100000000
noncomputable section
namespace Go.Abs
open Go.RowKit Go.Proofs
set_option maxRecDepth 100000
theorem C2r {t t':TI} {K:AV→Al} {l:List UInt8} {i:Nat} (hd:t.d= .string) (h:i<l.length):Ta t t' (S l) (I i) K=K (By l[i]):=by
 have e:Ta t t' (S l) (I i) K=iN (i:Int) λn=>B8R (Dp n l) K:=by
  obtain⟨a,b,d,z⟩:=t;simp only at hd;subst hd;rfl
 rw[e,JW,C8,l11 h]
 show fN l[i].toNat (λn=>K (.v (.int .u8 (.ofNat n))))=_
 rw[DI];rfl
theorem MY {t:TI} {K:AV→Al} {l:List UInt8} (hd:t.d= .string):AP t (S l) K=K (I l.length):=by
 have:AP t (S l) K=HJ l 0 λn=>K (.v (.int .i64 (.ofNat n))):=by
  obtain⟨a,b,d,z⟩:=t;simp only at hd;subst hd;rfl
 rw[this,Cw,Ln];rfl
theorem Js {H:Hp} {e sz n:Nat} {v:AV} {cs:List AV} {t:TI} {e' z':Nat} {K:AV→Al} (hd:t.d= .slice e' z') (h:B1 H e sz v n cs):AP t v K=K (I n):=by
 obtain⟨a,b,d,z⟩:=t
 simp only at hd
 subst hd
 rcases h with⟨rfl,rfl,_⟩|⟨r,q,rfl,_⟩<;>rfl
theorem B55 {H:Hp} {v:AV} {l:List UInt8} (b:UInt8) (h:B1 H AU 1 v l.length (Ki l)) (w:Wf H) (hn:l.length<1000000000000):
 ∃v' H',(∀K:KV,(Fh AU 1 AG 1 [(0,1,By b)] H λv1 H1=>DN AU 1 AG AB v v1 H1 K)=K v' H')∧B1 H' AU 1 v' (l++[b]).length (Ki (l++[b]))∧Wf H'∧A6 H≤A6 H'∧(∀s x,Ax H s=some x→¬AX v s→Ax H' s=some x)∧(∀s,AX v' s→A6 H≤s):=by
 have hv1:B1 ((A6 H,.cells false AU [By b])::H) AU 1 v l.length (Ki l):=h.lat w (Lat.cons H _ (λ_=>False)) (λ_ _ h=>h)
 have hsrc:=OW (H:=H) (e:=AU) (n:=1) (cs:=[By b]) rfl
 obtain⟨v',H',h1,h2,h3,h4⟩:=apt (ie:=AG) (i2:=AB) hv1 (λK=>SZ (K:=K) hsrc) rfl rfl (by decide) rfl rfl (by show(l.length+1)*1≤_;omega) (by omega)
 have h5:=(Lat.cons H (.cells false AU [By b]) (AX v)).trans h4 (R:=AX v) (λ_ _ h=>h) (λ_ _ h=>h)
 refine⟨v',H',λK=> ?_,by rw[FA,←A55];exact h2,h5.wf w,h5.nx,λs x hs hn=>h5.keep w s x hs hn,λs hs=> ?_⟩
 ·rw[A97 (z:=By 0) (λ_=>rfl) (λ_=>rfl) rfl]
  exact h1 K
 ·rw[h3 s hs];exact l1p _
def VW (n:Nat):Nat:=(119-n%64)%64
def VG (n i:Nat):UInt8:=UInt8.ofNat (8*n/2^(8*i))
def pre (s:List UInt8):List UInt8:=s++[128]++List.replicate (VW s.length) 0
def ext (s:List UInt8):List UInt8:=pre s++[VG s.length 7,VG s.length 6,VG s.length 5,VG s.length 4,VG s.length 3,VG s.length 2,VG s.length 1,VG s.length 0]
theorem C2j {L:Nat} {R:Rt} {K:KV} {k:AV→AV→AV→AV→Hp→Al} {s:List UInt8} {x:Al} {w:AV} (hs:s.length<100000000000) (hx:∀v H,B1 H AU 1 v s.length (Ki s)→Wf H→k (S s) v (I s.length) w H=x):
 ∀(f i:Nat) (v:AV) (H:Hp),i≤s.length→s.length-i<f→B1 H AU 1 v (s.take i).length (Ki (s.take i))→Wf H→Jn L R K k f (S s) v (I i) w H=x:=by
 intro f
 induction f with
 |zero=>intro i v H _ h;omega
 |succ f ih=>
  intro i v H hi hf hv hw
  rw[UU]
  unfold Ly Ar
  rw[MY rfl,Dy,En]
  by_cases h:i<s.length
  ·rw[if_pos (by simpa using h)]
   rw[C2r rfl h]
   obtain⟨v',H',h1,h2,h3,h4,h5,_⟩:=B55 s[i] hv hw (by simp;omega)
   rw[h1]
   simp(disch:=omega) only[Cz,Cb]
   refine ih (i+1) v' H' (by omega) (by omega) ?_ h3
   rw[l04 h]
   exact h2
  ·rw[if_neg (by simpa using h)]
   have:i=s.length:=by omega
   subst this
   exact hx _ _ (by simpa using hv) hw
theorem A21 {j:TI} {K:AV→Al} {a k:Nat} (hk:k≤64):Ak j .shr (I a) (I k) K=K (I (a/2^k:Nat)):=by
 have:Ak j .shr (I a) (I k) K=ck (ZH 0 (k:Int)) (fI ((a:Int).fdiv (2^(min (k:Int).toNat 64))) λz=>K (.v (.int .i64 z))):=rfl
 rw[this,RJ]
 have h1:ZH 0 (k:Int)=true:=by rw[J7];simp
 have h2:(a:Int).fdiv (2^(min (k:Int).toNat 64))=((a/2^k:Nat):Int):=by
  rw[Xs,l1x hk]
  have:((2:Int)^k)=((2^k:Nat):Int):=by simp
  rw[this,Int.fdiv_eq_ediv_of_nonneg _ (Int.natCast_nonneg _)]
  exact(Int.natCast_ediv _ _).symm
 rw[h1,h2];rfl
theorem A6V {t t':TI} {K:AV→Al} {m:Nat} (hd:t'.d= .int .u8):Fg t t' (I m) K=K (By (UInt8.ofNat m)):=by
 have:Fg t t' (I m) K=LN .u8 (m:Int) λz=>K (.v (.int .u8 z)):=by
  obtain⟨a,b,d,z⟩:=t';simp only at hd;subst hd;rfl
 rw[this,GA,Vx rfl]
 have:(m:Int)%(2^IntKind.u8.bits:Nat)=((UInt8.ofNat m).toNat:Int):=by
  rw[UInt8.toNat_ofNat']
  exact(Int.natCast_emod _ _).symm
 rw[this]
def TF (n:Nat):Nat→List UInt8
 |0=>[]
 |i+1=>VG n i::TF n i
theorem A3e (n i:Nat):(TF n i).length=i:=by
 induction i with
 |zero=>rfl
 |succ i ih=>simp[TF,ih]
theorem C2k {L:Nat} {R:Rt} {K:KV} {k:AV→AV→AV→Hp→Al} {s:List UInt8} {x:Al} {w1 w2 w3:AV} (hs:s.length<100000000000) (hx:∀v H,B1 H AU 1 v (pre s).length (Ki (pre s))→Wf H→k w1 v w2 H=x):
 ∀(f j:Nat) (v:AV) (H:Hp),j≤VW s.length→VW s.length-j<f→B1 H AU 1 v (s++[128]++List.replicate j 0).length (Ki (s++[128]++List.replicate j 0))→Wf H→Jo L R K k f w1 v w2 w3 H=x:=by
 intro f
 induction f with
 |zero=>intro j v H _ h;omega
 |succ f ih=>
  intro j v H hj hf hv hw
  rw[UV]
  unfold Lz Ar
  have hlen:(s++[128]++List.replicate j (0:UInt8)).length=s.length+1+j:=by simp;omega
  have hz:VW s.length<64:=by unfold VW;omega
  rw[Js rfl hv,Ux (by decide),GF,En]
  have hm:((s++[128]++List.replicate j (0:UInt8)).length:Int).tmod 64=(((s.length+1+j)%64:Nat):Int):=by rw[hlen];exact(Int.ofNat_tmod _ _).symm
  rw[hm]
  by_cases h:j=VW s.length
  ·subst h
   have:(s.length+1+VW s.length)%64=56:=by unfold VW;omega
   rw[this]
   simp only[l14,decide_eq_false_iff_not]
   rw[if_neg (by simp)]
   exact hx _ _ hv hw
  ·have hne:(s.length+1+j)%64≠56:=by unfold VW at h hj;omega
   rw[if_pos (by simp;omega)]
   obtain⟨v',H',h1,h2,h3,h4,h5,_⟩:=B55 (0:UInt8) hv hw (by omega)
   have e:(AV.v (.int .u8 0))=By 0:=rfl
   rw[e]
   rw[h1]
   refine ih (j+1) v' H' (by omega) (by omega) ?_ h3
   rw[List.replicate_succ',←l0k]
   exact h2
theorem C2l {L:Nat} {R:Rt} {K:KV} {k:AV→Hp→Al} {s:List UInt8} {x:Al} {w:AV} (hs:s.length<100000000000) (hx:∀v H,B1 H AU 1 v (pre s++TF s.length 8).length (Ki (pre s++TF s.length 8))→Wf H→k v H=x):
 ∀(f i:Nat) (l:List UInt8) (v:AV) (H:Hp),i≤8→i<f→l++TF s.length i=pre s++TF s.length 8→B1 H AU 1 v l.length (Ki l)→Wf H→Hg L R K k f (S s) v w (I ((i:Int)-1)) H=x:=by
 have hz:VW s.length<64:=by unfold VW;omega
 intro f
 induction f with
 |zero=>intro i l v H _ h;omega
 |succ f ih=>
  intro i l v H hi hf hl hv hw
  have hll:l.length≤s.length+1+64+8:=by
   have:=congrArg List.length hl
   simp[pre,A3e] at this
   omega
  rw[UW]
  unfold L0 Ar
  rw[Me,En]
  cases i with
  |zero=>
   rw[if_neg (by simp)]
   have:l=pre s++TF s.length 8:=by simpa [TF] using hl
   subst this
   exact hx _ _ hv hw
  |succ i=>
   rw[if_pos (by simp)]
   have e1:((i+1:Nat):Int)-1=(i:Int):=by omega
   rw[e1]
   rw[MY rfl,NU,NU,Cb (by omega) (by omega),Cb (by omega) (by omega)]
   have e2:(8:Int)*(s.length:Int)=((8*s.length:Nat):Int):=by omega
   have e3:(8:Int)*(i:Int)=((8*i:Nat):Int):=by omega
   rw[e2,e3,A21 (by omega)]
   rw[A6V rfl]
   obtain⟨v',H',h1,h2,h3,h4,h5,_⟩:=B55 (VG s.length i) hv hw (by omega)
   simp(disch:=omega) only[GE,Cb]
   have h1:=h1 (λv37 H36=>Hg L R K k f (S s) v37 w (I ((i:Int)-1)) H36)
   unfold VG at h1
   rw[h1]
   refine ih i (l++[VG s.length i]) v' H' (by omega) (by omega) ?_ h2 h3
   rw[l0k]
   exact hl
def Te (l:List UInt8):AV:= .list l.length (Ki l)
theorem A1M {b:Bool} {H:Hp} {v:AV} {e n:Nat} {cs:List AV} (h:B1 H e 1 v n cs) (hn:n≠0) {α:Type} (f:α→Value) (l:List α) (hc:cs=l.map λx=> .v (f x)):Fx b depth v (.list n cs) H true:=by
 subst hc
 rcases h with⟨_,h2,_⟩|⟨r,q,rfl,h2,h3⟩
 ·exact absurd h2 hn
 ·exact Vn (q':=false) h2 h3 (Kf f l)
theorem C2f {b:Bool} {H:Hp} {v:AV} {l:List UInt8} (h:B1 H AU 1 v l.length (Ki l)) (hne:l≠[]):Fx b depth v (Te l) H true:=
 A1M h (λh=>hne (l1s h)) (λb:UInt8=>Value.int .u8 (b.toNat:Int)) l rfl
theorem fx1 {H:Hp} {x:Value}:OM true depth [.v x] [.v x] H false:=A2 (q:=false) (q':=false) Ed Bt
theorem A81 {L n:Nat} (s:List UInt8) (hs:s.length<100000000000) (hL:s.length+100<L):CS (rt L (n+1)) MU [S s] (Te (ext s)):=by
 intro K hK
 rw[VA]
 unfold MD Ar
 simp only[Cp]
 refine C2j hs ?_ L 0 _ [] (by omega) (by omega) (.inl ⟨rfl,rfl,rfl⟩) Fv
 intro v H hv hw
 obtain⟨v',H',h1,h2,h3,h4,h5,_⟩:=B55 (128:UInt8) hv hw (by omega)
 have e:(AV.v (.int .u8 128))=By 128:=rfl
 rw[e,h1]
 refine C2k hs ?_ L 0 v' H' (by omega) (by have:VW s.length<64:=(by unfold VW;omega);omega) (by simpa using h2) h3
 intro v H hv hw
 refine C2l hs ?_ L 8 (pre s) v H (by omega) (by omega) rfl hv hw
 intro v H hv hw
 exact hK _ _ (λb=>⟨true,C2f (l:=ext s) hv (by simp[ext])⟩)
def IZ (x:BitVec 32) (k:Nat):BitVec 32:=(x>>>k)|||(x<<<(32-k))
theorem C4U {H:Hp} {x y:Value}:OM true depth [.v x,.v y] [.v x,.v y] H false:=A2 (q:=false) (q':=false) Ed fx1
theorem fxq {b:Bool} {x:Value} {H:Hp}:Fx b depth (.v x) (.v x) H false:=Ed
theorem B0P {L n:Nat} (x:BitVec 32) (k:Nat) (hk:k≤32):PS (rt L (n+1)) CA [W x,I k] (W (IZ x k)):=by
 refine CS.ps (λK hK=> ?_) (λH=>C4U)
 rw[W0]
 unfold Ob Ar
 have h32:((32:Int)-(k:Int))=((32-k:Nat):Int):=by omega
 simp(disch:=omega) only[HO rfl hk,B4M,GE,Cb,h32,JC rfl (show 32-k≤32 by omega),Xe]
 exact hK _ _ (λb=>⟨false,fxq⟩)
def kk:List (BitVec 32):=[0x428a2f98,0x71374491,0xb5c0fbcf,0xe9b5dba5,0x3956c25b,0x59f111f1,0x923f82a4,0xab1c5ed5,
 0xd807aa98,0x12835b01,0x243185be,0x550c7dc3,0x72be5d74,0x80deb1fe,0x9bdc06a7,0xc19bf174,
 0xe49b69c1,0xefbe4786,0x0fc19dc6,0x240ca1cc,0x2de92c6f,0x4a7484aa,0x5cb0a9dc,0x76f988da,
 0x983e5152,0xa831c66d,0xb00327c8,0xbf597fc7,0xc6e00bf3,0xd5a79147,0x06ca6351,0x14292967,
 0x27b70a85,0x2e1b2138,0x4d2c6dfc,0x53380d13,0x650a7354,0x766a0abb,0x81c2c92e,0x92722c85,
 0xa2bfe8a1,0xa81a664b,0xc24b8b70,0xc76c51a3,0xd192e819,0xd6990624,0xf40e3585,0x106aa070,
 0x19a4c116,0x1e376c08,0x2748774c,0x34b0bcb5,0x391c0cb3,0x4ed8aa4a,0x5b9cca4f,0x682e6ff3,
 0x748f82ee,0x78a5636f,0x84c87814,0x8cc70208,0x90befffa,0xa4506ceb,0xbef9a3f7,0xc67178f2]
theorem A8z:kk.length=64:=rfl
theorem A5S {L n:Nat}:CS (rt L (n+1)) LU [] (.list 64 (Db kk)):=by
 intro K hK
 rw[UX]
 have e:LB L (rt L n) [] K=K (.sl 1 0 0 64) [(0,.cells false BB (Db kk))]:=by kernel_rfl
 rw[e]
 exact hK _ _ (λb=>⟨true,A1M (e:=BB) (.inr ⟨0,false,rfl,rfl,rfl⟩) (by decide) (λx:BitVec 32=>Value.int .u32 (x.toNat:Int)) kk rfl⟩)
theorem B4T {l:List UInt8} {k:Nat} (h:k<l.length):(Ki l).getD k .dk=By (l.getD k 0):=by
 simp[Ki,Ul,h]
theorem Kk {l:List (BitVec 32)} {k:Nat} (h:k<l.length):(Db l).getD k .dk=W (l.getD k 0):=by
 simp[Db,Ul,h]
theorem FB (l:List (BitVec 32)):(Db l).length=l.length:=by simp[Db]
theorem B5t (a b:List (BitVec 32)):Db a++Db b=Db (a++b):=by simp[Db]
theorem UE (l:List (BitVec 32)):(Db l).all AV.one=true:=by simp[Db,AV.one,Value.oneCell']
theorem Uv {t:TI} {e n:Nat} {cs:List AV} {z:Int} {K:AV→Al} (hd:t.d= .slice e 1) (hc:cs.length=n) (h0:0≤z) (h1:z<n):B0 t (.list n cs) (I z) K=K (.iptr [cs.getD z.toNat .dk]):=by
 obtain⟨m,rfl⟩:=Int.eq_ofNat_of_zero_le h0
 have e1:B0 t (.list n cs) (I (m:Int)) K=iN (m:Int) λm=>ck (Nat.blt m n) (Ti 1 (Dp (Nat.mul m 1) cs) λc=>K (.iptr c)):=by
  obtain⟨a,b,d,z⟩:=t;simp only at hd;subst hd;rfl
 have hm:m<n:=by omega
 rw[e1,JW,C8,NH]
 have:Nat.blt m n=true:=by rw[Uk];exact hm
 rw[this]
 have e2:Nat.mul m 1=m:=l28 m
 have e3:(cs.drop m).take 1=[cs.getD m .dk]:=by
  have hlt:m<cs.length:=by omega
  rw[l11 hlt,Ul,JV hlt];rfl
 rw[e2,e3];rfl
theorem A4Z {t:TI} {e r n:Nat} {z:Int} {K:AV→Al} (hd:t.d= .slice e 1) (h0:0≤z) (h1:z<n):B0 t (.sl 1 r 0 n) (I z) K=K (.ptr r z.toNat 0):=by
 obtain⟨m,rfl⟩:=Int.eq_ofNat_of_zero_le h0
 have e1:B0 t (.sl 1 r 0 n) (I (m:Int)) K=iN (m:Int) λm=>ck (Nat.blt m n) (fN (Nat.add 0 (Nat.mul m 1)) λp=>K (.ptr r p 0)):=by
  obtain⟨a,b,d,z⟩:=t;simp only at hd;subst hd;rfl
 have hm:m<n:=by omega
 rw[e1,JW,DI]
 have:Nat.blt m n=true:=by rw[Uk];exact hm
 have e2:Nat.add 0 (Nat.mul m 1)=m:=by show 0+m*1=m;omega
 rw[this,e2];rfl
theorem Ra {t:TI} {H:Hp} {c:AV} {K:AV→Al} (h:t.d.isAgg=false):Aq t (.iptr [c]) H K=K c:=by
 have:Aq t (.iptr [c]) H K=@Bool.rec (λ_=>Al) (K c) (FT t.size [c] λc=>K (.agg c)) t.d.isAgg:=rfl
 rw[this,h]
theorem B4B {t:TI} {H:Hp} {r p e:Nat} {q:Bool} {cs:List AV} {K:AV→Al} (h:t.d.isAgg=false) (hl:Ax H r=some (.cells q e cs)) (hp:p<cs.length):Aq t (.ptr r p 0) H K=K (cs.getD p .dk):=by
 have:Aq t (.ptr r p 0) H K=Kj H r λx=>KF x λ_ cs=>@Bool.rec (λ_=>Al) (hdK (Dp (Nat.add p 0) cs) K) (FT t.size (Dp (Nat.add p 0) cs) λc=>K (.agg c)) t.d.isAgg:=rfl
 rw[this,h,Cl hl]
 show hdK (Dp p cs) K=_
 rw[C8,l11 hp,Ul,JV hp];rfl
theorem B4D {l:List UInt8} {z:Int} {K:AV→Al} (h0:0≤z) (h1:z<l.length):B0 AB (Te l) (I z) K=K (.iptr [By (l.getD z.toNat 0)]):=by
 unfold Te
 rw[Uv rfl (Ny l) h0 h1,B4T (by omega)]
theorem C5a {r n:Nat} {z:Int} {K:AV→Al} (h0:0≤z) (h1:z<n):B0 A9 (.sl 1 r 0 n) (I z) K=K (.ptr r z.toNat 0):=A4Z rfl h0 h1
theorem C59 {H:Hp} {r p e:Nat} {q:Bool} {l:List (BitVec 32)} {K:AV→Al} (hl:Ax H r=some (.cells q e (Db l))) (hp:p<l.length):Aq Ao (.ptr r p 0) H K=K (W (l.getD p 0)):=by
 rw[B4B rfl hl (by rw[FB];exact hp),Kk hp]
theorem A3K {b:UInt8} {K:AV→Al}:Fg AG Ao (By b) K=K (W (BitVec.ofNat 32 b.toNat)):=B4H
theorem C5u {H:Hp} {v:AV} {l:List (BitVec 32)} (b:BitVec 32) (h:B1 H BB 1 v l.length (Db l)) (w:Wf H) (hn:l.length<1000000000000):
 ∃r q H',(∀K:KV,(DW (Fh BB 1 Ao 1 [(0,1,W b)] H λv H=>some (v,H)) λv1 H1=>DW (DN BB 1 Ao A9 v v1 H1 λv H=>some (v,H)) K)=K (.sl 1 r 0 (l.length+1)) H')∧Ax H' r=some (.cells q BB (Db (l++[b])))∧Wf H'∧A6 H≤A6 H'∧(∀s x,Ax H s=some x→¬AX v s→Ax H' s=some x)∧A6 H≤r:=by
 have hv1:B1 ((A6 H,.cells false BB [W b])::H) BB 1 v l.length (Db l):=h.lat w (Lat.cons H _ (λ_=>False)) (λ_ _ h=>h)
 have hsrc:=OW (H:=H) (e:=BB) (n:=1) (cs:=[W b]) rfl
 obtain⟨v',H',h1,h2,h3,h4⟩:=apt (ie:=Ao) (i2:=A9) hv1 (λK=>SZ (K:=K) hsrc) rfl rfl (by decide) rfl rfl (by show(l.length+1)*4≤_;omega) (by omega)
 have h5:=(Lat.cons H (.cells false BB [W b]) (AX v)).trans h4 (R:=AX v) (λ_ _ h=>h) (λ_ _ h=>h)
 rcases h2 with⟨_,h6,_⟩|⟨r,q,rfl,h6,h7⟩
 ·omega
 ·refine⟨r,q,H',λK=> ?_,by rw[←B5t];exact h6,h5.wf w,h5.nx,λs x hs hn=>h5.keep w s x hs hn,?_⟩
  ·rw[A97 (z:=W 0) (λ_=>rfl) (λ_=>rfl) rfl,A93,h1 (λv H=>some (v,H)),A93]
  ·rw[h3 r ⟨_,_,_,rfl⟩];exact l1p _
section
theorem Mf {v:AV} {H:Hp} {K:AV→Al}:Ai (some (v,H)) K=K v:=B4M
theorem U9 {v:AV} {H:Hp} {K:KV}:DW (some (v,H)) K=K v H:=A93
theorem Vj {L n:Nat} {x:BitVec 32} {z:Int} (k:Nat) (h0:z=(k:Int)) (h:k≤32) {H:Hp} {K:AV→Al}:Ah (rt L (n+1)) CA [W x,I z] H K=K (W (IZ x k)):=by
 subst h0
 exact B0P x k (by omega) H K
theorem A9f {H:Hp} {v:AV} {l:List (BitVec 32)} {n:Nat} (b:BitVec 32) (hl:l.length=n) (h:B1 H BB 1 v n (Db l)) (w:Wf H) (hn:n<1000000000000):
 ∃r q H',(∀K:KV,(DW (Fh BB 1 Ao 1 [(0,1,W b)] H λv H=>some (v,H)) λv1 H1=>DW (DN BB 1 Ao A9 v v1 H1 λv H=>some (v,H)) K)=K (.sl 1 r 0 (n+1)) H')∧Ax H' r=some (.cells q BB (Db (l++[b])))∧Wf H'∧A6 H≤A6 H'∧(∀s x,Ax H s=some x→¬AX v s→Ax H' s=some x)∧A6 H≤r:=by
 subst hl;exact C5u b h w hn
def bw (l:List UInt8) (i:Nat):BitVec 32:=BitVec.ofNat 32 (l.getD i 0).toNat
def A9r (l:List UInt8) (i:Nat):BitVec 32:=bw l (4*i)<<<24|||bw l (4*i+1)<<<16|||bw l (4*i+2)<<<8|||bw l (4*i+3)
def w16 (l:List UInt8) (n:Nat):List (BitVec 32):=(List.range n).map (A9r l)
def sg0 (x:BitVec 32):BitVec 32:=IZ x 7^^^IZ x 18^^^x>>>3
def sg1 (x:BitVec 32):BitVec 32:=IZ x 17^^^IZ x 19^^^x>>>10
def Lf (l:List UInt8):Nat→List (BitVec 32)
 |0=>w16 l 16
 |i+1=>Lf l i++[(Lf l i).getD i 0+sg0 ((Lf l i).getD (i+1) 0)+(Lf l i).getD (i+9) 0+sg1 ((Lf l i).getD (i+14) 0)]
theorem We (l:List UInt8) (n:Nat):(w16 l n).length=n:=by simp[w16]
theorem OX (l:List UInt8) (i:Nat):(Lf l i).length=16+i:=by
 induction i with
 |zero=>simp[Lf,We]
 |succ i ih=>simp[Lf,ih];omega
structure S8 where
 a:BitVec 32
 b:BitVec 32
 c:BitVec 32
 d:BitVec 32
 e:BitVec 32
 f:BitVec 32
 g:BitVec 32
 h:BitVec 32
def S8.l (s:S8):List (BitVec 32):=[s.a,s.b,s.c,s.d,s.e,s.f,s.g,s.h]
def rt1 (s:S8) (k w:BitVec 32):BitVec 32:=s.h+(IZ s.e 6^^^IZ s.e 11^^^IZ s.e 25)+((s.e&&&s.f)^^^(~~~s.e&&&s.g))+k+w
def rt2 (s:S8):BitVec 32:=(IZ s.a 2^^^IZ s.a 13^^^IZ s.a 22)+((s.a&&&s.b)^^^(s.a&&&s.c)^^^(s.b&&&s.c))
def rnd (s:S8) (k w:BitVec 32):S8:=⟨rt1 s k w+rt2 s,s.a,s.b,s.c,s.d+rt1 s k w,s.e,s.f,s.g⟩
def Zb (ws:List (BitVec 32)) (s:S8):Nat→S8
 |0=>s
 |i+1=>rnd (Zb ws s i) (kk.getD i 0) (ws.getD i 0)
def C5A (s t:S8):S8:=⟨s.a+t.a,s.b+t.b,s.c+t.c,s.d+t.d,s.e+t.e,s.f+t.f,s.g+t.g,s.h+t.h⟩
def blk (s:S8) (l:List UInt8):S8:=C5A s (Zb (Lf l 48) s 64)
variable {L n:Nat} {K:KV} {x:Al}
theorem A5y (l:List UInt8) (i:Nat):BitVec.ofNat 32 (l.getD (4*i) 0).toNat<<<24|||BitVec.ofNat 32 (l.getD (4*i+1) 0).toNat<<<16|||BitVec.ofNat 32 (l.getD (4*i+2) 0).toNat<<<8|||BitVec.ofNat 32 (l.getD (4*i+3) 0).toNat=A9r l i:=rfl
theorem A5J (l:List UInt8) (i:Nat):w16 l (i+1)=w16 l i++[A9r l i]:=by simp[w16,List.range_succ]
theorem C11 (x:BitVec 32):IZ x 7^^^IZ x 18^^^x>>>3=sg0 x:=rfl
theorem C10 (x:BitVec 32):IZ x 17^^^IZ x 19^^^x>>>10=sg1 x:=rfl
theorem OV (i:Nat):(i:Int)+1=((i+1:Nat):Int):=rfl
theorem C2E {k:AV→AV→AV→AV→AV→AV→AV→AV→AV→Hp→Al} {l:List UInt8} {a0 w1 w2 w3 w4 w5 w6:AV} (hl:l.length=64) (hx:∀v H,B1 H BB 1 v 16 (Db (w16 l 16))→Wf H→k a0 (Te l) v (I 16) w2 w3 w4 w5 w6 H=x):
 ∀(f i:Nat) (v:AV) (H:Hp),i≤16→16-i<f→B1 H BB 1 v i (Db (w16 l i))→Wf H→L1 L (rt L n) K k f a0 (Te l) v (I i) w1 w2 w3 w4 w5 w6 H=x:=by
 intro f
 induction f with
 |zero=>intro i v H _ h;omega
 |succ f ih=>
  intro i v H hi hf hv hw
  rw[XM]
  unfold Pg Ar
  rw[Dy,En]
  by_cases h:i<16
  ·rw[if_pos (by simp;omega)]
   simp(disch:=omega) only[NU,Cz,Cb,Mf,B4D,Ra (t:=AG) rfl,A3K,JC (z:=24) (k:=24) rfl (by decide),JC (z:=16) (k:=16) rfl (by decide),JC (z:=8) (k:=8) rfl (by decide),Xe]
   have e0:((4:Int)*(i:Int)).toNat=4*i:=by omega
   have e1:((4:Int)*(i:Int)+1).toNat=4*i+1:=by omega
   have e2:((4:Int)*(i:Int)+2).toNat=4*i+2:=by omega
   have e3:((4:Int)*(i:Int)+3).toNat=4*i+3:=by omega
   rw[e0,e1,e2,e3,A5y]
   obtain⟨r,q,H',h1,h2,h3,h4,h5,_⟩:=A9f (A9r l i) (We l i) hv hw (by omega)
   rw[h1,OV]
   refine ih (i+1) _ H' (by omega) (by omega) (.inr ⟨r,q,rfl,?_,?_⟩) h3
   ·rw[A5J]
    exact h2
   ·rw[FB,We];omega
  ·rw[if_neg (by simp;omega)]
   have:i=16:=by omega
   subst this
   exact hx _ _ hv hw
theorem C2F {k:AV→AV→AV→AV→AV→AV→AV→Hp→Al} {l:List UInt8} {w0 w1 w2 w3 w4 w5 w6 w7:AV} (hx:∀r q H,Ax H r=some (.cells q BB (Db (Lf l 48)))→Wf H→k w0 w1 (.sl 1 r 0 64) w2 (I 64) w6 w7 H=x):
 ∀(f i r:Nat) (q:Bool) (H:Hp),i≤48→48-i<f→Ax H r=some (.cells q BB (Db (Lf l i)))→Wf H→L2 L (rt L (n+1)) K k f w0 w1 (.sl 1 r 0 (16+i)) w2 (I ((16+i:Nat):Int)) w3 w4 w5 w6 w7 H=x:=by
 intro f
 induction f with
 |zero=>intro i r q H _ h;omega
 |succ f ih=>
  intro i r q H hi hf hv hw
  rw[XN]
  unfold Ph Ar
  rw[Dy,En]
  by_cases h:i<48
  ·rw[if_pos (by simp;omega)]
   have hl:=OX l i
   have e1:((16+i:Nat):Int)-15=((i+1:Nat):Int):=by omega
   have e2:((16+i:Nat):Int)-2=((i+14:Nat):Int):=by omega
   have e3:((16+i:Nat):Int)-16=((i:Nat):Int):=by omega
   have e4:((16+i:Nat):Int)-7=((i+9:Nat):Int):=by omega
   simp(disch:=omega) only[GE,Cb,Mf,e1,e2,e3,e4,C5a,Xs,C59 hv,Vj (z:=7) 7 rfl (by decide),Vj (z:=18) 18 rfl (by decide),Vj (z:=17) 17 rfl (by decide),Vj (z:=19) 19 rfl (by decide),RM,HO (z:=3) (k:=3) rfl (by decide),HO (z:=10) (k:=10) rfl (by decide),Na]
   rw[C11,C10]
   obtain⟨r',q',H',h1,h2,h3,h4,h5,_⟩:=A9f ((Lf l i).getD i 0+sg0 ((Lf l i).getD (i+1) 0)+(Lf l i).getD (i+9) 0+sg1 ((Lf l i).getD (i+14) 0)) (v:= .sl 1 r 0 (16+i)) hl (.inr ⟨r,q,rfl,hv,by rw[FB,hl];omega⟩) hw (by omega)
   rw[h1]
   simp(disch:=omega) only[Cz,Cb]
   rw[OV]
   exact ih (i+1) r' q' H' (by omega) (by omega) h2 h3
  ·rw[if_neg (by simp;omega)]
   have:i=48:=by omega
   subst this
   exact hx _ _ _ hv hw
end
section
def Rd (H:Hp) (v:AV) (n:Nat) (cs:List AV):Prop:=cs.length=n∧(v= .list n cs∨∃r q e,v= .sl 1 r 0 n∧Ax H r=some (.cells q e cs))
def rdp (v:AV) (i:Nat):AV:=match v with
 | .list _ cs=> .iptr [cs.getD i .dk]
 | .sl _ r _ _=> .ptr r i 0
 |_=> .dk
theorem B1.rd {H:Hp} {e n:Nat} {v:AV} {cs:List AV} (h:B1 H e 1 v n cs) (hn:n≠0):Rd H v n cs:=by
 rcases h with⟨_,h,_⟩|⟨r,q,h1,h2,h3⟩
 ·exact absurd h hn
 ·exact⟨by omega,.inr ⟨r,q,e,h1,h2⟩⟩
theorem ZW {H:Hp} {n:Nat} {cs:List AV} (h:cs.length=n):Rd H (.list n cs) n cs:=⟨h,.inl rfl⟩
theorem Rd.lat {H H':Hp} {v:AV} {n:Nat} {cs:List AV} {P:Nat→Prop} (h:Rd H v n cs) (w:Wf H) (k:Lat H H' P) (hP:∀s,AX v s→¬P s):Rd H' v n cs:=by
 rcases h with⟨h0,h|⟨r,q,e,h1,h2⟩⟩
 ·exact⟨h0,.inl h⟩
 ·exact⟨h0,.inr ⟨r,q,e,h1,k.keep w r _ h2 (hP r ⟨1,0,n,h1⟩)⟩⟩
theorem MZ {t:TI} {e n:Nat} {v:AV} {H:Hp} {cs:List AV} (h:Rd H v n cs) (hd:t.d= .slice e 1) {z:Int} (k:Nat) (hz:z=k) (hk:k<n) {K:AV→Al}:B0 t v (I z) K=K (rdp v k):=by
 subst hz
 rcases h with⟨h0,rfl|⟨r,q,e,rfl,h2⟩⟩
 ·rw[Uv hd h0 (by omega) (by omega)];rfl
 ·rw[A4Z hd (by omega) (by omega)];rfl
theorem Yz {t:TI} {n:Nat} {v:AV} {H:Hp} {cs:List AV} (h:Rd H v n cs) (hd:t.d.isAgg=false) {k:Nat} (hk:k<n) {K:AV→Al}:Aq t (rdp v k) H K=K (cs.getD k .dk):=by
 rcases h with⟨h0,rfl|⟨r,q,e,rfl,h2⟩⟩
 ·exact Ra hd
 ·exact B4B hd h2 (by omega)
theorem C4h {H:Hp} {a b c d e f g h:BitVec 32} (K:KV):Fh BB 1 Ao 8 [(0,1,W a),(1,1,W b),(2,1,W c),(3,1,W d),(4,1,W e),(5,1,W f),(6,1,W g),(7,1,W h)] H K=K (.sl 1 (A6 H) 0 8) ((A6 H,.cells false BB (Db [a,b,c,d,e,f,g,h]))::H):=by
 have e1:Fh BB 1 Ao 8 [(0,1,W a),(1,1,W b),(2,1,W c),(3,1,W d),(4,1,W e),(5,1,W f),(6,1,W g),(7,1,W h)] H K=HE H λs=>K (.sl 1 s 0 8) ((s,.cells false BB (Db [a,b,c,d,e,f,g,h]))::H):=rfl
 rw[e1,BX]
theorem A3F {x:BitVec 32} {K:AV→Al}:F8 .xor (W x) K=K (W (~~~x)):=B4r
theorem B8E {k:Nat} (h:k<64):(Db kk).getD k .dk=W (kk.getD k 0):=Kk (by rw[A8z];exact h)
variable {L n:Nat} {K:KV} {x:Al}
theorem B2Y (s:S8) (k w:BitVec 32):[s.h+(IZ s.e 6^^^IZ s.e 11^^^IZ s.e 25)+((s.e&&&s.f)^^^(~~~s.e&&&s.g))+k+w+((IZ s.a 2^^^IZ s.a 13^^^IZ s.a 22)+((s.a&&&s.b)^^^(s.a&&&s.c)^^^(s.b&&&s.c))),s.a,s.b,s.c,s.d+(s.h+(IZ s.e 6^^^IZ s.e 11^^^IZ s.e 25)+((s.e&&&s.f)^^^(~~~s.e&&&s.g))+k+w),s.e,s.f,s.g]=(rnd s k w).l:=rfl
theorem C2G {k:AV→AV→AV→AV→AV→AV→AV→AV→Hp→Al} {ws:List (BitVec 32)} {s0:S8} {rw:Nat} {w0 w1 w3 w4 w6 w7:AV} (hws:ws.length=64) (hx:∀v q H,B1 H BB 1 v 8 (Db (Zb ws s0 64).l)→Ax H rw=some (.cells q BB (Db ws))→Wf H→k w0 w1 (.sl 1 rw 0 64) w3 w4 (.list 64 (Db kk)) v (I 64) H=x):
 ∀(f i:Nat) (v:AV) (q:Bool) (H:Hp),i≤64→64-i<f→B1 H BB 1 v 8 (Db (Zb ws s0 i).l)→Ax H rw=some (.cells q BB (Db ws))→Wf H→L3 L (rt L (n+1)) K k f w0 w1 (.sl 1 rw 0 64) w3 w4 (.list 64 (Db kk)) v (I i) w6 w7 H=x:=by
 intro f
 induction f with
 |zero=>intro i v q H _ h;omega
 |succ f ih=>
  intro i v q H hi hf hv hr hw
  rw[XO]
  unfold Pi Ar
  rw[Dy,En]
  by_cases h:i<64
  ·rw[if_pos (by simp;omega)]
   have rv:=hv.rd (by decide)
   have rk:Rd H (.list 64 (Db kk)) 64 (Db kk):=ZW (by rw[FB,A8z])
   have rs:Rd H (.sl 1 rw 0 64) 64 (Db ws):=⟨by rw[FB,hws],.inr ⟨rw,q,BB,rfl,hr⟩⟩
   generalize hs:Zb ws s0 i=s at rv hv
   have g0:(Db s.l).getD 0 .dk=W s.a:=id rfl
   have g1:(Db s.l).getD 1 .dk=W s.b:=id rfl
   have g2:(Db s.l).getD 2 .dk=W s.c:=id rfl
   have g3:(Db s.l).getD 3 .dk=W s.d:=id rfl
   have g4:(Db s.l).getD 4 .dk=W s.e:=id rfl
   have g5:(Db s.l).getD 5 .dk=W s.f:=id rfl
   have g6:(Db s.l).getD 6 .dk=W s.g:=id rfl
   have g7:(Db s.l).getD 7 .dk=W s.h:=id rfl
   have gw:(Db ws).getD i .dk=W (ws.getD i 0):=Kk (by omega)
   have i0:= λK=>MZ (t:=A9) rv rfl (z:=0) 0 rfl (by decide) (K:=K)
   have i1:= λK=>MZ (t:=A9) rv rfl (z:=1) 1 rfl (by decide) (K:=K)
   have i2:= λK=>MZ (t:=A9) rv rfl (z:=2) 2 rfl (by decide) (K:=K)
   have i3:= λK=>MZ (t:=A9) rv rfl (z:=3) 3 rfl (by decide) (K:=K)
   have i4:= λK=>MZ (t:=A9) rv rfl (z:=4) 4 rfl (by decide) (K:=K)
   have i5:= λK=>MZ (t:=A9) rv rfl (z:=5) 5 rfl (by decide) (K:=K)
   have i6:= λK=>MZ (t:=A9) rv rfl (z:=6) 6 rfl (by decide) (K:=K)
   have i7:= λK=>MZ (t:=A9) rv rfl (z:=7) 7 rfl (by decide) (K:=K)
   have ik:= λK=>MZ (t:=A9) rk rfl (z:=i) i rfl h (K:=K)
   have iw:= λK=>MZ (t:=A9) rs rfl (z:=i) i rfl h (K:=K)
   have lv:= λk hk K=>Yz (t:=Ao) rv rfl (k:=k) hk (K:=K)
   have lk:= λk hk K=>Yz (t:=Ao) rk rfl (k:=k) hk (K:=K)
   have lw:= λk hk K=>Yz (t:=Ao) rs rfl (k:=k) hk (K:=K)
   simp(disch:=omega) only[Mf,i0,i1,i2,i3,i4,i5,i6,i7,ik,iw,lv,lk,lw,g0,g1,g2,g3,g4,g5,g6,g7,gw,B8E h,RM,A3L,Na,A3F,
    Vj (z:=6) 6 rfl (by decide),Vj (z:=11) 11 rfl (by decide),Vj (z:=25) 25 rfl (by decide),Vj (z:=2) 2 rfl (by decide),Vj (z:=13) 13 rfl (by decide),Vj (z:=22) 22 rfl (by decide)]
   rw[C4h,U9,Cz,Cb (by omega) (by omega),B2Y,OV]
   have hr':Zb ws s0 (i+1)=rnd s (kk.getD i 0) (ws.getD i 0):=by rw[←hs];rfl
   rw[←hr']
   exact ih (i+1) _ q _ (by omega) (by omega) (OW rfl) (Bj (hw.lt hr) hr) (BE hw)
  ·rw[if_neg (by simp;omega)]
   have:i=64:=by omega
   subst this
   exact hx _ _ _ hv hr hw
def Xp (a b:List (BitVec 32)) (i:Nat):List (BitVec 32):=(List.range i).map λi=>a.getD i 0+b.getD i 0
theorem PY (a b:List (BitVec 32)) (i:Nat):(Xp a b i).length=i:=by simp[Xp]
theorem A3U (a b:List (BitVec 32)) (i:Nat):Xp a b (i+1)=Xp a b i++[a.getD i 0+b.getD i 0]:=by simp[Xp,List.range_succ]
theorem C2O (s t:S8):Xp s.l t.l 8=(C5A s t).l:=rfl
theorem C2H {k:AV→Hp→Al} {a b:List (BitVec 32)} {va vb w1 w2 w3 w4 w5 w7:AV} (hx:∀v H,B1 H BB 1 v 8 (Db (Xp a b 8))→Wf H→k v H=x) (hva:va= .list 8 (Db a)) (ha:a.length=8) (hb:b.length=8):
 ∀(f i:Nat) (v:AV) (H:Hp),i≤8→8-i<f→B1 H BB 1 v i (Db (Xp a b i))→B1 H BB 1 vb 8 (Db b)→(∀s,AX v s→¬AX vb s)→Wf H→L4 L (rt L n) K k f va w1 w2 w3 w4 w5 vb w7 v (I i) H=x:=by
 intro f
 induction f with
 |zero=>intro i v H _ h;omega
 |succ f ih=>
  intro i v H hi hf hv hvb hd hw
  rw[XP]
  unfold Pj Ar
  rw[Dy,En]
  by_cases h:i<8
  ·rw[if_pos (by simp;omega)]
   have ra:Rd H va 8 (Db a):=by subst hva;exact ZW (by rw[FB,ha])
   have rb:=hvb.rd (by decide)
   have ga:(Db a).getD i .dk=W (a.getD i 0):=Kk (by omega)
   have gb:(Db b).getD i .dk=W (b.getD i 0):=Kk (by omega)
   have ia:= λK=>MZ (t:=A9) ra rfl (z:=i) i rfl h (K:=K)
   have ib:= λK=>MZ (t:=A9) rb rfl (z:=i) i rfl h (K:=K)
   have la:= λK=>Yz (t:=Ao) ra rfl (k:=i) h (K:=K)
   have lb:= λK=>Yz (t:=Ao) rb rfl (k:=i) h (K:=K)
   simp only[Mf,ia,ib,la,lb,ga,gb,Na]
   obtain⟨r,q,H',h1,h2,h3,h4,h5,h6⟩:=A9f (a.getD i 0+b.getD i 0) (PY a b i) hv hw (by omega)
   rw[h1,Cz,Cb (by omega) (by omega),OV]
   refine ih (i+1) _ H' (by omega) (by omega) (.inr ⟨r,q,rfl,?_,?_⟩) ?_ ?_ h3
   ·rw[A3U];exact h2
   ·rw[FB,PY];omega
   ·rcases hvb with⟨e1,e2,e3⟩|⟨r2,q2,e1,e2,e3⟩
    ·exact .inl ⟨e1,e2,e3⟩
    ·exact .inr ⟨r2,q2,e1,h5 _ _ e2 (λhh=>hd _ hh ⟨1,0,8,e1⟩),e3⟩
   ·intro s ⟨p,o,m,hs⟩ hs2
    injection hs with _ hs
    subst hs
    have:=hvb.lt hw hs2
    omega
  ·rw[if_neg (by simp;omega)]
   have:i=8:=by omega
   subst this
   exact hx _ _ hv hw
theorem S8.len (s:S8):s.l.length=8:=rfl
theorem B6t {s:S8} {l:List UInt8} (hl:l.length=64) (hL:100<L):CS (rt L (n+2)) QX [.list 8 (Db s.l),Te l] (.list 8 (Db (blk s l).l)):=by
 intro K hK
 rw[ZA]
 unfold QL Ar
 simp only[Cp]
 refine C2E hl ?_ L 0 _ [] (by omega) (by omega) (.inl ⟨rfl,rfl,rfl⟩) Fv
 intro v H hv hw
 rcases hv with⟨_,h,_⟩|⟨r,q,rfl,h2,h3⟩
 ·exact absurd h (by decide)
 refine C2F ?_ L 0 r q H (by omega) (by omega) h2 hw
 intro r q H hr hw
 rw[Bc A5S Bt]
 obtain⟨v',H',h1,h2,h3,h4⟩:=apt (ie:=Ao) (i2:=A9) (H:=H) (e:=BB) (sz:=1) (n:=0) (m:=8) (v:= .v (.slice none 0 0)) (src:= .list 8 (Db s.l)) (cs:=[]) (ys:=Db s.l) (.inl ⟨rfl,rfl,rfl⟩) (λK=>A3G) rfl (UE _) (by decide) rfl rfl (by decide) (by decide)
 rw[h1]
 have hr':=h4.keep hw r _ hr (λ⟨_,_,_,h⟩=>by cases h)
 refine C2G (s0:=s) (by rw[OX]) ?_ L 0 v' q H' (by omega) (by omega) h2 hr' (h4.wf hw)
 intro v q H hv hr hw
 refine C2H (a:=s.l) (b:=(Zb (Lf l 48) s 64).l) ?_ rfl rfl rfl L 0 _ H (by omega) (by omega) (.inl ⟨rfl,rfl,rfl⟩) hv (λs ⟨_,_,_,h⟩=>by cases h) hw
 intro v H hv hw
 rw[C2O] at hv
 exact hK _ _ (λb=>⟨true,A1M hv (by decide) (λx:BitVec 32=>Value.int .u32 (x.toNat:Int)) _ rfl⟩)
end
section
theorem A6L {t:TI} {e m:Nat} {cs:List AV} {x y:Int} (a b:Nat) {K:AV→Al} (hd:t.d= .slice e 1) (hx:x=a) (hy:y=b) (h1:a≤b) (h2:b≤m):EW t (.list m cs) (some (I x)) (some (I y)) none K=K (.list (b-a) ((cs.drop a).take (b-a))):=by
 subst hx hy
 have e1:EW t (.list m cs) (some (I a)) (some (I b)) none K=iN (a:Int) λl=>iN (b:Int) λh=>fN m λx=>ck ((true||(some (I (b:Int))).isSome)&&(Nat.ble l h&&(Nat.ble h x&&Nat.ble x m))) (fN (Nat.sub h l) λn=>Ti (Nat.mul n 1) (Dp (Nat.mul l 1) cs) λc=>K (.list n c)):=by
  obtain⟨_,_,d,z⟩:=t;simp only at hd;subst hd;rfl
 rw[e1,JW,JW,DI]
 have c:((true||(some (I (b:Int))).isSome)&&(Nat.ble a b&&(Nat.ble b m&&Nat.ble m m)))=true:=by simp only[Bool.true_or,l16,Jp,Yf];omega
 rw[c]
 show fN (Nat.sub b a) (λn=>Ti (Nat.mul n 1) (Dp (Nat.mul a 1) cs) λc=>K (.list n c))=_
 rw[DI,NH,C8]
 show K (.list (b-a) ((cs.drop (a*1)).take ((b-a)*1)))=_
 rw[l28,l28]
def iv:S8:=⟨1779033703,3144134277,1013904242,2773480762,1359893119,2600822924,528734635,1541459225⟩
def VN (s:List UInt8):Nat→S8
 |0=>iv
 |i+1=>blk (VN s i) ((s.drop (64*i)).take 64)
def wb (w:BitVec 32):List UInt8:=[UInt8.ofNat (w.toNat/2^24),UInt8.ofNat (w.toNat/2^16),UInt8.ofNat (w.toNat/2^8),UInt8.ofNat w.toNat]
def TV (l:List (BitVec 32)):Nat→List UInt8
 |0=>[]
 |i+1=>TV l i++wb (l.getD i 0)
theorem TU (l:List (BitVec 32)) (i:Nat):(TV l i).length=4*i:=by
 induction i with
 |zero=>rfl
 |succ i ih=>simp[TV,ih,wb];omega
def sha (s:List UInt8):List UInt8:=TV (VN (ext s) ((ext s).length/64)).l 8
variable {L n:Nat} {K:KV} {x:Al}
theorem C4V {H:Hp} {v:AV} {n:Nat} {l:List (BitVec 32)} (h:Rd H v n (Db l)):∃q,Fx true depth v (.list n (Db l)) H q:=by
 rcases h with⟨h0,rfl|⟨r,q,e,rfl,h2⟩⟩
 ·exact⟨_,OA⟩
 ·exact⟨_,Vn (q':=false) h2 (by omega) (Kf (λx:BitVec 32=>Value.int .u32 (x.toNat:Int)) l)⟩
theorem C0X {k:AV→AV→AV→Hp→Al} {s:List UInt8} {m:Nat} {H:Hp} {w3 w4:AV} (hm:s.length=64*m) (hs:s.length<200000000000) (hL:100<L) (hm0:m≠0) (hx:∀j,k (.list 8 (Db (VN s m).l)) (Te s) j H=x):
 ∀(f i:Nat) (v:AV),i≤m→m-i<f→Rd H v 8 (Db (VN s i).l)→(i≠0→v= .list 8 (Db (VN s i).l))→O0 L (rt L (n+2)) K k f v (Te s) (I ((64*i:Nat):Int)) w3 w4 H=x:=by
 intro f
 induction f with
 |zero=>intro i v _ h;omega
 |succ f ih=>
  intro i v hi hf hv hv2
  rw[A0V]
  unfold Sk Ar
  have el:∀K,AP AB (Te s) K=K (I (s.length:Int)):= λ_=>id rfl
  rw[el,Dy,En]
  by_cases h:i<m
  ·rw[if_pos (by simp;omega)]
   simp(disch:=omega) only[Cz,Cb]
   have e1:((64*i:Nat):Int)+64=((64*(i+1):Nat):Int):=by omega
   unfold Te
   rw[e1,A6L (64*i) (64*(i+1)) rfl rfl rfl (by omega) (by omega)]
   have e2:64*(i+1)-64*i=64:=by omega
   have e3:AV.list 64 (((Ki s).drop (64*i)).take 64)=Te ((s.drop (64*i)).take 64):=by
    unfold Te Ki
    have:((s.drop (64*i)).take 64).length=64:=by simp;omega
    rw[this,List.map_take,List.map_drop]
   rw[e2,e3]
   obtain⟨q,hq⟩:=C4V hv
   rw[Bc (B6t (n:=n) (s:=VN s i) (l:=(s.drop (64*i)).take 64) (by simp;omega) hL) (A2 hq (A2 (by unfold Te;exact OA) Bt))]
   exact ih (i+1) _ (by omega) (by omega) (ZW (by rw[FB];rfl)) (λ_=>rfl)
  ·rw[if_neg (by simp;omega)]
   have:i=m:=by omega
   subst this
   rw[hv2 hm0]
   exact hx _
theorem A3J {w:BitVec 32} {K:AV→Al}:Fg Ao AG (W w) K=K (By (UInt8.ofNat w.toNat)):=B4G
theorem C4i {H:Hp} {a b c d:UInt8} (K:KV):Fh AU 1 AG 4 [(0,1,By a),(1,1,By b),(2,1,By c),(3,1,By d)] H K=K (.sl 1 (A6 H) 0 4) ((A6 H,.cells false AU (Ki [a,b,c,d]))::H):=by
 have e1:Fh AU 1 AG 4 [(0,1,By a),(1,1,By b),(2,1,By c),(3,1,By d)] H K=HE H λs=>K (.sl 1 s 0 4) ((s,.cells false AU (Ki [a,b,c,d]))::H):=rfl
 rw[e1,BX]
theorem B7D (l:List UInt8):∀K:List UInt8→Al,fu8 (Ki l) K=K l:=by
 induction l with
 |nil=>intro K;rfl
 |cons b l ih=>
  intro K
  have e:fu8 (Ki (b::l)) K=iN (b.toNat:Int) λn=>fu8 (Ki l) λl=>K (UInt8.ofNat n::l):=rfl
  rw[e,JW,ih]
  simp
theorem B0c {H:Hp} {e n:Nat} {v:AV} {l:List UInt8} {K:AV→Al} (h:B1 H e 1 v n (Ki l)):A22 v H K=K (S l):=by
 have e1:A22 v H K=Uu H v λm cs=>HJ cs 0 λk=>ck (Nat.beq k m) (fu8 cs λl=>K (.v (.string ⟨⟨l⟩⟩))):=by
  rcases h with⟨rfl,_⟩|⟨r,q,rfl,_⟩<;>rfl
 have hn:(Ki l).length=n:=by
  rcases h with⟨_,rfl,h⟩|⟨r,q,_,_,h⟩
  ·rw[h];rfl
  ·omega
 rw[e1,SZ h,Cw,Ln,hn,l29]
 exact B7D l _
theorem C0Y {k:AV→Hp→Al} {s:S8} {v w1 w2:AV} (hx:∀u H,B1 H AU 1 u 32 (Ki (TV s.l 8))→k u H=x):
 ∀(f i:Nat) (u:AV) (H:Hp),i≤8→8-i<f→B1 H AU 1 u (4*i) (Ki (TV s.l i))→v= .list 8 (Db s.l)→Wf H→O1 L (rt L n) K k f v w1 w2 u (I i) H=x:=by
 intro f
 induction f with
 |zero=>intro i v H _ h;omega
 |succ f ih=>
  intro i u H hi hf hu hv hw
  rw[A0W]
  unfold Sm Ar
  rw[Dy,En]
  by_cases h:i<8
  ·rw[if_pos (by simp;omega)]
   have ra:Rd H v 8 (Db s.l):=by subst hv;exact ZW (by rw[FB];rfl)
   have ga:(Db s.l).getD i .dk=W (s.l.getD i 0):=Kk h
   have ia:= λK=>MZ (t:=A9) ra rfl (z:=i) i rfl h (K:=K)
   have la:= λK=>Yz (t:=Ao) ra rfl (k:=i) h (K:=K)
   simp only[Mf,ia,la,ga,HO (z:=24) (k:=24) rfl (by decide),HO (z:=16) (k:=16) rfl (by decide),HO (z:=8) (k:=8) rfl (by decide),A3J,C4i,U9]
   generalize hc:[UInt8.ofNat (s.l.getD i 0>>>24).toNat,UInt8.ofNat (s.l.getD i 0>>>16).toNat,UInt8.ofNat (s.l.getD i 0>>>8).toNat,UInt8.ofNat (s.l.getD i 0).toNat]=c
   have hcl:c.length=4:=by rw[←hc];rfl
   have hcw:c=wb (s.l.getD i 0):=by rw[←hc];unfold wb;simp only[BitVec.toNat_ushiftRight,Nat.shiftRight_eq_div_pow]
   have hu1:B1 ((A6 H,.cells false AU (Ki c))::H) AU 1 u (4*i) (Ki (TV s.l i)):=hu.lat hw (Lat.cons H _ (λ_=>False)) (λ_ _ h=>h)
   have hsrc:=OW (H:=H) (e:=AU) (n:=4) (cs:=Ki c) (by rw[Ny,hcl])
   obtain⟨v',H',h1,h2,h3,h4⟩:=apt (ie:=AG) (i2:=AB) hu1 (λK=>SZ (K:=K) hsrc) (by rw[Ny,hcl]) (B0f _) (by decide) rfl rfl (by show(4*i+4)*1≤_;omega) (by omega)
   rw[h1,U9,Cz,Cb (by omega) (by omega),OV]
   refine ih (i+1) _ H' (by omega) (by omega) ?_ hv (h4.wf (BE hw))
   rw[A55,hcw] at h2
   exact h2
  ·rw[if_neg (by simp;omega)]
   have:i=8:=by omega
   subst this
   exact hx _ _ hu
theorem B04 (s:List UInt8):∃m,(ext s).length=64*m∧64*m≤s.length+73:=by
 refine⟨(ext s).length/64,?_,?_⟩
 ·have:(ext s).length=s.length+1+VW s.length+8:=by simp[ext,pre];omega
  unfold VW at this;omega
 ·have:(ext s).length=s.length+1+VW s.length+8:=by simp[ext,pre];omega
  unfold VW at this;omega
theorem B8k {s:List UInt8} (hs:s.length<100000000000) (hL:s.length+200<L):CS (rt L (n+3)) NO [S s] (S (sha s)):=by
 intro K hK
 rw[A2Q]
 unfold Ud Ar
 simp only[Cp]
 obtain⟨m,hm,hm2⟩:=B04 s
 have hiv:∀K:KV,Fh BB 1 Ao 8 [(0,1,(AV.v (.int .u32 1779033703))),(1,1,(AV.v (.int .u32 3144134277))),(2,1,(AV.v (.int .u32 1013904242))),(3,1,(AV.v (.int .u32 2773480762))),(4,1,(AV.v (.int .u32 1359893119))),(5,1,(AV.v (.int .u32 2600822924))),(6,1,(AV.v (.int .u32 528734635))),(7,1,(AV.v (.int .u32 1541459225)))] [] K=K (.sl 1 0 0 8) [(0,.cells false BB (Db iv.l))]:= λK=>C4h (H:=[]) (a:=1779033703) (b:=3144134277) (c:=1013904242) (d:=2773480762) (e:=1359893119) (f:=2600822924) (g:=528734635) (h:=1541459225) K
 rw[hiv,Bc (A81 (n:=n+1) s hs (by omega)) fx1]
 have hm0:m≠0:= λh=>by subst h;simp[ext] at hm
 refine C0X (n:=n) (m:=m) hm (by omega) (by omega) hm0 ?_ L 0 _ (by omega) (by omega) ((OW (H:=[]) rfl).rd (by decide)) (λh=>absurd rfl h)
 intro j
 refine C0Y (n:=n+2) (s:=VN (ext s) m) ?_ L 0 _ _ (by omega) (by omega) (.inl ⟨rfl,rfl,rfl⟩) rfl (BE Fv)
 intro u H hu
 rw[B0c hu]
 have e:TV (VN (ext s) m).l 8=sha s:=by
  unfold sha
  have:(ext s).length/64=m:=by omega
  rw[this]
 rw[e]
 exact hK _ _ (λb=>⟨false,Ed⟩)
end
section
def U (n:Nat):AV:= .v (.int .u64 (n:Int))
theorem B6z {x:BitVec 32} {k:Nat} (h0:1≤k) (h:k<32) {L n:Nat} {H:Hp} {K:KV}:(rt L (n+1)).call Fs [W x,I (-(k:Int))] H K=K (W (IZ x k)) H:=by
 rw[Pv]
 unfold HF
 have e1:∀K:AV→Al,(Fg Ab BN (I (-(k:Int))) λv1=>Ak BN .and v1 (AV.v (.int .u64 31)) λv2=>K v2)=K (U (32-k)):=by
  intro K
  have:k=1∨k=2∨k=3∨k=4∨k=5∨k=6∨k=7∨k=8∨k=9∨k=10∨k=11∨k=12∨k=13∨k=14∨k=15∨k=16∨k=17∨k=18∨k=19∨k=20∨k=21∨k=22∨k=23∨k=24∨k=25∨k=26∨k=27∨k=28∨k=29∨k=30∨k=31:=by omega
  rcases this with rfl|rfl|rfl|rfl|rfl|rfl|rfl|rfl|rfl|rfl|rfl|rfl|rfl|rfl|rfl|rfl|rfl|rfl|rfl|rfl|rfl|rfl|rfl|rfl|rfl|rfl|rfl|rfl|rfl|rfl|rfl<;>rfl
 rw[e1]
 have e2:∀K:AV→Al,Ak BN .sub (AV.v (.int .u64 32)) (U (32-k)) K=K (U k):=by
  intro K
  have e:Ak BN .sub (AV.v (.int .u64 32)) (U (32-k)) K=LN .u64 ((32:Int)-((32-k:Nat):Int)) λz=>K (.v (.int .u64 z)):=rfl
  rw[e,GA]
  have:(32:Int)-((32-k:Nat):Int)=(k:Int):=by omega
  rw[this,Vx rfl]
  have:(k:Int)%(2^IntKind.u64.bits:Nat)=(k:Int):=Int.emod_eq_of_lt (by omega) (by show(k:Int)<(18446744073709551616:Int);omega)
  rw[this];rfl
 have e3:∀K:AV→Al,Ak Ao .shl (W x) (U (32-k)) K=K (W (x<<<(32-k))):= λK=>JC rfl (by omega)
 have e4:∀K:AV→Al,Ak Ao .shr (W x) (U k) K=K (W (x>>>k)):= λK=>HO rfl (by omega)
 rw[e3,e2,e4,Xe]
 have:x<<<(32-k)|||x>>>k=IZ x k:=by unfold IZ;exact BitVec.or_comm _ _
 rw[this]
theorem C18 {L n:Nat} {x:BitVec 32} {k:Nat} (h0:1≤k) (h:k<32):PS (rt L (n+1)) Fs [W x,I (-(k:Int))] (W (IZ x k)):=by
 refine CS.ps (λK hK=> ?_) (λH=>C4U)
 rw[B6z h0 h]
 exact hK _ _ (λb=>⟨false,fxq⟩)
def Um (ks:List Nat):List AV:=ks.map λk:Nat=> .v (.int .i64 (k:Int))
theorem B1g {l:List Nat} {k:Nat} (h:k<l.length):(Um l).getD k .dk=I (l[k]:Nat):=by
 simp[Um,Ul,h]
def Qe (x:BitVec 32) (ks:List Nat):BitVec 32:=ks.foldl (λa k=>a^^^IZ x k) 0
theorem B1q {k:Nat} (hk:k<32) {K:AV→Al}:F8 .neg (I k) K=K (I (-(k:Int))):=by
 have e:F8 .neg (I k) K=LN .i64 (0-(k:Int)) λz=>K (.v (.int .i64 z)):=rfl
 rw[e,GA,Int.zero_sub,Cb (by omega) (by omega)]
variable {L n:Nat} {K:KV} {x:Al}
theorem B3M {k:AV→Hp→Al} {w:BitVec 32} {ks:List Nat} {H:Hp} (hk:∀k∈ks,1≤k∧k<32) (hl:ks.length<32) (hx:k (W (Qe w ks)) H=x):
 ∀(f i:Nat),i≤ks.length→ks.length-i<f→K7 L (rt L (n+1)) K k f (W w) (W (Qe w (ks.take i))) (.list ks.length (Um ks)) (I ks.length) (I i) H=x:=by
 intro f
 induction f with
 |zero=>intro i _ h;omega
 |succ f ih=>
  intro i hi hf
  rw[Xh]
  unfold Om Ar
  rw[Dy,En]
  by_cases h:i<ks.length
  ·rw[if_pos (by simp;omega)]
   have hki:=hk ks[i] (QS h)
   rw[Uv rfl (by simp[Um]) (by omega) (by omega),Xs,Ra rfl,B1g h,B1q hki.2,C18 hki.1 hki.2,RM,Cz,Cb (by omega) (by omega),OV]
   have e:Qe w (ks.take (i+1))=Qe w (ks.take i)^^^IZ w ks[i]:=by
    unfold Qe
    rw[l04 h,List.foldl_append];rfl
   rw[←e]
   exact ih (i+1) (by omega) (by omega)
  ·rw[if_neg (by simp;omega)]
   have:i=ks.length:=by omega
   subst this
   rw[l06]
   exact hx
theorem B6n {w:BitVec 32} {ks:List Nat} (hk:∀k∈ks,1≤k∧k<32) (hl:ks.length<32) (hL:32<L):CS (rt L (n+2)) DB [W w,.list ks.length (Um ks)] (W (Qe w ks)):=by
 intro K hK
 rw[Yb]
 unfold Px Ar
 simp only[Cp]
 have e:∀K,AP Af (.list ks.length (Um ks)) K=K (I ks.length):= λK=>id rfl
 rw[e]
 refine B3M hk hl ?_ L 0 (by omega) (by omega)
 exact hK _ _ (λb=>⟨false,Ed⟩)
theorem C4e {w:BitVec 32}:Qe w [7,18]^^^w>>>3=sg0 w:=by simp[Qe,sg0]
theorem C4d {w:BitVec 32}:Qe w [17,19]^^^w>>>10=sg1 w:=by simp[Qe,sg1]
def pad (l:List (BitVec 32)) (n:Nat):List (BitVec 32):=l++List.replicate (n-l.length) 0
theorem A9J {l:List (BitVec 32)} {n:Nat} (h:l.length≤n):(pad l n).length=n:=by simp[pad];omega
theorem A9I {l:List (BitVec 32)} {n k:Nat} (w:BitVec 32) (hk:l.length=k) (h:k<n):(Db (pad l n)).set k (W w)=Db (pad (l++[w]) n):=by
 subst hk
 have e:n-l.length=(n-(l.length+1))+1:=by omega
 simp[pad,Db,e,l17,List.set_append_right]
theorem B3D {l:List (BitVec 32)} {n k:Nat} (h:k<l.length):(Db (pad l n)).getD k .dk=W (l.getD k 0):=by
 simp[pad,Db,Ul,h,List.getElem?_append]
theorem B3E {l:List (BitVec 32)} {n:Nat} (h:l.length=n):pad l n=l:=by simp[pad,h]
theorem B8x (a b:Nat) (K:AV→Al):RN 1 Ab 2 [(0,1,I a),(1,1,I b)] K=K (.list 2 (Um [a,b])):=id rfl
theorem B8w (a b c:Nat) (K:AV→Al):RN 1 Ab 3 [(0,1,I a),(1,1,I b),(2,1,I c)] K=K (.list 3 (Um [a,b,c])):=id rfl
theorem A4z {w:BitVec 32} {ks:List Nat} {H:Hp} {K:AV→Al} (hk:∀k∈ks,1≤k∧k<32) (hl:ks.length<32) (hL:32<L):Ah (rt L (n+2)) DB [W w,.list ks.length (Um ks)] H K=K (W (Qe w ks)):=
 Bc (B6n hk hl hL) (A2 Ed (A2 OA Bt))
theorem C12 {k:AV→AV→AV→Hp→Al} {l:List UInt8} {r:Nat} {w:AV} (hl:l.length=64) (hx:∀q H,Ax H r=some (.cells q Cv (Db (pad (w16 l 16) 64)))→Wf H→k (Te l) (.ptr r 0 0) (I 16) H=x):
 ∀(f i:Nat) (q:Bool) (H:Hp),i≤16→16-i<f→Ax H r=some (.cells q Cv (Db (pad (w16 l i) 64)))→Wf H→IF L (rt L n) K k f (Te l) (.ptr r 0 0) w (I i) H=x:=by
 intro f
 induction f with
 |zero=>intro i q H _ h;omega
 |succ f ih=>
  intro i q H hi hf hr hw
  rw[Uy]
  unfold KW Ar
  rw[Dy,En]
  by_cases h:i<16
  ·rw[if_pos (by simp;omega)]
   simp(disch:=omega) only[NU,Cz,Cb,Mf,B4D,Ra (t:=AG) rfl,A3K,JC (z:=24) (k:=24) rfl (by decide),JC (z:=16) (k:=16) rfl (by decide),JC (z:=8) (k:=8) rfl (by decide),Xe]
   have e0:((4:Int)*(i:Int)).toNat=4*i:=by omega
   have e1:((4:Int)*(i:Int)+1).toNat=4*i+1:=by omega
   have e2:((4:Int)*(i:Int)+2).toNat=4*i+2:=by omega
   have e3:((4:Int)*(i:Int)+3).toNat=4*i+3:=by omega
   rw[e0,e1,e2,e3,A5y,DC i rfl rfl (by omega),Mf,Ez hr (by rw[FB,A9J (by rw[We];omega)];omega) rfl rfl rfl,U9,A9I _ (We l i) (by omega),←A5J,OV]
   exact ih (i+1) q _ (by omega) (by omega) (AC hr) (Cj hw)
  ·rw[if_neg (by simp;omega)]
   have:i=16:=by omega
   subst this
   exact hx _ _ hr hw
theorem C13 {k:AV→Hp→Al} {l:List UInt8} {r:Nat} {w0 w1:AV} (hL:100<L) (hx:∀q H,Ax H r=some (.cells q Cv (Db (Lf l 48)))→Wf H→k (.ptr r 0 0) H=x):
 ∀(f i:Nat) (q:Bool) (H:Hp),i≤48→48-i<f→Ax H r=some (.cells q Cv (Db (pad (Lf l i) 64)))→Wf H→IG L (rt L (n+2)) K k f w0 (.ptr r 0 0) (I ((16+i:Nat):Int)) w1 H=x:=by
 intro f
 induction f with
 |zero=>intro i q H _ h;omega
 |succ f ih=>
  intro i q H hi hf hr hw
  rw[Uz]
  unfold KX Ar
  rw[Dy,En]
  have hl:=OX l i
  by_cases h:i<48
  ·rw[if_pos (by simp;omega)]
   have hp:(Db (pad (Lf l i) 64)).length=64:=by rw[FB,A9J (by rw[hl];omega)]
   have e1:((16+i:Nat):Int)-15=((i+1:Nat):Int):=by omega
   have e2:((16+i:Nat):Int)-2=((i+14:Nat):Int):=by omega
   have e3:((16+i:Nat):Int)-16=((i:Nat):Int):=by omega
   have e4:((16+i:Nat):Int)-7=((i+9:Nat):Int):=by omega
   have ia:= λ(k:Nat) hk K=>DC (t:=BH) (s:=r) (z:=(k:Int)) k (K:=K) rfl rfl hk
   have la:= λk hk K=>AY (t:=Ao) (p:=k) (K:=K) rfl hr hk
   have gg:= λk hk=>B3D (n:=64) (l:=Lf l i) (k:=k) hk
   simp(disch:=omega) only[GE,Cb,Mf,e1,e2,e3,e4,ia,la,gg]
   have i1:∀K,RN 1 Ab 2 [(0,1,.v (.int .i64 7)),(1,1,.v (.int .i64 18))] K=K (.list 2 (Um [7,18])):= λK=>B8x 7 18 K
   have i2:∀K,RN 1 Ab 2 [(0,1,.v (.int .i64 17)),(1,1,.v (.int .i64 19))] K=K (.list 2 (Um [17,19])):= λK=>B8x 17 19 K
   have m1:∀w K,Ah (rt L (n+2)) DB [W w,.list 2 (Um [7,18])] H K=K (W (Qe w [7,18])):= λw K=>A4z (ks:=[7,18]) (by decide) (by decide) (by omega)
   have m2:∀w K,Ah (rt L (n+2)) DB [W w,.list 2 (Um [17,19])] H K=K (W (Qe w [17,19])):= λw K=>A4z (ks:=[17,19]) (by decide) (by decide) (by omega)
   simp(disch:=omega) only[Mf,gg,i1,i2,m1,m2,HO (z:=3) (k:=3) rfl (by decide),HO (z:=10) (k:=10) rfl (by decide),RM,Na,C4e,C4d]
   rw[Ez hr (by omega) rfl rfl rfl,U9,A9I _ hl (by omega),Cz,Cb (by omega) (by omega),OV]
   exact ih (i+1) q _ (by omega) (by omega) (AC hr) (Cj hw)
  ·rw[if_neg (by simp;omega)]
   have:i=48:=by omega
   subst this
   rw[B3E (by rw[OX])] at hr
   exact hx _ _ hr hw
def arr (l:List (BitVec 32)):AV:= .agg (Db l)
theorem A80 {l:List UInt8} (hl:l.length=64) (hL:100<L):CS (rt L (n+3)) Ma [Te l] (arr (Lf l 48)):=by
 intro K hK
 rw[Vf]
 unfold LL Ar
 simp only[Cp]
 rw[Bf (cs:=Db (pad (w16 l 0) 64)) rfl]
 refine C12 hl ?_ L 0 true _ (by omega) (by omega) (A1 (by simp)) (BE Fv)
 intro q H hr hw
 refine C13 (n:=n) (l:=l) hL ?_ L 0 q H (by omega) (by omega) hr hw
 intro q H hr hw
 have hl:(Db (Lf l 48)).length=64:=by rw[FB,OX]
 rw[Bm rfl hl.symm hr,B7 hr rfl hl.symm (UE _),Bm rfl hl.symm (AC hr)]
 exact hK _ _ (λb=>⟨false,PE (Kf (λx:BitVec 32=>Value.int .u32 (x.toNat:Int)) _)⟩)
end
end Go.Abs
end
