import Derived.Test.YtlbhdmbfdcohhaaGreatDoorR18
import Derived.Test.YtlbhdmbfdcohhaaGreatDoorR24
import Derived.Test.YtlbhdmbfdcohhaaGreatDoorR29
import Derived.Test.YtlbhdmbfdcohhaaGreatDoorR30
import Derived.Test.YtlbhdmbfdcohhaaGreatDoorR31
set_option linter.all false
set_option maxHeartbeats 100000000
noncomputable section
namespace Go.Abs
open Go.RowKit Go.Proofs
set_option maxRecDepth 100000
section
def exN (j:Nat):Nd:=
 if j<3 then Vg j
 else if j<39 then⟨(3+(j-3)/9:Nat),[],[],u0,0,((j-3)/3%3:Nat),((j-3)%3:Nat)⟩
 else⟨7,[],[],u0,Yv ((j-39)%5),((j-39)/5:Nat),0⟩
def Fb:List (List UInt8):=[[],[99,111,110,115,116],[105,110,112,117,116],[97,100,100],[115,117,98],[109,117,108],[100,105,118],[112,111,119],[115,113,114,116]]
def exT (j:Nat):List UInt8:=
 if j<3 then Fb.getD 2 []++[32]++dec j
 else if j<39 then Fb.getD (3+(j-3)/9) []++[32]++dec ((j-3)/3%3:Nat)++[32]++dec ((j-3)%3:Nat)
 else Fb.getD 7 []++[32]++dec ((j-39)/5:Nat)++[32]++dec (Yv ((j-39)%5))
variable (L n:Nat)
theorem B3o:((List.range 54).all λi=>HQ (AZ (C9 (rt (L+20) (n+41)) Hr [.agg (exN i).cs]) (S (exT i))))=true:=by kernel_rfl
end
section
def frL:List (List UInt8×List UInt8):=[([45,54],[49]),
 ([45,51],[49]),
 ([45,50],[49]),
 ([45,51],[50]),
 ([45,53],[49]),
 ([45,53],[50]),
 ([45,53],[51]),
 ([45,53],[52]),
 ([45,52],[49]),
 ([45,52],[51]),
 ([45,49],[49]),
 ([45,51],[52]),
 ([45,50],[51]),
 ([45,49],[50]),
 ([45,49],[51]),
 ([45,49],[52]),
 ([48],[49]),
 ([49],[49]),
 ([49],[50]),
 ([49],[51]),
 ([49],[52]),
 ([50],[49]),
 ([50],[51]),
 ([51],[49]),
 ([51],[50]),
 ([51],[52]),
 ([52],[49]),
 ([52],[51]),
 ([53],[49]),
 ([53],[50]),
 ([53],[51]),
 ([53],[52]),
 ([54],[49])]
def frn (i:Nat):List UInt8:=(frL.getD i ([],[])).1
def frd (i:Nat):List UInt8:=(frL.getD i ([],[])).2
abbrev VS (i:Nat):List AV:=[S (frn i),S (frd i)]
def frt (i:Nat):List UInt8:=if frd i=[49] then frn i else frn i++[47]++frd i
def C4Y:List (List Nat):=[[0,1,2,3],[4,5,6,7],[8,2,9,10],[1,3,10,11],[2,10,12,13],[10,13,14,15],[16,16,16,16],[17,18,19,20],[21,17,22,18],[23,24,17,25],[26,21,27,17],[28,29,30,31],[32,23,21,24]]
def Yp (a b:Nat):Nat:=(C4Y.getD a []).getD b 0
variable (L n:Nat)
theorem B3t:((List.range 13).all λk=>(λi=>HQ (AZ (C9 (rt (L+20) (n+40)) EK [I (((i/4:Nat):Int)-6),I (1+((i%4:Nat):Int))]) (.tup [.agg (VS (Yp (i/4) (i%4))),I 0]))) (k+0))=true:=by kernel_rfl
theorem B3s:((List.range 13).all λk=>(λi=>HQ (AZ (C9 (rt (L+20) (n+40)) EK [I (((i/4:Nat):Int)-6),I (1+((i%4:Nat):Int))]) (.tup [.agg (VS (Yp (i/4) (i%4))),I 0]))) (k+13))=true:=by kernel_rfl
theorem B3r:((List.range 13).all λk=>(λi=>HQ (AZ (C9 (rt (L+20) (n+40)) EK [I (((i/4:Nat):Int)-6),I (1+((i%4:Nat):Int))]) (.tup [.agg (VS (Yp (i/4) (i%4))),I 0]))) (k+26))=true:=by kernel_rfl
theorem B3q:((List.range 13).all λk=>(λi=>HQ (AZ (C9 (rt (L+20) (n+40)) EK [I (((i/4:Nat):Int)-6),I (1+((i%4:Nat):Int))]) (.tup [.agg (VS (Yp (i/4) (i%4))),I 0]))) (k+39))=true:=by kernel_rfl
theorem C1o (i:Nat) (h:i<52):PS (rt (L+20) (n+40)) EK [I (((i/4:Nat):Int)-6),I (1+((i%4:Nat):Int))] (.tup [.agg (VS (Yp (i/4) (i%4))),I 0]):=by
 refine B2 (λH=>by first|exact λK=>by kernel_rfl) ?_
 by_cases h0:i<13
 ·have:=Hl.1 (B3t L n) (i-0) (IV.2 (by omega))
  have e:i-0+0=i:=by omega
  simp only[e] at this
  exact this
 by_cases h1:i<26
 ·have:=Hl.1 (B3s L n) (i-13) (IV.2 (by omega))
  have e:i-13+13=i:=by omega
  simp only[e] at this
  exact this
 by_cases h2:i<39
 ·have:=Hl.1 (B3r L n) (i-26) (IV.2 (by omega))
  have e:i-26+26=i:=by omega
  simp only[e] at this
  exact this
 by_cases h3:i<52
 ·have:=Hl.1 (B3q L n) (i-39) (IV.2 (by omega))
  have e:i-39+39=i:=by omega
  simp only[e] at this
  exact this
 ·omega
theorem A65:((List.range 11).all λk=>(λi=>HQ (AZ (C9 (rt (L+20) (n+40)) C7 [.agg (VS i)]) (Bo true))) (k+0))=true:=by kernel_rfl
theorem A64:((List.range 11).all λk=>(λi=>HQ (AZ (C9 (rt (L+20) (n+40)) C7 [.agg (VS i)]) (Bo true))) (k+11))=true:=by kernel_rfl
theorem A63:((List.range 11).all λk=>(λi=>HQ (AZ (C9 (rt (L+20) (n+40)) C7 [.agg (VS i)]) (Bo true))) (k+22))=true:=by kernel_rfl
theorem B0W (i:Nat) (h:i<33):PS (rt (L+20) (n+40)) C7 [.agg (VS i)] (Bo true):=by
 refine B2 (λH=>by first|exact λK=>by kernel_rfl) ?_
 by_cases h0:i<11
 ·have:=Hl.1 (A65 L n) (i-0) (IV.2 (by omega))
  have e:i-0+0=i:=by omega
  simp only[e] at this
  exact this
 by_cases h1:i<22
 ·have:=Hl.1 (A64 L n) (i-11) (IV.2 (by omega))
  have e:i-11+11=i:=by omega
  simp only[e] at this
  exact this
 by_cases h2:i<33
 ·have:=Hl.1 (A63 L n) (i-22) (IV.2 (by omega))
  have e:i-22+22=i:=by omega
  simp only[e] at this
  exact this
 ·omega
theorem A68:((List.range 11).all λk=>(λi=>HQ (AZ (C9 (rt (L+20) (n+40)) IW [.agg (VS i)]) (S (frt i)))) (k+0))=true:=by kernel_rfl
theorem A67:((List.range 11).all λk=>(λi=>HQ (AZ (C9 (rt (L+20) (n+40)) IW [.agg (VS i)]) (S (frt i)))) (k+11))=true:=by kernel_rfl
theorem A66:((List.range 11).all λk=>(λi=>HQ (AZ (C9 (rt (L+20) (n+40)) IW [.agg (VS i)]) (S (frt i)))) (k+22))=true:=by kernel_rfl
theorem B0X (i:Nat) (h:i<33):PS (rt (L+20) (n+40)) IW [.agg (VS i)] (S (frt i)):=by
 refine B2 (λH=>by first|exact λK=>by kernel_rfl) ?_
 by_cases h0:i<11
 ·have:=Hl.1 (A68 L n) (i-0) (IV.2 (by omega))
  have e:i-0+0=i:=by omega
  simp only[e] at this
  exact this
 by_cases h1:i<22
 ·have:=Hl.1 (A67 L n) (i-11) (IV.2 (by omega))
  have e:i-11+11=i:=by omega
  simp only[e] at this
  exact this
 by_cases h2:i<33
 ·have:=Hl.1 (A66 L n) (i-22) (IV.2 (by omega))
  have e:i-22+22=i:=by omega
  simp only[e] at this
  exact this
 ·omega
end
section
variable (L n:Nat)
theorem B2w:((List.range 54).all λi=>HQ (AZ (C9 (rt (L+20) (n+41)) Eu [.agg (exN i).cs]) (S (exT i))))=true:=by kernel_rfl
def cnN (i k:Nat):Nd:=⟨1,frn i,frd i,uu k,0,0,0⟩
def cnT (i k:Nat):List UInt8:=Fb.getD 1 []++[32]++frt i++[32]++Jw k
end
end Go.Abs
end
noncomputable section
end
noncomputable section
namespace Go.Abs
open Go.RowKit Go.Proofs
set_option maxRecDepth 100000
section
variable {L n:Nat}
def RV (R:Rt) (f:Nat) (args:List AV) (v:AV):Prop:=∀b,(R.call f args [] λv H'=>Jg b H' depth v λ_ v'=>some (v',[]))=some (v,[])
theorem A0b {R:Rt} {f:Nat} {args args':List AV} {v:AV} {H:Hp} {q:Bool} {K:AV→Al} (hc:RV R f args' v) (ha:OM true depth args args' H q):Ah R f args H K=K v:=by
 unfold Ah
 rw[ha]
 show Ai (R.call f args' [] _) K=K v
 rw[hc (!q)];rfl
theorem CS.rv {R:Rt} {f:Nat} {args:List AV} {v:AV} (h:CS R f args v):RV R f args v:= λb=>h _ λv0 H0 hv=>by
 obtain⟨q,hq⟩:=hv b
 exact hq _
abbrev fnA (f:Nat):AV:= .fn (.func f) [] []
abbrev VR (w:List UInt8) (F:AV) (g:Nat):AV:= .agg [S w,F,fnA g]
abbrev YX:AV:= .list 2 [fnA MV,fnA WV]
abbrev C1C:AV:= .list 2 [fnA MV,fnA PJ]
abbrev C1O:AV:= .list 1 [fnA PJ]
abbrev TX:AV:= .imap [(.int .i64 1,VR (Fb.getD 1 []) AO CQ),(.int .i64 2,VR (Fb.getD 2 []) C1O Ey),
 (.int .i64 3,VR (Fb.getD 3 []) YX DQ),(.int .i64 4,VR (Fb.getD 4 []) YX CE),
 (.int .i64 5,VR (Fb.getD 5 []) YX Da),(.int .i64 6,VR (Fb.getD 6 []) YX CP),
 (.int .i64 7,VR (Fb.getD 7 []) C1C Dx),(.int .i64 8,VR (Fb.getD 8 []) (.list 1 [fnA MV]) PK)]
theorem B8j:PS (rt (L+20) (n+1)) EL [] TX:=B2 (λH K=>by kernel_rfl) (by kernel_rfl)
abbrev T3 (I U:AV):AV:= .iptr [TX,I,U]
variable {I1:AV} {a b c i k:Nat}
end
section
variable {L n:Nat}
section
variable {H:Hp} {c:Nat} {v I1 F:AV} {l:List Nat} {y:Nd} {w:List UInt8} {g k:Nat}
abbrev To (I1 v:AV):Row:= .cells true Oq [TX,I1,v]
theorem C2e (hc:Ax H c=some (To I1 v)) (hs:B1 H Az 20 v l.length (l.flatMap Gh)) (h0:l=[]→v=AO) (hI:Sl I1):Fx true depth (.ptr c 0 0) (T3 I1 (OQ l)) H true:=by
 obtain⟨q,hq⟩:=Yn (D:=depth-2) (b:=true) hs h0
 have a1:Fx true (depth-1) TX TX H false:= λK=>_root_.id rfl
 have a2:Fx true (depth-1) I1 I1 H false:=by rcases hI with rfl|⟨_,_,rfl⟩<;>exact λK=>_root_.id rfl
 have a3:OM true (depth-1) [TX,I1,v] [TX,I1,OQ l] H (false||(false||(q||false))):=A2 a1 (A2 a2 (A2 hq Bt))
 intro K
 show Kj H c (λx=>KF x λ_ cs=>HP (Jg true H (depth-1)) (Dp (Nat.add 0 0) cs) λ_ c'=>K true (.iptr c'))=_
 rw[Cl hc]
 show HP (Jg true H (depth-1)) (Dp 0 [TX,I1,v]) (λ_ c'=>K true (.iptr c'))=_
 rw[C8,l1n,a3]
theorem A9o {f m:Nat} {args:List AV} {H:Hp} {K:KV} (hn:(E (L+20)).ne f=false) (hi:(E (L+20)).imp f=false):Eo (E (L+20)) (rt (L+20) m) (fnA f) args H K=Ah (rt (L+20) m) f args H λv=>K v H:=by
 show WR args [] (λas'=>WR [] as' λall=>B7M ((E (L+20)).ne f) all H K (@Bool.rec (λ_=>Al) (Ah (rt (L+20) m) f all H λv=>K v H) ((rt (L+20) m).call f all H K) ((E (L+20)).imp f)))=_
 rw[NJ,NJ,hn,hi,l1o,List.nil_append]
 rfl
theorem B3K {v:AV} {H:Hp} {K:Al} (h:ZP v v=true):R6 (AZ (some (v,H)) v) K=K:=by
 show R6 (some (.v (.bool (ZP v v)),[])) K=K
 rw[h];rfl
theorem A5P {H:Hp} {e z n:Nat} {v:AV} {cs:List AV} (h:B1 H e z v n cs):ZP v v=true:=by
 rcases h with⟨rfl,_⟩|⟨r,q,rfl,_⟩
 ·rfl
 ·show(Nat.beq z z&&(Nat.beq r r&&(Nat.beq 0 0&&Nat.beq n n)))=true
  simp
theorem B4K {K:AV→Al} {t:TI}:Go.Abs.Ak t .eql (I 0) (.v (.int .i64 0)) K=K (Bo true):=by rw[Dz,decide_eq_true rfl]
theorem C3k (hc:Ax H c=some (To I1 v)) (hs:B1 H Az 20 v l.length (l.flatMap Gh)) (h0:l=[]→v=AO) (hr:¬AX v c) (wf:Wf H) (hb:l.length<100) (hI:Sl I1) (hF:Sl F)
 (hk:∀H K,(A6t .i64 (I y.op) λq=>Xu Bg true TX q H K)=K (.tup [VR w F g,Bo true]))
 (ha:ZP (.tup [VR w F g,Bo true]) (.tup [VR w F g,Bo true])=true)
 (hn:(E (L+20)).ne g=false) (hi:(E (L+20)).imp g=false)
 (hh:RV (rt (L+20) (n+41)) B5 [T3 I1 (OQ l),VR w F g,.agg y.cs] (Bo true))
 (hu:RV (rt (L+20) (n+41)) g [T3 I1 (OQ l),.agg y.cs] (.tup [.agg (Cc (uu k)),I 0])):
 ∃v' H',(∀K,(rt (L+20) (n+42)).call GS [.ptr c 0 0,.agg y.cs] H K=K (Bo true) H')∧Ax H' c=some (To I1 v')∧B1 H' Az 20 v' (l++[k]).length ((l++[k]).flatMap Gh)∧¬AX v' c∧Wf H'∧A6 H≤A6 H'∧(∀s x,Ax H s=some x→s≠c→¬AX v s→Ax H' s=some x)∧(∀s,AX v' s→A6 H≤s):=by
 have hy1:=A1 (H:=H) (x:=Tr y) (by simp)
 have hc1:=Bj (x:=Tr y) (wf.lt hc) hc
 have w1:=BE (x:=Tr y) wf
 have hs1:B1 ((A6 H,Tr y)::H) Az 20 v l.length (l.flatMap Gh):=hs.lat wf (Lat.cons H _ (λ_=>False)) (λ_ _ h=>h)
 have kp1:∀s x,Ax H s=some x→Ax ((A6 H,Tr y)::H) s=some x:= λs x h=>Bj (wf.lt h) h
 have n1:A6 H≤A6 ((A6 H,Tr y)::H):=l1p _
 have hr1:∀s,AX v s→s<A6 H:= λs hu=>by
  rcases hs with⟨rfl,_⟩|⟨r,q,rfl,h2,_⟩
  ·obtain⟨_,_,_,h⟩:=hu;cases h
  ·obtain⟨_,_,_,h⟩:=hu;cases h;exact wf.lt h2
 have ey:∀K:KV,Dh AI (.agg y.cs) H K=K (.ptr (A6 H) 0 0) ((A6 H,Tr y)::H):= λK=>EY A8h
 have yl:=wf.lt hc
 generalize hH1:((A6 H,Tr y)::H)=H1 at hy1 hc1 w1 hs1 kp1 n1 ey
 generalize hr0:A6 H=r at hy1 ey yl n1 hr1
 obtain⟨H2,e2,hop,w2,k2⟩:=Er (e:=BR) (zs:=[zS,zL,.v .nilFunc]) (vs:=[S w,F,fnA g]) w1 rfl
 have ho1:=A1 (H:=H1) (x:= .cells true BR [zS,zL,.v .nilFunc]) (by simp)
 have hc1':=Bj (x:= .cells true BR [zS,zL,.v .nilFunc]) (w1.lt hc1) hc1
 have hy1':=Bj (x:= .cells true BR [zS,zL,.v .nilFunc]) (w1.lt hy1) hy1
 obtain⟨hc2,nc2⟩:=k2 _ _ hc1
 obtain⟨hy2,ny2⟩:=k2 _ _ hy1
 have hs2:B1 H2 Az 20 v l.length (l.flatMap Gh):=by
  rcases hs1 with h|⟨r,q,h1,h2,h3⟩
  ·exact .inl h
  ·exact .inr ⟨r,q,h1,(k2 _ _ h2).1,h3⟩
 have n2:A6 H1≤A6 H2:=by rw[e2,Ck];exact l1p _
 obtain⟨H3,e3,hu3,w3,k3⟩:=Er (e:=Az) (zs:=E5) (vs:=Cc (uu k)) w2 rfl
 obtain⟨hc3,nc3⟩:=k3 _ _ hc2
 have hs3:B1 H3 Az 20 v l.length (l.flatMap Gh):=by
  rcases hs2 with h|⟨r,q,h1,h2,h3⟩
  ·exact .inl h
  ·exact .inr ⟨r,q,h1,(k3 _ _ h2).1,h3⟩
 have n3:A6 H2≤A6 H3:=by rw[e3,Ck];exact l1p _
 obtain⟨v',H4,e4,hs4,w4,n4,k4,nw4⟩:=C5t k hs3 w3 hb
 have hc4:=k4 _ _ hc3 hr
 have hcv:¬AX v' c:= λhu=>by have:=nw4 c hu;have:=w3.lt hc3;omega
 have hone:B6 v'=[v']∧AV.one v'=true:=by
  rcases hs4 with⟨rfl,_⟩|⟨a,b,rfl,_⟩<;>exact⟨rfl,rfl⟩
 refine⟨v',upd H4 c (To I1 v'),λK=> ?_,AC hc4,hs4.lat w4 (Lat.upd H4 c _ (P:= λu=>u=c) rfl) (λu hu e=>hcv (e▸hu)),hcv,Cj w4,by rw[Ck];omega,λs x h h1 h2=> ?_,λs hu=>by have:=nw4 s hu;omega⟩
 ·rw[O5]
  unfold GP Bu Ar Ev CK
  rw[ey]
  have f0:∀{s j:Nat} {K:AV→Al},AN j (.ptr s 0 0) K=K (.ptr s j 0):= λ{s j K}=>by rw[fA,Ln]
  have lk1:∀{K},Aq CL (.ptr c 0 0) H1 K=K TX:= λ{K}=>AY (p:=0) rfl hc1 (show 0<3 by decide)
  have ly1:∀{K},Aq Ab (.ptr r 0 0) H1 K=K (I y.op):= λ{K}=>AY (p:=0) rfl hy1 (show 0<26 by decide)
  have lk1':∀{K},Aq CL (.ptr c 0 0) ((A6 H1,.cells true BR [zS,zL,.v .nilFunc])::H1) K=K TX:= λ{K}=>AY (p:=0) rfl hc1' (show 0<3 by decide)
  have ly1':∀{K},Aq Ab (.ptr r 0 0) ((A6 H1,.cells true BR [zS,zL,.v .nilFunc])::H1) K=K (I y.op):= λ{K}=>AY (p:=0) rfl hy1' (show 0<26 by decide)
  have al:∀{K:KV},AK BR Bg H1 K=K (.ptr (A6 H1) 0 0) ((A6 H1,.cells true BR [zS,zL,.v .nilFunc])::H1):= λ{K}=>Bf rfl
  have st:∀{K:Hp→Al},Cq Bg (.ptr (A6 H1) 0 0) (VR w F g) ((A6 H1,.cells true BR [zS,zL,.v .nilFunc])::H1) K=K H2:= λ{K}=>by
   rw[e2];exact B7 (vs:=[S w,F,fnA g]) ho1 rfl rfl (by rcases hF with rfl|⟨_,_,rfl⟩<;>rfl)
  have o1:∀{K:Al} {H:Hp},R6 (AZ (some (TX,H)) TX) K=K:= λ{K H}=>by kernel_rfl
  have o2:∀{K:Al} {H:Hp} {z:Int},R6 (AZ (some (I z,H)) (I z)) K=K:= λ{K H z}=>R5 (by rfl)
  have o3:∀{K:Al} {H:Hp},R6 (AZ (some (.tup [VR w F g,Bo true],H)) (.tup [VR w F g,Bo true])) K=K:= λ{K H}=>by
   show R6 (some (.v (.bool (ZP _ _)),[])) K=K
   rw[ha];rfl
  simp only[Hh,BJ,f0,lk1,ly1,hk,CW,CV,al,Co,st,lk1',ly1',o1,o2,o3,ntT]
  have lo2:∀{K},Aq Bg (.ptr (A6 H1) 0 0) H2 K=K (VR w F g):= λ{K}=>Bm rfl rfl hop
  have ly2:∀{K},Aq AH (.ptr r 0 0) H2 K=K (.agg y.cs):= λ{K}=>Bm rfl rfl hy2
  have lf2:∀{K},Aq Aa (.ptr (A6 H1) 2 0) H2 K=K (fnA g):= λ{K}=>AY (p:=2) rfl hop (show 2<3 by decide)
  have a1:=C2e hc2 hs2 h0 hI
  have a2:Fx true depth (VR w F g) (VR w F g) H2 false:=by rcases hF with rfl|⟨_,_,rfl⟩<;>exact λK=>by kernel_rfl
  have a3:Fx true depth (.agg y.cs) (.agg y.cs) H2 false:= λK=>by kernel_rfl
  have hhas:∀{K:AV→Al},Ah (rt (L+20) (n+41)) B5 [.ptr c 0 0,VR w F g,.agg y.cs] H2 K=K (Bo true):= λ{K}=>A0b hh (A2 a1 (A2 a2 (A2 a3 Bt)))
  have hun:∀{K:AV→Al},Ah (rt (L+20) (n+41)) g [.ptr c 0 0,.agg y.cs] H2 K=K (.tup [.agg (Cc (uu k)),I 0]):= λ{K}=>A0b hu (A2 a1 (A2 a3 Bt))
  simp only[gT,Co,lo2,ly2,hhas,ntT,Vk]
  rw[BD,lf2,A9o hn hi,hun,CW,CV,Bf (cs:=E5) rfl,B7 (cs:=E5) (vs:=Cc (uu k)) (A1 (by simp)) rfl rfl rfl,←e3]
  have lc3:∀{K},Aq Am (.ptr c 2 0) H3 K=K v:= λ{K}=>AY (p:=2) rfl hc3 (show 2<3 by decide)
  have lu3:∀{K},Aq Ag (.ptr (A6 H2) 0 0) H3 K=K (.agg (Cc (uu k))):= λ{K}=>Bm rfl rfl hu3
  simp only[Hh,BJ,f0,lc3,lu3]
  have e5:∀K:KV,DN Az 20 Ag Am v (.sl 20 (A6 H3) 0 1) ((A6 H3,.cells false Az (Gh k))::H3) K=K v' H4:= λK=>by have:=e4 K;rw[B1N] at this;exact this
  have lc3':∀{K},Aq Am (.ptr c 2 0) ((A6 H3,.cells false Az (Gh k))::H3) K=K v:= λ{K}=>AY (p:=2) rfl (Bj (w3.lt hc3) hc3) (show 2<3 by decide)
  have s5:∀{K:Hp→Al},Cq Am (.ptr c 2 0) v' H4 K=K (upd H4 c (To I1 v')):= λ{K}=>Ez hc4 (show 2<3 by decide) rfl hone.1 hone.2
  have o4:∀{K:Al} {H:Hp},R6 (AZ (some (v,H)) v) K=K:= λ{K H}=>B3K (A5P hs3)
  simp only[B1N,Co,e5,s5,lc3',o4,B4K]
 ·have a1:=kp1 s x h
  have a2:=(k2 s x a1).1
  have a3:=(k3 s x a2).1
  rw[Au h1]
  exact k4 s x a3 h2
end
end
section
variable {L n:Nat}
abbrev A5L:AV:=fnA Fc
theorem B97 {k:Nat} (hk:k<52):PS (rt (L+20) (n+41)) Fc [.agg (Cc (uu k))] (Bo false):=by
 refine CS.ps (λK hK=> ?_) (λH=> λK=>by kernel_rfl)
 rw[R8]
 unfold Jd
 rw[EY rfl,Bm (cs:=Cc (uu k)) rfl rfl (A1 (by simp)),TA _ _ _ hk,ntT]
 exact hK _ _ (λb=>⟨false,λK=>by kernel_rfl⟩)
theorem B5U {k4:Hp→Al} {K:KV} {ks:List Nat} {H:Hp} (hb:ks.length<1000000000) (hk:∀k∈ks,k<52):∀(f i:Nat),i≤ks.length→ks.length-i<f→
 C5 (L+20) (rt (L+20) (n+41)) K k4 f (BC ks) A5L (I ks.length) (I i) H=k4 H:=by
 intro f
 induction f with
 |zero=>intro i _ h;omega
 |succ f ih=>
  intro i hi hf
  rw[Iv]
  unfold Dr Ar
  by_cases h:i<ks.length
  ·rw[FW (by omega),Dn,Xd h,Xc]
   have ez:∀K,Eo (E (L+20)) (rt (L+20) (n+41)) A5L [.agg (Cc (uu ks[i]))] H K=Ah (rt (L+20) (n+41)) Fc [.agg (Cc (uu ks[i]))] H λv=>K v H:= λK=>A9o rfl rfl
   rw[ez,B97 (hk _ (QS h)),BD,DS (by omega)]
   exact ih (i+1) (by omega) (by omega)
  ·rw[FX (by omega),BD]
theorem B0K {ks:List Nat} (hb:ks.length<1000000000) (hL:ks.length<L) (hk:∀k∈ks,k<52):CS (rt (L+20) (n+43)) Cr [BC ks,A5L] (Bo false):=by
 intro K hK
 rw[HX]
 unfold De Ar
 have hi:CS (rt (L+20) (n+42)) D2 [BC ks,A5L] (I (-1)):=by
  intro K hK
  rw[IN]
  unfold D0 Ar
  simp only[Cp]
  have e0:(AV.v (.int .i64 0))=I ((0:Nat):Int):=rfl
  rw[NT,e0,B5U hb hk _ 0 (by omega) (by omega)]
  exact hK _ _ (λb=>⟨false,λK=>by kernel_rfl⟩)
 rw[Bc (q:=false) hi (λK=>by kernel_rfl),Me]
 exact hK _ _ (λb=>⟨false,λK=>by kernel_rfl⟩)
def WNd (L n:Nat) (I1:AV) (l:List Nat) (y:Nd) (k:Nat):Prop:=∃w F g,Sl F∧
 (∀H K,(A6t .i64 (I y.op) λq=>Xu Bg true TX q H K)=K (.tup [VR w F g,Bo true]))∧
 ZP (.tup [VR w F g,Bo true]) (.tup [VR w F g,Bo true])=true∧(E (L+20)).ne g=false∧(E (L+20)).imp g=false∧
 RV (rt (L+20) (n+41)) B5 [T3 I1 (OQ l),VR w F g,.agg y.cs] (Bo true)∧
 RV (rt (L+20) (n+41)) g [T3 I1 (OQ l),.agg y.cs] (.tup [.agg (Cc (uu k)),I 0])
def WTy (L n:Nat) (ks:List Nat) (xs:List Nd) (ty:List Nat):Prop:=∀i (h:i<xs.length),WNd L n (BC ks) (ty.take i) xs[i] (ty.getD i 0)
section
variable {K:KV} {x:Al} {ks ty:List Nat} {xs:List Nd} {id:Int} {o:UD}
theorem B90 {k79:AV→AV→Hp→Al} {p c:Nat} (hT:WTy L n ks xs ty) (hlen:ty.length=xs.length) (hb:xs.length<100) (hpc:p≠c)
 (hx:∀v H,B1 H Az 20 v ty.length (ty.flatMap Gh)→(ty=[]→v=AO)→Ax H p=some (GK id (BC ks) (BU xs) o)→Ax H c=some (To (BC ks) v)→k79 (.ptr p 0 0) (.ptr c 0 0) H=x):
 ∀(f i:Nat) (v:AV) (H:Hp),i≤xs.length→xs.length-i<f→B1 H Az 20 v (ty.take i).length ((ty.take i).flatMap Gh)→(ty.take i=[]→v=AO)→¬AX v p→¬AX v c→Ax H p=some (GK id (BC ks) (BU xs) o)→Ax H c=some (To (BC ks) v)→Wf H→
 I2 (L+20) (rt (L+20) (n+42)) K k79 f (.ptr p 0 0) (.ptr c 0 0) (BU xs) (I xs.length) (I i) H=x:=by
 intro f
 induction f with
 |zero=>intro i v H _ h;omega
 |succ f ih=>
  intro i v H hi hf hs h0 hr hrc hp hc w
  rw[TS]
  unfold KI Ar
  by_cases h:i<xs.length
  ·rw[FW (by omega),Dn,A06 h,A05,Bf (cs:=Jv) rfl,B7 (cs:=Jv) (vs:=xs[i].cs) (A1 (by simp)) rfl rfl rfl]
   obtain⟨H4,e4,hv4,w4,h4⟩:=Er (e:=AI) (zs:=Jv) (vs:=xs[i].cs) w rfl
   rw[←e4,Bm rfl rfl hv4]
   have hp4:=(h4 _ _ hp).1
   have hc4:=(h4 _ _ hc).1
   have hs4:B1 H4 Az 20 v (ty.take i).length ((ty.take i).flatMap Gh):=by
    rcases hs with hs|⟨r,q,h1,h2,h3⟩
    ·exact .inl hs
    ·exact .inr ⟨r,q,h1,(h4 _ _ h2).1,h3⟩
   obtain⟨wd,F,g,hF,hk,ha,hn,hi',hh,hu⟩:=hT i h
   obtain⟨v',H5,e5,hc5,hs5,hr5,w5,n5,k5,nw5⟩:=C3k (n:=n) hc4 hs4 h0 hrc w4 (by rw[l0g];omega) (.inr ⟨_,_,rfl⟩) hF hk ha hn hi' hh hu
   have ht:ty.take i++[ty.getD i 0]=ty.take (i+1):=by
    have hl:i<ty.length:=by omega
    rw[l04 hl];simp[List.getD,JV hl]
   rw[e5,ntT,BD,DS (by omega)]
   rw[ht] at hs5
   exact ih (i+1) v' H5 (by omega) (by omega) hs5 (λe=>by rw[←ht] at e;simp at e) (λhr'=>by have:=nw5 _ hr';have:=w4.lt hp4;omega) hr5 (k5 _ _ hp4 hpc hr) hc5 w5
  ·rw[FX (by omega),BD]
   have:i=xs.length:=by omega
   subst this
   rw[←hlen,l06] at hs h0
   exact hx v H hs h0 hp hc
set_option maxHeartbeats 1000000 in
theorem B5R (hL:100<L) (hT:WTy L (n+2) ks xs ty) (ho:o=uu (ty.getD (xs.length-1) 0)) (hlen:ty.length=xs.length) (hk:∀k∈ks,k<52) (hb:ks.length≤6) (hn:1≤xs.length) (hn':xs.length≤40) (h1:1≤id) (h2:id≤1000000):
 CS (rt (L+20) (n+45)) Jr [.agg (Bx id (BC ks) (BU xs) o)] (.tup [OQ ty,I 0,I 0]):=by
 intro K hK
 rw[Vc]
 unfold LG Bu Ar Ev
 rw[EY (L6 (.inr ⟨_,_,rfl⟩) (.inr ⟨_,_,rfl⟩))]
 have hp0:=A1 (H:=[]) (x:=GK id (BC ks) (BU xs) o) (by simp)
 have w0:=BE (x:=GK id (BC ks) (BU xs) o) Fv
 generalize ((A6 [],GK id (BC ks) (BU xs) o)::([]:Hp))=H0 at hp0 w0
 generalize A6 []=p at hp0
 have f0:∀{s j:Nat} {K:AV→Al},AN j (.ptr s 0 0) K=K (.ptr s j 0):= λ{s j K}=>by rw[fA,Ln]
 have l0:∀{K},Aq Ab (.ptr p 0 0) H0 K=K (I id):= λ{K}=>AY (p:=0) rfl hp0 (show 0<23 by decide)
 have l1:∀{K},Aq Am (.ptr p 1 0) H0 K=K (BC ks):= λ{K}=>AY (p:=1) rfl hp0 (show 1<23 by decide)
 have l2:∀{K},Aq A0 (.ptr p 2 0) H0 K=K (BU xs):= λ{K}=>AY (p:=2) rfl hp0 (show 2<23 by decide)
 have t1:∀{K},Go.Abs.Ak Ab .lss (I id) (.v (.int .i64 1)) K=K (Bo false):= λ{K}=>by rw[Dy,decide_eq_false (by omega)]
 have t2:∀{K},Go.Abs.Ak Ab .gtr (I id) (.v (.int .i64 1000000)) K=K (Bo false):= λ{K}=>by rw[Ej,decide_eq_false (by omega)]
 have t3:∀{K},Go.Abs.Ak Ab .gtr (I (ks.length:Int)) (.v (.int .i64 6)) K=K (Bo false):= λ{K}=>by rw[Ej,decide_eq_false (by omega)]
 have t4:∀{K},Go.Abs.Ak Ab .lss (I (xs.length:Int)) (.v (.int .i64 1)) K=K (Bo false):= λ{K}=>by rw[Dy,decide_eq_false (by omega)]
 have t5:∀{K},Go.Abs.Ak Ab .gtr (I (xs.length:Int)) (.v (.int .i64 40)) K=K (Bo false):= λ{K}=>by rw[Ej,decide_eq_false (by omega)]
 have an:∀{K:AV→Al},Ah (rt (L+20) (n+44)) Cr [BC ks,A5L] H0 K=K (Bo false):= λ{K}=>Bc (q:=false) (B0K (n:=n+1) (by omega) (by omega) hk) (λK=>by kernel_rfl)
 rw[f0,l0,t1]
 simp only[gT,f0,l0,Co,t2,Vk,l1,NT,t3,an,l2,RL,t4,t5]
 rw[BD]
 have bg:∀{K:KV},(rt (L+20) (n+44)).call LX [BC ks] H0 K=K (.ptr (A6 H0) 0 0) ((A6 H0,To (BC ks) AO)::H0):= λ{K}=>by
  rw[UZ]
  unfold LD
  have b2:∀{K:AV→Al},Bk Hd [(0,1,TX),(1,1,BC ks)] K=K (.agg [TX,BC ks,AO]):= λ{K}=>_root_.id rfl
  rw[B8j (n:=n+42),b2,EY rfl]
 rw[bg]
 have hc1:=A1 (H:=H0) (x:=To (BC ks) AO) (by simp)
 have hp1:=Bj (x:=To (BC ks) AO) (w0.lt hp0) hp0
 have w1:=BE (x:=To (BC ks) AO) w0
 have hpc:=w0.lt hp0
 generalize ((A6 H0,To (BC ks) AO)::H0)=H1 at hc1 hp1 w1
 generalize A6 H0=c at hc1 hpc
 have l2':∀{K},Aq A0 (.ptr p 2 0) H1 K=K (BU xs):= λ{K}=>AY (p:=2) rfl hp1 (show 2<23 by decide)
 simp only[Cp]
 rw[l2',RL]
 refine B90 (n:=n+2) hT hlen (by omega) (by omega) ?_ (L+20) 0 _ H1 (by omega) (by omega) (.inl ⟨rfl,rfl,rfl⟩) (λ_=>rfl) (λ⟨_,_,_,h⟩=>by cases h) (λ⟨_,_,_,h⟩=>by cases h) hp1 hc1 w1
 intro v H hs h0 hp hc
 have hlt:ty.length-1<ty.length:=by omega
 obtain⟨a,ha1,ha2⟩:=A9t hs hlt
 have hov:∀{K},Aq Ag (.ptr p 3 0) H K=K (.agg (Cc o)):= λ{K}=>EX (p:=3) rfl hp (show 23≤23 by decide)
 have eg:uu ty[ty.length-1]=o:=by rw[ho,←hlen];simp[List.getD,JV hlt]
 rw[eg] at ha2
 have lc:∀{K},Aq Am (.ptr c 2 0) H K=K v:= λ{K}=>AY (p:=2) rfl hc (show 2<3 by decide)
 have ln:∀{K:AV→Al},AP Am v K=K (I ty.length):= λ{K}=>Js rfl hs
 simp only[Hh,BJ,f0,lc,ln,A3f (ty:=Ab) (i:=ty.length) (by omega) (by omega),ha1,ha2,hov,C5b]
 rw[BD]
 exact hK _ _ (λb=>by
  obtain⟨q,hq⟩:=Yn (D:=depth-2) (b:=b) hs h0
  exact⟨_,Yo (D:=depth-1) (A2 hq (A2 (q:=false) Ed (A2 (q:=false) Ed Bt)))⟩)
theorem B2t (hL:100<L) (hT:WTy L (n+2) ks xs ty) (ho:o=uu (ty.getD (xs.length-1) 0)) (hlen:ty.length=xs.length) (hk:∀k∈ks,k<52) (hb:ks.length≤6) (hn:1≤xs.length) (hn':xs.length≤40) (h1:1≤id) (h2:id≤1000000):
 CS (rt (L+20) (n+46)) DZ [.agg (Bx id (BC ks) (BU xs) o)] (Bo true):=by
 intro K hK
 rw[Va]
 unfold XA4 Ar
 rw[EY (L6 (.inr ⟨_,_,rfl⟩) (.inr ⟨_,_,rfl⟩))]
 have hp0:=A1 (H:=[]) (x:=GK id (BC ks) (BU xs) o) (by simp)
 generalize ((A6 [],GK id (BC ks) (BU xs) o)::([]:Hp))=H0 at hp0
 have ck:∀{K:AV→Al},Ah (rt (L+20) (n+45)) Jr [.agg (Bx id (BC ks) (BU xs) o)] H0 K=K (.tup [OQ ty,I 0,I 0]):= λ{K}=>Bc (B5R hL hT ho hlen hk hb hn hn' h1 h2) (Sn (.inr ⟨_,_,rfl⟩) (.inr ⟨_,_,rfl⟩))
 have e2:∀{K:AV→Al},AD (.tup [OQ ty,I 0,I 0]) 2 K=K (I 0):= λ{K}=>_root_.id rfl
 have e0:∀{K:AV→Al},AD (.tup [OQ ty,I 0,I 0]) 0 K=K (OQ ty):= λ{K}=>_root_.id rfl
 have e1:∀{K:AV→Al},AD (.tup [OQ ty,I 0,I 0]) 1 K=K (I 0):= λ{K}=>_root_.id rfl
 rw[Bm rfl rfl hp0,ck,e0,e1,e2,A3B]
 exact hK _ _ (λb=>⟨false,λK=>by kernel_rfl⟩)
end
end
section
variable {L n:Nat}
def Pm:List UInt8:=[112,114,111,99,101,100,117,114,101,32]
def A15:List UInt8:=[103,105,118,101,110,32]
def C1J:List UInt8:=[111,117,116,112,117,116,32]
def gvT (k:Nat):List UInt8:=A15++Jw k++[10]
def lnT (t:List UInt8):List UInt8:=t++[10]
def A12 (id:Nat) (ks:List Nat) (ts:List (List UInt8)) (o:Nat):List UInt8:=Pm++dg id++[10]++ks.flatMap gvT++ts.flatMap lnT++C1J++Jw o++[10]
theorem EP (k:Nat):(Jw k).length<60:=by
 by_cases h:k<52
 ·have:=Hl.1 (show((List.range 52).all λk=>decide ((Jw k).length<60))=true by kernel_rfl) k (IV.2 h)
  simpa using this
 ·have:Jw k=[]:=by
   unfold Jw
   rw[Ul,l1e (Nat.le_of_not_lt h)];rfl
  rw[this];decide
theorem A92 (k:Nat):(dg k).length≤3:=by
 unfold dg
 split
 ·simp
 ·split<;>simp
theorem B49 (ks:List Nat):(ks.flatMap gvT).length≤67*ks.length:=by
 induction ks with
 |nil=>simp
 |cons k ks ih=>
  have:=EP k
  simp only[l00,FA,Lj,gvT,A15,Ot] at ih⊢
  omega
theorem B3S {ts:List (List UInt8)} (h:∀t∈ts,t.length<100):(ts.flatMap lnT).length≤100*ts.length:=by
 induction ts with
 |nil=>simp
 |cons t ts ih=>
  have h1:=h t (by simp)
  have h2:=ih λu hu=>h u (by simp[hu])
  simp only[l00,FA,Lj,lnT,Ot] at h2⊢
  omega
theorem A03 {α:Type} {f:α→List UInt8} (l:List α) {i:Nat} (h:i<l.length):(l.take (i+1)).flatMap f=(l.take i).flatMap f++f l[i]:=by
 rw[l04 h,l2g];simp
section
variable {K:KV} {x:Al} {ks:List Nat} {ts:List (List UInt8)} {xs:List Nd} {id:Int} {o:UD} {s0:List UInt8}
theorem C1b {k49:AV→AV→AV→Hp→Al} {p:Nat} {H:Hp} (hk:∀k∈ks,k<52) (hb:ks.length<100) (h0:s0.length<1000) (hp:Ax H p=some (GK id (BC ks) (BU xs) o))
 (hx:k49 (.ptr p 0 0) (S (s0++ks.flatMap gvT)) (I ks.length) H=x):
 ∀(f i:Nat) (w:AV),i≤ks.length→ks.length-i<f→Lu (L+20) (rt (L+20) (n+40)) K k49 f (.ptr p 0 0) (S (s0++(ks.take i).flatMap gvT)) (I i) w H=x:=by
 intro f
 induction f with
 |zero=>intro i w _ h;omega
 |succ f ih=>
  intro i w hi hf
  rw[X8]
  unfold Pc Ar
  have f0:∀{s j:Nat} {K:AV→Al},AN j (.ptr s 0 0) K=K (.ptr s j 0):= λ{s j K}=>by rw[fA,Ln]
  have l1:∀{K},Aq Am (.ptr p 1 0) H K=K (BC ks):= λ{K}=>AY (p:=1) rfl hp (show 1<23 by decide)
  rw[f0,l1,NT]
  by_cases h:i<ks.length
  ·have e1:=B49 (ks.take i)
   have e2:(ks.take i).length≤ks.length:=by simp;omega
   have e3:=EP ks[i]
   rw[FW (by omega),Dn,f0,l1,Xd h,Xc,Rx _ _ _ (hk _ (QS h)),CW,CV,Bp (by simp only[FA,Lj,Ot];omega),Bp (by simp only[FA,Lj,Ot];omega),Bp (by simp only[FA,Lj,Ot];omega),DS (by omega)]
   have e4:s0++(ks.take i).flatMap gvT++[103,105,118,101,110,32]++Jw ks[i]++[10]=s0++(ks.take (i+1)).flatMap gvT:=by
    rw[A03 ks h];simp[gvT,A15]
   rw[e4]
   exact ih (i+1) _ (by omega) (by omega)
  ·rw[FX (by omega),BD]
   have:i=ks.length:=by omega
   subst this
   rw[l06]
   exact hx
theorem C1c {k28:AV→AV→Hp→Al} {p:Nat} {H:Hp} {u:AV} (hl:∀i (h:i<xs.length),PS (rt (L+20) (n+41)) Hr [.agg xs[i].cs] (S (ts.getD i []))) (ht:∀t∈ts,t.length<100) (hlen:ts.length=xs.length) (hb:xs.length<100) (h0:s0.length<10000) (hp:Ax H p=some (GK id (BC ks) (BU xs) o))
 (hx:k28 (.ptr p 0 0) (S (s0++ts.flatMap lnT)) H=x):
 ∀(f i:Nat),i≤xs.length→xs.length-i<f→Lv (L+20) (rt (L+20) (n+41)) K k28 f (.ptr p 0 0) (S (s0++(ts.take i).flatMap lnT)) u (I i) H=x:=by
 intro f
 induction f with
 |zero=>intro i _ h;omega
 |succ f ih=>
  intro i hi hf
  rw[X9]
  unfold Pd Ar
  have f0:∀{s j:Nat} {K:AV→Al},AN j (.ptr s 0 0) K=K (.ptr s j 0):= λ{s j K}=>by rw[fA,Ln]
  have l2:∀{K},Aq A0 (.ptr p 2 0) H K=K (BU xs):= λ{K}=>AY (p:=2) rfl hp (show 2<23 by decide)
  rw[f0,l2,RL]
  by_cases h:i<xs.length
  ·have hi':i<ts.length:=by omega
   have e0:ts.getD i []=ts[i]:=by simp[List.getD,JV hi']
   have e1:=B3S (ts:=ts.take i) λt hm=>ht t (l24 hm)
   have e2:(ts.take i).length≤ts.length:=by simp;omega
   have e3:=ht ts[i] (QS hi')
   have hl':=hl i h
   rw[e0] at hl'
   rw[FW (by omega),Dn,f0,l2,A06 h,A05,hl',Bp (by simp only[FA,Lj,Ot];omega),Bp (by simp only[FA,Lj,Ot];omega),DS (by omega)]
   have e4:s0++(ts.take i).flatMap lnT++ts[i]++[10]=s0++(ts.take (i+1)).flatMap lnT:=by
    rw[A03 ts hi'];simp[lnT]
   rw[e4]
   exact ih (i+1) (by omega) (by omega)
  ·rw[FX (by omega),BD]
   have:i=ts.length:=by omega
   subst this
   rw[l06]
   exact hx
theorem B3h {i ko:Nat} (hL:100<L) (hid:i<950) (hV:CS (rt (L+20) (n+44)) Eg [.agg (Bx i (BC ks) (BU xs) (uu ko))] (Bo true)) (hl:∀i (h:i<xs.length),PS (rt (L+20) (n+44)) Hr [.agg xs[i].cs] (S (ts.getD i []))) (ht:∀t∈ts,t.length<100) (hlen:ts.length=xs.length)
 (hk:∀k∈ks,k<52) (hb:ks.length≤6) (hn':xs.length≤40) (ho:ko<52):
 CS (rt (L+20) (n+45)) HL [.agg (Bx i (BC ks) (BU xs) (uu ko))] (.tup [S (A12 i ks ts ko),I 0]):=by
 intro K hK
 rw[Zu]
 unfold QI Ar
 rw[EY (L6 (.inr ⟨_,_,rfl⟩) (.inr ⟨_,_,rfl⟩))]
 have hp0:=A1 (H:=[]) (x:=GK i (BC ks) (BU xs) (uu ko)) (by simp)
 generalize ((A6 [],GK i (BC ks) (BU xs) (uu ko))::([]:Hp))=H0 at hp0
 generalize A6 []=p at hp0
 have f0:∀{s j:Nat} {K:AV→Al},AN j (.ptr s 0 0) K=K (.ptr s j 0):= λ{s j K}=>by rw[fA,Ln]
 have l0:∀{K},Aq Ab (.ptr p 0 0) H0 K=K (I i):= λ{K}=>AY (p:=0) rfl hp0 (show 0<23 by decide)
 have hv:∀{K:AV→Al},Ah (rt (L+20) (n+44)) Eg [.agg (Bx i (BC ks) (BU xs) (uu ko))] H0 K=K (Bo true):= λ{K}=>Bc hV (Sn (.inr ⟨_,_,rfl⟩) (.inr ⟨_,_,rfl⟩))
 have d1:=A92 i
 rw[Bm rfl rfl hp0,hv,ntT,BD,f0,l0,C6d L (n+34) i hid,Bp (by simp only[FA,Lj,Ot];omega),Bp (by simp only[FA,Lj,Ot];omega)]
 simp only[Cp]
 have e0:([112,114,111,99,101,100,117,114,101,32]++dg i++[10]:List UInt8)=(Pm++dg i++[10])++(ks.take 0).flatMap gvT:=by simp[Pm]
 rw[e0]
 have b0:(Pm++dg i++[10]).length≤14:=by simp only[FA,Lj,Ot,Pm];omega
 refine C1b (n:=n+4) hk (by omega) (by omega) hp0 ?_ (L+20) 0 _ (by omega) (by omega)
 have e1:(Pm++dg i++[10])++ks.flatMap gvT=((Pm++dg i++[10])++ks.flatMap gvT)++(ts.take 0).flatMap lnT:=by simp
 rw[e1]
 have g1:=B49 ks
 have b1:((Pm++dg i++[10])++ks.flatMap gvT).length≤500:=by rw[FA];omega
 refine C1c (n:=n+3) hl ht hlen (by omega) (by omega) hp0 ?_ (L+20) 0 (by omega) (by omega)
 have lo:∀{K},Aq Ag (.ptr p 3 0) H0 K=K (.agg (Cc (uu ko))):= λ{K}=>EX (p:=3) rfl hp0 (show 23≤23 by decide)
 have g2:=B3S ht
 have g3:=EP ko
 have b2:(((Pm++dg i++[10])++ks.flatMap gvT)++ts.flatMap lnT).length≤5000:=by rw[FA];omega
 rw[f0,lo,Rx _ _ _ ho,CW,CV,Bp (by rw[FA];simp only[Lj,Ot] at*;omega),Bp (by rw[FA];simp only[Lj,Ot] at*;omega),Bp (by rw[FA,FA];simp only[Lj,Ot] at*;omega)]
 exact hK _ _ (λb=>⟨false,λK=>by kernel_rfl⟩)
end
end
section
variable {L n:Nat}
section
variable {K:KV} {x:Al} {ks:List Nat} {ts:List (List UInt8)} {xs:List Nd} {id:Int} {o:UD} {s0:List UInt8}
abbrev pks (p:Nat) (id:Int) (ks:List Nat) (xs:List Nd) (o:UD):List (Nat×Row):=[(p,GK id (BC ks) (BU xs) o)]
theorem B0h {r b:Nat} {kp:List (Nat×Row)} {l s:List UInt8} {v:AV} {H:Hp} (h:Bd r kp b l v H) (hb:b<100000000) (hs:s.length<1000) (hx:∀v' H',Bd r kp (b+1000) (l++s) v' H'→K (.tup [I s.length,.v .nilIface]) H'=x):
 (rt (L+20) (n+2)).call Bv [.ptr r 0 0,S s] H K=x:=by
 have:=h.sz
 exact A48 h.bld (by omega) λv' H' hB hk=>hx v' H' (h.step hB hk (by rw[FA];omega))
theorem Bd.al {r b e:Nat} {kp:List (Nat×Row)} {l:List UInt8} {v:AV} {H:Hp} {zs vs:List AV} (h:Bd r kp b l v H) (hz:vs.length=zs.length):∃H',H'=upd ((A6 H,.cells true e zs)::H) (A6 H) (.cells true e vs)∧Ax H' (A6 H)=some (.cells true e vs)∧Bd r kp b l v H':=by
 refine⟨_,rfl,AC (A1 (H:=H) (x:= .cells true e zs) (by simp)),⟨(h.bld.cons (y:= .cells true e zs)).upd (by have:=h.bld.lt;omega) (λhu=>by have:=h.bld.vlt hu;omega),λp hp=> ?_,h.sz⟩⟩
 obtain⟨p1,p2,p3⟩:=h.ks p hp
 have:=h.bld.wf.lt p1
 exact⟨by rw[Au (by omega)];exact Bj this p1,p2,p3⟩
theorem B8X {k69:AV→AV→AV→AV→AV→Hp→Al} {p r:Nat} {kp:List (Nat×Row)} (hk:∀k∈ks,k<52) (hb:ks.length<100) {b:Nat} (hb':b<1000000)
 (hx:∀v H,Bd r kp (b+1000*ks.length) (s0++ks.flatMap gvT) v H→k69 (.ptr p 0 0) (.ptr r 0 0) (BC ks) (I ks.length) (I ks.length) H=x):
 ∀(f i:Nat) (v:AV) (H:Hp),i≤ks.length→ks.length-i<f→Bd r kp (b+1000*i) (s0++(ks.take i).flatMap gvT) v H→Iz (L+20) (rt (L+20) (n+40)) K k69 f (.ptr p 0 0) (.ptr r 0 0) (BC ks) (I ks.length) (I i) AV.dk AV.dk AV.dk H=x:=by
 intro f
 induction f with
 |zero=>intro i v H _ h;omega
 |succ f ih=>
  intro i v H hi hf hB
  rw[TQ]
  unfold KG Ar
  by_cases h:i<ks.length
  ·have e3:=EP ks[i]
   rw[FW (by omega),Dn,Xd h,Xc,Bf (cs:=E5) rfl,B7 (cs:=E5) (vs:=Cc (uu ks[i])) (A1 (by simp)) rfl rfl rfl]
   obtain⟨H1,e1,hu,hB1⟩:=hB.al (e:=Az) (zs:=E5) (vs:=Cc (uu ks[i])) rfl
   rw[←e1,Bm rfl rfl hu,Rk _ _ _ (hk _ (QS h)),CW,CV,Bp (by simp only[Lj,Ot];omega),Bp (by simp only[FA,Lj,Ot];omega)]
   refine B0h (n:=n+38) hB1 (by omega) (by simp only[FA,Lj,Ot];omega) λv2 H2 hB2=> ?_
   rw[DS (by omega)]
   have e4:s0++(ks.take i).flatMap gvT++([103,105,118,101,110,32]++Jw ks[i]++[10])=s0++(ks.take (i+1)).flatMap gvT:=by
    rw[A03 ks h];simp[gvT,A15]
   rw[e4,Xt,←Nat.mul_succ] at hB2
   exact ih (i+1) v2 H2 (by omega) (by omega) hB2
  ·rw[FX (by omega),BD]
   have:i=ks.length:=by omega
   subst this
   rw[l06] at hB
   exact hx v H hB
theorem B8Y {k40:AV→AV→Hp→Al} {p r:Nat} {kp:List (Nat×Row)} {a b' c:AV} (hl:∀i (h:i<xs.length),PS (rt (L+20) (n+41)) Eu [.agg xs[i].cs] (S (ts.getD i []))) (ht:∀t∈ts,t.length<100) (hlen:ts.length=xs.length) (hb:xs.length<100) {b:Nat} (hbb:b<10000000)
 (hx:∀v H,Bd r kp (b+1000*xs.length) (s0++ts.flatMap lnT) v H→k40 (.ptr p 0 0) (.ptr r 0 0) H=x):
 ∀(f i:Nat) (v:AV) (H:Hp),i≤xs.length→xs.length-i<f→Bd r kp (b+1000*i) (s0++(ts.take i).flatMap lnT) v H→I0 (L+20) (rt (L+20) (n+41)) K k40 f (.ptr p 0 0) (.ptr r 0 0) a b' c (BU xs) (I xs.length) (I i) H=x:=by
 intro f
 induction f with
 |zero=>intro i v H _ h;omega
 |succ f ih=>
  intro i v H hi hf hB
  rw[TR]
  unfold KH Ar
  by_cases h:i<xs.length
  ·have hi':i<ts.length:=by omega
   have e0:ts.getD i []=ts[i]:=by simp[List.getD,JV hi']
   have e3:=ht ts[i] (QS hi')
   have hl':=hl i h
   rw[e0] at hl'
   rw[FW (by omega),Dn,A06 h,A05,Bf (cs:=Jv) rfl,B7 (cs:=Jv) (vs:=xs[i].cs) (A1 (by simp)) rfl rfl rfl]
   obtain⟨H1,e1,hu,hB1⟩:=hB.al (e:=AI) (zs:=Jv) (vs:=xs[i].cs) rfl
   rw[←e1,Bm rfl rfl hu,hl',Bp (by simp only[Lj,Ot];omega)]
   refine B0h (n:=n+39) hB1 (by omega) (by simp only[FA,Lj,Ot];omega) λv2 H2 hB2=> ?_
   rw[DS (by omega)]
   have e4:s0++(ts.take i).flatMap lnT++(ts[i]++[10])=s0++(ts.take (i+1)).flatMap lnT:=by
    rw[A03 ts hi'];simp[lnT]
   rw[e4,Xt,←Nat.mul_succ] at hB2
   exact ih (i+1) v2 H2 (by omega) (by omega) hB2
  ·rw[FX (by omega),BD]
   have:i=ts.length:=by omega
   subst this
   rw[l06] at hB
   exact hx v H (hlen▸hB)
theorem B2u {i ko:Nat} (hL:100<L) (hid:i<950) (hV:CS (rt (L+20) (n+46)) DZ [.agg (Bx i (BC ks) (BU xs) (uu ko))] (Bo true)) (hl:∀i (h:i<xs.length),PS (rt (L+20) (n+46)) Eu [.agg xs[i].cs] (S (ts.getD i []))) (ht:∀t∈ts,t.length<100) (hlen:ts.length=xs.length)
 (hk:∀k∈ks,k<52) (hb:ks.length≤6) (hn':xs.length≤40) (ho:ko<52):
 CS (rt (L+20) (n+47)) EM [.agg (Bx i (BC ks) (BU xs) (uu ko))] (.tup [S (A12 i ks ts ko),I 0]):=by
 intro K hK
 rw[Vb]
 unfold LF Ar
 rw[EY (L6 (.inr ⟨_,_,rfl⟩) (.inr ⟨_,_,rfl⟩))]
 have hp0:=A1 (H:=[]) (x:=GK i (BC ks) (BU xs) (uu ko)) (by simp)
 have w0:=BE (x:=GK i (BC ks) (BU xs) (uu ko)) Fv
 generalize ((A6 [],GK i (BC ks) (BU xs) (uu ko))::([]:Hp))=H0 at hp0 w0
 generalize A6 []=p at hp0
 have f0:∀{s j:Nat} {K:AV→Al},AN j (.ptr s 0 0) K=K (.ptr s j 0):= λ{s j K}=>by rw[fA,Ln]
 have hv:∀{K:AV→Al},Ah (rt (L+20) (n+46)) DZ [.agg (Bx i (BC ks) (BU xs) (uu ko))] H0 K=K (Bo true):= λ{K}=>Bc hV (Sn (.inr ⟨_,_,rfl⟩) (.inr ⟨_,_,rfl⟩))
 have d1:=A92 i
 rw[Bm rfl rfl hp0,hv,ntT,BD,Bf (cs:=[.v (.pointer none),zL]) rfl]
 have hrn:=A1 (H:=H0) (x:= .cells true CX [.v (.pointer none),zL]) (by simp)
 have hclt:=w0.lt hp0
 have hB0:Bd (A6 H0) (pks p i ks xs (uu ko)) 0 [] AO ((A6 H0,.cells true CX [.v (.pointer none),zL])::H0):=
  ⟨⟨⟨_,.inr rfl,.inl hrn⟩,.inl ⟨rfl,rfl,rfl⟩,λ⟨_,_,_,h⟩=>(by cases h),BE w0⟩,λq hq=>by
   simp only[l2f] at hq
   subst hq
   exact⟨Bj hclt hp0,by simp only;omega,λ⟨_,_,_,h⟩=>(by cases h)⟩,O8 _⟩
 generalize ((A6 H0,Row.cells true CX [.v (.pointer none),zL])::H0)=H1 at hB0
 generalize A6 H0=r at hB0
 have crt:∀{b l v H},Bd r (pks p i ks xs (uu ko)) b l v H→Ax H p=some (GK i (BC ks) (BU xs) (uu ko)):= λh=>(h.ks (p,_) (l2f.2 rfl)).1
 have l0:∀{K},Aq Ab (.ptr p 0 0) H1 K=K (I i):= λ{K}=>AY (p:=0) rfl (crt hB0) (show 0<23 by decide)
 rw[f0,l0,C66 L (n+36) i hid,Bp (by simp only[Lj,Ot];omega),Bp (by simp only[FA,Lj,Ot];omega)]
 refine B0h (n:=n+44) hB0 (by omega) (by simp only[FA,Lj,Ot];omega) λv2 H2 hB2=> ?_
 simp only[Cp]
 have l1:∀{K},Aq Am (.ptr p 1 0) H2 K=K (BC ks):= λ{K}=>AY (p:=1) rfl (crt hB2) (show 1<23 by decide)
 rw[f0,l1,NT]
 have e0:([]++([112,114,111,99,101,100,117,114,101,32]++dg i++[10]):List UInt8)=(Pm++dg i++[10])++(ks.take 0).flatMap gvT:=by simp[Pm]
 rw[e0] at hB2
 refine B8X (n:=n+6) hk (by omega) (b:=0+1000) (by omega) (λv3 H3 hB3=> ?_) (L+20) 0 v2 H2 (by omega) (by omega) hB2
 have l2:∀{K},Aq A0 (.ptr p 2 0) H3 K=K (BU xs):= λ{K}=>AY (p:=2) rfl (crt hB3) (show 2<23 by decide)
 rw[f0,l2,RL]
 have e1:(Pm++dg i++[10])++ks.flatMap gvT=((Pm++dg i++[10])++ks.flatMap gvT)++(ts.take 0).flatMap lnT:=by simp
 rw[e1] at hB3
 refine B8Y (n:=n+5) hl ht hlen (by omega) (b:=0+1000+1000*ks.length) (by omega) (λv4 H4 hB4=> ?_) (L+20) 0 v3 H3 (by omega) (by omega) hB3
 have lo:∀{K},Aq Ag (.ptr p 3 0) H4 K=K (.agg (Cc (uu ko))):= λ{K}=>EX (p:=3) rfl (crt hB4) (show 23≤23 by decide)
 have g3:=EP ko
 rw[f0,lo,Rk _ _ _ ho,CW,CV,Bp (by simp only[Lj,Ot];omega),Bp (by simp only[FA,Lj,Ot];omega)]
 refine B0h (n:=n+44) hB4 (by omega) (by simp only[FA,Lj,Ot];omega) λv5 H5 hB5=> ?_
 have e2:((Pm++dg i++[10])++ks.flatMap gvT)++ts.flatMap lnT++([111,117,116,112,117,116,32]++Jw ko++[10])=A12 i ks ts ko:=by simp[A12,C1J]
 rw[e2] at hB5
 have z1:=hB5.sz
 obtain⟨H6,hs⟩:=A5z (n:=n+45) hB5.bld (by unfold A12;rw[FA];simp only[Lj,Ot];omega) (by omega)
 rw[hs]
 exact hK _ _ (λb=>⟨false,λK=>by kernel_rfl⟩)
end
end
end Go.Abs
end
