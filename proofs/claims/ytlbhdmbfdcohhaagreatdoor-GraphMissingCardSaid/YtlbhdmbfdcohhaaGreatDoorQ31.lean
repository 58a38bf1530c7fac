import Derived.Test.YtlbhdmbfdcohhaaGreatDoorQ17
import Derived.Test.YtlbhdmbfdcohhaaGreatDoorQ23
import Derived.Test.YtlbhdmbfdcohhaaGreatDoorQ28
import Derived.Test.YtlbhdmbfdcohhaaGreatDoorQ29
import Derived.Test.YtlbhdmbfdcohhaaGreatDoorQ30
set_option linter.all false
set_option maxHeartbeats 100000000
noncomputable section
namespace Go.Abs
open Go.RowKit Go.Proofs
set_option maxRecDepth 100000
section
def exN (j:Nat):Nd:=
 if j<3 then UP j
 else if j<39 then⟨(3+(j-3)/9:Nat),[],[],u0,0,((j-3)/3%3:Nat),((j-3)%3:Nat)⟩
 else⟨7,[],[],u0,Yh ((j-39)%5),((j-39)/5:Nat),0⟩
def Ff:List (List UInt8):=[[],[99,111,110,115,116],[105,110,112,117,116],[97,100,100],[115,117,98],[109,117,108],[100,105,118],[112,111,119],[115,113,114,116]]
def exT (j:Nat):List UInt8:=
 if j<3 then Ff.getD 2 []++[32]++dec j
 else if j<39 then Ff.getD (3+(j-3)/9) []++[32]++dec ((j-3)/3%3:Nat)++[32]++dec ((j-3)%3:Nat)
 else Ff.getD 7 []++[32]++dec ((j-39)/5:Nat)++[32]++dec (Yh ((j-39)%5))
variable (L n:Nat)
theorem B3b:((List.range 54).all λi=>HN (AW (C4 (rt (L+20) (n+41)) Hl [.agg (exN i).cs]) (S (exT i))))=true:=by kernel_rfl
end
section
def frL:List (List UInt8×List UInt8):=[([45,54],[49]),
 ([45,51],[49]),
 ([45,50],[49]),
 ([45,51],[50]),
 ([45,53],[49]),
 ([45,53],[50]),
 ([45,53],[51]),
 ([45,53],[52]),
 ([45,52],[49]),
 ([45,52],[51]),
 ([45,49],[49]),
 ([45,51],[52]),
 ([45,50],[51]),
 ([45,49],[50]),
 ([45,49],[51]),
 ([45,49],[52]),
 ([48],[49]),
 ([49],[49]),
 ([49],[50]),
 ([49],[51]),
 ([49],[52]),
 ([50],[49]),
 ([50],[51]),
 ([51],[49]),
 ([51],[50]),
 ([51],[52]),
 ([52],[49]),
 ([52],[51]),
 ([53],[49]),
 ([53],[50]),
 ([53],[51]),
 ([53],[52]),
 ([54],[49])]
def frn (i:Nat):List UInt8:=(frL.getD i ([],[])).1
def frd (i:Nat):List UInt8:=(frL.getD i ([],[])).2
abbrev VI (i:Nat):List AV:=[S (frn i),S (frd i)]
def frt (i:Nat):List UInt8:=if frd i=[49] then frn i else frn i++[47]++frd i
def C4K:List (List Nat):=[[0,1,2,3],[4,5,6,7],[8,2,9,10],[1,3,10,11],[2,10,12,13],[10,13,14,15],[16,16,16,16],[17,18,19,20],[21,17,22,18],[23,24,17,25],[26,21,27,17],[28,29,30,31],[32,23,21,24]]
def Yc (a b:Nat):Nat:=(C4K.getD a []).getD b 0
variable (L n:Nat)
theorem B3g:((List.range 13).all λk=>(λi=>HN (AW (C4 (rt (L+20) (n+40)) EP [I (((i/4:Nat):Int)-6),I (1+((i%4:Nat):Int))]) (.tup [.agg (VI (Yc (i/4) (i%4))),I 0]))) (k+0))=true:=by kernel_rfl
theorem B3f:((List.range 13).all λk=>(λi=>HN (AW (C4 (rt (L+20) (n+40)) EP [I (((i/4:Nat):Int)-6),I (1+((i%4:Nat):Int))]) (.tup [.agg (VI (Yc (i/4) (i%4))),I 0]))) (k+13))=true:=by kernel_rfl
theorem B3e:((List.range 13).all λk=>(λi=>HN (AW (C4 (rt (L+20) (n+40)) EP [I (((i/4:Nat):Int)-6),I (1+((i%4:Nat):Int))]) (.tup [.agg (VI (Yc (i/4) (i%4))),I 0]))) (k+26))=true:=by kernel_rfl
theorem B3d:((List.range 13).all λk=>(λi=>HN (AW (C4 (rt (L+20) (n+40)) EP [I (((i/4:Nat):Int)-6),I (1+((i%4:Nat):Int))]) (.tup [.agg (VI (Yc (i/4) (i%4))),I 0]))) (k+39))=true:=by kernel_rfl
theorem C10 (i:Nat) (h:i<52):PS (rt (L+20) (n+40)) EP [I (((i/4:Nat):Int)-6),I (1+((i%4:Nat):Int))] (.tup [.agg (VI (Yc (i/4) (i%4))),I 0]):=by
 refine Bu (λH=>by first|exact λK=>by kernel_rfl) ?_
 by_cases h0:i<13
 ·have:=Hv.1 (B3g L n) (i-0) (IL.2 (by omega))
  have e:i-0+0=i:=by omega
  simp only[e] at this
  exact this
 by_cases h1:i<26
 ·have:=Hv.1 (B3f L n) (i-13) (IL.2 (by omega))
  have e:i-13+13=i:=by omega
  simp only[e] at this
  exact this
 by_cases h2:i<39
 ·have:=Hv.1 (B3e L n) (i-26) (IL.2 (by omega))
  have e:i-26+26=i:=by omega
  simp only[e] at this
  exact this
 by_cases h3:i<52
 ·have:=Hv.1 (B3d L n) (i-39) (IL.2 (by omega))
  have e:i-39+39=i:=by omega
  simp only[e] at this
  exact this
 ·omega
theorem A5X:((List.range 11).all λk=>(λi=>HN (AW (C4 (rt (L+20) (n+40)) Cz [.agg (VI i)]) (Bo true))) (k+0))=true:=by kernel_rfl
theorem A5W:((List.range 11).all λk=>(λi=>HN (AW (C4 (rt (L+20) (n+40)) Cz [.agg (VI i)]) (Bo true))) (k+11))=true:=by kernel_rfl
theorem A5V:((List.range 11).all λk=>(λi=>HN (AW (C4 (rt (L+20) (n+40)) Cz [.agg (VI i)]) (Bo true))) (k+22))=true:=by kernel_rfl
theorem B0H (i:Nat) (h:i<33):PS (rt (L+20) (n+40)) Cz [.agg (VI i)] (Bo true):=by
 refine Bu (λH=>by first|exact λK=>by kernel_rfl) ?_
 by_cases h0:i<11
 ·have:=Hv.1 (A5X L n) (i-0) (IL.2 (by omega))
  have e:i-0+0=i:=by omega
  simp only[e] at this
  exact this
 by_cases h1:i<22
 ·have:=Hv.1 (A5W L n) (i-11) (IL.2 (by omega))
  have e:i-11+11=i:=by omega
  simp only[e] at this
  exact this
 by_cases h2:i<33
 ·have:=Hv.1 (A5V L n) (i-22) (IL.2 (by omega))
  have e:i-22+22=i:=by omega
  simp only[e] at this
  exact this
 ·omega
theorem A60:((List.range 11).all λk=>(λi=>HN (AW (C4 (rt (L+20) (n+40)) IM [.agg (VI i)]) (S (frt i)))) (k+0))=true:=by kernel_rfl
theorem A5Z:((List.range 11).all λk=>(λi=>HN (AW (C4 (rt (L+20) (n+40)) IM [.agg (VI i)]) (S (frt i)))) (k+11))=true:=by kernel_rfl
theorem A5Y:((List.range 11).all λk=>(λi=>HN (AW (C4 (rt (L+20) (n+40)) IM [.agg (VI i)]) (S (frt i)))) (k+22))=true:=by kernel_rfl
theorem B0I (i:Nat) (h:i<33):PS (rt (L+20) (n+40)) IM [.agg (VI i)] (S (frt i)):=by
 refine Bu (λH=>by first|exact λK=>by kernel_rfl) ?_
 by_cases h0:i<11
 ·have:=Hv.1 (A60 L n) (i-0) (IL.2 (by omega))
  have e:i-0+0=i:=by omega
  simp only[e] at this
  exact this
 by_cases h1:i<22
 ·have:=Hv.1 (A5Z L n) (i-11) (IL.2 (by omega))
  have e:i-11+11=i:=by omega
  simp only[e] at this
  exact this
 by_cases h2:i<33
 ·have:=Hv.1 (A5Y L n) (i-22) (IL.2 (by omega))
  have e:i-22+22=i:=by omega
  simp only[e] at this
  exact this
 ·omega
end
section
variable (L n:Nat)
theorem B2k:((List.range 54).all λi=>HN (AW (C4 (rt (L+20) (n+41)) Ew [.agg (exN i).cs]) (S (exT i))))=true:=by kernel_rfl
def cnN (i k:Nat):Nd:=⟨1,frn i,frd i,uu k,0,0,0⟩
def cnT (i k:Nat):List UInt8:=Ff.getD 1 []++[32]++frt i++[32]++Jv k
end
end Go.Abs
end
noncomputable section
end
noncomputable section
namespace Go.Abs
open Go.RowKit Go.Proofs
set_option maxRecDepth 100000
section
variable {L n:Nat}
def RV (R:Rt) (f:Nat) (args:List AV) (v:AV):Prop:=∀b,(R.call f args [] λv H'=>IZ b H' depth v λ_ v'=>some (v',[]))=some (v,[])
theorem ZW {R:Rt} {f:Nat} {args args':List AV} {v:AV} {H:Hp} {q:Bool} {K:AV→Al} (hc:RV R f args' v) (ha:PH true depth args args' H q):Ah R f args H K=K v:=by
 unfold Ah
 rw[ha]
 show Aj (R.call f args' [] _) K=K v
 rw[hc (!q)];rfl
theorem CS.rv {R:Rt} {f:Nat} {args:List AV} {v:AV} (h:CS R f args v):RV R f args v:= λb=>h _ λv0 H0 hv=>by
 obtain⟨q,hq⟩:=hv b
 exact hq _
abbrev fnA (f:Nat):AV:= .fn (.func f) [] []
abbrev VH (w:List UInt8) (F:AV) (g:Nat):AV:= .agg [S w,F,fnA g]
abbrev YH:AV:= .list 2 [fnA MP,fnA WN]
abbrev C1e:AV:= .list 2 [fnA MP,fnA Pu]
abbrev C1o:AV:= .list 1 [fnA Pu]
abbrev TG:AV:= .imap [(.int .i64 1,VH (Ff.getD 1 []) AM CO),(.int .i64 2,VH (Ff.getD 2 []) C1o E0),
 (.int .i64 3,VH (Ff.getD 3 []) YH DQ),(.int .i64 4,VH (Ff.getD 4 []) YH C8),
 (.int .i64 5,VH (Ff.getD 5 []) YH CW),(.int .i64 6,VH (Ff.getD 6 []) YH CN),
 (.int .i64 7,VH (Ff.getD 7 []) C1e Dw),(.int .i64 8,VH (Ff.getD 8 []) (.list 1 [fnA MP]) Pv)]
theorem B80:PS (rt (L+20) (n+1)) XA0 [] TG:=Bu (λH K=>by kernel_rfl) (by kernel_rfl)
abbrev Tj (I U:AV):AV:= .iptr [TG,I,U]
variable {I1:AV} {a b c i k:Nat}
end
section
variable {L n:Nat}
section
variable {H:Hp} {c:Nat} {v I1 F:AV} {l:List Nat} {y:Nd} {w:List UInt8} {g k:Nat}
abbrev SZ (I1 v:AV):Row:= .cells true Ob [TG,I1,v]
theorem C1L (hc:Au H c=some (SZ I1 v)) (hs:B1 H Aw 20 v l.length (l.flatMap Gg)) (h0:l=[]→v=AM) (hI:Sl I1):Fx true depth (.ptr c 0 0) (Tj I1 (OC l)) H true:=by
 obtain⟨q,hq⟩:=XZ (D:=depth-2) (b:=true) hs h0
 have a1:Fx true (depth-1) TG TG H false:= λK=>_root_.id rfl
 have a2:Fx true (depth-1) I1 I1 H false:=by rcases hI with rfl|⟨_,_,rfl⟩<;>exact λK=>_root_.id rfl
 have a3:PH true (depth-1) [TG,I1,v] [TG,I1,OC l] H (false||(false||(q||false))):=A0 a1 (A0 a2 (A0 hq Bp))
 intro K
 show Ks H c (λx=>Ma x λ_ cs=>HK (IZ true H (depth-1)) (Dg (Nat.add 0 0) cs) λ_ c'=>K true (.iptr c'))=_
 rw[Cm hc]
 show HK (IZ true H (depth-1)) (Dg 0 [TG,I1,v]) (λ_ c'=>K true (.iptr c'))=_
 rw[Ct,l1n,a3]
theorem A9c {f m:Nat} {args:List AV} {H:Hp} {K:KV} (hn:(E (L+20)).ne f=false) (hi:(E (L+20)).imp f=false):Eb (E (L+20)) (rt (L+20) m) (fnA f) args H K=Ah (rt (L+20) m) f args H λv=>K v H:=by
 show WJ args [] (λas'=>WJ [] as' λall=>B7A ((E (L+20)).ne f) all H K (@Bool.rec (λ_=>Al) (Ah (rt (L+20) m) f all H λv=>K v H) ((rt (L+20) m).call f all H K) ((E (L+20)).imp f)))=_
 rw[N6,N6,hn,hi,l1o,List.nil_append]
 rfl
theorem B3y {v:AV} {H:Hp} {K:Al} (h:ZA v v=true):Rg (AW (some (v,H)) v) K=K:=by
 show Rg (some (.v (.bool (ZA v v)),[])) K=K
 rw[h];rfl
theorem A5H {H:Hp} {e z n:Nat} {v:AV} {cs:List AV} (h:B1 H e z v n cs):ZA v v=true:=by
 rcases h with⟨rfl,_⟩|⟨r,q,rfl,_⟩
 ·rfl
 ·show(Nat.beq z z&&(Nat.beq r r&&(Nat.beq 0 0&&Nat.beq n n)))=true
  simp
theorem B4y {K:AV→Al} {t:TI}:Go.Abs.Ak t .eql (I 0) (.v (.int .i64 0)) K=K (Bo true):=by rw[Dy,decide_eq_true rfl]
theorem C30 (hc:Au H c=some (SZ I1 v)) (hs:B1 H Aw 20 v l.length (l.flatMap Gg)) (h0:l=[]→v=AM) (hr:¬Bb v c) (wf:Wf H) (hb:l.length<100) (hI:Sl I1) (hF:Sl F)
 (hk:∀H K,(A6p .i64 (I y.op) λq=>Zx Bf true TG q H K)=K (.tup [VH w F g,Bo true]))
 (ha:ZA (.tup [VH w F g,Bo true]) (.tup [VH w F g,Bo true])=true)
 (hn:(E (L+20)).ne g=false) (hi:(E (L+20)).imp g=false)
 (hh:RV (rt (L+20) (n+41)) B2 [Tj I1 (OC l),VH w F g,.agg y.cs] (Bo true))
 (hu:RV (rt (L+20) (n+41)) g [Tj I1 (OC l),.agg y.cs] (.tup [.agg (Cb (uu k)),I 0])):
 ∃v' H',(∀K,(rt (L+20) (n+42)).call GR [.ptr c 0 0,.agg y.cs] H K=K (Bo true) H')∧Au H' c=some (SZ I1 v')∧B1 H' Aw 20 v' (l++[k]).length ((l++[k]).flatMap Gg)∧¬Bb v' c∧Wf H'∧A3 H≤A3 H'∧(∀s x,Au H s=some x→s≠c→¬Bb v s→Au H' s=some x)∧(∀s,Bb v' s→A3 H≤s):=by
 have hy1:=Ay (H:=H) (x:=Tc y) (by simp)
 have hc1:=Bh (x:=Tc y) (wf.lt hc) hc
 have w1:=B3 (x:=Tc y) wf
 have hs1:B1 ((A3 H,Tc y)::H) Aw 20 v l.length (l.flatMap Gg):=hs.lat wf (Lat.cons H _ (λ_=>False)) (λ_ _ h=>h)
 have kp1:∀s x,Au H s=some x→Au ((A3 H,Tc y)::H) s=some x:= λs x h=>Bh (wf.lt h) h
 have n1:A3 H≤A3 ((A3 H,Tc y)::H):=l1p _
 have hr1:∀s,Bb v s→s<A3 H:= λs hu=>by
  rcases hs with⟨rfl,_⟩|⟨r,q,rfl,h2,_⟩
  ·obtain⟨_,_,_,h⟩:=hu;cases h
  ·obtain⟨_,_,_,h⟩:=hu;cases h;exact wf.lt h2
 have ey:∀K:KV,CU AF (.agg y.cs) H K=K (.ptr (A3 H) 0 0) ((A3 H,Tc y)::H):= λK=>Fa A8b
 have yl:=wf.lt hc
 generalize hH1:((A3 H,Tc y)::H)=H1 at hy1 hc1 w1 hs1 kp1 n1 ey
 generalize hr0:A3 H=r at hy1 ey yl n1 hr1
 obtain⟨H2,e2,hop,w2,k2⟩:=Ed (e:=BP) (zs:=[zS,zL,.v .nilFunc]) (vs:=[S w,F,fnA g]) w1 rfl
 have ho1:=Ay (H:=H1) (x:= .cells true BP [zS,zL,.v .nilFunc]) (by simp)
 have hc1':=Bh (x:= .cells true BP [zS,zL,.v .nilFunc]) (w1.lt hc1) hc1
 have hy1':=Bh (x:= .cells true BP [zS,zL,.v .nilFunc]) (w1.lt hy1) hy1
 obtain⟨hc2,nc2⟩:=k2 _ _ hc1
 obtain⟨hy2,ny2⟩:=k2 _ _ hy1
 have hs2:B1 H2 Aw 20 v l.length (l.flatMap Gg):=by
  rcases hs1 with h|⟨r,q,h1,h2,h3⟩
  ·exact .inl h
  ·exact .inr ⟨r,q,h1,(k2 _ _ h2).1,h3⟩
 have n2:A3 H1≤A3 H2:=by rw[e2,Cr];exact l1p _
 obtain⟨H3,e3,hu3,w3,k3⟩:=Ed (e:=Aw) (zs:=E9) (vs:=Cb (uu k)) w2 rfl
 obtain⟨hc3,nc3⟩:=k3 _ _ hc2
 have hs3:B1 H3 Aw 20 v l.length (l.flatMap Gg):=by
  rcases hs2 with h|⟨r,q,h1,h2,h3⟩
  ·exact .inl h
  ·exact .inr ⟨r,q,h1,(k3 _ _ h2).1,h3⟩
 have n3:A3 H2≤A3 H3:=by rw[e3,Cr];exact l1p _
 obtain⟨v',H4,e4,hs4,w4,n4,k4,nw4⟩:=C5b k hs3 w3 hb
 have hc4:=k4 _ _ hc3 hr
 have hcv:¬Bb v' c:= λhu=>by have:=nw4 c hu;have:=w3.lt hc3;omega
 have hone:B6 v'=[v']∧AV.one v'=true:=by
  rcases hs4 with⟨rfl,_⟩|⟨a,b,rfl,_⟩<;>exact⟨rfl,rfl⟩
 refine⟨v',upd H4 c (SZ I1 v'),λK=> ?_,A9 hc4,hs4.lat w4 (Lat.upd H4 c _ (P:= λu=>u=c) rfl) (λu hu e=>hcv (e▸hu)),hcv,BL w4,by rw[Cr];omega,λs x h h1 h2=> ?_,λs hu=>by have:=nw4 s hu;omega⟩
 ·rw[Ou]
  unfold GP Bw Ar E4 CH
  rw[ey]
  have f0:∀{s j:Nat} {K:AV→Al},AL j (.ptr s 0 0) K=K (.ptr s j 0):= λ{s j K}=>by rw[fA,K1]
  have lk1:∀{K},Aq CJ (.ptr c 0 0) H1 K=K TG:= λ{K}=>AQ (p:=0) rfl hc1 (show 0<3 by decide)
  have ly1:∀{K},Aq Ab (.ptr r 0 0) H1 K=K (I y.op):= λ{K}=>AQ (p:=0) rfl hy1 (show 0<26 by decide)
  have lk1':∀{K},Aq CJ (.ptr c 0 0) ((A3 H1,.cells true BP [zS,zL,.v .nilFunc])::H1) K=K TG:= λ{K}=>AQ (p:=0) rfl hc1' (show 0<3 by decide)
  have ly1':∀{K},Aq Ab (.ptr r 0 0) ((A3 H1,.cells true BP [zS,zL,.v .nilFunc])::H1) K=K (I y.op):= λ{K}=>AQ (p:=0) rfl hy1' (show 0<26 by decide)
  have al:∀{K:KV},AH BP Bf H1 K=K (.ptr (A3 H1) 0 0) ((A3 H1,.cells true BP [zS,zL,.v .nilFunc])::H1):= λ{K}=>Ba rfl
  have st:∀{K:Hp→Al},Ck Bf (.ptr (A3 H1) 0 0) (VH w F g) ((A3 H1,.cells true BP [zS,zL,.v .nilFunc])::H1) K=K H2:= λ{K}=>by
   rw[e2];exact B0 (vs:=[S w,F,fnA g]) ho1 rfl rfl (by rcases hF with rfl|⟨_,_,rfl⟩<;>rfl)
  have o1:∀{K:Al} {H:Hp},Rg (AW (some (TG,H)) TG) K=K:= λ{K H}=>by kernel_rfl
  have o2:∀{K:Al} {H:Hp} {z:Int},Rg (AW (some (I z,H)) (I z)) K=K:= λ{K H z}=>Rf (by rfl)
  have o3:∀{K:Al} {H:Hp},Rg (AW (some (.tup [VH w F g,Bo true],H)) (.tup [VH w F g,Bo true])) K=K:= λ{K H}=>by
   show Rg (some (.v (.bool (ZA _ _)),[])) K=K
   rw[ha];rfl
  simp only[Hf,BH,f0,lk1,ly1,hk,CY,CX,al,Ci,st,lk1',ly1',o1,o2,o3,ntT]
  have lo2:∀{K},Aq Bf (.ptr (A3 H1) 0 0) H2 K=K (VH w F g):= λ{K}=>Bk rfl rfl hop
  have ly2:∀{K},Aq AE (.ptr r 0 0) H2 K=K (.agg y.cs):= λ{K}=>Bk rfl rfl hy2
  have lf2:∀{K},Aq Aa (.ptr (A3 H1) 2 0) H2 K=K (fnA g):= λ{K}=>AQ (p:=2) rfl hop (show 2<3 by decide)
  have a1:=C1L hc2 hs2 h0 hI
  have a2:Fx true depth (VH w F g) (VH w F g) H2 false:=by rcases hF with rfl|⟨_,_,rfl⟩<;>exact λK=>by kernel_rfl
  have a3:Fx true depth (.agg y.cs) (.agg y.cs) H2 false:= λK=>by kernel_rfl
  have hhas:∀{K:AV→Al},Ah (rt (L+20) (n+41)) B2 [.ptr c 0 0,VH w F g,.agg y.cs] H2 K=K (Bo true):= λ{K}=>ZW hh (A0 a1 (A0 a2 (A0 a3 Bp)))
  have hun:∀{K:AV→Al},Ah (rt (L+20) (n+41)) g [.ptr c 0 0,.agg y.cs] H2 K=K (.tup [.agg (Cb (uu k)),I 0]):= λ{K}=>ZW hu (A0 a1 (A0 a3 Bp))
  simp only[gT,Ci,lo2,ly2,hhas,ntT,TB]
  rw[B9,lf2,A9c hn hi,hun,CY,CX,Ba (cs:=E9) rfl,B0 (cs:=E9) (vs:=Cb (uu k)) (Ay (by simp)) rfl rfl rfl,←e3]
  have lc3:∀{K},Aq Am (.ptr c 2 0) H3 K=K v:= λ{K}=>AQ (p:=2) rfl hc3 (show 2<3 by decide)
  have lu3:∀{K},Aq Ag (.ptr (A3 H2) 0 0) H3 K=K (.agg (Cb (uu k))):= λ{K}=>Bk rfl rfl hu3
  simp only[Hf,BH,f0,lc3,lu3]
  have e5:∀K:KV,Ea Aw 20 Ag Am v (.sl 20 (A3 H3) 0 1) ((A3 H3,.cells false Aw (Gg k))::H3) K=K v' H4:= λK=>by have:=e4 K;rw[B1B] at this;exact this
  have lc3':∀{K},Aq Am (.ptr c 2 0) ((A3 H3,.cells false Aw (Gg k))::H3) K=K v:= λ{K}=>AQ (p:=2) rfl (Bh (w3.lt hc3) hc3) (show 2<3 by decide)
  have s5:∀{K:Hp→Al},Ck Am (.ptr c 2 0) v' H4 K=K (upd H4 c (SZ I1 v')):= λ{K}=>E1 hc4 (show 2<3 by decide) rfl hone.1 hone.2
  have o4:∀{K:Al} {H:Hp},Rg (AW (some (v,H)) v) K=K:= λ{K H}=>B3y (A5H hs3)
  simp only[B1B,Ci,e5,s5,lc3',o4,B4y]
 ·have a1:=kp1 s x h
  have a2:=(k2 s x a1).1
  have a3:=(k3 s x a2).1
  rw[Ap h1]
  exact k4 s x a3 h2
end
end
section
variable {L n:Nat}
abbrev A5D:AV:=fnA Fh
theorem B8L {k:Nat} (hk:k<52):PS (rt (L+20) (n+41)) Fh [.agg (Cb (uu k))] (Bo false):=by
 refine CS.ps (λK hK=> ?_) (λH=> λK=>by kernel_rfl)
 rw[Ri]
 unfold IV
 rw[Fa rfl,Bk (cs:=Cb (uu k)) rfl rfl (Ay (by simp)),Tq _ _ _ hk,ntT]
 exact hK _ _ (λb=>⟨false,λK=>by kernel_rfl⟩)
theorem B5M {k4:Hp→Al} {K:KV} {ks:List Nat} {H:Hp} (hb:ks.length<1000000000) (hk:∀k∈ks,k<52):∀(f i:Nat),i≤ks.length→ks.length-i<f→
 Cx (L+20) (rt (L+20) (n+41)) K k4 f (BC ks) A5D (I ks.length) (I i) H=k4 H:=by
 intro f
 induction f with
 |zero=>intro i _ h;omega
 |succ f ih=>
  intro i hi hf
  rw[Io]
  unfold Dp Ar
  by_cases h:i<ks.length
  ·rw[Ge (by omega),D3,WU h,WT]
   have ez:∀K,Eb (E (L+20)) (rt (L+20) (n+41)) A5D [.agg (Cb (uu ks[i]))] H K=Ah (rt (L+20) (n+41)) Fh [.agg (Cb (uu ks[i]))] H λv=>K v H:= λK=>A9c rfl rfl
   rw[ez,B8L (hk _ (Ow h)),B9,DS (by omega)]
   exact ih (i+1) (by omega) (by omega)
  ·rw[Gf (by omega),B9]
theorem B0w {ks:List Nat} (hb:ks.length<1000000000) (hL:ks.length<L) (hk:∀k∈ks,k<52):CS (rt (L+20) (n+43)) Cn [BC ks,A5D] (Bo false):=by
 intro K hK
 rw[HU]
 unfold Dd Ar
 have hi:CS (rt (L+20) (n+42)) D1 [BC ks,A5D] (I (-1)):=by
  intro K hK
  rw[ID]
  unfold Dz Ar
  simp only[Cl]
  have e0:(AV.v (.int .i64 0))=I ((0:Nat):Int):=rfl
  rw[NJ,e0,B5M hb hk _ 0 (by omega) (by omega)]
  exact hK _ _ (λb=>⟨false,λK=>by kernel_rfl⟩)
 rw[Be (q:=false) hi (λK=>by kernel_rfl),LV]
 exact hK _ _ (λb=>⟨false,λK=>by kernel_rfl⟩)
def WNd (L n:Nat) (I1:AV) (l:List Nat) (y:Nd) (k:Nat):Prop:=∃w F g,Sl F∧
 (∀H K,(A6p .i64 (I y.op) λq=>Zx Bf true TG q H K)=K (.tup [VH w F g,Bo true]))∧
 ZA (.tup [VH w F g,Bo true]) (.tup [VH w F g,Bo true])=true∧(E (L+20)).ne g=false∧(E (L+20)).imp g=false∧
 RV (rt (L+20) (n+41)) B2 [Tj I1 (OC l),VH w F g,.agg y.cs] (Bo true)∧
 RV (rt (L+20) (n+41)) g [Tj I1 (OC l),.agg y.cs] (.tup [.agg (Cb (uu k)),I 0])
def WTy (L n:Nat) (ks:List Nat) (xs:List Nd) (ty:List Nat):Prop:=∀i (h:i<xs.length),WNd L n (BC ks) (ty.take i) xs[i] (ty.getD i 0)
section
variable {K:KV} {x:Al} {ks ty:List Nat} {xs:List Nd} {id:Int} {o:UD}
theorem B8E {k79:AV→AV→Hp→Al} {p c:Nat} (hT:WTy L n ks xs ty) (hlen:ty.length=xs.length) (hb:xs.length<100) (hpc:p≠c)
 (hx:∀v H,B1 H Aw 20 v ty.length (ty.flatMap Gg)→(ty=[]→v=AM)→Au H p=some (GL id (BC ks) (BR xs) o)→Au H c=some (SZ (BC ks) v)→k79 (.ptr p 0 0) (.ptr c 0 0) H=x):
 ∀(f i:Nat) (v:AV) (H:Hp),i≤xs.length→xs.length-i<f→B1 H Aw 20 v (ty.take i).length ((ty.take i).flatMap Gg)→(ty.take i=[]→v=AM)→¬Bb v p→¬Bb v c→Au H p=some (GL id (BC ks) (BR xs) o)→Au H c=some (SZ (BC ks) v)→Wf H→
 Iv (L+20) (rt (L+20) (n+42)) K k79 f (.ptr p 0 0) (.ptr c 0 0) (BR xs) (I xs.length) (I i) H=x:=by
 intro f
 induction f with
 |zero=>intro i v H _ h;omega
 |succ f ih=>
  intro i v H hi hf hs h0 hr hrc hp hc w
  rw[T9]
  unfold KF Ar
  by_cases h:i<xs.length
  ·rw[Ge (by omega),D3,ZS h,ZR,Ba (cs:=Ju) rfl,B0 (cs:=Ju) (vs:=xs[i].cs) (Ay (by simp)) rfl rfl rfl]
   obtain⟨H4,e4,hv4,w4,h4⟩:=Ed (e:=AF) (zs:=Ju) (vs:=xs[i].cs) w rfl
   rw[←e4,Bk rfl rfl hv4]
   have hp4:=(h4 _ _ hp).1
   have hc4:=(h4 _ _ hc).1
   have hs4:B1 H4 Aw 20 v (ty.take i).length ((ty.take i).flatMap Gg):=by
    rcases hs with hs|⟨r,q,h1,h2,h3⟩
    ·exact .inl hs
    ·exact .inr ⟨r,q,h1,(h4 _ _ h2).1,h3⟩
   obtain⟨wd,F,g,hF,hk,ha,hn,hi',hh,hu⟩:=hT i h
   obtain⟨v',H5,e5,hc5,hs5,hr5,w5,n5,k5,nw5⟩:=C30 (n:=n) hc4 hs4 h0 hrc w4 (by rw[l0g];omega) (.inr ⟨_,_,rfl⟩) hF hk ha hn hi' hh hu
   have ht:ty.take i++[ty.getD i 0]=ty.take (i+1):=by
    have hl:i<ty.length:=by omega
    rw[l04 hl];simp[List.getD,Ka hl]
   rw[e5,ntT,B9,DS (by omega)]
   rw[ht] at hs5
   exact ih (i+1) v' H5 (by omega) (by omega) hs5 (λe=>by rw[←ht] at e;simp at e) (λhr'=>by have:=nw5 _ hr';have:=w4.lt hp4;omega) hr5 (k5 _ _ hp4 hpc hr) hc5 w5
  ·rw[Gf (by omega),B9]
   have:i=xs.length:=by omega
   subst this
   rw[←hlen,l06] at hs h0
   exact hx v H hs h0 hp hc
set_option maxHeartbeats 1000000 in
theorem B5J (hL:100<L) (hT:WTy L (n+2) ks xs ty) (ho:o=uu (ty.getD (xs.length-1) 0)) (hlen:ty.length=xs.length) (hk:∀k∈ks,k<52) (hb:ks.length≤6) (hn:1≤xs.length) (hn':xs.length≤40) (h1:1≤id) (h2:id≤1000000):
 CS (rt (L+20) (n+45)) Jr [.agg (Bs id (BC ks) (BR xs) o)] (.tup [OC ty,I 0,I 0]):=by
 intro K hK
 rw[UL]
 unfold L8 Bw Ar E4
 rw[Fa (L0 (.inr ⟨_,_,rfl⟩) (.inr ⟨_,_,rfl⟩))]
 have hp0:=Ay (H:=[]) (x:=GL id (BC ks) (BR xs) o) (by simp)
 have w0:=B3 (x:=GL id (BC ks) (BR xs) o) F3
 generalize ((A3 [],GL id (BC ks) (BR xs) o)::([]:Hp))=H0 at hp0 w0
 generalize A3 []=p at hp0
 have f0:∀{s j:Nat} {K:AV→Al},AL j (.ptr s 0 0) K=K (.ptr s j 0):= λ{s j K}=>by rw[fA,K1]
 have l0:∀{K},Aq Ab (.ptr p 0 0) H0 K=K (I id):= λ{K}=>AQ (p:=0) rfl hp0 (show 0<23 by decide)
 have l1:∀{K},Aq Am (.ptr p 1 0) H0 K=K (BC ks):= λ{K}=>AQ (p:=1) rfl hp0 (show 1<23 by decide)
 have l2:∀{K},Aq Ax (.ptr p 2 0) H0 K=K (BR xs):= λ{K}=>AQ (p:=2) rfl hp0 (show 2<23 by decide)
 have t1:∀{K},Go.Abs.Ak Ab .lss (I id) (.v (.int .i64 1)) K=K (Bo false):= λ{K}=>by rw[Dx,decide_eq_false (by omega)]
 have t2:∀{K},Go.Abs.Ak Ab .gtr (I id) (.v (.int .i64 1000000)) K=K (Bo false):= λ{K}=>by rw[Ey,decide_eq_false (by omega)]
 have t3:∀{K},Go.Abs.Ak Ab .gtr (I (ks.length:Int)) (.v (.int .i64 6)) K=K (Bo false):= λ{K}=>by rw[Ey,decide_eq_false (by omega)]
 have t4:∀{K},Go.Abs.Ak Ab .lss (I (xs.length:Int)) (.v (.int .i64 1)) K=K (Bo false):= λ{K}=>by rw[Dx,decide_eq_false (by omega)]
 have t5:∀{K},Go.Abs.Ak Ab .gtr (I (xs.length:Int)) (.v (.int .i64 40)) K=K (Bo false):= λ{K}=>by rw[Ey,decide_eq_false (by omega)]
 have an:∀{K:AV→Al},Ah (rt (L+20) (n+44)) Cn [BC ks,A5D] H0 K=K (Bo false):= λ{K}=>Be (q:=false) (B0w (n:=n+1) (by omega) (by omega) hk) (λK=>by kernel_rfl)
 rw[f0,l0,t1]
 simp only[gT,f0,l0,Ci,t2,TB,l1,NJ,t3,an,l2,R6,t4,t5]
 rw[B9]
 have bg:∀{K:KV},(rt (L+20) (n+44)).call LQ [BC ks] H0 K=K (.ptr (A3 H0) 0 0) ((A3 H0,SZ (BC ks) AM)::H0):= λ{K}=>by
  rw[UI]
  unfold L5
  have b2:∀{K:AV→Al},Bi Hd [(0,1,TG),(1,1,BC ks)] K=K (.agg [TG,BC ks,AM]):= λ{K}=>_root_.id rfl
  rw[B80 (n:=n+42),b2,Fa rfl]
 rw[bg]
 have hc1:=Ay (H:=H0) (x:=SZ (BC ks) AM) (by simp)
 have hp1:=Bh (x:=SZ (BC ks) AM) (w0.lt hp0) hp0
 have w1:=B3 (x:=SZ (BC ks) AM) w0
 have hpc:=w0.lt hp0
 generalize ((A3 H0,SZ (BC ks) AM)::H0)=H1 at hc1 hp1 w1
 generalize A3 H0=c at hc1 hpc
 have l2':∀{K},Aq Ax (.ptr p 2 0) H1 K=K (BR xs):= λ{K}=>AQ (p:=2) rfl hp1 (show 2<23 by decide)
 simp only[Cl]
 rw[l2',R6]
 refine B8E (n:=n+2) hT hlen (by omega) (by omega) ?_ (L+20) 0 _ H1 (by omega) (by omega) (.inl ⟨rfl,rfl,rfl⟩) (λ_=>rfl) (λ⟨_,_,_,h⟩=>by cases h) (λ⟨_,_,_,h⟩=>by cases h) hp1 hc1 w1
 intro v H hs h0 hp hc
 have hlt:ty.length-1<ty.length:=by omega
 obtain⟨a,ha1,ha2⟩:=A9h hs hlt
 have hov:∀{K},Aq Ag (.ptr p 3 0) H K=K (.agg (Cb o)):= λ{K}=>EZ (p:=3) rfl hp (show 23≤23 by decide)
 have eg:uu ty[ty.length-1]=o:=by rw[ho,←hlen];simp[List.getD,Ka hlt]
 rw[eg] at ha2
 have lc:∀{K},Aq Am (.ptr c 2 0) H K=K v:= λ{K}=>AQ (p:=2) rfl hc (show 2<3 by decide)
 have ln:∀{K:AV→Al},AN Am v K=K (I ty.length):= λ{K}=>I5 rfl hs
 simp only[Hf,BH,f0,lc,ln,A33 (ty:=Ab) (i:=ty.length) (by omega) (by omega),ha1,ha2,hov,C4X]
 rw[B9]
 exact hK _ _ (λb=>by
  obtain⟨q,hq⟩:=XZ (D:=depth-2) (b:=b) hs h0
  exact⟨_,Yb (D:=depth-1) (A0 hq (A0 (q:=false) E5 (A0 (q:=false) E5 Bp)))⟩)
theorem B2h (hL:100<L) (hT:WTy L (n+2) ks xs ty) (ho:o=uu (ty.getD (xs.length-1) 0)) (hlen:ty.length=xs.length) (hk:∀k∈ks,k<52) (hb:ks.length≤6) (hn:1≤xs.length) (hn':xs.length≤40) (h1:1≤id) (h2:id≤1000000):
 CS (rt (L+20) (n+46)) DY [.agg (Bs id (BC ks) (BR xs) o)] (Bo true):=by
 intro K hK
 rw[UJ]
 unfold L6 Ar
 rw[Fa (L0 (.inr ⟨_,_,rfl⟩) (.inr ⟨_,_,rfl⟩))]
 have hp0:=Ay (H:=[]) (x:=GL id (BC ks) (BR xs) o) (by simp)
 generalize ((A3 [],GL id (BC ks) (BR xs) o)::([]:Hp))=H0 at hp0
 have ck:∀{K:AV→Al},Ah (rt (L+20) (n+45)) Jr [.agg (Bs id (BC ks) (BR xs) o)] H0 K=K (.tup [OC ty,I 0,I 0]):= λ{K}=>Be (B5J hL hT ho hlen hk hb hn hn' h1 h2) (RW (.inr ⟨_,_,rfl⟩) (.inr ⟨_,_,rfl⟩))
 have e2:∀{K:AV→Al},AA (.tup [OC ty,I 0,I 0]) 2 K=K (I 0):= λ{K}=>_root_.id rfl
 have e0:∀{K:AV→Al},AA (.tup [OC ty,I 0,I 0]) 0 K=K (OC ty):= λ{K}=>_root_.id rfl
 have e1:∀{K:AV→Al},AA (.tup [OC ty,I 0,I 0]) 1 K=K (I 0):= λ{K}=>_root_.id rfl
 rw[Bk rfl rfl hp0,ck,e0,e1,e2,A3s]
 exact hK _ _ (λb=>⟨false,λK=>by kernel_rfl⟩)
end
end
section
variable {L n:Nat}
def OW:List UInt8:=[112,114,111,99,101,100,117,114,101,32]
def A0R:List UInt8:=[103,105,118,101,110,32]
def C1l:List UInt8:=[111,117,116,112,117,116,32]
def ZN (k:Nat):List UInt8:=A0R++Jv k++[10]
def lnT (t:List UInt8):List UInt8:=t++[10]
def A0N (id:Nat) (ks:List Nat) (ts:List (List UInt8)) (o:Nat):List UInt8:=OW++dg id++[10]++ks.flatMap ZN++ts.flatMap lnT++C1l++Jv o++[10]
theorem EU (k:Nat):(Jv k).length<60:=by
 by_cases h:k<52
 ·have:=Hv.1 (show((List.range 52).all λk=>decide ((Jv k).length<60))=true by kernel_rfl) k (IL.2 h)
  simpa using this
 ·have:Jv k=[]:=by
   unfold Jv
   rw[Th,l1e (Nat.le_of_not_lt h)];rfl
  rw[this];decide
theorem A8R (k:Nat):(dg k).length≤3:=by
 unfold dg
 split
 ·simp
 ·split<;>simp
theorem B3Z (ks:List Nat):(ks.flatMap ZN).length≤67*ks.length:=by
 induction ks with
 |nil=>simp
 |cons k ks ih=>
  have:=EU k
  simp only[l00,FK,Lf,ZN,A0R,Od] at ih⊢
  omega
theorem B3H {ts:List (List UInt8)} (h:∀t∈ts,t.length<100):(ts.flatMap lnT).length≤100*ts.length:=by
 induction ts with
 |nil=>simp
 |cons t ts ih=>
  have h1:=h t (by simp)
  have h2:=ih λu hu=>h u (by simp[hu])
  simp only[l00,FK,Lf,lnT,Od] at h2⊢
  omega
theorem ZP {α:Type} {f:α→List UInt8} (l:List α) {i:Nat} (h:i<l.length):(l.take (i+1)).flatMap f=(l.take i).flatMap f++f l[i]:=by
 rw[l04 h,l2g];simp
section
variable {K:KV} {x:Al} {ks:List Nat} {ts:List (List UInt8)} {xs:List Nd} {id:Int} {o:UD} {s0:List UInt8}
theorem C0N {k49:AV→AV→AV→Hp→Al} {p:Nat} {H:Hp} (hk:∀k∈ks,k<52) (hb:ks.length<100) (h0:s0.length<1000) (hp:Au H p=some (GL id (BC ks) (BR xs) o))
 (hx:k49 (.ptr p 0 0) (S (s0++ks.flatMap ZN)) (I ks.length) H=x):
 ∀(f i:Nat) (w:AV),i≤ks.length→ks.length-i<f→Ln (L+20) (rt (L+20) (n+40)) K k49 f (.ptr p 0 0) (S (s0++(ks.take i).flatMap ZN)) (I i) w H=x:=by
 intro f
 induction f with
 |zero=>intro i w _ h;omega
 |succ f ih=>
  intro i w hi hf
  rw[Xw]
  unfold ON Ar
  have f0:∀{s j:Nat} {K:AV→Al},AL j (.ptr s 0 0) K=K (.ptr s j 0):= λ{s j K}=>by rw[fA,K1]
  have l1:∀{K},Aq Am (.ptr p 1 0) H K=K (BC ks):= λ{K}=>AQ (p:=1) rfl hp (show 1<23 by decide)
  rw[f0,l1,NJ]
  by_cases h:i<ks.length
  ·have e1:=B3Z (ks.take i)
   have e2:(ks.take i).length≤ks.length:=by simp;omega
   have e3:=EU ks[i]
   rw[Ge (by omega),D3,f0,l1,WU h,WT,Ra _ _ _ (hk _ (Ow h)),CY,CX,Bl (by simp only[FK,Lf,Od];omega),Bl (by simp only[FK,Lf,Od];omega),Bl (by simp only[FK,Lf,Od];omega),DS (by omega)]
   have e4:s0++(ks.take i).flatMap ZN++[103,105,118,101,110,32]++Jv ks[i]++[10]=s0++(ks.take (i+1)).flatMap ZN:=by
    rw[ZP ks h];simp[ZN,A0R]
   rw[e4]
   exact ih (i+1) _ (by omega) (by omega)
  ·rw[Gf (by omega),B9]
   have:i=ks.length:=by omega
   subst this
   rw[l06]
   exact hx
theorem C0O {k28:AV→AV→Hp→Al} {p:Nat} {H:Hp} {u:AV} (hl:∀i (h:i<xs.length),PS (rt (L+20) (n+41)) Hl [.agg xs[i].cs] (S (ts.getD i []))) (ht:∀t∈ts,t.length<100) (hlen:ts.length=xs.length) (hb:xs.length<100) (h0:s0.length<10000) (hp:Au H p=some (GL id (BC ks) (BR xs) o))
 (hx:k28 (.ptr p 0 0) (S (s0++ts.flatMap lnT)) H=x):
 ∀(f i:Nat),i≤xs.length→xs.length-i<f→Lo (L+20) (rt (L+20) (n+41)) K k28 f (.ptr p 0 0) (S (s0++(ts.take i).flatMap lnT)) u (I i) H=x:=by
 intro f
 induction f with
 |zero=>intro i _ h;omega
 |succ f ih=>
  intro i hi hf
  rw[Xx]
  unfold OO Ar
  have f0:∀{s j:Nat} {K:AV→Al},AL j (.ptr s 0 0) K=K (.ptr s j 0):= λ{s j K}=>by rw[fA,K1]
  have l2:∀{K},Aq Ax (.ptr p 2 0) H K=K (BR xs):= λ{K}=>AQ (p:=2) rfl hp (show 2<23 by decide)
  rw[f0,l2,R6]
  by_cases h:i<xs.length
  ·have hi':i<ts.length:=by omega
   have e0:ts.getD i []=ts[i]:=by simp[List.getD,Ka hi']
   have e1:=B3H (ts:=ts.take i) λt hm=>ht t (l24 hm)
   have e2:(ts.take i).length≤ts.length:=by simp;omega
   have e3:=ht ts[i] (Ow hi')
   have hl':=hl i h
   rw[e0] at hl'
   rw[Ge (by omega),D3,f0,l2,ZS h,ZR,hl',Bl (by simp only[FK,Lf,Od];omega),Bl (by simp only[FK,Lf,Od];omega),DS (by omega)]
   have e4:s0++(ts.take i).flatMap lnT++ts[i]++[10]=s0++(ts.take (i+1)).flatMap lnT:=by
    rw[ZP ts hi'];simp[lnT]
   rw[e4]
   exact ih (i+1) (by omega) (by omega)
  ·rw[Gf (by omega),B9]
   have:i=ts.length:=by omega
   subst this
   rw[l06]
   exact hx
theorem B34 {i ko:Nat} (hL:100<L) (hid:i<950) (hV:CS (rt (L+20) (n+44)) Ei [.agg (Bs i (BC ks) (BR xs) (uu ko))] (Bo true)) (hl:∀i (h:i<xs.length),PS (rt (L+20) (n+44)) Hl [.agg xs[i].cs] (S (ts.getD i []))) (ht:∀t∈ts,t.length<100) (hlen:ts.length=xs.length)
 (hk:∀k∈ks,k<52) (hb:ks.length≤6) (hn':xs.length≤40) (ho:ko<52):
 CS (rt (L+20) (n+45)) HG [.agg (Bs i (BC ks) (BR xs) (uu ko))] (.tup [S (A0N i ks ts ko),I 0]):=by
 intro K hK
 rw[Zd]
 unfold Qv Ar
 rw[Fa (L0 (.inr ⟨_,_,rfl⟩) (.inr ⟨_,_,rfl⟩))]
 have hp0:=Ay (H:=[]) (x:=GL i (BC ks) (BR xs) (uu ko)) (by simp)
 generalize ((A3 [],GL i (BC ks) (BR xs) (uu ko))::([]:Hp))=H0 at hp0
 generalize A3 []=p at hp0
 have f0:∀{s j:Nat} {K:AV→Al},AL j (.ptr s 0 0) K=K (.ptr s j 0):= λ{s j K}=>by rw[fA,K1]
 have l0:∀{K},Aq Ab (.ptr p 0 0) H0 K=K (I i):= λ{K}=>AQ (p:=0) rfl hp0 (show 0<23 by decide)
 have hv:∀{K:AV→Al},Ah (rt (L+20) (n+44)) Ei [.agg (Bs i (BC ks) (BR xs) (uu ko))] H0 K=K (Bo true):= λ{K}=>Be hV (RW (.inr ⟨_,_,rfl⟩) (.inr ⟨_,_,rfl⟩))
 have d1:=A8R i
 rw[Bk rfl rfl hp0,hv,ntT,B9,f0,l0,C5R L (n+34) i hid,Bl (by simp only[FK,Lf,Od];omega),Bl (by simp only[FK,Lf,Od];omega)]
 simp only[Cl]
 have e0:([112,114,111,99,101,100,117,114,101,32]++dg i++[10]:List UInt8)=(OW++dg i++[10])++(ks.take 0).flatMap ZN:=by simp[OW]
 rw[e0]
 have b0:(OW++dg i++[10]).length≤14:=by simp only[FK,Lf,Od,OW];omega
 refine C0N (n:=n+4) hk (by omega) (by omega) hp0 ?_ (L+20) 0 _ (by omega) (by omega)
 have e1:(OW++dg i++[10])++ks.flatMap ZN=((OW++dg i++[10])++ks.flatMap ZN)++(ts.take 0).flatMap lnT:=by simp
 rw[e1]
 have g1:=B3Z ks
 have b1:((OW++dg i++[10])++ks.flatMap ZN).length≤500:=by rw[FK];omega
 refine C0O (n:=n+3) hl ht hlen (by omega) (by omega) hp0 ?_ (L+20) 0 (by omega) (by omega)
 have lo:∀{K},Aq Ag (.ptr p 3 0) H0 K=K (.agg (Cb (uu ko))):= λ{K}=>EZ (p:=3) rfl hp0 (show 23≤23 by decide)
 have g2:=B3H ht
 have g3:=EU ko
 have b2:(((OW++dg i++[10])++ks.flatMap ZN)++ts.flatMap lnT).length≤5000:=by rw[FK];omega
 rw[f0,lo,Ra _ _ _ ho,CY,CX,Bl (by rw[FK];simp only[Lf,Od] at*;omega),Bl (by rw[FK];simp only[Lf,Od] at*;omega),Bl (by rw[FK,FK];simp only[Lf,Od] at*;omega)]
 exact hK _ _ (λb=>⟨false,λK=>by kernel_rfl⟩)
end
end
section
variable {L n:Nat}
section
variable {K:KV} {x:Al} {ks:List Nat} {ts:List (List UInt8)} {xs:List Nd} {id:Int} {o:UD} {s0:List UInt8}
abbrev pks (p:Nat) (id:Int) (ks:List Nat) (xs:List Nd) (o:UD):List (Nat×Row):=[(p,GL id (BC ks) (BR xs) o)]
theorem B03 {r b:Nat} {kp:List (Nat×Row)} {l s:List UInt8} {v:AV} {H:Hp} (h:Bd r kp b l v H) (hb:b<100000000) (hs:s.length<1000) (hx:∀v' H',Bd r kp (b+1000) (l++s) v' H'→K (.tup [I s.length,.v .nilIface]) H'=x):
 (rt (L+20) (n+2)).call Bq [.ptr r 0 0,S s] H K=x:=by
 have:=h.sz
 exact A3Z h.bld (by omega) λv' H' hB hk=>hx v' H' (h.step hB hk (by rw[FK];omega))
theorem Bd.al {r b e:Nat} {kp:List (Nat×Row)} {l:List UInt8} {v:AV} {H:Hp} {zs vs:List AV} (h:Bd r kp b l v H) (hz:vs.length=zs.length):∃H',H'=upd ((A3 H,.cells true e zs)::H) (A3 H) (.cells true e vs)∧Au H' (A3 H)=some (.cells true e vs)∧Bd r kp b l v H':=by
 refine⟨_,rfl,A9 (Ay (H:=H) (x:= .cells true e zs) (by simp)),⟨(h.bld.cons (y:= .cells true e zs)).upd (by have:=h.bld.lt;omega) (λhu=>by have:=h.bld.vlt hu;omega),λp hp=> ?_,h.sz⟩⟩
 obtain⟨p1,p2,p3⟩:=h.ks p hp
 have:=h.bld.wf.lt p1
 exact⟨by rw[Ap (by omega)];exact Bh this p1,p2,p3⟩
theorem B8C {k69:AV→AV→AV→AV→AV→Hp→Al} {p r:Nat} {kp:List (Nat×Row)} (hk:∀k∈ks,k<52) (hb:ks.length<100) {b:Nat} (hb':b<1000000)
 (hx:∀v H,Bd r kp (b+1000*ks.length) (s0++ks.flatMap ZN) v H→k69 (.ptr p 0 0) (.ptr r 0 0) (BC ks) (I ks.length) (I ks.length) H=x):
 ∀(f i:Nat) (v:AV) (H:Hp),i≤ks.length→ks.length-i<f→Bd r kp (b+1000*i) (s0++(ks.take i).flatMap ZN) v H→It (L+20) (rt (L+20) (n+40)) K k69 f (.ptr p 0 0) (.ptr r 0 0) (BC ks) (I ks.length) (I i) AV.dk AV.dk AV.dk H=x:=by
 intro f
 induction f with
 |zero=>intro i v H _ h;omega
 |succ f ih=>
  intro i v H hi hf hB
  rw[T7]
  unfold KD Ar
  by_cases h:i<ks.length
  ·have e3:=EU ks[i]
   rw[Ge (by omega),D3,WU h,WT,Ba (cs:=E9) rfl,B0 (cs:=E9) (vs:=Cb (uu ks[i])) (Ay (by simp)) rfl rfl rfl]
   obtain⟨H1,e1,hu,hB1⟩:=hB.al (e:=Aw) (zs:=E9) (vs:=Cb (uu ks[i])) rfl
   rw[←e1,Bk rfl rfl hu,QQ _ _ _ (hk _ (Ow h)),CY,CX,Bl (by simp only[Lf,Od];omega),Bl (by simp only[FK,Lf,Od];omega)]
   refine B03 (n:=n+38) hB1 (by omega) (by simp only[FK,Lf,Od];omega) λv2 H2 hB2=> ?_
   rw[DS (by omega)]
   have e4:s0++(ks.take i).flatMap ZN++([103,105,118,101,110,32]++Jv ks[i]++[10])=s0++(ks.take (i+1)).flatMap ZN:=by
    rw[ZP ks h];simp[ZN,A0R]
   rw[e4,Xk,←Nat.mul_succ] at hB2
   exact ih (i+1) v2 H2 (by omega) (by omega) hB2
  ·rw[Gf (by omega),B9]
   have:i=ks.length:=by omega
   subst this
   rw[l06] at hB
   exact hx v H hB
theorem B8D {k40:AV→AV→Hp→Al} {p r:Nat} {kp:List (Nat×Row)} {a b' c:AV} (hl:∀i (h:i<xs.length),PS (rt (L+20) (n+41)) Ew [.agg xs[i].cs] (S (ts.getD i []))) (ht:∀t∈ts,t.length<100) (hlen:ts.length=xs.length) (hb:xs.length<100) {b:Nat} (hbb:b<10000000)
 (hx:∀v H,Bd r kp (b+1000*xs.length) (s0++ts.flatMap lnT) v H→k40 (.ptr p 0 0) (.ptr r 0 0) H=x):
 ∀(f i:Nat) (v:AV) (H:Hp),i≤xs.length→xs.length-i<f→Bd r kp (b+1000*i) (s0++(ts.take i).flatMap lnT) v H→Iu (L+20) (rt (L+20) (n+41)) K k40 f (.ptr p 0 0) (.ptr r 0 0) a b' c (BR xs) (I xs.length) (I i) H=x:=by
 intro f
 induction f with
 |zero=>intro i v H _ h;omega
 |succ f ih=>
  intro i v H hi hf hB
  rw[T8]
  unfold KE Ar
  by_cases h:i<xs.length
  ·have hi':i<ts.length:=by omega
   have e0:ts.getD i []=ts[i]:=by simp[List.getD,Ka hi']
   have e3:=ht ts[i] (Ow hi')
   have hl':=hl i h
   rw[e0] at hl'
   rw[Ge (by omega),D3,ZS h,ZR,Ba (cs:=Ju) rfl,B0 (cs:=Ju) (vs:=xs[i].cs) (Ay (by simp)) rfl rfl rfl]
   obtain⟨H1,e1,hu,hB1⟩:=hB.al (e:=AF) (zs:=Ju) (vs:=xs[i].cs) rfl
   rw[←e1,Bk rfl rfl hu,hl',Bl (by simp only[Lf,Od];omega)]
   refine B03 (n:=n+39) hB1 (by omega) (by simp only[FK,Lf,Od];omega) λv2 H2 hB2=> ?_
   rw[DS (by omega)]
   have e4:s0++(ts.take i).flatMap lnT++(ts[i]++[10])=s0++(ts.take (i+1)).flatMap lnT:=by
    rw[ZP ts hi'];simp[lnT]
   rw[e4,Xk,←Nat.mul_succ] at hB2
   exact ih (i+1) v2 H2 (by omega) (by omega) hB2
  ·rw[Gf (by omega),B9]
   have:i=ts.length:=by omega
   subst this
   rw[l06] at hB
   exact hx v H (hlen▸hB)
theorem B2i {i ko:Nat} (hL:100<L) (hid:i<950) (hV:CS (rt (L+20) (n+46)) DY [.agg (Bs i (BC ks) (BR xs) (uu ko))] (Bo true)) (hl:∀i (h:i<xs.length),PS (rt (L+20) (n+46)) Ew [.agg xs[i].cs] (S (ts.getD i []))) (ht:∀t∈ts,t.length<100) (hlen:ts.length=xs.length)
 (hk:∀k∈ks,k<52) (hb:ks.length≤6) (hn':xs.length≤40) (ho:ko<52):
 CS (rt (L+20) (n+47)) ER [.agg (Bs i (BC ks) (BR xs) (uu ko))] (.tup [S (A0N i ks ts ko),I 0]):=by
 intro K hK
 rw[UK]
 unfold L7 Ar
 rw[Fa (L0 (.inr ⟨_,_,rfl⟩) (.inr ⟨_,_,rfl⟩))]
 have hp0:=Ay (H:=[]) (x:=GL i (BC ks) (BR xs) (uu ko)) (by simp)
 have w0:=B3 (x:=GL i (BC ks) (BR xs) (uu ko)) F3
 generalize ((A3 [],GL i (BC ks) (BR xs) (uu ko))::([]:Hp))=H0 at hp0 w0
 generalize A3 []=p at hp0
 have f0:∀{s j:Nat} {K:AV→Al},AL j (.ptr s 0 0) K=K (.ptr s j 0):= λ{s j K}=>by rw[fA,K1]
 have hv:∀{K:AV→Al},Ah (rt (L+20) (n+46)) DY [.agg (Bs i (BC ks) (BR xs) (uu ko))] H0 K=K (Bo true):= λ{K}=>Be hV (RW (.inr ⟨_,_,rfl⟩) (.inr ⟨_,_,rfl⟩))
 have d1:=A8R i
 rw[Bk rfl rfl hp0,hv,ntT,B9,Ba (cs:=[.v (.pointer none),zL]) rfl]
 have hrn:=Ay (H:=H0) (x:= .cells true CP [.v (.pointer none),zL]) (by simp)
 have hclt:=w0.lt hp0
 have hB0:Bd (A3 H0) (pks p i ks xs (uu ko)) 0 [] AM ((A3 H0,.cells true CP [.v (.pointer none),zL])::H0):=
  ⟨⟨⟨_,.inr rfl,.inl hrn⟩,.inl ⟨rfl,rfl,rfl⟩,λ⟨_,_,_,h⟩=>(by cases h),B3 w0⟩,λq hq=>by
   simp only[l2f] at hq
   subst hq
   exact⟨Bh hclt hp0,by simp only;omega,λ⟨_,_,_,h⟩=>(by cases h)⟩,NU _⟩
 generalize ((A3 H0,Row.cells true CP [.v (.pointer none),zL])::H0)=H1 at hB0
 generalize A3 H0=r at hB0
 have crt:∀{b l v H},Bd r (pks p i ks xs (uu ko)) b l v H→Au H p=some (GL i (BC ks) (BR xs) (uu ko)):= λh=>(h.ks (p,_) (l2f.2 rfl)).1
 have l0:∀{K},Aq Ab (.ptr p 0 0) H1 K=K (I i):= λ{K}=>AQ (p:=0) rfl (crt hB0) (show 0<23 by decide)
 rw[f0,l0,C5M L (n+36) i hid,Bl (by simp only[Lf,Od];omega),Bl (by simp only[FK,Lf,Od];omega)]
 refine B03 (n:=n+44) hB0 (by omega) (by simp only[FK,Lf,Od];omega) λv2 H2 hB2=> ?_
 simp only[Cl]
 have l1:∀{K},Aq Am (.ptr p 1 0) H2 K=K (BC ks):= λ{K}=>AQ (p:=1) rfl (crt hB2) (show 1<23 by decide)
 rw[f0,l1,NJ]
 have e0:([]++([112,114,111,99,101,100,117,114,101,32]++dg i++[10]):List UInt8)=(OW++dg i++[10])++(ks.take 0).flatMap ZN:=by simp[OW]
 rw[e0] at hB2
 refine B8C (n:=n+6) hk (by omega) (b:=0+1000) (by omega) (λv3 H3 hB3=> ?_) (L+20) 0 v2 H2 (by omega) (by omega) hB2
 have l2:∀{K},Aq Ax (.ptr p 2 0) H3 K=K (BR xs):= λ{K}=>AQ (p:=2) rfl (crt hB3) (show 2<23 by decide)
 rw[f0,l2,R6]
 have e1:(OW++dg i++[10])++ks.flatMap ZN=((OW++dg i++[10])++ks.flatMap ZN)++(ts.take 0).flatMap lnT:=by simp
 rw[e1] at hB3
 refine B8D (n:=n+5) hl ht hlen (by omega) (b:=0+1000+1000*ks.length) (by omega) (λv4 H4 hB4=> ?_) (L+20) 0 v3 H3 (by omega) (by omega) hB3
 have lo:∀{K},Aq Ag (.ptr p 3 0) H4 K=K (.agg (Cb (uu ko))):= λ{K}=>EZ (p:=3) rfl (crt hB4) (show 23≤23 by decide)
 have g3:=EU ko
 rw[f0,lo,QQ _ _ _ ho,CY,CX,Bl (by simp only[Lf,Od];omega),Bl (by simp only[FK,Lf,Od];omega)]
 refine B03 (n:=n+44) hB4 (by omega) (by simp only[FK,Lf,Od];omega) λv5 H5 hB5=> ?_
 have e2:((OW++dg i++[10])++ks.flatMap ZN)++ts.flatMap lnT++([111,117,116,112,117,116,32]++Jv ko++[10])=A0N i ks ts ko:=by simp[A0N,C1l]
 rw[e2] at hB5
 have z1:=hB5.sz
 obtain⟨H6,hs⟩:=A5r (n:=n+45) hB5.bld (by unfold A0N;rw[FK];simp only[Lf,Od];omega) (by omega)
 rw[hs]
 exact hK _ _ (λb=>⟨false,λK=>by kernel_rfl⟩)
end
end
end Go.Abs
end
