import Derived.Test.YtlbhdmbfdcohhaaGreatDoorP18
import Derived.Test.YtlbhdmbfdcohhaaGreatDoorP23
import Derived.Test.YtlbhdmbfdcohhaaGreatDoorP28
import Derived.Test.YtlbhdmbfdcohhaaGreatDoorP29
import Derived.Test.YtlbhdmbfdcohhaaGreatDoorP30
set_option linter.all false
set_option maxHeartbeats 100000000
noncomputable section
namespace Go.Abs
open Go.RowKit Go.Proofs
set_option maxRecDepth 100000
section
def exN (j:Nat):Nd:=
 if j<3 then Uj j
 else if j<39 then⟨(3+(j-3)/9:Nat),[],[],u0,0,((j-3)/3%3:Nat),((j-3)%3:Nat)⟩
 else⟨7,[],[],u0,X4 ((j-39)%5),((j-39)/5:Nat),0⟩
def EK:List (List UInt8):=[[],[99,111,110,115,116],[105,110,112,117,116],[97,100,100],[115,117,98],[109,117,108],[100,105,118],[112,111,119],[115,113,114,116]]
def exT (j:Nat):List UInt8:=
 if j<3 then EK.getD 2 []++[32]++dec j
 else if j<39 then EK.getD (3+(j-3)/9) []++[32]++dec ((j-3)/3%3:Nat)++[32]++dec ((j-3)%3:Nat)
 else EK.getD 7 []++[32]++dec ((j-39)/5:Nat)++[32]++dec (X4 ((j-39)%5))
variable (L n:Nat)
theorem B2z:((List.range 54).all λi=>Hg (AU (Cu (rt (L+20) (n+41)) GH [.agg (exN i).cs]) (S (exT i))))=true:=by kernel_rfl
end
section
def frL:List (List UInt8×List UInt8):=[([45,54],[49]),
 ([45,51],[49]),
 ([45,50],[49]),
 ([45,51],[50]),
 ([45,53],[49]),
 ([45,53],[50]),
 ([45,53],[51]),
 ([45,53],[52]),
 ([45,52],[49]),
 ([45,52],[51]),
 ([45,49],[49]),
 ([45,51],[52]),
 ([45,50],[51]),
 ([45,49],[50]),
 ([45,49],[51]),
 ([45,49],[52]),
 ([48],[49]),
 ([49],[49]),
 ([49],[50]),
 ([49],[51]),
 ([49],[52]),
 ([50],[49]),
 ([50],[51]),
 ([51],[49]),
 ([51],[50]),
 ([51],[52]),
 ([52],[49]),
 ([52],[51]),
 ([53],[49]),
 ([53],[50]),
 ([53],[51]),
 ([53],[52]),
 ([54],[49])]
def frn (i:Nat):List UInt8:=(frL.getD i ([],[])).1
def frd (i:Nat):List UInt8:=(frL.getD i ([],[])).2
abbrev Vi (i:Nat):List AV:=[S (frn i),S (frd i)]
def frt (i:Nat):List UInt8:=if frd i=[49] then frn i else frn i++[47]++frd i
def C3V:List (List Nat):=[[0,1,2,3],[4,5,6,7],[8,2,9,10],[1,3,10,11],[2,10,12,13],[10,13,14,15],[16,16,16,16],[17,18,19,20],[21,17,22,18],[23,24,17,25],[26,21,27,17],[28,29,30,31],[32,23,21,24]]
def X0 (a b:Nat):Nat:=(C3V.getD a []).getD b 0
variable (L n:Nat)
theorem B2E:((List.range 13).all λk=>(λi=>Hg (AU (Cu (rt (L+20) (n+40)) E4 [I (((i/4:Nat):Int)-6),I (1+((i%4:Nat):Int))]) (.tup [.agg (Vi (X0 (i/4) (i%4))),I 0]))) (k+0))=true:=by kernel_rfl
theorem B2D:((List.range 13).all λk=>(λi=>Hg (AU (Cu (rt (L+20) (n+40)) E4 [I (((i/4:Nat):Int)-6),I (1+((i%4:Nat):Int))]) (.tup [.agg (Vi (X0 (i/4) (i%4))),I 0]))) (k+13))=true:=by kernel_rfl
theorem B2C:((List.range 13).all λk=>(λi=>Hg (AU (Cu (rt (L+20) (n+40)) E4 [I (((i/4:Nat):Int)-6),I (1+((i%4:Nat):Int))]) (.tup [.agg (Vi (X0 (i/4) (i%4))),I 0]))) (k+26))=true:=by kernel_rfl
theorem B2B:((List.range 13).all λk=>(λi=>Hg (AU (Cu (rt (L+20) (n+40)) E4 [I (((i/4:Nat):Int)-6),I (1+((i%4:Nat):Int))]) (.tup [.agg (Vi (X0 (i/4) (i%4))),I 0]))) (k+39))=true:=by kernel_rfl
theorem C0n (i:Nat) (h:i<52):PS (rt (L+20) (n+40)) E4 [I (((i/4:Nat):Int)-6),I (1+((i%4:Nat):Int))] (.tup [.agg (Vi (X0 (i/4) (i%4))),I 0]):=by
 refine Bt (λH=>by first|exact λK=>by kernel_rfl) ?_
 by_cases h0:i<13
 ·have:=GW.1 (B2E L n) (i-0) (Iw.2 (by omega))
  have e:i-0+0=i:=by omega
  simp only[e] at this
  exact this
 by_cases h1:i<26
 ·have:=GW.1 (B2D L n) (i-13) (Iw.2 (by omega))
  have e:i-13+13=i:=by omega
  simp only[e] at this
  exact this
 by_cases h2:i<39
 ·have:=GW.1 (B2C L n) (i-26) (Iw.2 (by omega))
  have e:i-26+26=i:=by omega
  simp only[e] at this
  exact this
 by_cases h3:i<52
 ·have:=GW.1 (B2B L n) (i-39) (Iw.2 (by omega))
  have e:i-39+39=i:=by omega
  simp only[e] at this
  exact this
 ·omega
theorem A56:((List.range 11).all λk=>(λi=>Hg (AU (Cu (rt (L+20) (n+40)) Cs [.agg (Vi i)]) (Bo true))) (k+0))=true:=by kernel_rfl
theorem A55:((List.range 11).all λk=>(λi=>Hg (AU (Cu (rt (L+20) (n+40)) Cs [.agg (Vi i)]) (Bo true))) (k+11))=true:=by kernel_rfl
theorem A54:((List.range 11).all λk=>(λi=>Hg (AU (Cu (rt (L+20) (n+40)) Cs [.agg (Vi i)]) (Bo true))) (k+22))=true:=by kernel_rfl
theorem B08 (i:Nat) (h:i<33):PS (rt (L+20) (n+40)) Cs [.agg (Vi i)] (Bo true):=by
 refine Bt (λH=>by first|exact λK=>by kernel_rfl) ?_
 by_cases h0:i<11
 ·have:=GW.1 (A56 L n) (i-0) (Iw.2 (by omega))
  have e:i-0+0=i:=by omega
  simp only[e] at this
  exact this
 by_cases h1:i<22
 ·have:=GW.1 (A55 L n) (i-11) (Iw.2 (by omega))
  have e:i-11+11=i:=by omega
  simp only[e] at this
  exact this
 by_cases h2:i<33
 ·have:=GW.1 (A54 L n) (i-22) (Iw.2 (by omega))
  have e:i-22+22=i:=by omega
  simp only[e] at this
  exact this
 ·omega
theorem A59:((List.range 11).all λk=>(λi=>Hg (AU (Cu (rt (L+20) (n+40)) Ix [.agg (Vi i)]) (S (frt i)))) (k+0))=true:=by kernel_rfl
theorem A58:((List.range 11).all λk=>(λi=>Hg (AU (Cu (rt (L+20) (n+40)) Ix [.agg (Vi i)]) (S (frt i)))) (k+11))=true:=by kernel_rfl
theorem A57:((List.range 11).all λk=>(λi=>Hg (AU (Cu (rt (L+20) (n+40)) Ix [.agg (Vi i)]) (S (frt i)))) (k+22))=true:=by kernel_rfl
theorem B09 (i:Nat) (h:i<33):PS (rt (L+20) (n+40)) Ix [.agg (Vi i)] (S (frt i)):=by
 refine Bt (λH=>by first|exact λK=>by kernel_rfl) ?_
 by_cases h0:i<11
 ·have:=GW.1 (A59 L n) (i-0) (Iw.2 (by omega))
  have e:i-0+0=i:=by omega
  simp only[e] at this
  exact this
 by_cases h1:i<22
 ·have:=GW.1 (A58 L n) (i-11) (Iw.2 (by omega))
  have e:i-11+11=i:=by omega
  simp only[e] at this
  exact this
 by_cases h2:i<33
 ·have:=GW.1 (A57 L n) (i-22) (Iw.2 (by omega))
  have e:i-22+22=i:=by omega
  simp only[e] at this
  exact this
 ·omega
end
section
variable (L n:Nat)
theorem B1F:((List.range 54).all λi=>Hg (AU (Cu (rt (L+20) (n+41)) Ec [.agg (exN i).cs]) (S (exT i))))=true:=by kernel_rfl
def cnN (i k:Nat):Nd:=⟨1,frn i,frd i,uu k,0,0,0⟩
def cnT (i k:Nat):List UInt8:=EK.getD 1 []++[32]++frt i++[32]++IQ k
end
end Go.Abs
end
noncomputable section
end
noncomputable section
namespace Go.Abs
open Go.RowKit Go.Proofs
set_option maxRecDepth 100000
section
variable {L n:Nat}
def RV (R:Rt) (f:Nat) (args:List AV) (v:AV):Prop:=∀b,(R.call f args [] λv H'=>I8 b H' depth v λ_ v'=>some (v',[]))=some (v,[])
theorem Zm {R:Rt} {f:Nat} {args args':List AV} {v:AV} {H:Hp} {q:Bool} {K:AV→Am} (hc:RV R f args' v) (ha:Py true depth args args' H q):Ah R f args H K=K v:=by
 unfold Ah
 rw[ha]
 show Ai (R.call f args' [] _) K=K v
 rw[hc (!q)];rfl
theorem CS.rv {R:Rt} {f:Nat} {args:List AV} {v:AV} (h:CS R f args v):RV R f args v:= λb=>h _ λv0 H0 hv=>by
 obtain⟨q,hq⟩:=hv b
 exact hq _
abbrev fnA (f:Nat):AV:= .fn (.func f) [] []
abbrev Vh (w:List UInt8) (F:AV) (g:Nat):AV:= .agg [S w,F,fnA g]
abbrev Ye:AV:= .list 2 [fnA Mo,fnA Wi]
abbrev C0C:AV:= .list 2 [fnA Mo,fnA OM]
abbrev C0L:AV:= .list 1 [fnA OM]
abbrev Tj:AV:= .imap [(.int .i64 1,Vh (EK.getD 1 []) AP CF),(.int .i64 2,Vh (EK.getD 2 []) C0L Ef),
 (.int .i64 3,Vh (EK.getD 3 []) Ye D8),(.int .i64 4,Vh (EK.getD 4 []) Ye Cy),
 (.int .i64 5,Vh (EK.getD 5 []) Ye CL),(.int .i64 6,Vh (EK.getD 6 []) Ye CE),
 (.int .i64 7,Vh (EK.getD 7 []) C0C Di),(.int .i64 8,Vh (EK.getD 8 []) (.list 1 [fnA Mo]) ON)]
theorem B7e:PS (rt (L+20) (n+1)) E5 [] Tj:=Bt (λH K=>by kernel_rfl) (by kernel_rfl)
abbrev SK (I U:AV):AV:= .iptr [Tj,I,U]
variable {I1:AV} {a b c i k:Nat}
end
section
variable {L n:Nat}
section
variable {H:Hp} {c:Nat} {v I1 F:AV} {l:List Nat} {y:Nd} {w:List UInt8} {g k:Nat}
abbrev Sy (I1 v:AV):Row:= .cells true Nz [Tj,I1,v]
theorem C1a (hc:Aw H c=some (Sy I1 v)) (hs:B3 H Av 20 v l.length (l.flatMap FE)) (h0:l=[]→v=AP) (hI:Sl I1):Fx true depth (.ptr c 0 0) (SK I1 (Oa l)) H true:=by
 obtain⟨q,hq⟩:=Xz (D:=depth-2) (b:=true) hs h0
 have a1:Fx true (depth-1) Tj Tj H false:= λK=>_root_.id rfl
 have a2:Fx true (depth-1) I1 I1 H false:=by rcases hI with rfl|⟨_,_,rfl⟩<;>exact λK=>_root_.id rfl
 have a3:Py true (depth-1) [Tj,I1,v] [Tj,I1,Oa l] H (false||(false||(q||false))):=Ay a1 (Ay a2 (Ay hq Bl))
 intro K
 show Lf H c (λx=>L2 x λ_ cs=>Hf (I8 true H (depth-1)) (Da (Nat.add 0 0) cs) λ_ c'=>K true (.iptr c'))=_
 rw[C6 hc]
 show Hf (I8 true H (depth-1)) (Da 0 [Tj,I1,v]) (λ_ c'=>K true (.iptr c'))=_
 rw[Ct,l1n,a3]
theorem A8t {f m:Nat} {args:List AV} {H:Hp} {K:KV} (hn:(E (L+20)).ne f=false) (hi:(E (L+20)).imp f=false):Em (E (L+20)) (rt (L+20) m) (fnA f) args H K=Ah (rt (L+20) m) f args H λv=>K v H:=by
 show Wd args [] (λas'=>Wd [] as' λall=>B6M ((E (L+20)).ne f) all H K (@Bool.rec (λ_=>Am) (Ah (rt (L+20) m) f all H λv=>K v H) ((rt (L+20) m).call f all H K) ((E (L+20)).imp f)))=_
 rw[MW,MW,hn,hi,l1o,List.nil_append]
 rfl
theorem B2V {v:AV} {H:Hp} {K:Am} (h:YS v v=true):QG (AU (some (v,H)) v) K=K:=by
 show QG (some (.v (.bool (YS v v)),[])) K=K
 rw[h];rfl
theorem A4P {H:Hp} {e z n:Nat} {v:AV} {cs:List AV} (h:B3 H e z v n cs):YS v v=true:=by
 rcases h with⟨rfl,_⟩|⟨r,q,rfl,_⟩
 ·rfl
 ·show(Nat.beq z z&&(Nat.beq r r&&(Nat.beq 0 0&&Nat.beq n n)))=true
  simp
theorem B3W {K:AV→Am} {t:TI}:Go.Abs.Aj t .eql (I 0) (.v (.int .i64 0)) K=K (Bo true):=by rw[CG,decide_eq_true rfl]
theorem C2g (hc:Aw H c=some (Sy I1 v)) (hs:B3 H Av 20 v l.length (l.flatMap FE)) (h0:l=[]→v=AP) (hr:¬Bh v c) (wf:Wf H) (hb:l.length<100) (hI:Sl I1) (hF:Sl F)
 (hk:∀H K,(A5y .i64 (I y.op) λq=>Zg Bb true Tj q H K)=K (.tup [Vh w F g,Bo true]))
 (ha:YS (.tup [Vh w F g,Bo true]) (.tup [Vh w F g,Bo true])=true)
 (hn:(E (L+20)).ne g=false) (hi:(E (L+20)).imp g=false)
 (hh:RV (rt (L+20) (n+41)) B2 [SK I1 (Oa l),Vh w F g,.agg y.cs] (Bo true))
 (hu:RV (rt (L+20) (n+41)) g [SK I1 (Oa l),.agg y.cs] (.tup [.agg (BW (uu k)),I 0])):
 ∃v' H',(∀K,(rt (L+20) (n+42)).call Gt [.ptr c 0 0,.agg y.cs] H K=K (Bo true) H')∧Aw H' c=some (Sy I1 v')∧B3 H' Av 20 v' (l++[k]).length ((l++[k]).flatMap FE)∧¬Bh v' c∧Wf H'∧A7 H≤A7 H'∧(∀s x,Aw H s=some x→s≠c→¬Bh v s→Aw H' s=some x)∧(∀s,Bh v' s→A7 H≤s):=by
 have hy1:=A0 (H:=H) (x:=SC y) (by simp)
 have hc1:=Bn (x:=SC y) (wf.lt hc) hc
 have w1:=BP (x:=SC y) wf
 have hs1:B3 ((A7 H,SC y)::H) Av 20 v l.length (l.flatMap FE):=hs.lat wf (Lat.cons H _ (λ_=>False)) (λ_ _ h=>h)
 have kp1:∀s x,Aw H s=some x→Aw ((A7 H,SC y)::H) s=some x:= λs x h=>Bn (wf.lt h) h
 have n1:A7 H≤A7 ((A7 H,SC y)::H):=l1p _
 have hr1:∀s,Bh v s→s<A7 H:= λs hu=>by
  rcases hs with⟨rfl,_⟩|⟨r,q,rfl,h2,_⟩
  ·obtain⟨_,_,_,h⟩:=hu;cases h
  ·obtain⟨_,_,_,h⟩:=hu;cases h;exact wf.lt h2
 have ey:∀K:KV,Dg AF (.agg y.cs) H K=K (.ptr (A7 H) 0 0) ((A7 H,SC y)::H):= λK=>EG A7n
 have yl:=wf.lt hc
 generalize hH1:((A7 H,SC y)::H)=H1 at hy1 hc1 w1 hs1 kp1 n1 ey
 generalize hr0:A7 H=r at hy1 ey yl n1 hr1
 obtain⟨H2,e2,hop,w2,k2⟩:=DZ (e:=BO) (zs:=[zS,zL,.v .nilFunc]) (vs:=[S w,F,fnA g]) w1 rfl
 have ho1:=A0 (H:=H1) (x:= .cells true BO [zS,zL,.v .nilFunc]) (by simp)
 have hc1':=Bn (x:= .cells true BO [zS,zL,.v .nilFunc]) (w1.lt hc1) hc1
 have hy1':=Bn (x:= .cells true BO [zS,zL,.v .nilFunc]) (w1.lt hy1) hy1
 obtain⟨hc2,nc2⟩:=k2 _ _ hc1
 obtain⟨hy2,ny2⟩:=k2 _ _ hy1
 have hs2:B3 H2 Av 20 v l.length (l.flatMap FE):=by
  rcases hs1 with h|⟨r,q,h1,h2,h3⟩
  ·exact .inl h
  ·exact .inr ⟨r,q,h1,(k2 _ _ h2).1,h3⟩
 have n2:A7 H1≤A7 H2:=by rw[e2,Ee];exact l1p _
 obtain⟨H3,e3,hu3,w3,k3⟩:=DZ (e:=Av) (zs:=En) (vs:=BW (uu k)) w2 rfl
 obtain⟨hc3,nc3⟩:=k3 _ _ hc2
 have hs3:B3 H3 Av 20 v l.length (l.flatMap FE):=by
  rcases hs2 with h|⟨r,q,h1,h2,h3⟩
  ·exact .inl h
  ·exact .inr ⟨r,q,h1,(k3 _ _ h2).1,h3⟩
 have n3:A7 H2≤A7 H3:=by rw[e3,Ee];exact l1p _
 obtain⟨v',H4,e4,hs4,w4,n4,k4,nw4⟩:=C4l k hs3 w3 hb
 have hc4:=k4 _ _ hc3 hr
 have hcv:¬Bh v' c:= λhu=>by have:=nw4 c hu;have:=w3.lt hc3;omega
 have hone:B7 v'=[v']∧AV.one v'=true:=by
  rcases hs4 with⟨rfl,_⟩|⟨a,b,rfl,_⟩<;>exact⟨rfl,rfl⟩
 refine⟨v',upd H4 c (Sy I1 v'),λK=> ?_,A8 hc4,hs4.lat w4 (Lat.upd H4 c _ (P:= λu=>u=c) rfl) (λu hu e=>hcv (e▸hu)),hcv,C7 w4,by rw[Ee];omega,λs x h h1 h2=> ?_,λs hu=>by have:=nw4 s hu;omega⟩
 ·rw[NI]
  unfold Gr Bu Aq DW Cz
  rw[ey]
  have f0:∀{s j:Nat} {K:AV→Am},AH j (.ptr s 0 0) K=K (.ptr s j 0):= λ{s j K}=>by rw[fA,Le]
  have lk1:∀{K},Ap C9 (.ptr c 0 0) H1 K=K Tj:= λ{K}=>AW (p:=0) rfl hc1 (show 0<3 by decide)
  have ly1:∀{K},Ap Ab (.ptr r 0 0) H1 K=K (I y.op):= λ{K}=>AW (p:=0) rfl hy1 (show 0<26 by decide)
  have lk1':∀{K},Ap C9 (.ptr c 0 0) ((A7 H1,.cells true BO [zS,zL,.v .nilFunc])::H1) K=K Tj:= λ{K}=>AW (p:=0) rfl hc1' (show 0<3 by decide)
  have ly1':∀{K},Ap Ab (.ptr r 0 0) ((A7 H1,.cells true BO [zS,zL,.v .nilFunc])::H1) K=K (I y.op):= λ{K}=>AW (p:=0) rfl hy1' (show 0<26 by decide)
  have al:∀{K:KV},AI BO Bb H1 K=K (.ptr (A7 H1) 0 0) ((A7 H1,.cells true BO [zS,zL,.v .nilFunc])::H1):= λ{K}=>Ba rfl
  have st:∀{K:Hp→Am},Cb Bb (.ptr (A7 H1) 0 0) (Vh w F g) ((A7 H1,.cells true BO [zS,zL,.v .nilFunc])::H1) K=K H2:= λ{K}=>by
   rw[e2];exact B0 (vs:=[S w,F,fnA g]) ho1 rfl rfl (by rcases hF with rfl|⟨_,_,rfl⟩<;>rfl)
  have o1:∀{K:Am} {H:Hp},QG (AU (some (Tj,H)) Tj) K=K:= λ{K H}=>by kernel_rfl
  have o2:∀{K:Am} {H:Hp} {z:Int},QG (AU (some (I z,H)) (I z)) K=K:= λ{K H z}=>QF (by rfl)
  have o3:∀{K:Am} {H:Hp},QG (AU (some (.tup [Vh w F g,Bo true],H)) (.tup [Vh w F g,Bo true])) K=K:= λ{K H}=>by
   show QG (some (.v (.bool (YS _ _)),[])) K=K
   rw[ha];rfl
  simp only[GA,BK,f0,lk1,ly1,hk,CJ,CI,al,BN,st,lk1',ly1',o1,o2,o3,Xj]
  have lo2:∀{K},Ap Bb (.ptr (A7 H1) 0 0) H2 K=K (Vh w F g):= λ{K}=>Bf rfl rfl hop
  have ly2:∀{K},Ap AE (.ptr r 0 0) H2 K=K (.agg y.cs):= λ{K}=>Bf rfl rfl hy2
  have lf2:∀{K},Ap Aa (.ptr (A7 H1) 2 0) H2 K=K (fnA g):= λ{K}=>AW (p:=2) rfl hop (show 2<3 by decide)
  have a1:=C1a hc2 hs2 h0 hI
  have a2:Fx true depth (Vh w F g) (Vh w F g) H2 false:=by rcases hF with rfl|⟨_,_,rfl⟩<;>exact λK=>by kernel_rfl
  have a3:Fx true depth (.agg y.cs) (.agg y.cs) H2 false:= λK=>by kernel_rfl
  have hhas:∀{K:AV→Am},Ah (rt (L+20) (n+41)) B2 [.ptr c 0 0,Vh w F g,.agg y.cs] H2 K=K (Bo true):= λ{K}=>Zm hh (Ay a1 (Ay a2 (Ay a3 Bl)))
  have hun:∀{K:AV→Am},Ah (rt (L+20) (n+41)) g [.ptr c 0 0,.agg y.cs] H2 K=K (.tup [.agg (BW (uu k)),I 0]):= λ{K}=>Zm hu (Ay a1 (Ay a3 Bl))
  simp only[gT,BN,lo2,ly2,hhas,Xj,QC]
  rw[BC,lf2,A8t hn hi,hun,CJ,CI,Ba (cs:=En) rfl,B0 (cs:=En) (vs:=BW (uu k)) (A0 (by simp)) rfl rfl rfl,←e3]
  have lc3:∀{K},Ap Al (.ptr c 2 0) H3 K=K v:= λ{K}=>AW (p:=2) rfl hc3 (show 2<3 by decide)
  have lu3:∀{K},Ap Ag (.ptr (A7 H2) 0 0) H3 K=K (.agg (BW (uu k))):= λ{K}=>Bf rfl rfl hu3
  simp only[GA,BK,f0,lc3,lu3]
  have e5:∀K:KV,Ea Av 20 Ag Al v (.sl 20 (A7 H3) 0 1) ((A7 H3,.cells false Av (FE k))::H3) K=K v' H4:= λK=>by have:=e4 K;rw[B11] at this;exact this
  have lc3':∀{K},Ap Al (.ptr c 2 0) ((A7 H3,.cells false Av (FE k))::H3) K=K v:= λ{K}=>AW (p:=2) rfl (Bn (w3.lt hc3) hc3) (show 2<3 by decide)
  have s5:∀{K:Hp→Am},Cb Al (.ptr c 2 0) v' H4 K=K (upd H4 c (Sy I1 v')):= λ{K}=>E9 hc4 (show 2<3 by decide) rfl hone.1 hone.2
  have o4:∀{K:Am} {H:Hp},QG (AU (some (v,H)) v) K=K:= λ{K H}=>B2V (A4P hs3)
  simp only[B11,BN,e5,s5,lc3',o4,B3W]
 ·have a1:=kp1 s x h
  have a2:=(k2 s x a1).1
  have a3:=(k3 s x a2).1
  rw[As h1]
  exact k4 s x a3 h2
end
end
section
variable {L n:Nat}
abbrev A4M:AV:=fnA EL
theorem B86 {k:Nat} (hk:k<52):PS (rt (L+20) (n+41)) EL [.agg (BW (uu k))] (Bo false):=by
 refine CS.ps (λK hK=> ?_) (λH=> λK=>by kernel_rfl)
 rw[QI]
 unfold I5
 rw[EG rfl,Bf (cs:=BW (uu k)) rfl rfl (A0 (by simp)),SP _ _ _ hk,Xj]
 exact hK _ _ (λb=>⟨false,λK=>by kernel_rfl⟩)
theorem B4Z {k4:Hp→Am} {K:KV} {ks:List Nat} {H:Hp} (hb:ks.length<1000000000) (hk:∀k∈ks,k<52):∀(f i:Nat),i≤ks.length→ks.length-i<f→
 Cq (L+20) (rt (L+20) (n+41)) K k4 f (BA ks) A4M (I ks.length) (I i) H=k4 H:=by
 intro f
 induction f with
 |zero=>intro i _ h;omega
 |succ f ih=>
  intro i hi hf
  rw[HL]
  unfold Dc Aq
  by_cases h:i<ks.length
  ·rw[FR (by omega),Do,Wr h,Wq]
   have ez:∀K,Em (E (L+20)) (rt (L+20) (n+41)) A4M [.agg (BW (uu ks[i]))] H K=Ah (rt (L+20) (n+41)) EL [.agg (BW (uu ks[i]))] H λv=>K v H:= λK=>A8t rfl rfl
   rw[ez,B86 (hk _ (Qu h)),BC,DH (by omega)]
   exact ih (i+1) (by omega) (by omega)
  ·rw[FT (by omega),BC]
theorem A9X {ks:List Nat} (hb:ks.length<1000000000) (hL:ks.length<L) (hk:∀k∈ks,k<52):CS (rt (L+20) (n+43)) Ch [BA ks,A4M] (Bo false):=by
 intro K hK
 rw[Ho]
 unfold CO Aq
 have hi:CS (rt (L+20) (n+42)) Dm [BA ks,A4M] (I (-1)):=by
  intro K hK
  rw[Il]
  unfold Dk Aq
  simp only[Cm]
  have e0:(AV.v (.int .i64 0))=I ((0:Nat):Int):=rfl
  rw[Nh,e0,B4Z hb hk _ 0 (by omega) (by omega)]
  exact hK _ _ (λb=>⟨false,λK=>by kernel_rfl⟩)
 rw[AZ (q:=false) hi (λK=>by kernel_rfl),Lx]
 exact hK _ _ (λb=>⟨false,λK=>by kernel_rfl⟩)
def WNd (L n:Nat) (I1:AV) (l:List Nat) (y:Nd) (k:Nat):Prop:=∃w F g,Sl F∧
 (∀H K,(A5y .i64 (I y.op) λq=>Zg Bb true Tj q H K)=K (.tup [Vh w F g,Bo true]))∧
 YS (.tup [Vh w F g,Bo true]) (.tup [Vh w F g,Bo true])=true∧(E (L+20)).ne g=false∧(E (L+20)).imp g=false∧
 RV (rt (L+20) (n+41)) B2 [SK I1 (Oa l),Vh w F g,.agg y.cs] (Bo true)∧
 RV (rt (L+20) (n+41)) g [SK I1 (Oa l),.agg y.cs] (.tup [.agg (BW (uu k)),I 0])
def WTy (L n:Nat) (ks:List Nat) (xs:List Nd) (ty:List Nat):Prop:=∀i (h:i<xs.length),WNd L n (BA ks) (ty.take i) xs[i] (ty.getD i 0)
section
variable {K:KV} {x:Am} {ks ty:List Nat} {xs:List Nd} {id:Int} {o:UD}
theorem B7Z {k79:AV→AV→Hp→Am} {p c:Nat} (hT:WTy L n ks xs ty) (hlen:ty.length=xs.length) (hb:xs.length<100) (hpc:p≠c)
 (hx:∀v H,B3 H Av 20 v ty.length (ty.flatMap FE)→(ty=[]→v=AP)→Aw H p=some (Gj id (BA ks) (BQ xs) o)→Aw H c=some (Sy (BA ks) v)→k79 (.ptr p 0 0) (.ptr c 0 0) H=x):
 ∀(f i:Nat) (v:AV) (H:Hp),i≤xs.length→xs.length-i<f→B3 H Av 20 v (ty.take i).length ((ty.take i).flatMap FE)→(ty.take i=[]→v=AP)→¬Bh v p→¬Bh v c→Aw H p=some (Gj id (BA ks) (BQ xs) o)→Aw H c=some (Sy (BA ks) v)→Wf H→
 HR (L+20) (rt (L+20) (n+42)) K k79 f (.ptr p 0 0) (.ptr c 0 0) (BQ xs) (I xs.length) (I i) H=x:=by
 intro f
 induction f with
 |zero=>intro i v H _ h;omega
 |succ f ih=>
  intro i v H hi hf hs h0 hr hrc hp hc w
  rw[Te]
  unfold Kj Aq
  by_cases h:i<xs.length
  ·rw[FR (by omega),Do,Zi h,Zh,Ba (cs:=IP) rfl,B0 (cs:=IP) (vs:=xs[i].cs) (A0 (by simp)) rfl rfl rfl]
   obtain⟨H4,e4,hv4,w4,h4⟩:=DZ (e:=AF) (zs:=IP) (vs:=xs[i].cs) w rfl
   rw[←e4,Bf rfl rfl hv4]
   have hp4:=(h4 _ _ hp).1
   have hc4:=(h4 _ _ hc).1
   have hs4:B3 H4 Av 20 v (ty.take i).length ((ty.take i).flatMap FE):=by
    rcases hs with hs|⟨r,q,h1,h2,h3⟩
    ·exact .inl hs
    ·exact .inr ⟨r,q,h1,(h4 _ _ h2).1,h3⟩
   obtain⟨wd,F,g,hF,hk,ha,hn,hi',hh,hu⟩:=hT i h
   obtain⟨v',H5,e5,hc5,hs5,hr5,w5,n5,k5,nw5⟩:=C2g (n:=n) hc4 hs4 h0 hrc w4 (by rw[l0g];omega) (.inr ⟨_,_,rfl⟩) hF hk ha hn hi' hh hu
   have ht:ty.take i++[ty.getD i 0]=ty.take (i+1):=by
    have hl:i<ty.length:=by omega
    rw[l04 hl];simp[List.getD,Jw hl]
   rw[e5,Xj,BC,DH (by omega)]
   rw[ht] at hs5
   exact ih (i+1) v' H5 (by omega) (by omega) hs5 (λe=>by rw[←ht] at e;simp at e) (λhr'=>by have:=nw5 _ hr';have:=w4.lt hp4;omega) hr5 (k5 _ _ hp4 hpc hr) hc5 w5
  ·rw[FT (by omega),BC]
   have:i=xs.length:=by omega
   subst this
   rw[←hlen,l06] at hs h0
   exact hx v H hs h0 hp hc
set_option maxHeartbeats 1000000 in
theorem B4X (hL:100<L) (hT:WTy L (n+2) ks xs ty) (ho:o=uu (ty.getD (xs.length-1) 0)) (hlen:ty.length=xs.length) (hk:∀k∈ks,k<52) (hb:ks.length≤6) (hn:1≤xs.length) (hn':xs.length≤40) (h1:1≤id) (h2:id≤1000000):
 CS (rt (L+20) (n+45)) II [.agg (Br id (BA ks) (BQ xs) o)] (.tup [Oa ty,I 0,I 0]):=by
 intro K hK
 rw[Uf]
 unfold KY Bu Aq DW
 rw[EG (KO (.inr ⟨_,_,rfl⟩) (.inr ⟨_,_,rfl⟩))]
 have hp0:=A0 (H:=[]) (x:=Gj id (BA ks) (BQ xs) o) (by simp)
 have w0:=BP (x:=Gj id (BA ks) (BQ xs) o) Fw
 generalize ((A7 [],Gj id (BA ks) (BQ xs) o)::([]:Hp))=H0 at hp0 w0
 generalize A7 []=p at hp0
 have f0:∀{s j:Nat} {K:AV→Am},AH j (.ptr s 0 0) K=K (.ptr s j 0):= λ{s j K}=>by rw[fA,Le]
 have l0:∀{K},Ap Ab (.ptr p 0 0) H0 K=K (I id):= λ{K}=>AW (p:=0) rfl hp0 (show 0<23 by decide)
 have l1:∀{K},Ap Al (.ptr p 1 0) H0 K=K (BA ks):= λ{K}=>AW (p:=1) rfl hp0 (show 1<23 by decide)
 have l2:∀{K},Ap Ax (.ptr p 2 0) H0 K=K (BQ xs):= λ{K}=>AW (p:=2) rfl hp0 (show 2<23 by decide)
 have t1:∀{K},Go.Abs.Aj Ab .lss (I id) (.v (.int .i64 1)) K=K (Bo false):= λ{K}=>by rw[Dj,decide_eq_false (by omega)]
 have t2:∀{K},Go.Abs.Aj Ab .gtr (I id) (.v (.int .i64 1000000)) K=K (Bo false):= λ{K}=>by rw[DQ,decide_eq_false (by omega)]
 have t3:∀{K},Go.Abs.Aj Ab .gtr (I (ks.length:Int)) (.v (.int .i64 6)) K=K (Bo false):= λ{K}=>by rw[DQ,decide_eq_false (by omega)]
 have t4:∀{K},Go.Abs.Aj Ab .lss (I (xs.length:Int)) (.v (.int .i64 1)) K=K (Bo false):= λ{K}=>by rw[Dj,decide_eq_false (by omega)]
 have t5:∀{K},Go.Abs.Aj Ab .gtr (I (xs.length:Int)) (.v (.int .i64 40)) K=K (Bo false):= λ{K}=>by rw[DQ,decide_eq_false (by omega)]
 have an:∀{K:AV→Am},Ah (rt (L+20) (n+44)) Ch [BA ks,A4M] H0 K=K (Bo false):= λ{K}=>AZ (q:=false) (A9X (n:=n+1) (by omega) (by omega) hk) (λK=>by kernel_rfl)
 rw[f0,l0,t1]
 simp only[gT,f0,l0,BN,t2,QC,l1,Nh,t3,an,l2,QV,t4,t5]
 rw[BC]
 have bg:∀{K:KV},(rt (L+20) (n+44)).call Lt [BA ks] H0 K=K (.ptr (A7 H0) 0 0) ((A7 H0,Sy (BA ks) AP)::H0):= λ{K}=>by
  rw[Uc]
  unfold KU
  have b2:∀{K:AV→Am},Bg G6 [(0,1,Tj),(1,1,BA ks)] K=K (.agg [Tj,BA ks,AP]):= λ{K}=>_root_.id rfl
  rw[B7e (n:=n+42),b2,EG rfl]
 rw[bg]
 have hc1:=A0 (H:=H0) (x:=Sy (BA ks) AP) (by simp)
 have hp1:=Bn (x:=Sy (BA ks) AP) (w0.lt hp0) hp0
 have w1:=BP (x:=Sy (BA ks) AP) w0
 have hpc:=w0.lt hp0
 generalize ((A7 H0,Sy (BA ks) AP)::H0)=H1 at hc1 hp1 w1
 generalize A7 H0=c at hc1 hpc
 have l2':∀{K},Ap Ax (.ptr p 2 0) H1 K=K (BQ xs):= λ{K}=>AW (p:=2) rfl hp1 (show 2<23 by decide)
 simp only[Cm]
 rw[l2',QV]
 refine B7Z (n:=n+2) hT hlen (by omega) (by omega) ?_ (L+20) 0 _ H1 (by omega) (by omega) (.inl ⟨rfl,rfl,rfl⟩) (λ_=>rfl) (λ⟨_,_,_,h⟩=>by cases h) (λ⟨_,_,_,h⟩=>by cases h) hp1 hc1 w1
 intro v H hs h0 hp hc
 have hlt:ty.length-1<ty.length:=by omega
 obtain⟨a,ha1,ha2⟩:=A8y hs hlt
 have hov:∀{K},Ap Ag (.ptr p 3 0) H K=K (.agg (BW o)):= λ{K}=>EF (p:=3) rfl hp (show 23≤23 by decide)
 have eg:uu ty[ty.length-1]=o:=by rw[ho,←hlen];simp[List.getD,Jw hlt]
 rw[eg] at ha2
 have lc:∀{K},Ap Al (.ptr c 2 0) H K=K v:= λ{K}=>AW (p:=2) rfl hc (show 2<3 by decide)
 have ln:∀{K:AV→Am},AM Al v K=K (I ty.length):= λ{K}=>IJ rfl hs
 simp only[GA,BK,f0,lc,ln,A2q (ty:=Ab) (i:=ty.length) (by omega) (by omega),ha1,ha2,hov,C48]
 rw[BC]
 exact hK _ _ (λb=>by
  obtain⟨q,hq⟩:=Xz (D:=depth-2) (b:=b) hs h0
  exact⟨_,UW (D:=depth-1) (Ay hq (Ay (q:=false) E1 (Ay (q:=false) E1 Bl)))⟩)
theorem B1C (hL:100<L) (hT:WTy L (n+2) ks xs ty) (ho:o=uu (ty.getD (xs.length-1) 0)) (hlen:ty.length=xs.length) (hk:∀k∈ks,k<52) (hb:ks.length≤6) (hn:1≤xs.length) (hn':xs.length≤40) (h1:1≤id) (h2:id≤1000000):
 CS (rt (L+20) (n+46)) DF [.agg (Br id (BA ks) (BQ xs) o)] (Bo true):=by
 intro K hK
 rw[Ud]
 unfold KW Aq
 rw[EG (KO (.inr ⟨_,_,rfl⟩) (.inr ⟨_,_,rfl⟩))]
 have hp0:=A0 (H:=[]) (x:=Gj id (BA ks) (BQ xs) o) (by simp)
 generalize ((A7 [],Gj id (BA ks) (BQ xs) o)::([]:Hp))=H0 at hp0
 have ck:∀{K:AV→Am},Ah (rt (L+20) (n+45)) II [.agg (Br id (BA ks) (BQ xs) o)] H0 K=K (.tup [Oa ty,I 0,I 0]):= λ{K}=>AZ (B4X hL hT ho hlen hk hb hn hn' h1 h2) (Rv (.inr ⟨_,_,rfl⟩) (.inr ⟨_,_,rfl⟩))
 have e2:∀{K:AV→Am},A9 (.tup [Oa ty,I 0,I 0]) 2 K=K (I 0):= λ{K}=>_root_.id rfl
 have e0:∀{K:AV→Am},A9 (.tup [Oa ty,I 0,I 0]) 0 K=K (Oa ty):= λ{K}=>_root_.id rfl
 have e1:∀{K:AV→Am},A9 (.tup [Oa ty,I 0,I 0]) 1 K=K (I 0):= λ{K}=>_root_.id rfl
 rw[Bf rfl rfl hp0,ck,e0,e1,e2,A2N]
 exact hK _ _ (λb=>⟨false,λK=>by kernel_rfl⟩)
end
end
section
variable {L n:Nat}
def Oy:List UInt8:=[112,114,111,99,101,100,117,114,101,32]
def A0d:List UInt8:=[103,105,118,101,110,32]
def C0I:List UInt8:=[111,117,116,112,117,116,32]
def Zd (k:Nat):List UInt8:=A0d++IQ k++[10]
def lnT (t:List UInt8):List UInt8:=t++[10]
def A0a (id:Nat) (ks:List Nat) (ts:List (List UInt8)) (o:Nat):List UInt8:=Oy++dg id++[10]++ks.flatMap Zd++ts.flatMap lnT++C0I++IQ o++[10]
theorem EA (k:Nat):(IQ k).length<60:=by
 by_cases h:k<52
 ·have:=GW.1 (show((List.range 52).all λk=>decide ((IQ k).length<60))=true by kernel_rfl) k (Iw.2 h)
  simpa using this
 ·have:IQ k=[]:=by
   unfold IQ
   rw[Tw,l1e (Nat.le_of_not_lt h)];rfl
  rw[this];decide
theorem A87 (k:Nat):(dg k).length≤3:=by
 unfold dg
 split
 ·simp
 ·split<;>simp
theorem B3h (ks:List Nat):(ks.flatMap Zd).length≤67*ks.length:=by
 induction ks with
 |nil=>simp
 |cons k ks ih=>
  have:=EA k
  simp only[l00,F5,L0,Zd,A0d,N2] at ih⊢
  omega
theorem B32 {ts:List (List UInt8)} (h:∀t∈ts,t.length<100):(ts.flatMap lnT).length≤100*ts.length:=by
 induction ts with
 |nil=>simp
 |cons t ts ih=>
  have h1:=h t (by simp)
  have h2:=ih λu hu=>h u (by simp[hu])
  simp only[l00,F5,L0,lnT,N2] at h2⊢
  omega
theorem Ze {α:Type} {f:α→List UInt8} (l:List α) {i:Nat} (h:i<l.length):(l.take (i+1)).flatMap f=(l.take i).flatMap f++f l[i]:=by
 rw[l04 h,l2g];simp
section
variable {K:KV} {x:Am} {ks:List Nat} {ts:List (List UInt8)} {xs:List Nd} {id:Int} {o:UD} {s0:List UInt8}
theorem C0a {k49:AV→AV→AV→Hp→Am} {p:Nat} {H:Hp} (hk:∀k∈ks,k<52) (hb:ks.length<100) (h0:s0.length<1000) (hp:Aw H p=some (Gj id (BA ks) (BQ xs) o))
 (hx:k49 (.ptr p 0 0) (S (s0++ks.flatMap Zd)) (I ks.length) H=x):
 ∀(f i:Nat) (w:AV),i≤ks.length→ks.length-i<f→KC (L+20) (rt (L+20) (n+40)) K k49 f (.ptr p 0 0) (S (s0++(ks.take i).flatMap Zd)) (I i) w H=x:=by
 intro f
 induction f with
 |zero=>intro i w _ h;omega
 |succ f ih=>
  intro i w hi hf
  rw[XA9]
  unfold Om Aq
  have f0:∀{s j:Nat} {K:AV→Am},AH j (.ptr s 0 0) K=K (.ptr s j 0):= λ{s j K}=>by rw[fA,Le]
  have l1:∀{K},Ap Al (.ptr p 1 0) H K=K (BA ks):= λ{K}=>AW (p:=1) rfl hp (show 1<23 by decide)
  rw[f0,l1,Nh]
  by_cases h:i<ks.length
  ·have e1:=B3h (ks.take i)
   have e2:(ks.take i).length≤ks.length:=by simp;omega
   have e3:=EA ks[i]
   rw[FR (by omega),Do,f0,l1,Wr h,Wq,QB _ _ _ (hk _ (Qu h)),CJ,CI,Bj (by simp only[F5,L0,N2];omega),Bj (by simp only[F5,L0,N2];omega),Bj (by simp only[F5,L0,N2];omega),DH (by omega)]
   have e4:s0++(ks.take i).flatMap Zd++[103,105,118,101,110,32]++IQ ks[i]++[10]=s0++(ks.take (i+1)).flatMap Zd:=by
    rw[Ze ks h];simp[Zd,A0d]
   rw[e4]
   exact ih (i+1) _ (by omega) (by omega)
  ·rw[FT (by omega),BC]
   have:i=ks.length:=by omega
   subst this
   rw[l06]
   exact hx
theorem C0b {k28:AV→AV→Hp→Am} {p:Nat} {H:Hp} {u:AV} (hl:∀i (h:i<xs.length),PS (rt (L+20) (n+41)) GH [.agg xs[i].cs] (S (ts.getD i []))) (ht:∀t∈ts,t.length<100) (hlen:ts.length=xs.length) (hb:xs.length<100) (h0:s0.length<10000) (hp:Aw H p=some (Gj id (BA ks) (BQ xs) o))
 (hx:k28 (.ptr p 0 0) (S (s0++ts.flatMap lnT)) H=x):
 ∀(f i:Nat),i≤xs.length→xs.length-i<f→KD (L+20) (rt (L+20) (n+41)) K k28 f (.ptr p 0 0) (S (s0++(ts.take i).flatMap lnT)) u (I i) H=x:=by
 intro f
 induction f with
 |zero=>intro i _ h;omega
 |succ f ih=>
  intro i hi hf
  rw[WQ]
  unfold On Aq
  have f0:∀{s j:Nat} {K:AV→Am},AH j (.ptr s 0 0) K=K (.ptr s j 0):= λ{s j K}=>by rw[fA,Le]
  have l2:∀{K},Ap Ax (.ptr p 2 0) H K=K (BQ xs):= λ{K}=>AW (p:=2) rfl hp (show 2<23 by decide)
  rw[f0,l2,QV]
  by_cases h:i<xs.length
  ·have hi':i<ts.length:=by omega
   have e0:ts.getD i []=ts[i]:=by simp[List.getD,Jw hi']
   have e1:=B32 (ts:=ts.take i) λt hm=>ht t (l24 hm)
   have e2:(ts.take i).length≤ts.length:=by simp;omega
   have e3:=ht ts[i] (Qu hi')
   have hl':=hl i h
   rw[e0] at hl'
   rw[FR (by omega),Do,f0,l2,Zi h,Zh,hl',Bj (by simp only[F5,L0,N2];omega),Bj (by simp only[F5,L0,N2];omega),DH (by omega)]
   have e4:s0++(ts.take i).flatMap lnT++ts[i]++[10]=s0++(ts.take (i+1)).flatMap lnT:=by
    rw[Ze ts hi'];simp[lnT]
   rw[e4]
   exact ih (i+1) (by omega) (by omega)
  ·rw[FT (by omega),BC]
   have:i=ts.length:=by omega
   subst this
   rw[l06]
   exact hx
theorem B2s {i ko:Nat} (hL:100<L) (hid:i<950) (hV:CS (rt (L+20) (n+44)) DN [.agg (Br i (BA ks) (BQ xs) (uu ko))] (Bo true)) (hl:∀i (h:i<xs.length),PS (rt (L+20) (n+44)) GH [.agg xs[i].cs] (S (ts.getD i []))) (ht:∀t∈ts,t.length<100) (hlen:ts.length=xs.length)
 (hk:∀k∈ks,k<52) (hb:ks.length≤6) (hn':xs.length≤40) (ho:ko<52):
 CS (rt (L+20) (n+45)) GY [.agg (Br i (BA ks) (BQ xs) (uu ko))] (.tup [S (A0a i ks ts ko),I 0]):=by
 intro K hK
 rw[Y1]
 unfold PR Aq
 rw[EG (KO (.inr ⟨_,_,rfl⟩) (.inr ⟨_,_,rfl⟩))]
 have hp0:=A0 (H:=[]) (x:=Gj i (BA ks) (BQ xs) (uu ko)) (by simp)
 generalize ((A7 [],Gj i (BA ks) (BQ xs) (uu ko))::([]:Hp))=H0 at hp0
 generalize A7 []=p at hp0
 have f0:∀{s j:Nat} {K:AV→Am},AH j (.ptr s 0 0) K=K (.ptr s j 0):= λ{s j K}=>by rw[fA,Le]
 have l0:∀{K},Ap Ab (.ptr p 0 0) H0 K=K (I i):= λ{K}=>AW (p:=0) rfl hp0 (show 0<23 by decide)
 have hv:∀{K:AV→Am},Ah (rt (L+20) (n+44)) DN [.agg (Br i (BA ks) (BQ xs) (uu ko))] H0 K=K (Bo true):= λ{K}=>AZ hV (Rv (.inr ⟨_,_,rfl⟩) (.inr ⟨_,_,rfl⟩))
 have d1:=A87 i
 rw[Bf rfl rfl hp0,hv,Xj,BC,f0,l0,C4X L (n+34) i hid,Bj (by simp only[F5,L0,N2];omega),Bj (by simp only[F5,L0,N2];omega)]
 simp only[Cm]
 have e0:([112,114,111,99,101,100,117,114,101,32]++dg i++[10]:List UInt8)=(Oy++dg i++[10])++(ks.take 0).flatMap Zd:=by simp[Oy]
 rw[e0]
 have b0:(Oy++dg i++[10]).length≤14:=by simp only[F5,L0,N2,Oy];omega
 refine C0a (n:=n+4) hk (by omega) (by omega) hp0 ?_ (L+20) 0 _ (by omega) (by omega)
 have e1:(Oy++dg i++[10])++ks.flatMap Zd=((Oy++dg i++[10])++ks.flatMap Zd)++(ts.take 0).flatMap lnT:=by simp
 rw[e1]
 have g1:=B3h ks
 have b1:((Oy++dg i++[10])++ks.flatMap Zd).length≤500:=by rw[F5];omega
 refine C0b (n:=n+3) hl ht hlen (by omega) (by omega) hp0 ?_ (L+20) 0 (by omega) (by omega)
 have lo:∀{K},Ap Ag (.ptr p 3 0) H0 K=K (.agg (BW (uu ko))):= λ{K}=>EF (p:=3) rfl hp0 (show 23≤23 by decide)
 have g2:=B32 ht
 have g3:=EA ko
 have b2:(((Oy++dg i++[10])++ks.flatMap Zd)++ts.flatMap lnT).length≤5000:=by rw[F5];omega
 rw[f0,lo,QB _ _ _ ho,CJ,CI,Bj (by rw[F5];simp only[L0,N2] at*;omega),Bj (by rw[F5];simp only[L0,N2] at*;omega),Bj (by rw[F5,F5];simp only[L0,N2] at*;omega)]
 exact hK _ _ (λb=>⟨false,λK=>by kernel_rfl⟩)
end
end
section
variable {L n:Nat}
section
variable {K:KV} {x:Am} {ks:List Nat} {ts:List (List UInt8)} {xs:List Nd} {id:Int} {o:UD} {s0:List UInt8}
abbrev pks (p:Nat) (id:Int) (ks:List Nat) (xs:List Nd) (o:UD):List (Nat×Row):=[(p,Gj id (BA ks) (BQ xs) o)]
theorem A9r {r b:Nat} {kp:List (Nat×Row)} {l s:List UInt8} {v:AV} {H:Hp} (h:Bd r kp b l v H) (hb:b<100000000) (hs:s.length<1000) (hx:∀v' H',Bd r kp (b+1000) (l++s) v' H'→K (.tup [I s.length,.v .nilIface]) H'=x):
 (rt (L+20) (n+2)).call Bp [.ptr r 0 0,S s] H K=x:=by
 have:=h.sz
 exact A3j h.bld (by omega) λv' H' hB hk=>hx v' H' (h.step hB hk (by rw[F5];omega))
theorem Bd.al {r b e:Nat} {kp:List (Nat×Row)} {l:List UInt8} {v:AV} {H:Hp} {zs vs:List AV} (h:Bd r kp b l v H) (hz:vs.length=zs.length):∃H',H'=upd ((A7 H,.cells true e zs)::H) (A7 H) (.cells true e vs)∧Aw H' (A7 H)=some (.cells true e vs)∧Bd r kp b l v H':=by
 refine⟨_,rfl,A8 (A0 (H:=H) (x:= .cells true e zs) (by simp)),⟨(h.bld.cons (y:= .cells true e zs)).upd (by have:=h.bld.lt;omega) (λhu=>by have:=h.bld.vlt hu;omega),λp hp=> ?_,h.sz⟩⟩
 obtain⟨p1,p2,p3⟩:=h.ks p hp
 have:=h.bld.wf.lt p1
 exact⟨by rw[As (by omega)];exact Bn this p1,p2,p3⟩
theorem B7X {k69:AV→AV→AV→AV→AV→Hp→Am} {p r:Nat} {kp:List (Nat×Row)} (hk:∀k∈ks,k<52) (hb:ks.length<100) {b:Nat} (hb':b<1000000)
 (hx:∀v H,Bd r kp (b+1000*ks.length) (s0++ks.flatMap Zd) v H→k69 (.ptr p 0 0) (.ptr r 0 0) (BA ks) (I ks.length) (I ks.length) H=x):
 ∀(f i:Nat) (v:AV) (H:Hp),i≤ks.length→ks.length-i<f→Bd r kp (b+1000*i) (s0++(ks.take i).flatMap Zd) v H→HP (L+20) (rt (L+20) (n+40)) K k69 f (.ptr p 0 0) (.ptr r 0 0) (BA ks) (I ks.length) (I i) AV.dk AV.dk AV.dk H=x:=by
 intro f
 induction f with
 |zero=>intro i v H _ h;omega
 |succ f ih=>
  intro i v H hi hf hB
  rw[Tc]
  unfold Kh Aq
  by_cases h:i<ks.length
  ·have e3:=EA ks[i]
   rw[FR (by omega),Do,Wr h,Wq,Ba (cs:=En) rfl,B0 (cs:=En) (vs:=BW (uu ks[i])) (A0 (by simp)) rfl rfl rfl]
   obtain⟨H1,e1,hu,hB1⟩:=hB.al (e:=Av) (zs:=En) (vs:=BW (uu ks[i])) rfl
   rw[←e1,Bf rfl rfl hu,Qv _ _ _ (hk _ (Qu h)),CJ,CI,Bj (by simp only[L0,N2];omega),Bj (by simp only[F5,L0,N2];omega)]
   refine A9r (n:=n+38) hB1 (by omega) (by simp only[F5,L0,N2];omega) λv2 H2 hB2=> ?_
   rw[DH (by omega)]
   have e4:s0++(ks.take i).flatMap Zd++([103,105,118,101,110,32]++IQ ks[i]++[10])=s0++(ks.take (i+1)).flatMap Zd:=by
    rw[Ze ks h];simp[Zd,A0d]
   rw[e4,WC,←Nat.mul_succ] at hB2
   exact ih (i+1) v2 H2 (by omega) (by omega) hB2
  ·rw[FT (by omega),BC]
   have:i=ks.length:=by omega
   subst this
   rw[l06] at hB
   exact hx v H hB
theorem B7Y {k40:AV→AV→Hp→Am} {p r:Nat} {kp:List (Nat×Row)} {a b' c:AV} (hl:∀i (h:i<xs.length),PS (rt (L+20) (n+41)) Ec [.agg xs[i].cs] (S (ts.getD i []))) (ht:∀t∈ts,t.length<100) (hlen:ts.length=xs.length) (hb:xs.length<100) {b:Nat} (hbb:b<10000000)
 (hx:∀v H,Bd r kp (b+1000*xs.length) (s0++ts.flatMap lnT) v H→k40 (.ptr p 0 0) (.ptr r 0 0) H=x):
 ∀(f i:Nat) (v:AV) (H:Hp),i≤xs.length→xs.length-i<f→Bd r kp (b+1000*i) (s0++(ts.take i).flatMap lnT) v H→HQ (L+20) (rt (L+20) (n+41)) K k40 f (.ptr p 0 0) (.ptr r 0 0) a b' c (BQ xs) (I xs.length) (I i) H=x:=by
 intro f
 induction f with
 |zero=>intro i v H _ h;omega
 |succ f ih=>
  intro i v H hi hf hB
  rw[Td]
  unfold Ki Aq
  by_cases h:i<xs.length
  ·have hi':i<ts.length:=by omega
   have e0:ts.getD i []=ts[i]:=by simp[List.getD,Jw hi']
   have e3:=ht ts[i] (Qu hi')
   have hl':=hl i h
   rw[e0] at hl'
   rw[FR (by omega),Do,Zi h,Zh,Ba (cs:=IP) rfl,B0 (cs:=IP) (vs:=xs[i].cs) (A0 (by simp)) rfl rfl rfl]
   obtain⟨H1,e1,hu,hB1⟩:=hB.al (e:=AF) (zs:=IP) (vs:=xs[i].cs) rfl
   rw[←e1,Bf rfl rfl hu,hl',Bj (by simp only[L0,N2];omega)]
   refine A9r (n:=n+39) hB1 (by omega) (by simp only[F5,L0,N2];omega) λv2 H2 hB2=> ?_
   rw[DH (by omega)]
   have e4:s0++(ts.take i).flatMap lnT++(ts[i]++[10])=s0++(ts.take (i+1)).flatMap lnT:=by
    rw[Ze ts hi'];simp[lnT]
   rw[e4,WC,←Nat.mul_succ] at hB2
   exact ih (i+1) v2 H2 (by omega) (by omega) hB2
  ·rw[FT (by omega),BC]
   have:i=ts.length:=by omega
   subst this
   rw[l06] at hB
   exact hx v H (hlen▸hB)
theorem B1D {i ko:Nat} (hL:100<L) (hid:i<950) (hV:CS (rt (L+20) (n+46)) DF [.agg (Br i (BA ks) (BQ xs) (uu ko))] (Bo true)) (hl:∀i (h:i<xs.length),PS (rt (L+20) (n+46)) Ec [.agg xs[i].cs] (S (ts.getD i []))) (ht:∀t∈ts,t.length<100) (hlen:ts.length=xs.length)
 (hk:∀k∈ks,k<52) (hb:ks.length≤6) (hn':xs.length≤40) (ho:ko<52):
 CS (rt (L+20) (n+47)) E6 [.agg (Br i (BA ks) (BQ xs) (uu ko))] (.tup [S (A0a i ks ts ko),I 0]):=by
 intro K hK
 rw[Ue]
 unfold KX Aq
 rw[EG (KO (.inr ⟨_,_,rfl⟩) (.inr ⟨_,_,rfl⟩))]
 have hp0:=A0 (H:=[]) (x:=Gj i (BA ks) (BQ xs) (uu ko)) (by simp)
 have w0:=BP (x:=Gj i (BA ks) (BQ xs) (uu ko)) Fw
 generalize ((A7 [],Gj i (BA ks) (BQ xs) (uu ko))::([]:Hp))=H0 at hp0 w0
 generalize A7 []=p at hp0
 have f0:∀{s j:Nat} {K:AV→Am},AH j (.ptr s 0 0) K=K (.ptr s j 0):= λ{s j K}=>by rw[fA,Le]
 have hv:∀{K:AV→Am},Ah (rt (L+20) (n+46)) DF [.agg (Br i (BA ks) (BQ xs) (uu ko))] H0 K=K (Bo true):= λ{K}=>AZ hV (Rv (.inr ⟨_,_,rfl⟩) (.inr ⟨_,_,rfl⟩))
 have d1:=A87 i
 rw[Bf rfl rfl hp0,hv,Xj,BC,Ba (cs:=[.v (.pointer none),zL]) rfl]
 have hrn:=A0 (H:=H0) (x:= .cells true CH [.v (.pointer none),zL]) (by simp)
 have hclt:=w0.lt hp0
 have hB0:Bd (A7 H0) (pks p i ks xs (uu ko)) 0 [] AP ((A7 H0,.cells true CH [.v (.pointer none),zL])::H0):=
  ⟨⟨⟨_,.inr rfl,.inl hrn⟩,.inl ⟨rfl,rfl,rfl⟩,λ⟨_,_,_,h⟩=>(by cases h),BP w0⟩,λq hq=>by
   simp only[l2f] at hq
   subst hq
   exact⟨Bn hclt hp0,by simp only;omega,λ⟨_,_,_,h⟩=>(by cases h)⟩,NV _⟩
 generalize ((A7 H0,Row.cells true CH [.v (.pointer none),zL])::H0)=H1 at hB0
 generalize A7 H0=r at hB0
 have crt:∀{b l v H},Bd r (pks p i ks xs (uu ko)) b l v H→Aw H p=some (Gj i (BA ks) (BQ xs) (uu ko)):= λh=>(h.ks (p,_) (l2f.2 rfl)).1
 have l0:∀{K},Ap Ab (.ptr p 0 0) H1 K=K (I i):= λ{K}=>AW (p:=0) rfl (crt hB0) (show 0<23 by decide)
 rw[f0,l0,C4R L (n+36) i hid,Bj (by simp only[L0,N2];omega),Bj (by simp only[F5,L0,N2];omega)]
 refine A9r (n:=n+44) hB0 (by omega) (by simp only[F5,L0,N2];omega) λv2 H2 hB2=> ?_
 simp only[Cm]
 have l1:∀{K},Ap Al (.ptr p 1 0) H2 K=K (BA ks):= λ{K}=>AW (p:=1) rfl (crt hB2) (show 1<23 by decide)
 rw[f0,l1,Nh]
 have e0:([]++([112,114,111,99,101,100,117,114,101,32]++dg i++[10]):List UInt8)=(Oy++dg i++[10])++(ks.take 0).flatMap Zd:=by simp[Oy]
 rw[e0] at hB2
 refine B7X (n:=n+6) hk (by omega) (b:=0+1000) (by omega) (λv3 H3 hB3=> ?_) (L+20) 0 v2 H2 (by omega) (by omega) hB2
 have l2:∀{K},Ap Ax (.ptr p 2 0) H3 K=K (BQ xs):= λ{K}=>AW (p:=2) rfl (crt hB3) (show 2<23 by decide)
 rw[f0,l2,QV]
 have e1:(Oy++dg i++[10])++ks.flatMap Zd=((Oy++dg i++[10])++ks.flatMap Zd)++(ts.take 0).flatMap lnT:=by simp
 rw[e1] at hB3
 refine B7Y (n:=n+5) hl ht hlen (by omega) (b:=0+1000+1000*ks.length) (by omega) (λv4 H4 hB4=> ?_) (L+20) 0 v3 H3 (by omega) (by omega) hB3
 have lo:∀{K},Ap Ag (.ptr p 3 0) H4 K=K (.agg (BW (uu ko))):= λ{K}=>EF (p:=3) rfl (crt hB4) (show 23≤23 by decide)
 have g3:=EA ko
 rw[f0,lo,Qv _ _ _ ho,CJ,CI,Bj (by simp only[L0,N2];omega),Bj (by simp only[F5,L0,N2];omega)]
 refine A9r (n:=n+44) hB4 (by omega) (by simp only[F5,L0,N2];omega) λv5 H5 hB5=> ?_
 have e2:((Oy++dg i++[10])++ks.flatMap Zd)++ts.flatMap lnT++([111,117,116,112,117,116,32]++IQ ko++[10])=A0a i ks ts ko:=by simp[A0a,C0I]
 rw[e2] at hB5
 have z1:=hB5.sz
 obtain⟨H6,hs⟩:=A4B (n:=n+45) hB5.bld (by unfold A0a;rw[F5];simp only[L0,N2];omega) (by omega)
 rw[hs]
 exact hK _ _ (λb=>⟨false,λK=>by kernel_rfl⟩)
end
end
end Go.Abs
end
