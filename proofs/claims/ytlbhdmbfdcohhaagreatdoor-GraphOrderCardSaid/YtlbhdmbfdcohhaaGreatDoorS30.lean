import Derived.Test.YtlbhdmbfdcohhaaGreatDoorS17
import Derived.Test.YtlbhdmbfdcohhaaGreatDoorS23
import Derived.Test.YtlbhdmbfdcohhaaGreatDoorS27
import Derived.Test.YtlbhdmbfdcohhaaGreatDoorS28
import Derived.Test.YtlbhdmbfdcohhaaGreatDoorS29
set_option linter.all false
set_option maxHeartbeats 100000000
noncomputable section
namespace Go.Abs
open Go.RowKit Go.Proofs
set_option maxRecDepth 100000
section
def exN (j:Nat):Nd:=
 if j<3 then VD j
 else if j<39 then⟨(3+(j-3)/9:Nat),[],[],u0,0,((j-3)/3%3:Nat),((j-3)%3:Nat)⟩
 else⟨7,[],[],u0,YN ((j-39)%5),((j-39)/5:Nat),0⟩
def Fw:List (List UInt8):=[[],[99,111,110,115,116],[105,110,112,117,116],[97,100,100],[115,117,98],[109,117,108],[100,105,118],[112,111,119],[115,113,114,116]]
def exT (j:Nat):List UInt8:=
 if j<3 then Fw.getD 2 []++[32]++dec j
 else if j<39 then Fw.getD (3+(j-3)/9) []++[32]++dec ((j-3)/3%3:Nat)++[32]++dec ((j-3)%3:Nat)
 else Fw.getD 7 []++[32]++dec ((j-39)/5:Nat)++[32]++dec (YN ((j-39)%5))
variable (L n:Nat)
theorem B3I:((List.range 54).all λi=>Iu (AX (CL (rt (L+20) (n+41)) HS [.agg (exN i).cs]) (S (exT i))))=true:=by kernel_rfl
end
section
def frL:List (List UInt8×List UInt8):=[([45,54],[49]),
 ([45,51],[49]),
 ([45,50],[49]),
 ([45,51],[50]),
 ([45,53],[49]),
 ([45,53],[50]),
 ([45,53],[51]),
 ([45,53],[52]),
 ([45,52],[49]),
 ([45,52],[51]),
 ([45,49],[49]),
 ([45,51],[52]),
 ([45,50],[51]),
 ([45,49],[50]),
 ([45,49],[51]),
 ([45,49],[52]),
 ([48],[49]),
 ([49],[49]),
 ([49],[50]),
 ([49],[51]),
 ([49],[52]),
 ([50],[49]),
 ([50],[51]),
 ([51],[49]),
 ([51],[50]),
 ([51],[52]),
 ([52],[49]),
 ([52],[51]),
 ([53],[49]),
 ([53],[50]),
 ([53],[51]),
 ([53],[52]),
 ([54],[49])]
def frn (i:Nat):List UInt8:=(frL.getD i ([],[])).1
def frd (i:Nat):List UInt8:=(frL.getD i ([],[])).2
abbrev Ww (i:Nat):List AV:=[S (frn i),S (frd i)]
def frt (i:Nat):List UInt8:=if frd i=[49] then frn i else frn i++[47]++frd i
def C5K:List (List Nat):=[[0,1,2,3],[4,5,6,7],[8,2,9,10],[1,3,10,11],[2,10,12,13],[10,13,14,15],[16,16,16,16],[17,18,19,20],[21,17,22,18],[23,24,17,25],[26,21,27,17],[28,29,30,31],[32,23,21,24]]
def YH (a b:Nat):Nat:=(C5K.getD a []).getD b 0
variable (L n:Nat)
theorem B3O:((List.range 13).all λk=>(λi=>Iu (AX (CL (rt (L+20) (n+40)) Fg [I (((i/4:Nat):Int)-6),I (1+((i%4:Nat):Int))]) (.tup [.agg (Ww (YH (i/4) (i%4))),I 0]))) (k+0))=true:=by kernel_rfl
theorem B3N:((List.range 13).all λk=>(λi=>Iu (AX (CL (rt (L+20) (n+40)) Fg [I (((i/4:Nat):Int)-6),I (1+((i%4:Nat):Int))]) (.tup [.agg (Ww (YH (i/4) (i%4))),I 0]))) (k+13))=true:=by kernel_rfl
theorem B3M:((List.range 13).all λk=>(λi=>Iu (AX (CL (rt (L+20) (n+40)) Fg [I (((i/4:Nat):Int)-6),I (1+((i%4:Nat):Int))]) (.tup [.agg (Ww (YH (i/4) (i%4))),I 0]))) (k+26))=true:=by kernel_rfl
theorem B3L:((List.range 13).all λk=>(λi=>Iu (AX (CL (rt (L+20) (n+40)) Fg [I (((i/4:Nat):Int)-6),I (1+((i%4:Nat):Int))]) (.tup [.agg (Ww (YH (i/4) (i%4))),I 0]))) (k+39))=true:=by kernel_rfl
theorem C1U (i:Nat) (h:i<52):PS (rt (L+20) (n+40)) Fg [I (((i/4:Nat):Int)-6),I (1+((i%4:Nat):Int))] (.tup [.agg (Ww (YH (i/4) (i%4))),I 0]):=by
 refine B4 (λH=>by first|exact λK=>by kernel_rfl) ?_
 by_cases h0:i<13
 ·have:=HB.1 (B3O L n) (i-0) (Ju.2 (by omega))
  have e:i-0+0=i:=by omega
  simp only[e] at this
  exact this
 by_cases h1:i<26
 ·have:=HB.1 (B3N L n) (i-13) (Ju.2 (by omega))
  have e:i-13+13=i:=by omega
  simp only[e] at this
  exact this
 by_cases h2:i<39
 ·have:=HB.1 (B3M L n) (i-26) (Ju.2 (by omega))
  have e:i-26+26=i:=by omega
  simp only[e] at this
  exact this
 by_cases h3:i<52
 ·have:=HB.1 (B3L L n) (i-39) (Ju.2 (by omega))
  have e:i-39+39=i:=by omega
  simp only[e] at this
  exact this
 ·omega
theorem A6v:((List.range 11).all λk=>(λi=>Iu (AX (CL (rt (L+20) (n+40)) E4 [.agg (Ww i)]) (Bo true))) (k+0))=true:=by kernel_rfl
theorem A6u:((List.range 11).all λk=>(λi=>Iu (AX (CL (rt (L+20) (n+40)) E4 [.agg (Ww i)]) (Bo true))) (k+11))=true:=by kernel_rfl
theorem A6t:((List.range 11).all λk=>(λi=>Iu (AX (CL (rt (L+20) (n+40)) E4 [.agg (Ww i)]) (Bo true))) (k+22))=true:=by kernel_rfl
theorem B1e (i:Nat) (h:i<33):PS (rt (L+20) (n+40)) E4 [.agg (Ww i)] (Bo true):=by
 refine B4 (λH=>by first|exact λK=>by kernel_rfl) ?_
 by_cases h0:i<11
 ·have:=HB.1 (A6v L n) (i-0) (Ju.2 (by omega))
  have e:i-0+0=i:=by omega
  simp only[e] at this
  exact this
 by_cases h1:i<22
 ·have:=HB.1 (A6u L n) (i-11) (Ju.2 (by omega))
  have e:i-11+11=i:=by omega
  simp only[e] at this
  exact this
 by_cases h2:i<33
 ·have:=HB.1 (A6t L n) (i-22) (Ju.2 (by omega))
  have e:i-22+22=i:=by omega
  simp only[e] at this
  exact this
 ·omega
theorem A6y:((List.range 11).all λk=>(λi=>Iu (AX (CL (rt (L+20) (n+40)) Jv [.agg (Ww i)]) (S (frt i)))) (k+0))=true:=by kernel_rfl
theorem A6x:((List.range 11).all λk=>(λi=>Iu (AX (CL (rt (L+20) (n+40)) Jv [.agg (Ww i)]) (S (frt i)))) (k+11))=true:=by kernel_rfl
theorem A6w:((List.range 11).all λk=>(λi=>Iu (AX (CL (rt (L+20) (n+40)) Jv [.agg (Ww i)]) (S (frt i)))) (k+22))=true:=by kernel_rfl
theorem B1f (i:Nat) (h:i<33):PS (rt (L+20) (n+40)) Jv [.agg (Ww i)] (S (frt i)):=by
 refine B4 (λH=>by first|exact λK=>by kernel_rfl) ?_
 by_cases h0:i<11
 ·have:=HB.1 (A6y L n) (i-0) (Ju.2 (by omega))
  have e:i-0+0=i:=by omega
  simp only[e] at this
  exact this
 by_cases h1:i<22
 ·have:=HB.1 (A6x L n) (i-11) (Ju.2 (by omega))
  have e:i-11+11=i:=by omega
  simp only[e] at this
  exact this
 by_cases h2:i<33
 ·have:=HB.1 (A6w L n) (i-22) (Ju.2 (by omega))
  have e:i-22+22=i:=by omega
  simp only[e] at this
  exact this
 ·omega
end
section
variable (L n:Nat)
theorem B2Q:((List.range 54).all λi=>Iu (AX (CL (rt (L+20) (n+41)) EI [.agg (exN i).cs]) (S (exT i))))=true:=by kernel_rfl
def cnN (i k:Nat):Nd:=⟨1,frn i,frd i,uu k,0,0,0⟩
def cnT (i k:Nat):List UInt8:=Fw.getD 1 []++[32]++frt i++[32]++JP k
end
end Go.Abs
end
noncomputable section
end
noncomputable section
namespace Go.Abs
open Go.RowKit Go.Proofs
set_option maxRecDepth 100000
section
variable {L n:Nat}
def RV (R:Rt) (f:Nat) (args:List AV) (v:AV):Prop:=∀b,(R.call f args [] λv H'=>HO b H' depth v λ_ v'=>some (v',[]))=some (v,[])
theorem A0C {R:Rt} {f:Nat} {args args':List AV} {v:AV} {H:Hp} {q:Bool} {K:AV→Aj} (hc:RV R f args' v) (ha:Pu true depth args args' H q):Ah R f args H K=K v:=by
 unfold Ah
 rw[ha]
 show Ai (R.call f args' [] _) K=K v
 rw[hc (!q)];rfl
theorem CS.rv {R:Rt} {f:Nat} {args:List AV} {v:AV} (h:CS R f args v):RV R f args v:= λb=>h _ λv0 H0 hv=>by
 obtain⟨q,hq⟩:=hv b
 exact hq _
abbrev fnA (f:Nat):AV:= .fn (.func f) [] []
abbrev Wu (w:List UInt8) (F:AV) (g:Nat):AV:= .agg [S w,F,fnA g]
abbrev Zw:AV:= .list 2 [fnA NG,fnA Xz]
abbrev C28:AV:= .list 2 [fnA NG,fnA Qr]
abbrev C2l:AV:= .list 1 [fnA Qr]
abbrev Uw:AV:= .imap [(.int .i64 1,Wu (Fw.getD 1 []) AA Dq),(.int .i64 2,Wu (Fw.getD 2 []) C2l EK),
 (.int .i64 3,Wu (Fw.getD 3 []) Zw Eo),(.int .i64 4,Wu (Fw.getD 4 []) Zw CX),
 (.int .i64 5,Wu (Fw.getD 5 []) Zw Dw),(.int .i64 6,Wu (Fw.getD 6 []) Zw Dp),
 (.int .i64 7,Wu (Fw.getD 7 []) C28 DJ),(.int .i64 8,Wu (Fw.getD 8 []) (.list 1 [fnA NG]) Qs)]
theorem B8Q:PS (rt (L+20) (n+1)) Fh [] Uw:=B4 (λH K=>by kernel_rfl) (by kernel_rfl)
abbrev TS (I U:AV):AV:= .iptr [Uw,I,U]
variable {I1:AV} {a b c i k:Nat}
end
section
variable {L n:Nat}
section
variable {H:Hp} {c:Nat} {v I1 F:AV} {l:List Nat} {y:Nd} {w:List UInt8} {g k:Nat}
abbrev TC (I1 v:AV):Row:= .cells true OT [Uw,I1,v]
theorem C2J (hc:Aq H c=some (TC I1 v)) (hs:Bv H A0 20 v l.length (l.flatMap GA)) (h0:l=[]→v=AA) (hI:Sl I1):Fx true depth (.ptr c 0 0) (TS I1 (PC l)) H true:=by
 obtain⟨q,hq⟩:=YG (D:=depth-2) (b:=true) hs h0
 have a1:Fx true (depth-1) Uw Uw H false:= λK=>_root_.id rfl
 have a2:Fx true (depth-1) I1 I1 H false:=by rcases hI with rfl|⟨_,_,rfl⟩<;>exact λK=>_root_.id rfl
 have a3:Pu true (depth-1) [Uw,I1,v] [Uw,I1,PC l] H (false||(false||(q||false))):=Ay a1 (Ay a2 (Ay hq Be))
 intro K
 show JL H c (λx=>Ky x λ_ cs=>Ht (HO true H (depth-1)) (Dv (Nat.add 0 0) cs) λ_ c'=>K true (.iptr c'))=_
 rw[BI hc]
 show Ht (HO true H (depth-1)) (Dv 0 [Uw,I1,v]) (λ_ c'=>K true (.iptr c'))=_
 rw[CE,l1n,a3]
theorem A9E {f m:Nat} {args:List AV} {H:Hp} {K:KV} (hn:(E (L+20)).ne f=false) (hi:(E (L+20)).imp f=false):Dy (E (L+20)) (rt (L+20) m) (fnA f) args H K=Ah (rt (L+20) m) f args H λv=>K v H:=by
 show US args [] (λas'=>US [] as' λall=>B4P ((E (L+20)).ne f) all H K (@Bool.rec (λ_=>Aj) (Ah (rt (L+20) m) f all H λv=>K v H) ((rt (L+20) m).call f all H K) ((E (L+20)).imp f)))=_
 rw[KS,KS,hn,hi,XR,List.nil_append]
 rfl
theorem B48 {v:AV} {H:Hp} {K:Aj} (h:Ws v v=true):Pw (AX (some (v,H)) v) K=K:=by
 show Pw (some (.v (.bool (Ws v v)),[])) K=K
 rw[h];rfl
theorem A6e {H:Hp} {e z n:Nat} {v:AV} {cs:List AV} (h:Bv H e z v n cs):Ws v v=true:=by
 rcases h with⟨rfl,_⟩|⟨r,q,rfl,_⟩
 ·rfl
 ·show(Nat.beq z z&&(Nat.beq r r&&(Nat.beq 0 0&&Nat.beq n n)))=true
  simp
theorem B5f {K:AV→Aj} {t:TI}:Go.Abs.Ak t .eql (I 0) (.v (.int .i64 0)) K=K (Bo true):=by rw[Dd,decide_eq_true rfl]
theorem C41 (hc:Aq H c=some (TC I1 v)) (hs:Bv H A0 20 v l.length (l.flatMap GA)) (h0:l=[]→v=AA) (hr:¬AG v c) (wf:Wf H) (hb:l.length<100) (hI:Sl I1) (hF:Sl F)
 (hk:∀H K,(A6R .i64 (I y.op) λq=>TB Bj true Uw q H K)=K (.tup [Wu w F g,Bo true]))
 (ha:Ws (.tup [Wu w F g,Bo true]) (.tup [Wu w F g,Bo true])=true)
 (hn:(E (L+20)).ne g=false) (hi:(E (L+20)).imp g=false)
 (hh:RV (rt (L+20) (n+41)) BB [TS I1 (PC l),Wu w F g,.agg y.cs] (Bo true))
 (hu:RV (rt (L+20) (n+41)) g [TS I1 (PC l),.agg y.cs] (.tup [.agg (Ck (uu k)),I 0])):
 ∃v' H',(∀K,(rt (L+20) (n+42)).call HC [.ptr c 0 0,.agg y.cs] H K=K (Bo true) H')∧Aq H' c=some (TC I1 v')∧Bv H' A0 20 v' (l++[k]).length ((l++[k]).flatMap GA)∧¬AG v' c∧Wf H'∧A2 H≤A2 H'∧(∀s x,Aq H s=some x→s≠c→¬AG v s→Aq H' s=some x)∧(∀s,AG v' s→A2 H≤s):=by
 have hy1:=A1 (H:=H) (x:=TG y) (by simp)
 have hc1:=AS (x:=TG y) (wf.lt hc) hc
 have w1:=Br (x:=TG y) wf
 have hs1:Bv ((A2 H,TG y)::H) A0 20 v l.length (l.flatMap GA):=hs.lat wf (Lat.cons H _ (λ_=>False)) (λ_ _ h=>h)
 have kp1:∀s x,Aq H s=some x→Aq ((A2 H,TG y)::H) s=some x:= λs x h=>AS (wf.lt h) h
 have n1:A2 H≤A2 ((A2 H,TG y)::H):=l1p _
 have hr1:∀s,AG v s→s<A2 H:= λs hu=>by
  rcases hs with⟨rfl,_⟩|⟨r,q,rfl,h2,_⟩
  ·obtain⟨_,_,_,h⟩:=hu;cases h
  ·obtain⟨_,_,_,h⟩:=hu;cases h;exact wf.lt h2
 have ey:∀K:KV,DK AH (.agg y.cs) H K=K (.ptr (A2 H) 0 0) ((A2 H,TG y)::H):= λK=>Ft A8F
 have yl:=wf.lt hc
 generalize hH1:((A2 H,TG y)::H)=H1 at hy1 hc1 w1 hs1 kp1 n1 ey
 generalize hr0:A2 H=r at hy1 ey yl n1 hr1
 obtain⟨H2,e2,hop,w2,k2⟩:=Er (e:=Ca) (zs:=[zS,zL,.v .nilFunc]) (vs:=[S w,F,fnA g]) w1 rfl
 have ho1:=A1 (H:=H1) (x:= .cells true Ca [zS,zL,.v .nilFunc]) (by simp)
 have hc1':=AS (x:= .cells true Ca [zS,zL,.v .nilFunc]) (w1.lt hc1) hc1
 have hy1':=AS (x:= .cells true Ca [zS,zL,.v .nilFunc]) (w1.lt hy1) hy1
 obtain⟨hc2,nc2⟩:=k2 _ _ hc1
 obtain⟨hy2,ny2⟩:=k2 _ _ hy1
 have hs2:Bv H2 A0 20 v l.length (l.flatMap GA):=by
  rcases hs1 with h|⟨r,q,h1,h2,h3⟩
  ·exact .inl h
  ·exact .inr ⟨r,q,h1,(k2 _ _ h2).1,h3⟩
 have n2:A2 H1≤A2 H2:=by rw[e2,BY];exact l1p _
 obtain⟨H3,e3,hu3,w3,k3⟩:=Er (e:=A0) (zs:=XA0) (vs:=Ck (uu k)) w2 rfl
 obtain⟨hc3,nc3⟩:=k3 _ _ hc2
 have hs3:Bv H3 A0 20 v l.length (l.flatMap GA):=by
  rcases hs2 with h|⟨r,q,h1,h2,h3⟩
  ·exact .inl h
  ·exact .inr ⟨r,q,h1,(k3 _ _ h2).1,h3⟩
 have n3:A2 H2≤A2 H3:=by rw[e3,BY];exact l1p _
 obtain⟨v',H4,e4,hs4,w4,n4,k4,nw4⟩:=C6e k hs3 w3 hb
 have hc4:=k4 _ _ hc3 hr
 have hcv:¬AG v' c:= λhu=>by have:=nw4 c hu;have:=w3.lt hc3;omega
 have hone:B8 v'=[v']∧AV.one v'=true:=by
  rcases hs4 with⟨rfl,_⟩|⟨a,b,rfl,_⟩<;>exact⟨rfl,rfl⟩
 refine⟨v',upd H4 c (TC I1 v'),λK=> ?_,AB hc4,hs4.lat w4 (Lat.upd H4 c _ (P:= λu=>u=c) rfl) (λu hu e=>hcv (e▸hu)),hcv,BR w4,by rw[BY];omega,λs x h h1 h2=> ?_,λs hu=>by have:=nw4 s hu;omega⟩
 ·rw[Ph]
  unfold Hy BS Av Gb Dr
  rw[ey]
  have f0:∀{s j:Nat} {K:AV→Aj},AM j (.ptr s 0 0) K=K (.ptr s j 0):= λ{s j K}=>by rw[fA,KF]
  have lk1:∀{K},Ar Dk (.ptr c 0 0) H1 K=K Uw:= λ{K}=>AP (p:=0) rfl hc1 (show 0<3 by decide)
  have ly1:∀{K},Ar Ab (.ptr r 0 0) H1 K=K (I y.op):= λ{K}=>AP (p:=0) rfl hy1 (show 0<26 by decide)
  have lk1':∀{K},Ar Dk (.ptr c 0 0) ((A2 H1,.cells true Ca [zS,zL,.v .nilFunc])::H1) K=K Uw:= λ{K}=>AP (p:=0) rfl hc1' (show 0<3 by decide)
  have ly1':∀{K},Ar Ab (.ptr r 0 0) ((A2 H1,.cells true Ca [zS,zL,.v .nilFunc])::H1) K=K (I y.op):= λ{K}=>AP (p:=0) rfl hy1' (show 0<26 by decide)
  have al:∀{K:KV},AJ Ca Bj H1 K=K (.ptr (A2 H1) 0 0) ((A2 H1,.cells true Ca [zS,zL,.v .nilFunc])::H1):= λ{K}=>Bi rfl
  have st:∀{K:Hp→Aj},CG Bj (.ptr (A2 H1) 0 0) (Wu w F g) ((A2 H1,.cells true Ca [zS,zL,.v .nilFunc])::H1) K=K H2:= λ{K}=>by
   rw[e2];exact B7 (vs:=[S w,F,fnA g]) ho1 rfl rfl (by rcases hF with rfl|⟨_,_,rfl⟩<;>rfl)
  have o1:∀{K:Aj} {H:Hp},Pw (AX (some (Uw,H)) Uw) K=K:= λ{K H}=>by kernel_rfl
  have o2:∀{K:Aj} {H:Hp} {z:Int},Pw (AX (some (I z,H)) (I z)) K=K:= λ{K H z}=>RR (by rfl)
  have o3:∀{K:Aj} {H:Hp},Pw (AX (some (.tup [Wu w F g,Bo true],H)) (.tup [Wu w F g,Bo true])) K=K:= λ{K H}=>by
   show Pw (some (.v (.bool (Ws _ _)),[])) K=K
   rw[ha];rfl
  simp only[HL,BN,f0,lk1,ly1,hk,CZ,CY,al,Cz,st,lk1',ly1',o1,o2,o3,ntT]
  have lo2:∀{K},Ar Bj (.ptr (A2 H1) 0 0) H2 K=K (Wu w F g):= λ{K}=>Bq rfl rfl hop
  have ly2:∀{K},Ar AF (.ptr r 0 0) H2 K=K (.agg y.cs):= λ{K}=>Bq rfl rfl hy2
  have lf2:∀{K},Ar Aa (.ptr (A2 H1) 2 0) H2 K=K (fnA g):= λ{K}=>AP (p:=2) rfl hop (show 2<3 by decide)
  have a1:=C2J hc2 hs2 h0 hI
  have a2:Fx true depth (Wu w F g) (Wu w F g) H2 false:=by rcases hF with rfl|⟨_,_,rfl⟩<;>exact λK=>by kernel_rfl
  have a3:Fx true depth (.agg y.cs) (.agg y.cs) H2 false:= λK=>by kernel_rfl
  have hhas:∀{K:AV→Aj},Ah (rt (L+20) (n+41)) BB [.ptr c 0 0,Wu w F g,.agg y.cs] H2 K=K (Bo true):= λ{K}=>A0C hh (Ay a1 (Ay a2 (Ay a3 Be)))
  have hun:∀{K:AV→Aj},Ah (rt (L+20) (n+41)) g [.ptr c 0 0,.agg y.cs] H2 K=K (.tup [.agg (Ck (uu k)),I 0]):= λ{K}=>A0C hu (Ay a1 (Ay a3 Be))
  simp only[gT,Cz,lo2,ly2,hhas,ntT,WV]
  rw[Bz,lf2,A9E hn hi,hun,CZ,CY,Bi (cs:=XA0) rfl,B7 (cs:=XA0) (vs:=Ck (uu k)) (A1 (by simp)) rfl rfl rfl,←e3]
  have lc3:∀{K},Ar Am (.ptr c 2 0) H3 K=K v:= λ{K}=>AP (p:=2) rfl hc3 (show 2<3 by decide)
  have lu3:∀{K},Ar Af (.ptr (A2 H2) 0 0) H3 K=K (.agg (Ck (uu k))):= λ{K}=>Bq rfl rfl hu3
  simp only[HL,BN,f0,lc3,lu3]
  have e5:∀K:KV,DN A0 20 Af Am v (.sl 20 (A2 H3) 0 1) ((A2 H3,.cells false A0 (GA k))::H3) K=K v' H4:= λK=>by have:=e4 K;rw[B26] at this;exact this
  have lc3':∀{K},Ar Am (.ptr c 2 0) ((A2 H3,.cells false A0 (GA k))::H3) K=K v:= λ{K}=>AP (p:=2) rfl (AS (w3.lt hc3) hc3) (show 2<3 by decide)
  have s5:∀{K:Hp→Aj},CG Am (.ptr c 2 0) v' H4 K=K (upd H4 c (TC I1 v')):= λ{K}=>Ez hc4 (show 2<3 by decide) rfl hone.1 hone.2
  have o4:∀{K:Aj} {H:Hp},Pw (AX (some (v,H)) v) K=K:= λ{K H}=>B48 (A6e hs3)
  simp only[B26,Cz,e5,s5,lc3',o4,B5f]
 ·have a1:=kp1 s x h
  have a2:=(k2 s x a1).1
  have a3:=(k3 s x a2).1
  rw[Ap h1]
  exact k4 s x a3 h2
end
end
section
variable {L n:Nat}
abbrev A6b:AV:=fnA Fy
theorem B9F {k:Nat} (hk:k<52):PS (rt (L+20) (n+41)) Fy [.agg (Ck (uu k))] (Bo false):=by
 refine CS.ps (λK hK=> ?_) (λH=> λK=>by kernel_rfl)
 rw[RU]
 unfold J2
 rw[Ft rfl,Bq (cs:=Ck (uu k)) rfl rfl (A1 (by simp)),Ub _ _ _ hk,ntT]
 exact hK _ _ (λb=>⟨false,λK=>by kernel_rfl⟩)
theorem B6s {k4:Hp→Aj} {K:KV} {ks:List Nat} {H:Hp} (hb:ks.length<1000000000) (hk:∀k∈ks,k<52):∀(f i:Nat),i≤ks.length→ks.length-i<f→
 CJ (L+20) (rt (L+20) (n+41)) K k4 f (BH ks) A6b (I ks.length) (I i) H=k4 H:=by
 intro f
 induction f with
 |zero=>intro i _ h;omega
 |succ f ih=>
  intro i hi hf
  rw[IJ]
  unfold DD Av
  by_cases h:i<ks.length
  ·rw[FW (by omega),De,X6 h,X4]
   have ez:∀K,Dy (E (L+20)) (rt (L+20) (n+41)) A6b [.agg (Ck (uu ks[i]))] H K=Ah (rt (L+20) (n+41)) Fy [.agg (Ck (uu ks[i]))] H λv=>K v H:= λK=>A9E rfl rfl
   rw[ez,B9F (hk _ (QE h)),Bz,D4 (by omega)]
   exact ih (i+1) (by omega) (by omega)
  ·rw[FE (by omega),Bz]
theorem B13 {ks:List Nat} (hb:ks.length<1000000000) (hL:ks.length<L) (hk:∀k∈ks,k<52):CS (rt (L+20) (n+43)) C4 [BH ks,A6b] (Bo false):=by
 intro K hK
 rw[I0]
 unfold D0 Av
 have hi:CS (rt (L+20) (n+42)) DQ [BH ks,A6b] (I (-1)):=by
  intro K hK
  rw[Jj]
  unfold DO Av
  simp only[BX]
  have e0:(AV.v (.int .i64 0))=I ((0:Nat):Int):=rfl
  rw[OA,e0,B6s hb hk _ 0 (by omega) (by omega)]
  exact hK _ _ (λb=>⟨false,λK=>by kernel_rfl⟩)
 rw[Ba (q:=false) hi (λK=>by kernel_rfl),MR]
 exact hK _ _ (λb=>⟨false,λK=>by kernel_rfl⟩)
def WNd (L n:Nat) (I1:AV) (l:List Nat) (y:Nd) (k:Nat):Prop:=∃w F g,Sl F∧
 (∀H K,(A6R .i64 (I y.op) λq=>TB Bj true Uw q H K)=K (.tup [Wu w F g,Bo true]))∧
 Ws (.tup [Wu w F g,Bo true]) (.tup [Wu w F g,Bo true])=true∧(E (L+20)).ne g=false∧(E (L+20)).imp g=false∧
 RV (rt (L+20) (n+41)) BB [TS I1 (PC l),Wu w F g,.agg y.cs] (Bo true)∧
 RV (rt (L+20) (n+41)) g [TS I1 (PC l),.agg y.cs] (.tup [.agg (Ck (uu k)),I 0])
def WTy (L n:Nat) (ks:List Nat) (xs:List Nd) (ty:List Nat):Prop:=∀i (h:i<xs.length),WNd L n (BH ks) (ty.take i) xs[i] (ty.getD i 0)
section
variable {K:KV} {x:Aj} {ks ty:List Nat} {xs:List Nd} {id:Int} {o:UD}
theorem B9y {k79:AV→AV→Hp→Aj} {p c:Nat} (hT:WTy L n ks xs ty) (hlen:ty.length=xs.length) (hb:xs.length<100) (hpc:p≠c)
 (hx:∀v H,Bv H A0 20 v ty.length (ty.flatMap GA)→(ty=[]→v=AA)→Aq H p=some (Ho id (BH ks) (Cb xs) o)→Aq H c=some (TC (BH ks) v)→k79 (.ptr p 0 0) (.ptr c 0 0) H=x):
 ∀(f i:Nat) (v:AV) (H:Hp),i≤xs.length→xs.length-i<f→Bv H A0 20 v (ty.take i).length ((ty.take i).flatMap GA)→(ty.take i=[]→v=AA)→¬AG v p→¬AG v c→Aq H p=some (Ho id (BH ks) (Cb xs) o)→Aq H c=some (TC (BH ks) v)→Wf H→
 IQ (L+20) (rt (L+20) (n+42)) K k79 f (.ptr p 0 0) (.ptr c 0 0) (Cb xs) (I xs.length) (I i) H=x:=by
 intro f
 induction f with
 |zero=>intro i v H _ h;omega
 |succ f ih=>
  intro i v H hi hf hs h0 hr hrc hp hc w
  rw[Ur]
  unfold Lp Av
  by_cases h:i<xs.length
  ·rw[FW (by omega),De,A0y h,A0x,Bi (cs:=JO) rfl,B7 (cs:=JO) (vs:=xs[i].cs) (A1 (by simp)) rfl rfl rfl]
   obtain⟨H4,e4,hv4,w4,h4⟩:=Er (e:=AH) (zs:=JO) (vs:=xs[i].cs) w rfl
   rw[←e4,Bq rfl rfl hv4]
   have hp4:=(h4 _ _ hp).1
   have hc4:=(h4 _ _ hc).1
   have hs4:Bv H4 A0 20 v (ty.take i).length ((ty.take i).flatMap GA):=by
    rcases hs with hs|⟨r,q,h1,h2,h3⟩
    ·exact .inl hs
    ·exact .inr ⟨r,q,h1,(h4 _ _ h2).1,h3⟩
   obtain⟨wd,F,g,hF,hk,ha,hn,hi',hh,hu⟩:=hT i h
   obtain⟨v',H5,e5,hc5,hs5,hr5,w5,n5,k5,nw5⟩:=C41 (n:=n) hc4 hs4 h0 hrc w4 (by rw[l0g];omega) (.inr ⟨_,_,rfl⟩) hF hk ha hn hi' hh hu
   have ht:ty.take i++[ty.getD i 0]=ty.take (i+1):=by
    have hl:i<ty.length:=by omega
    rw[l04 hl];simp[List.getD,Kq hl]
   rw[e5,ntT,Bz,D4 (by omega)]
   rw[ht] at hs5
   exact ih (i+1) v' H5 (by omega) (by omega) hs5 (λe=>by rw[←ht] at e;simp at e) (λhr'=>by have:=nw5 _ hr';have:=w4.lt hp4;omega) hr5 (k5 _ _ hp4 hpc hr) hc5 w5
  ·rw[FE (by omega),Bz]
   have:i=xs.length:=by omega
   subst this
   rw[←hlen,l06] at hs h0
   exact hx v H hs h0 hp hc
set_option maxHeartbeats 1000000 in
theorem B6p (hL:100<L) (hT:WTy L (n+2) ks xs ty) (ho:o=uu (ty.getD (xs.length-1) 0)) (hlen:ty.length=xs.length) (hk:∀k∈ks,k<52) (hb:ks.length≤6) (hn:1≤xs.length) (hn':xs.length≤40) (h1:1≤id) (h2:id≤1000000):
 CS (rt (L+20) (n+45)) JG [.agg (B2 id (BH ks) (Cb xs) o)] (.tup [PC ty,I 0,I 0]):=by
 intro K hK
 rw[V6]
 unfold Mt BS Av Gb
 rw[Ft (Mi (.inr ⟨_,_,rfl⟩) (.inr ⟨_,_,rfl⟩))]
 have hp0:=A1 (H:=[]) (x:=Ho id (BH ks) (Cb xs) o) (by simp)
 have w0:=Br (x:=Ho id (BH ks) (Cb xs) o) FH
 generalize ((A2 [],Ho id (BH ks) (Cb xs) o)::([]:Hp))=H0 at hp0 w0
 generalize A2 []=p at hp0
 have f0:∀{s j:Nat} {K:AV→Aj},AM j (.ptr s 0 0) K=K (.ptr s j 0):= λ{s j K}=>by rw[fA,KF]
 have l0:∀{K},Ar Ab (.ptr p 0 0) H0 K=K (I id):= λ{K}=>AP (p:=0) rfl hp0 (show 0<23 by decide)
 have l1:∀{K},Ar Am (.ptr p 1 0) H0 K=K (BH ks):= λ{K}=>AP (p:=1) rfl hp0 (show 1<23 by decide)
 have l2:∀{K},Ar A3 (.ptr p 2 0) H0 K=K (Cb xs):= λ{K}=>AP (p:=2) rfl hp0 (show 2<23 by decide)
 have t1:∀{K},Go.Abs.Ak Ab .lss (I id) (.v (.int .i64 1)) K=K (Bo false):= λ{K}=>by rw[DL,decide_eq_false (by omega)]
 have t2:∀{K},Go.Abs.Ak Ab .gtr (I id) (.v (.int .i64 1000000)) K=K (Bo false):= λ{K}=>by rw[DM,decide_eq_false (by omega)]
 have t3:∀{K},Go.Abs.Ak Ab .gtr (I (ks.length:Int)) (.v (.int .i64 6)) K=K (Bo false):= λ{K}=>by rw[DM,decide_eq_false (by omega)]
 have t4:∀{K},Go.Abs.Ak Ab .lss (I (xs.length:Int)) (.v (.int .i64 1)) K=K (Bo false):= λ{K}=>by rw[DL,decide_eq_false (by omega)]
 have t5:∀{K},Go.Abs.Ak Ab .gtr (I (xs.length:Int)) (.v (.int .i64 40)) K=K (Bo false):= λ{K}=>by rw[DM,decide_eq_false (by omega)]
 have an:∀{K:AV→Aj},Ah (rt (L+20) (n+44)) C4 [BH ks,A6b] H0 K=K (Bo false):= λ{K}=>Ba (q:=false) (B13 (n:=n+1) (by omega) (by omega) hk) (λK=>by kernel_rfl)
 rw[f0,l0,t1]
 simp only[gT,f0,l0,Cz,t2,WV,l1,OA,t3,an,l2,Si,t4,t5]
 rw[Bz]
 have bg:∀{K:KV},(rt (L+20) (n+44)).call MM [BH ks] H0 K=K (.ptr (A2 H0) 0 0) ((A2 H0,TC (BH ks) AA)::H0):= λ{K}=>by
  rw[V3]
  unfold Mp
  have b2:∀{K:AV→Aj},B3 HI [(0,1,Uw),(1,1,BH ks)] K=K (.agg [Uw,BH ks,AA]):= λ{K}=>_root_.id rfl
  rw[B8Q (n:=n+42),b2,Ft rfl]
 rw[bg]
 have hc1:=A1 (H:=H0) (x:=TC (BH ks) AA) (by simp)
 have hp1:=AS (x:=TC (BH ks) AA) (w0.lt hp0) hp0
 have w1:=Br (x:=TC (BH ks) AA) w0
 have hpc:=w0.lt hp0
 generalize ((A2 H0,TC (BH ks) AA)::H0)=H1 at hc1 hp1 w1
 generalize A2 H0=c at hc1 hpc
 have l2':∀{K},Ar A3 (.ptr p 2 0) H1 K=K (Cb xs):= λ{K}=>AP (p:=2) rfl hp1 (show 2<23 by decide)
 simp only[BX]
 rw[l2',Si]
 refine B9y (n:=n+2) hT hlen (by omega) (by omega) ?_ (L+20) 0 _ H1 (by omega) (by omega) (.inl ⟨rfl,rfl,rfl⟩) (λ_=>rfl) (λ⟨_,_,_,h⟩=>by cases h) (λ⟨_,_,_,h⟩=>by cases h) hp1 hc1 w1
 intro v H hs h0 hp hc
 have hlt:ty.length-1<ty.length:=by omega
 obtain⟨a,ha1,ha2⟩:=A9N hs hlt
 have hov:∀{K},Ar Af (.ptr p 3 0) H K=K (.agg (Ck o)):= λ{K}=>Fs (p:=3) rfl hp (show 23≤23 by decide)
 have eg:uu ty[ty.length-1]=o:=by rw[ho,←hlen];simp[List.getD,Kq hlt]
 rw[eg] at ha2
 have lc:∀{K},Ar Am (.ptr c 2 0) H K=K v:= λ{K}=>AP (p:=2) rfl hc (show 2<3 by decide)
 have ln:∀{K:AV→Aj},AQ Am v K=K (I ty.length):= λ{K}=>JI rfl hs
 simp only[HL,BN,f0,lc,ln,A11 (ty:=Ab) (i:=ty.length) (by omega) (by omega),ha1,ha2,hov,C5Y]
 rw[Bz]
 exact hK _ _ (λb=>by
  obtain⟨q,hq⟩:=YG (D:=depth-2) (b:=b) hs h0
  exact⟨_,UO (D:=depth-1) (Ay hq (Ay (q:=false) D2 (Ay (q:=false) D2 Be)))⟩)
theorem B2L (hL:100<L) (hT:WTy L (n+2) ks xs ty) (ho:o=uu (ty.getD (xs.length-1) 0)) (hlen:ty.length=xs.length) (hk:∀k∈ks,k<52) (hb:ks.length≤6) (hn:1≤xs.length) (hn':xs.length≤40) (h1:1≤id) (h2:id≤1000000):
 CS (rt (L+20) (n+46)) Ey [.agg (B2 id (BH ks) (Cb xs) o)] (Bo true):=by
 intro K hK
 rw[V4]
 unfold Mq Av
 rw[Ft (Mi (.inr ⟨_,_,rfl⟩) (.inr ⟨_,_,rfl⟩))]
 have hp0:=A1 (H:=[]) (x:=Ho id (BH ks) (Cb xs) o) (by simp)
 generalize ((A2 [],Ho id (BH ks) (Cb xs) o)::([]:Hp))=H0 at hp0
 have ck:∀{K:AV→Aj},Ah (rt (L+20) (n+45)) JG [.agg (B2 id (BH ks) (Cb xs) o)] H0 K=K (.tup [PC ty,I 0,I 0]):= λ{K}=>Ba (B6p hL hT ho hlen hk hb hn hn' h1 h2) (SI (.inr ⟨_,_,rfl⟩) (.inr ⟨_,_,rfl⟩))
 have e2:∀{K:AV→Aj},AN (.tup [PC ty,I 0,I 0]) 2 K=K (I 0):= λ{K}=>_root_.id rfl
 have e0:∀{K:AV→Aj},AN (.tup [PC ty,I 0,I 0]) 0 K=K (PC ty):= λ{K}=>_root_.id rfl
 have e1:∀{K:AV→Aj},AN (.tup [PC ty,I 0,I 0]) 1 K=K (I 0):= λ{K}=>_root_.id rfl
 rw[Bq rfl rfl hp0,ck,e0,e1,e2,A3U]
 exact hK _ _ (λb=>⟨false,λK=>by kernel_rfl⟩)
end
end
section
variable {L n:Nat}
def PX:List UInt8:=[112,114,111,99,101,100,117,114,101,32]
def A1v:List UInt8:=[103,105,118,101,110,32]
def C2f:List UInt8:=[111,117,116,112,117,116,32]
def gvT (k:Nat):List UInt8:=A1v++JP k++[10]
def lnT (t:List UInt8):List UInt8:=t++[10]
def A1s (id:Nat) (ks:List Nat) (ts:List (List UInt8)) (o:Nat):List UInt8:=PX++dg id++[10]++ks.flatMap gvT++ts.flatMap lnT++C2f++JP o++[10]
theorem Fj (k:Nat):(JP k).length<60:=by
 by_cases h:k<52
 ·have:=HB.1 (show((List.range 52).all λk=>decide ((JP k).length<60))=true by kernel_rfl) k (Ju.2 h)
  simpa using this
 ·have:JP k=[]:=by
   unfold JP
   rw[TW,l1e (Nat.le_of_not_lt h)];rfl
  rw[this];decide
theorem A9j (k:Nat):(dg k).length≤3:=by
 unfold dg
 split
 ·simp
 ·split<;>simp
theorem B4y (ks:List Nat):(ks.flatMap gvT).length≤67*ks.length:=by
 induction ks with
 |nil=>simp
 |cons k ks ih=>
  have:=Fj k
  simp only[l00,Fl,K9,gvT,A1v,OU] at ih⊢
  omega
theorem B4g {ts:List (List UInt8)} (h:∀t∈ts,t.length<100):(ts.flatMap lnT).length≤100*ts.length:=by
 induction ts with
 |nil=>simp
 |cons t ts ih=>
  have h1:=h t (by simp)
  have h2:=ih λu hu=>h u (by simp[hu])
  simp only[l00,Fl,K9,lnT,OU] at h2⊢
  omega
theorem A0u {α:Type} {f:α→List UInt8} (l:List α) {i:Nat} (h:i<l.length):(l.take (i+1)).flatMap f=(l.take i).flatMap f++f l[i]:=by
 rw[l04 h,l2g];simp
section
variable {K:KV} {x:Aj} {ks:List Nat} {ts:List (List UInt8)} {xs:List Nd} {id:Int} {o:UD} {s0:List UInt8}
theorem C1H {k49:AV→AV→AV→Hp→Aj} {p:Nat} {H:Hp} (hk:∀k∈ks,k<52) (hb:ks.length<100) (h0:s0.length<1000) (hp:Aq H p=some (Ho id (BH ks) (Cb xs) o))
 (hx:k49 (.ptr p 0 0) (S (s0++ks.flatMap gvT)) (I ks.length) H=x):
 ∀(f i:Nat) (w:AV),i≤ks.length→ks.length-i<f→LU (L+20) (rt (L+20) (n+40)) K k49 f (.ptr p 0 0) (S (s0++(ks.take i).flatMap gvT)) (I i) w H=x:=by
 intro f
 induction f with
 |zero=>intro i w _ h;omega
 |succ f ih=>
  intro i w hi hf
  rw[Yh]
  unfold PM Av
  have f0:∀{s j:Nat} {K:AV→Aj},AM j (.ptr s 0 0) K=K (.ptr s j 0):= λ{s j K}=>by rw[fA,KF]
  have l1:∀{K},Ar Am (.ptr p 1 0) H K=K (BH ks):= λ{K}=>AP (p:=1) rfl hp (show 1<23 by decide)
  rw[f0,l1,OA]
  by_cases h:i<ks.length
  ·have e1:=B4y (ks.take i)
   have e2:(ks.take i).length≤ks.length:=by simp;omega
   have e3:=Fj ks[i]
   rw[FW (by omega),De,f0,l1,X6 h,X4,RO _ _ _ (hk _ (QE h)),CZ,CY,Bs (by simp only[Fl,K9,OU];omega),Bs (by simp only[Fl,K9,OU];omega),Bs (by simp only[Fl,K9,OU];omega),D4 (by omega)]
   have e4:s0++(ks.take i).flatMap gvT++[103,105,118,101,110,32]++JP ks[i]++[10]=s0++(ks.take (i+1)).flatMap gvT:=by
    rw[A0u ks h];simp[gvT,A1v]
   rw[e4]
   exact ih (i+1) _ (by omega) (by omega)
  ·rw[FE (by omega),Bz]
   have:i=ks.length:=by omega
   subst this
   rw[l06]
   exact hx
theorem C1I {k28:AV→AV→Hp→Aj} {p:Nat} {H:Hp} {u:AV} (hl:∀i (h:i<xs.length),PS (rt (L+20) (n+41)) HS [.agg xs[i].cs] (S (ts.getD i []))) (ht:∀t∈ts,t.length<100) (hlen:ts.length=xs.length) (hb:xs.length<100) (h0:s0.length<10000) (hp:Aq H p=some (Ho id (BH ks) (Cb xs) o))
 (hx:k28 (.ptr p 0 0) (S (s0++ts.flatMap lnT)) H=x):
 ∀(f i:Nat),i≤xs.length→xs.length-i<f→LV (L+20) (rt (L+20) (n+41)) K k28 f (.ptr p 0 0) (S (s0++(ts.take i).flatMap lnT)) u (I i) H=x:=by
 intro f
 induction f with
 |zero=>intro i _ h;omega
 |succ f ih=>
  intro i hi hf
  rw[Yi]
  unfold PN Av
  have f0:∀{s j:Nat} {K:AV→Aj},AM j (.ptr s 0 0) K=K (.ptr s j 0):= λ{s j K}=>by rw[fA,KF]
  have l2:∀{K},Ar A3 (.ptr p 2 0) H K=K (Cb xs):= λ{K}=>AP (p:=2) rfl hp (show 2<23 by decide)
  rw[f0,l2,Si]
  by_cases h:i<xs.length
  ·have hi':i<ts.length:=by omega
   have e0:ts.getD i []=ts[i]:=by simp[List.getD,Kq hi']
   have e1:=B4g (ts:=ts.take i) λt hm=>ht t (l24 hm)
   have e2:(ts.take i).length≤ts.length:=by simp;omega
   have e3:=ht ts[i] (QE hi')
   have hl':=hl i h
   rw[e0] at hl'
   rw[FW (by omega),De,f0,l2,A0y h,A0x,hl',Bs (by simp only[Fl,K9,OU];omega),Bs (by simp only[Fl,K9,OU];omega),D4 (by omega)]
   have e4:s0++(ts.take i).flatMap lnT++ts[i]++[10]=s0++(ts.take (i+1)).flatMap lnT:=by
    rw[A0u ts hi'];simp[lnT]
   rw[e4]
   exact ih (i+1) (by omega) (by omega)
  ·rw[FE (by omega),Bz]
   have:i=ts.length:=by omega
   subst this
   rw[l06]
   exact hx
theorem B3B {i ko:Nat} (hL:100<L) (hid:i<950) (hV:CS (rt (L+20) (n+44)) E3 [.agg (B2 i (BH ks) (Cb xs) (uu ko))] (Bo true)) (hl:∀i (h:i<xs.length),PS (rt (L+20) (n+44)) HS [.agg xs[i].cs] (S (ts.getD i []))) (ht:∀t∈ts,t.length<100) (hlen:ts.length=xs.length)
 (hk:∀k∈ks,k<52) (hb:ks.length≤6) (hn':xs.length≤40) (ho:ko<52):
 CS (rt (L+20) (n+45)) Il [.agg (B2 i (BH ks) (Cb xs) (uu ko))] (.tup [S (A1s i ks ts ko),I 0]):=by
 intro K hK
 rw[ZR]
 unfold Rj Av
 rw[Ft (Mi (.inr ⟨_,_,rfl⟩) (.inr ⟨_,_,rfl⟩))]
 have hp0:=A1 (H:=[]) (x:=Ho i (BH ks) (Cb xs) (uu ko)) (by simp)
 generalize ((A2 [],Ho i (BH ks) (Cb xs) (uu ko))::([]:Hp))=H0 at hp0
 generalize A2 []=p at hp0
 have f0:∀{s j:Nat} {K:AV→Aj},AM j (.ptr s 0 0) K=K (.ptr s j 0):= λ{s j K}=>by rw[fA,KF]
 have l0:∀{K},Ar Ab (.ptr p 0 0) H0 K=K (I i):= λ{K}=>AP (p:=0) rfl hp0 (show 0<23 by decide)
 have hv:∀{K:AV→Aj},Ah (rt (L+20) (n+44)) E3 [.agg (B2 i (BH ks) (Cb xs) (uu ko))] H0 K=K (Bo true):= λ{K}=>Ba hV (SI (.inr ⟨_,_,rfl⟩) (.inr ⟨_,_,rfl⟩))
 have d1:=A9j i
 rw[Bq rfl rfl hp0,hv,ntT,Bz,f0,l0,C6S L (n+34) i hid,Bs (by simp only[Fl,K9,OU];omega),Bs (by simp only[Fl,K9,OU];omega)]
 simp only[BX]
 have e0:([112,114,111,99,101,100,117,114,101,32]++dg i++[10]:List UInt8)=(PX++dg i++[10])++(ks.take 0).flatMap gvT:=by simp[PX]
 rw[e0]
 have b0:(PX++dg i++[10]).length≤14:=by simp only[Fl,K9,OU,PX];omega
 refine C1H (n:=n+4) hk (by omega) (by omega) hp0 ?_ (L+20) 0 _ (by omega) (by omega)
 have e1:(PX++dg i++[10])++ks.flatMap gvT=((PX++dg i++[10])++ks.flatMap gvT)++(ts.take 0).flatMap lnT:=by simp
 rw[e1]
 have g1:=B4y ks
 have b1:((PX++dg i++[10])++ks.flatMap gvT).length≤500:=by rw[Fl];omega
 refine C1I (n:=n+3) hl ht hlen (by omega) (by omega) hp0 ?_ (L+20) 0 (by omega) (by omega)
 have lo:∀{K},Ar Af (.ptr p 3 0) H0 K=K (.agg (Ck (uu ko))):= λ{K}=>Fs (p:=3) rfl hp0 (show 23≤23 by decide)
 have g2:=B4g ht
 have g3:=Fj ko
 have b2:(((PX++dg i++[10])++ks.flatMap gvT)++ts.flatMap lnT).length≤5000:=by rw[Fl];omega
 rw[f0,lo,RO _ _ _ ho,CZ,CY,Bs (by rw[Fl];simp only[K9,OU] at*;omega),Bs (by rw[Fl];simp only[K9,OU] at*;omega),Bs (by rw[Fl,Fl];simp only[K9,OU] at*;omega)]
 exact hK _ _ (λb=>⟨false,λK=>by kernel_rfl⟩)
end
end
section
variable {L n:Nat}
section
variable {K:KV} {x:Aj} {ks:List Nat} {ts:List (List UInt8)} {xs:List Nd} {id:Int} {o:UD} {s0:List UInt8}
abbrev pks (p:Nat) (id:Int) (ks:List Nat) (xs:List Nd) (o:UD):List (Nat×Row):=[(p,Ho id (BH ks) (Cb xs) o)]
theorem B0A {r b:Nat} {kp:List (Nat×Row)} {l s:List UInt8} {v:AV} {H:Hp} (h:Bd r kp b l v H) (hb:b<100000000) (hs:s.length<1000) (hx:∀v' H',Bd r kp (b+1000) (l++s) v' H'→K (.tup [I s.length,.v .nilIface]) H'=x):
 (rt (L+20) (n+2)).call B0 [.ptr r 0 0,S s] H K=x:=by
 have:=h.sz
 exact A4p h.bld (by omega) λv' H' hB hk=>hx v' H' (h.step hB hk (by rw[Fl];omega))
theorem Bd.al {r b e:Nat} {kp:List (Nat×Row)} {l:List UInt8} {v:AV} {H:Hp} {zs vs:List AV} (h:Bd r kp b l v H) (hz:vs.length=zs.length):∃H',H'=upd ((A2 H,.cells true e zs)::H) (A2 H) (.cells true e vs)∧Aq H' (A2 H)=some (.cells true e vs)∧Bd r kp b l v H':=by
 refine⟨_,rfl,AB (A1 (H:=H) (x:= .cells true e zs) (by simp)),⟨(h.bld.cons (y:= .cells true e zs)).upd (by have:=h.bld.lt;omega) (λhu=>by have:=h.bld.vlt hu;omega),λp hp=> ?_,h.sz⟩⟩
 obtain⟨p1,p2,p3⟩:=h.ks p hp
 have:=h.bld.wf.lt p1
 exact⟨by rw[Ap (by omega)];exact AS this p1,p2,p3⟩
theorem B9v {k69:AV→AV→AV→AV→AV→Hp→Aj} {p r:Nat} {kp:List (Nat×Row)} (hk:∀k∈ks,k<52) (hb:ks.length<100) {b:Nat} (hb':b<1000000)
 (hx:∀v H,Bd r kp (b+1000*ks.length) (s0++ks.flatMap gvT) v H→k69 (.ptr p 0 0) (.ptr r 0 0) (BH ks) (I ks.length) (I ks.length) H=x):
 ∀(f i:Nat) (v:AV) (H:Hp),i≤ks.length→ks.length-i<f→Bd r kp (b+1000*i) (s0++(ks.take i).flatMap gvT) v H→IN (L+20) (rt (L+20) (n+40)) K k69 f (.ptr p 0 0) (.ptr r 0 0) (BH ks) (I ks.length) (I i) AV.dk AV.dk AV.dk H=x:=by
 intro f
 induction f with
 |zero=>intro i v H _ h;omega
 |succ f ih=>
  intro i v H hi hf hB
  rw[Up]
  unfold Ln Av
  by_cases h:i<ks.length
  ·have e3:=Fj ks[i]
   rw[FW (by omega),De,X6 h,X4,Bi (cs:=XA0) rfl,B7 (cs:=XA0) (vs:=Ck (uu ks[i])) (A1 (by simp)) rfl rfl rfl]
   obtain⟨H1,e1,hu,hB1⟩:=hB.al (e:=A0) (zs:=XA0) (vs:=Ck (uu ks[i])) rfl
   rw[←e1,Bq rfl rfl hu,RE _ _ _ (hk _ (QE h)),CZ,CY,Bs (by simp only[K9,OU];omega),Bs (by simp only[Fl,K9,OU];omega)]
   refine B0A (n:=n+38) hB1 (by omega) (by simp only[Fl,K9,OU];omega) λv2 H2 hB2=> ?_
   rw[D4 (by omega)]
   have e4:s0++(ks.take i).flatMap gvT++([103,105,118,101,110,32]++JP ks[i]++[10])=s0++(ks.take (i+1)).flatMap gvT:=by
    rw[A0u ks h];simp[gvT,A1v]
   rw[e4,Xk,←Nat.mul_succ] at hB2
   exact ih (i+1) v2 H2 (by omega) (by omega) hB2
  ·rw[FE (by omega),Bz]
   have:i=ks.length:=by omega
   subst this
   rw[l06] at hB
   exact hx v H hB
theorem B9w {k40:AV→AV→Hp→Aj} {p r:Nat} {kp:List (Nat×Row)} {a b' c:AV} (hl:∀i (h:i<xs.length),PS (rt (L+20) (n+41)) EI [.agg xs[i].cs] (S (ts.getD i []))) (ht:∀t∈ts,t.length<100) (hlen:ts.length=xs.length) (hb:xs.length<100) {b:Nat} (hbb:b<10000000)
 (hx:∀v H,Bd r kp (b+1000*xs.length) (s0++ts.flatMap lnT) v H→k40 (.ptr p 0 0) (.ptr r 0 0) H=x):
 ∀(f i:Nat) (v:AV) (H:Hp),i≤xs.length→xs.length-i<f→Bd r kp (b+1000*i) (s0++(ts.take i).flatMap lnT) v H→IP (L+20) (rt (L+20) (n+41)) K k40 f (.ptr p 0 0) (.ptr r 0 0) a b' c (Cb xs) (I xs.length) (I i) H=x:=by
 intro f
 induction f with
 |zero=>intro i v H _ h;omega
 |succ f ih=>
  intro i v H hi hf hB
  rw[Uq]
  unfold Lo Av
  by_cases h:i<xs.length
  ·have hi':i<ts.length:=by omega
   have e0:ts.getD i []=ts[i]:=by simp[List.getD,Kq hi']
   have e3:=ht ts[i] (QE hi')
   have hl':=hl i h
   rw[e0] at hl'
   rw[FW (by omega),De,A0y h,A0x,Bi (cs:=JO) rfl,B7 (cs:=JO) (vs:=xs[i].cs) (A1 (by simp)) rfl rfl rfl]
   obtain⟨H1,e1,hu,hB1⟩:=hB.al (e:=AH) (zs:=JO) (vs:=xs[i].cs) rfl
   rw[←e1,Bq rfl rfl hu,hl',Bs (by simp only[K9,OU];omega)]
   refine B0A (n:=n+39) hB1 (by omega) (by simp only[Fl,K9,OU];omega) λv2 H2 hB2=> ?_
   rw[D4 (by omega)]
   have e4:s0++(ts.take i).flatMap lnT++(ts[i]++[10])=s0++(ts.take (i+1)).flatMap lnT:=by
    rw[A0u ts hi'];simp[lnT]
   rw[e4,Xk,←Nat.mul_succ] at hB2
   exact ih (i+1) v2 H2 (by omega) (by omega) hB2
  ·rw[FE (by omega),Bz]
   have:i=ts.length:=by omega
   subst this
   rw[l06] at hB
   exact hx v H (hlen▸hB)
theorem B2M {i ko:Nat} (hL:100<L) (hid:i<950) (hV:CS (rt (L+20) (n+46)) Ey [.agg (B2 i (BH ks) (Cb xs) (uu ko))] (Bo true)) (hl:∀i (h:i<xs.length),PS (rt (L+20) (n+46)) EI [.agg xs[i].cs] (S (ts.getD i []))) (ht:∀t∈ts,t.length<100) (hlen:ts.length=xs.length)
 (hk:∀k∈ks,k<52) (hb:ks.length≤6) (hn':xs.length≤40) (ho:ko<52):
 CS (rt (L+20) (n+47)) Fi [.agg (B2 i (BH ks) (Cb xs) (uu ko))] (.tup [S (A1s i ks ts ko),I 0]):=by
 intro K hK
 rw[V5]
 unfold Mr Av
 rw[Ft (Mi (.inr ⟨_,_,rfl⟩) (.inr ⟨_,_,rfl⟩))]
 have hp0:=A1 (H:=[]) (x:=Ho i (BH ks) (Cb xs) (uu ko)) (by simp)
 have w0:=Br (x:=Ho i (BH ks) (Cb xs) (uu ko)) FH
 generalize ((A2 [],Ho i (BH ks) (Cb xs) (uu ko))::([]:Hp))=H0 at hp0 w0
 generalize A2 []=p at hp0
 have f0:∀{s j:Nat} {K:AV→Aj},AM j (.ptr s 0 0) K=K (.ptr s j 0):= λ{s j K}=>by rw[fA,KF]
 have hv:∀{K:AV→Aj},Ah (rt (L+20) (n+46)) Ey [.agg (B2 i (BH ks) (Cb xs) (uu ko))] H0 K=K (Bo true):= λ{K}=>Ba hV (SI (.inr ⟨_,_,rfl⟩) (.inr ⟨_,_,rfl⟩))
 have d1:=A9j i
 rw[Bq rfl rfl hp0,hv,ntT,Bz,Bi (cs:=[.v (.pointer none),zL]) rfl]
 have hrn:=A1 (H:=H0) (x:= .cells true Ds [.v (.pointer none),zL]) (by simp)
 have hclt:=w0.lt hp0
 have hB0:Bd (A2 H0) (pks p i ks xs (uu ko)) 0 [] AA ((A2 H0,.cells true Ds [.v (.pointer none),zL])::H0):=
  ⟨⟨⟨_,.inr rfl,.inl hrn⟩,.inl ⟨rfl,rfl,rfl⟩,λ⟨_,_,_,h⟩=>(by cases h),Br w0⟩,λq hq=>by
   simp only[l2f] at hq
   subst hq
   exact⟨AS hclt hp0,by simp only;omega,λ⟨_,_,_,h⟩=>(by cases h)⟩,OV _⟩
 generalize ((A2 H0,Row.cells true Ds [.v (.pointer none),zL])::H0)=H1 at hB0
 generalize A2 H0=r at hB0
 have crt:∀{b l v H},Bd r (pks p i ks xs (uu ko)) b l v H→Aq H p=some (Ho i (BH ks) (Cb xs) (uu ko)):= λh=>(h.ks (p,_) (l2f.2 rfl)).1
 have l0:∀{K},Ar Ab (.ptr p 0 0) H1 K=K (I i):= λ{K}=>AP (p:=0) rfl (crt hB0) (show 0<23 by decide)
 rw[f0,l0,C6N L (n+36) i hid,Bs (by simp only[K9,OU];omega),Bs (by simp only[Fl,K9,OU];omega)]
 refine B0A (n:=n+44) hB0 (by omega) (by simp only[Fl,K9,OU];omega) λv2 H2 hB2=> ?_
 simp only[BX]
 have l1:∀{K},Ar Am (.ptr p 1 0) H2 K=K (BH ks):= λ{K}=>AP (p:=1) rfl (crt hB2) (show 1<23 by decide)
 rw[f0,l1,OA]
 have e0:([]++([112,114,111,99,101,100,117,114,101,32]++dg i++[10]):List UInt8)=(PX++dg i++[10])++(ks.take 0).flatMap gvT:=by simp[PX]
 rw[e0] at hB2
 refine B9v (n:=n+6) hk (by omega) (b:=0+1000) (by omega) (λv3 H3 hB3=> ?_) (L+20) 0 v2 H2 (by omega) (by omega) hB2
 have l2:∀{K},Ar A3 (.ptr p 2 0) H3 K=K (Cb xs):= λ{K}=>AP (p:=2) rfl (crt hB3) (show 2<23 by decide)
 rw[f0,l2,Si]
 have e1:(PX++dg i++[10])++ks.flatMap gvT=((PX++dg i++[10])++ks.flatMap gvT)++(ts.take 0).flatMap lnT:=by simp
 rw[e1] at hB3
 refine B9w (n:=n+5) hl ht hlen (by omega) (b:=0+1000+1000*ks.length) (by omega) (λv4 H4 hB4=> ?_) (L+20) 0 v3 H3 (by omega) (by omega) hB3
 have lo:∀{K},Ar Af (.ptr p 3 0) H4 K=K (.agg (Ck (uu ko))):= λ{K}=>Fs (p:=3) rfl (crt hB4) (show 23≤23 by decide)
 have g3:=Fj ko
 rw[f0,lo,RE _ _ _ ho,CZ,CY,Bs (by simp only[K9,OU];omega),Bs (by simp only[Fl,K9,OU];omega)]
 refine B0A (n:=n+44) hB4 (by omega) (by simp only[Fl,K9,OU];omega) λv5 H5 hB5=> ?_
 have e2:((PX++dg i++[10])++ks.flatMap gvT)++ts.flatMap lnT++([111,117,116,112,117,116,32]++JP ko++[10])=A1s i ks ts ko:=by simp[A1s,C2f]
 rw[e2] at hB5
 have z1:=hB5.sz
 obtain⟨H6,hs⟩:=A5Y (n:=n+45) hB5.bld (by unfold A1s;rw[Fl];simp only[K9,OU];omega) (by omega)
 rw[hs]
 exact hK _ _ (λb=>⟨false,λK=>by kernel_rfl⟩)
end
end
end Go.Abs
end
