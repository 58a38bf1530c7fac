import Derived.Shelf.Strings.OnBuilder
import Derived.Shelf.Strings.Repeat
import Derived.Shelf.Sort.Plain
import Derived.Test.YtlbhdmbfdcohhaaGreatDoorProg
import Derived.Test.YtlbhdmbfdcohhaaGreatDoorR48
import Derived.Test.YtlbhdmbfdcohhaaGreatDoorR49
import Derived.Test.YtlbhdmbfdcohhaaGreatDoorR50
set_option linter.all false
set_option maxHeartbeats 100000000
noncomputable section
namespace Go.Abs
open Go.RowKit Go.Proofs
set_option maxRecDepth 100000
section
variable {L n:Nat}
def A9Q:AV:= .list 2 (J0.cs++UH.cs)
theorem A6n:LA [J0,UH] A9Q:= .inl (by
 show AV.list 2 _=AV.list 2 ([J0,UH].flatMap Cd.cs)
 simp)
section
variable {K:AV→Al} {H:Hp}
theorem C6R:RN 68 Ac 2 [(0,68,.agg J0.cs),(68,68,.agg UH.cs)] K=K A9Q:=by kernel_rfl
theorem C6S:RN 68 Ac 2 [(0,68,.agg J0.cs),(68,68,.agg J0.cs)] K=K B3P:=by kernel_rfl
theorem bf4:RN 68 Ac 4 [(0,68,.agg scD.cs),(68,68,.agg Wn.cs),(136,68,.agg UH.cs),(204,68,.agg J0.cs)] K=K Mo:=by kernel_rfl
theorem bf3:RN 68 Ac 3 [(0,68,.agg J0.cs),(68,68,.agg UH.cs),(136,68,.agg scE.cs)] K=K B3O:=by kernel_rfl
theorem C6Q {a:List UInt8}:RN 1 Ae 1 [(0,1,S a)] K=K (DO [a]):=by kernel_rfl
theorem C5q {a b:List UInt8}:RN 1 Ae 2 [(0,1,S a),(1,1,S b)] K=K (DO [a,b]):=by kernel_rfl
theorem C6P {a b c d:List UInt8}:RN 1 Ae 4 [(0,1,S a),(1,1,S b),(2,1,S c),(3,1,S d)] K=K (DO [a,b,c,d]):=by kernel_rfl
theorem ix0 {a:List UInt8} {l:List (List UInt8)}:B0 Ad (DO (a::l)) (.v (.int .i64 0)) K=K (.iptr [S a]):=by
 have:=(HV (a::l)).ia (K:=K) (i:=0) (by simp)
 exact this
theorem ix1 {a b:List UInt8} {l:List (List UInt8)}:B0 Ad (DO (a::b::l)) (.v (.int .i64 1)) K=K (.iptr [S b]):=by
 have:=(HV (a::b::l)).ia (K:=K) (i:=1) (by simp)
 exact this
theorem mmT:eMM true (S lA) (S lB) K=K (S lB):=by kernel_rfl
theorem mmF:eMM false (S lA) (S lB) K=K (S lA):=by kernel_rfl
theorem ln2 {a b:List UInt8}:AP Ad (DO [a,b]) K=K (.v (.int .i64 2)):=id rfl
theorem ln3 {a b c:List UInt8}:AP Ad (DO [a,b,c]) K=K (.v (.int .i64 3)):=id rfl
theorem lnp {l:List AV}:AP JI (.list 1 l) K=K (.v (.int .i64 1)):=id rfl
theorem C6j:Go.Abs.Ak Ab .neq (.v (.int .i64 2)) (.v (.int .i64 2)) K=K (Bo false):=by kernel_rfl
theorem C6k:Go.Abs.Ak Ab .neq (.v (.int .i64 1)) (.v (.int .i64 1)) K=K (Bo false):=by kernel_rfl
theorem C6F:Go.Abs.Ak Ab .eql (.v (.int .i64 3)) (.v (.int .i64 3)) K=K (Bo true):=by kernel_rfl
theorem C6G:Go.Abs.Ak Ab .eql (I 0) (.v (.int .i64 0)) K=K (Bo true):=by kernel_rfl
end
theorem C16 (hL:40000<L):CS (rt (L+20) (n+81)) SU [] (Bo true):=by
 intro K hK
 have c1:∀{H K},Ah (rt (L+20) (n+80)) DV [(.v (.int .i64 1))] H K=K (.agg J0.cs):= λ{H K}=>IK (A9x (n:=n+35) (k:=1) hL (by decide) (by decide) B2S) (A2 (q:=false) Ed Bt)
 have c2:∀{H K},Ah (rt (L+20) (n+80)) DV [(.v (.int .i64 2))] H K=K (.agg UH.cs):= λ{H K}=>IK (A9x (n:=n+35) (k:=2) hL (by decide) (by decide) B2R) (A2 (q:=false) Ed Bt)
 have cI2:∀{H K},Ah (rt (L+20) (n+80)) Il [A9Q] H K=K (DO [lA,lB]):= λ{H K}=>by
  have h:=B3p (L:=L) (n:=n+15) (gs:=[J0,UH]) (a:=A9Q) (by
   intro c hc
   simp only[WG,List.not_mem_nil,or_false] at hc
   rcases hc with rfl|rfl
   ·exact⟨A4g,show([]:List (List UInt8)).Nodup by decide⟩
   ·exact⟨A4f,show([]:List (List UInt8)).Nodup by decide⟩) (by decide) hL A6n
  rw[show([J0,UH].map Cd.id)=[lA,lB] by simp[V4,V3]] at h
  exact Bc h (A2 (A6n.fx H) Bt)
 have cI4:∀{H K},Ah (rt (L+20) (n+80)) Il [Mo] H K=K (DO [lD,lC,lB,lA]):= λ{H K}=>by
  have h:=B3p (L:=L) (n:=n+15) (gs:=gs4) (a:=Mo) (λc hc=>⟨A1A.ok c hc,A1A.nd c hc⟩) (by decide) hL SM
  rw[show(gs4.map Cd.id)=[lD,lC,lB,lA] by simp[gs4,V4,V3,A0F,A4h]] at h
  exact Bc h (A2 (SM.fx H) Bt)
 have cC:∀{H K},Ah (rt (L+20) (n+80)) XA0 [(.v (.int .i64 3)),DO [lA,lB]] H K=K (.agg Wn.cs):= λ{H K}=>IK (A9y (n:=n+35) (k:=3) hL (by decide) (by decide) (l:=[lA,lB]) rfl (by simp[lA,lB]) B2Q) (A2 (q:=false) Ed (A2 ((HV _).fx H) Bt))
 have cD:∀{H K},Ah (rt (L+20) (n+80)) XA0 [(.v (.int .i64 4)),DO [lC,lM]] H K=K (.agg scD.cs):= λ{H K}=>IK (A9y (n:=n+35) (k:=4) hL (by decide) (by decide) (l:=[lC,lM]) rfl (by simp[lC,lM]) B2P) (A2 (q:=false) Ed (A2 ((HV _).fx H) Bt))
 have cP:∀{H K},Ah (rt (L+20) (n+80)) F6 [(.v (.int .i64 77))] H K=K (S lM):= λ{H K}=>by
  rw[←C4n];exact A0Z (n:=n+60) hL (by decide) (by decide) H K
 have cID:∀{H K},Ah (rt (L+20) (n+80)) GB [.agg Wn.cs] H K=K (S lC):= λ{H K}=>by
  rw[←A0F];exact Bc (A95 (n:=n+16) hL B2N (show[lA,lB].Nodup by decide)) (YS H)
 have f4:∀{H},OM true depth [Mo] [Mo] H false:= λ{H}=>A2 (SM.fx H) Bt
 have f4s:∀{H} {s:List UInt8},OM true depth [Mo,S s] [Mo,S s] H false:= λ{H s}=>A2 (SM.fx H) (A2 (q:=false) Ed Bt)
 have fss:∀{H} {a b:List (List UInt8)},OM true depth [DO a,DO b] [DO a,DO b] H false:= λ{H a b}=>A2 ((HV a).fx H) (A2 ((HV b).fx H) Bt)
 have cO:∀{H K},Ah (rt (L+20) (n+80)) Ns [Mo] H K=K (.tup [DO [lB,lA,lC,lD],I 0]):= λ{H K}=>FV (B6m (n:=n+15) hL) f4
 have cF:∀{H K},Ah (rt (L+20) (n+80)) Nu [B3O] H K=K (.list 1 [S lE,S lB]):= λ{H K}=>FV (B6p (n:=n+15) hL) (A2 (A4D.fx H) Bt)
 have cFc:∀{H K},Ah (rt (L+20) (n+80)) IA [Mo,S lC] H K=K (.tup [.agg Wn.cs,Bo true]):= λ{H K}=>FV (B6r (n:=n+15) hL) f4s
 have cFm:∀{H K},Ah (rt (L+20) (n+80)) IA [Mo,S lM] H K=K (.tup [.agg BM,Bo false]):= λ{H K}=>FV (B6q (n:=n+15) hL) f4s
 have cM:∀{H K},Ah (rt (L+20) (n+80)) Ol [Mo] H K=K (DO [lM]):= λ{H K}=>FV (B0Q (n:=n+15) hL) f4
 have cH:∀{H K},Ah (rt (L+20) (n+80)) Nt [Mo] H K=K (DO [lD]):= λ{H K}=>FV (B6o (n:=n+15) hL) f4
 have cAc:∀{H K},Ah (rt (L+20) (n+80)) Cm [Mo,S lC] H K=K (DO [lB,lA]):= λ{H K}=>FV (C3M (n:=n+15) hL) f4s
 have cAd:∀{H K},Ah (rt (L+20) (n+80)) Cm [Mo,S lD] H K=K (DO [lB,lC,lA]):= λ{H K}=>FV (C3L (n:=n+15) hL) f4s
 have cV:∀{H K},Ah (rt (L+20) (n+80)) HN [Mo] H K=K (Bo true):= λ{H K}=>FV (B6k (n:=n+15) hL) f4
 have cV2:∀{H K},Ah (rt (L+20) (n+80)) HN [B3P] H K=K (Bo false):= λ{H K}=>FV (B2T (n:=n+15) hL) (A2 (A4E.fx H) Bt)
 have cS:∀{H K},Ah (rt (L+20) (n+80)) KU [.agg Wn.cs,.agg Wn.cs] H K=K (Bo true):= λ{H K}=>FV (C17 (n:=n+15)) (A2 (A54 (D:=depth-3)) (A2 (A54 (D:=depth-3)) Bt))
 have s1:∀{H K},Ah (rt (L+20) (n+80)) Bq [DO [lM],DO [lM]] H K=K (Bo true):= λ{H K}=>FV (C3K (n:=n+78)) fss
 have s2:∀{H K},Ah (rt (L+20) (n+80)) Bq [DO [lD],DO [lD]] H K=K (Bo true):= λ{H K}=>FV (C3J (n:=n+78)) fss
 have s3:∀{H K},Ah (rt (L+20) (n+80)) Bq [DO [lB,lA],DO [lB,lA]] H K=K (Bo true):= λ{H K}=>FV (C3I (n:=n+78)) fss
 have s4:∀{H K},Ah (rt (L+20) (n+80)) Bq [DO [lB,lA,lC,lD],DO [lB,lA,lC,lD]] H K=K (Bo true):= λ{H K}=>FV (C3H (n:=n+78)) fss
 have egr:gr gs4=[(lD,cE scD),(lC,cE Wn),(lB,cE UH),(lA,cE J0)]:=by simp[gr,gs4,V4,V3,A0F,A4h]
 have hps:∀c∈gs4,c.ps.length<100:= λc hc=>by have:=B4Q (A1A.ok c hc);omega
 have cR:∀{s:List UInt8} {H K},Ah (rt (L+20) (n+80)) CU [Mo,S s] H K=K (Bo (rz [(lD,cE scD),(lC,cE Wn),(lB,cE UH),(lA,cE J0)] 4 s)):= λ{s H K}=>by
  have:=V0 (L:=L) (n:=n) (s:=s) A1A hL hps SM
  rw[egr] at this
  exact Bc this f4s
 have r1:rz [(lD,cE scD),(lC,cE Wn),(lB,cE UH),(lA,cE J0)] 4 lC=true:=by decide
 have r2:rz [(lD,cE scD),(lC,cE Wn),(lB,cE UH),(lA,cE J0)] 4 lD=false:=by decide
 have cR1:∀{H K},Ah (rt (L+20) (n+80)) CU [Mo,S lC] H K=K (Bo true):= λ{H K}=>by rw[cR,r1]
 have cR2:∀{H K},Ah (rt (L+20) (n+80)) CU [Mo,S lD] H K=K (Bo false):= λ{H K}=>by rw[cR,r2]
 clear cR r1 r2 egr hps f4 f4s fss
 rw[A1k]
 unfold SE Ba Bu Ar Ev CK
 obtain⟨H1,e1,ra1,w1, -⟩:=Er (e:=Aj) (zs:=BM) (vs:=J0.cs) Fv Ct
 rw[c1,Bf (cs:=BM) rfl,B7 (cs:=BM) (vs:=J0.cs) (A1 (by simp)) Ct rfl JE,←e1]
 generalize A6 []=a at ra1
 obtain⟨H2,e2,rb2,w2,k2⟩:=Er (e:=Aj) (zs:=BM) (vs:=UH.cs) w1 Ct
 rw[c2,Bf (cs:=BM) rfl,B7 (cs:=BM) (vs:=UH.cs) (A1 (by simp)) Ct rfl JE,←e2]
 have ra2:=(k2 _ _ ra1).1
 generalize A6 H1=b at rb2
 clear e1 e2 k2 ra1 w1
 rw[Bm rfl Ct.symm ra2,Bm rfl Ct.symm rb2,C6R,cI2]
 simp only[ix0,ix1,FU,mmT,mmF,BJ]
 obtain⟨H3,e3,rc3,w3,k3⟩:=Er (e:=Aj) (zs:=BM) (vs:=Wn.cs) w2 Ct
 rw[cC,Bf (cs:=BM) rfl,B7 (cs:=BM) (vs:=Wn.cs) (A1 (by simp)) Ct rfl JE,←e3]
 have ra3:=(k3 _ _ ra2).1
 have rb3:=(k3 _ _ rb2).1
 generalize A6 H2=c at rc3
 clear e3 k3 ra2 rb2 w2
 rw[cP,Bm rfl Ct.symm rc3,cID,C5q,cD]
 obtain⟨H4,e4,rd4,w4,k4⟩:=Er (e:=Aj) (zs:=BM) (vs:=scD.cs) w3 Ct
 rw[Bf (cs:=BM) rfl,B7 (cs:=BM) (vs:=scD.cs) (A1 (by simp)) Ct rfl JE,←e4]
 have ra4:=(k4 _ _ ra3).1
 have rb4:=(k4 _ _ rb3).1
 have rc4:=(k4 _ _ rc3).1
 generalize A6 H3=d at rd4
 clear e4 k4 ra3 rb3 rc3 w3
 obtain⟨H5,e5,re5,w5,k5⟩:=Er (e:=Aj) (zs:=BM) (vs:=UH.cs) w4 Ct
 rw[c2,Bf (cs:=BM) rfl,B7 (cs:=BM) (vs:=UH.cs) (A1 (by simp)) Ct rfl JE,←e5]
 obtain⟨ra5,na⟩:=k5 _ _ ra4
 obtain⟨rb5,nb⟩:=k5 _ _ rb4
 obtain⟨rc5,nc⟩:=k5 _ _ rc4
 obtain⟨rd5,nd⟩:=k5 _ _ rd4
 generalize A6 H4=e at re5 na nb nc nd
 clear e5 k5 ra4 rb4 rc4 rd4 w4
 have eE:UH.cs.set 5 (.v (.int .i64 9))=scE.cs:=rfl
 rw[Vu,Ez re5 (by rw[Ct];decide) rfl rfl rfl,eE]
 have re6:=AC (q:=true) (e:=Aj) (cs:=scE.cs) re5
 rw[←Au (y:= .cells true Aj scE.cs) na] at ra5
 rw[←Au (y:= .cells true Aj scE.cs) nb] at rb5
 rw[←Au (y:= .cells true Aj scE.cs) nc] at rc5
 rw[←Au (y:= .cells true Aj scE.cs) nd] at rd5
 have w6:=Cj (r:=e) (y:= .cells true Aj scE.cs) w5
 generalize upd H5 e (.cells true Aj scE.cs)=H6 at re6 ra5 rb5 rc5 rd5 w6
 clear re5 na nb nc nd w5
 rw[Bm rfl Ct.symm rd5,Bm rfl Ct.symm rc5,Bm rfl Ct.symm rb5,Bm rfl Ct.symm ra5,bf4,cI4,cO,CW,CV,Bm rfl Ct.symm ra5,Bm rfl Ct.symm rb5,Bm rfl Ct.symm re6,bf3,cF,ix1,FU,cFc,CW,CV]
 obtain⟨H7,e7,rf7,w7,k7⟩:=Er (e:=Aj) (zs:=BM) (vs:=Wn.cs) w6 Ct
 rw[Bf (cs:=BM) rfl,B7 (cs:=BM) (vs:=Wn.cs) (A1 (by simp)) Ct rfl JE,←e7]
 have ra7:=(k7 _ _ ra5).1
 have rc7:=(k7 _ _ rc5).1
 have rd7:=(k7 _ _ rd5).1
 generalize A6 H6=g at rf7
 clear e7 k7 ra5 rb5 rc5 rd5 re6 w6
 obtain⟨H8,e8, -,w8,k8⟩:=Er (e:=Aj) (zs:=BM) (vs:=BM) w7 rfl
 rw[cFm,CW,CV,Bf (cs:=BM) rfl,B7 (cs:=BM) (vs:=BM) (A1 (by simp)) rfl rfl rfl,←e8]
 have ra8:=(k8 _ _ ra7).1
 have rc8:=(k8 _ _ rc7).1
 have rd8:=(k8 _ _ rd7).1
 have rf8:=(k8 _ _ rf7).1
 generalize A6 H7=h
 clear e8 k8 ra7 rc7 rd7 rf7 w7 w8
 have dA:∀{K},Aq Ac (.ptr a 0 0) H8 K=K (.agg J0.cs):= λ{K}=>Bm rfl Ct.symm ra8
 have dC:∀{K},Aq Ac (.ptr c 0 0) H8 K=K (.agg Wn.cs):= λ{K}=>Bm rfl Ct.symm rc8
 have dF:∀{K},Aq Ac (.ptr g 0 0) H8 K=K (.agg Wn.cs):= λ{K}=>Bm rfl Ct.symm rf8
 have pC:∀{K},Aq Ad (.ptr c 31 0) H8 K=K (DO [lA,lB]):= λ{K}=>AY (p:=31) rfl rc8 (show 31<68 by decide)
 have pD:∀{K},Aq Ad (.ptr d 31 0) H8 K=K (DO [lC,lM]):= λ{K}=>AY (p:=31) rfl rd8 (show 31<68 by decide)
 simp only[Vu,pC,ln2,C6j,gT,Co,pD,Vk,lnp,C6k]
 rw[BD]
 simp only[cM,C6Q,s1,BJ,gT,Co,cH,ix0,ix1,FU,s2,Wu,cAc,C5q,s3,cAd,ln3,C6F,C6G,C6P,s4,cR1,cR2,ntF,ntT,cV,dA,C6S,cV2,dF,dC,cS]
 exact hK _ _ (λb=>⟨false,λK=>by kernel_rfl⟩)
end
section
variable {L n:Nat}
section
variable {α:Type} {f:α→List AV} {w:Nat}
theorem B7L (hf:∀x,(f x).length=w):∀l:List α,(l.flatMap f).length=l.length*w:=by
 intro l
 induction l with
 |nil=>simp
 |cons a l ih=>rw[l00,FA,hf,ih,Lj,l19];omega
end
section
variable {gs less:List Cd} {H:Hp} {K:AV→Al} {D:Nat}
theorem C2D {c:Cd}:OM true (D+2) c.cs c.cs H false:= λK=>(A54 (D:=D) (c:=c) (H:=H)) λq a=>match a with| .agg l=>K q l|_=>none
theorem C2b:∀l:List Cd,OM true (D+2) (l.flatMap Cd.cs) (l.flatMap Cd.cs) H false:=by
 intro l
 induction l with
 |nil=>exact Bt
 |cons c l ih=>rw[l00];exact A4O C2D ih
end
section
variable {gs:List Cd} {k:Nat}
end
end
section
variable {L n:Nat}
section
variable {gs:List Cd} {f:EO→Bool} {s x y:EO}
theorem A4S:∀gs:List Cd,KT (gE (gs.filter λc=>f c.id)) x=if f x=true then KT (gE gs) x else none:=by
 intro gs
 induction gs with
 |nil=>simp[gE,KT]
 |cons c gs ih=>
  by_cases h:f c.id=true
  ·rw[List.filter_cons_of_pos (by exact h)]
   show KT ((c.id,c)::gE (gs.filter λc=>f c.id)) x=if f x=true then KT ((c.id,c)::gE gs) x else none
   unfold KT
   by_cases he:c.id=x
   ·rw[if_pos he,if_pos he,if_pos (he▸h)]
   ·rw[if_neg he,if_neg he];exact ih
  ·rw[List.filter_cons_of_neg (by exact h),ih]
   show _=if f x=true then KT ((c.id,c)::gE gs) x else none
   by_cases hx:f x=true
   ·rw[if_pos hx,if_pos hx]
    conv=>rhs;unfold KT
    rw[if_neg (λ(e:c.id=x)=>h (by rw[e];exact hx))]
   ·rw[if_neg hx,if_neg hx]
theorem A9H (h:f y=true):J3 (gs.filter λc=>f c.id) y=J3 gs y:=by
 unfold J3
 rw[A4S,if_pos h]
theorem A6c (h:x∈J3 (gs.filter λc=>f c.id) y):x∈J3 gs y:=by
 unfold J3 at h⊢
 rw[A4S] at h
 by_cases hf:f y=true
 ·rw[if_pos hf] at h;exact h
 ·rw[if_neg hf] at h;cases h
theorem A01:x∈(gs.filter λc=>f c.id).map Cd.id↔x∈gs.map Cd.id∧f x=true:=by
 constructor
 ·intro h
  obtain⟨c,hc,rfl⟩:=l2a.1 h
  obtain⟨h1,h2⟩:=List.mem_filter.1 hc
  exact⟨l2a.2 ⟨c,h1,rfl⟩,h2⟩
 ·rintro⟨h,hf⟩
  obtain⟨c,hc,rfl⟩:=l2a.1 h
  exact l2a.2 ⟨c,List.mem_filter.2 ⟨hc,hf⟩,rfl⟩
theorem B8a (hs:f s=true) (hf:∀q,Anc gs s q→f q=true):Anc (gs.filter λc=>f c.id) s x↔Anc gs s x:=by
 constructor
 ·intro h
  induction h with
  |one h1 h2=>exact .one (A01.1 h1).1 (A6c h2)
  |more _ h1 h2 ih=>exact .more ih (A01.1 h1).1 (A6c h2)
 ·intro h
  induction h with
  |one h1 h2=>exact .one (A01.2 ⟨h1,hf _ (.one h1 h2)⟩) (by rw[A9H hs];exact h2)
  |more h0 h1 h2 ih=>exact .more ih (A01.2 ⟨h1,hf _ (.more h0 h1 h2)⟩) (by rw[A9H (hf _ h0)];exact h2)
theorem C19 (hc:∀y q,f y=true→q∈J3 gs y→q∈gs.map Cd.id→f q=true):∀(m:Nat) (x:EO),(f x=true∨x∉gs.map Cd.id)→rz (gr (gs.filter λc=>f c.id)) m x=rz (gr gs) m x:=by
 intro m
 induction m with
 |zero=>intro x _;rfl
 |succ m ih=>
  intro x hx
  rw[Yg,OY,OY,A4R,A4R,A4S]
  rcases hx with hx|hx
  ·rw[if_pos hx]
   cases hf:KT (gE gs) x with
   |none=>simp
   |some c=>
    have hp:J3 gs x=c.ps:=by unfold J3;rw[hf]
    have this:∀q∈(cE c).ps,rz (gr (gs.filter λc=>f c.id)) m q=rz (gr gs) m q:= λq hq=>ih q (by
     by_cases hi:q∈gs.map Cd.id
     ·exact .inl (hc x q hx (by rw[hp];exact hq) hi)
     ·exact .inr hi)
    simp only[l0x,l0y]
    constructor
    ·rintro⟨d,rfl,h1,h2⟩
     exact⟨_,rfl,h1,λq hq=>by rw[←this q hq];exact h2 q hq⟩
    ·rintro⟨d,rfl,h1,h2⟩
     exact⟨_,rfl,h1,λq hq=>by rw[this q hq];exact h2 q hq⟩
  ·have h0:KT (gE gs) x=none:=Uq (by rw[A1L];exact hx)
   rw[h0]
   simp
def Pn (gs:List Cd) (s:EO) (l:List Cd):List Cd:=l.filter λc=>(λq=>decide (q=s)||decide (q∈Hz gs s)) c.id
theorem B8s:(λq=>decide (q=s)||decide (q∈Hz gs s)) s=true:=by simp
theorem B8t {q:EO} (h:Anc gs s q):(λq=>decide (q=s)||decide (q∈Hz gs s)) q=true:=by simp[Mg,h]
theorem B78 (h:(gs.map Cd.id).Nodup):Hz (Pn gs s gs) s=Hz gs s:=by
 have hn:((Pn gs s gs).map Cd.id).Nodup:=h.sublist ((List.filter_sublist).map _)
 refine Q6 ?_ A5a A5a
 refine(List.perm_ext_iff_of_nodup (A08 hn) (A08 h)).2 λq=> ?_
 rw[Mg,Mg]
 exact B8a B8s λq=>B8t
theorem C1K:rz (gr (Pn gs s gs)) (Pn gs s gs).length s=rz (gr gs) gs.length s:=by
 have e:∀(g:List Cd) x,rz (gr g) g.length x=true↔Rz (gr g) x:= λg x=>by rw[←C29 g];exact B5b.symm
 rw[Yg,e,e]
 have h:∀m,rz (gr (Pn gs s gs)) m s=rz (gr gs) m s:= λm=>by
  refine C19 (f:= λq=>decide (q=s)||decide (q∈Hz gs s)) (λy q hy hq hi=> ?_) m s (.inl B8s)
  refine B8t ?_
  simp only[l1d,decide_eq_true_eq,Mg] at hy
  rcases hy with rfl|hy
  ·exact .one hi hq
  ·exact .more hy hi hq
 exact⟨λ⟨m,hm⟩=>⟨m,h m▸hm⟩,λ⟨m,hm⟩=>⟨m,(h m).symm▸hm⟩⟩
theorem B74 (h:(gs.map Cd.id).Nodup) {i:Nat} (hi:i<gs.length):J3 gs gs[i].id=gs[i].ps:=by
 have h1:=B7I h hi
 rw[A4R] at h1
 unfold J3
 cases hf:KT (gE gs) gs[i].id with
 |none=>rw[hf] at h1;cases h1
 |some c=>
  rw[hf] at h1
  simp only[l0x,l0y] at h1
  exact congrArg Ce.ps h1
theorem C24 (h:(gs.map Cd.id).Nodup) {i k:Nat} (hi:i<gs.length) (hk:k<gs.length):gs[k].id=gs[i].id↔k=i:=by
 constructor
 ·intro e
  have hi':i<(gs.map Cd.id).length:=by rw[l1u];exact hi
  have hk':k<(gs.map Cd.id).length:=by rw[l1u];exact hk
  have e2:(gs.map Cd.id)[k]=(gs.map Cd.id)[i]:=by rw[l2i,l2i];exact e
  exact(List.getElem_inj h).1 e2
 ·intro e;subst e;rfl
end
structure Aw (R:Rt) (gs:List Cd) (a:AV):Prop where
 ok:GOk gs
 la:LA gs a
 bp:∀c∈gs,c.ps.length<100
 an:∀{s:EO} {H:Hp} {K:AV→Al},Ah R Cm [a,S s] H K=K (DO (Hz gs s))
 rl:∀{s:EO} {H:Hp} {K:AV→Al},Ah R CU [a,S s] H K=K (Bo (rz (gr gs) gs.length s))
 inn:∀{l:List EO} {p:EO} {H:Hp} {K:AV→Al},l.length<1000→Ah R Fm [DO l,S p] H K=K (Bo (decide (p∈l)))
 sm:∀{l:List EO} {H:Hp} {K:AV→Al},l.length<1000→Ah R Bq [DO l,DO l] H K=K (Bo true)
 al:∀{l:List Cd} {v:AV} {H:Hp},l.Sublist gs→B1 H Aj 68 v l.length (l.flatMap Cd.cs)→(∀{s:EO} {K:AV→Al},Ah R Cm [v,S s] H K=K (DO (Hz l s)))∧∀{s:EO} {K:AV→Al},Ah R CU [v,S s] H K=K (Bo (rz (gr l) l.length s))
section
variable {K:KV} {x:Al} {H:Hp} {gs:List Cd} {a w:AV} {i:Nat} {R:Rt}
theorem A3S {k:Nat} (hk:k<gs.length) {K:AV→Al}:B0 Ad (DO (gs.map Cd.id)) (I k) K=K (.iptr [S gs[k].id]):=by
 have hk':k<(gs.map Cd.id).length:=by rw[l1u];exact hk
 rw[(HV _).ia hk',l2i]
theorem C5v {k272:AV→AV→AV→AV→AV→AV→AV→AV→AV→AV→AV→Hp→Al} {d0 d1 d2 al:AV} {k:Nat} (h:Aw R gs a) (hi:i<gs.length) (hk:k<gs.length):
 ∀(f m:Nat) (b:Bool),m≤gs[i].ps.length→gs[i].ps.length-m<f→(∀m',k272 w a (DO (gs.map Cd.id)) (I i) al (I k) (Bo (b||(gs[i].ps.drop m).any λp=>decide (gs[k].id∈Hz gs p))) m' d0 d1 d2 H=x)→
 FF L R K k272 f w a (DO (gs.map Cd.id)) (I i) al (I k) (Bo b) (I m) d0 d1 d2 H=x:=by
 intro f
 induction f with
 |zero=>intro m b _ h;omega
 |succ f ih=>
  intro m b hm hf hx
  have hb:=h.bp _ (QS hi)
  have h8:=h.ok.len
  obtain⟨p,g1,g2⟩:=B4l gs[i] H
  rw[Qf]
  unfold Ib Bu Ar Ev
  rw[h.la.ia hi,g1,g2,UL]
  by_cases hml:m<gs[i].ps.length
  ·have ad:∀{K:AV→Al},Go.Abs.Ak Ab .add (I m) (.v (.int .i64 1)) K=K (I ((m+1:Nat):Int)):= λ{K}=>DS (by omega)
   rw[l11 hml,List.any_cons,←Bool.or_assoc] at hx
   have nx:=ih (m+1) _ (by omega) (by omega) hx
   have hin:∀{q:EO} {H:Hp} {K:AV→Al},Ah R Fm [DO (Hz gs q),S gs[k].id] H K=K (Bo (decide (gs[k].id∈Hz gs q))):= λ{q H K}=>h.inn (by have:=RR (gs:=gs) (s:=q);omega)
   rw[FW (by omega),Dn]
   cases b with
   |true=>
    rw[Bool.true_or] at nx
    simp only[gFT,Co,BJ,Wu]
    rw[ad]
    exact nx
   |false=>
    rw[Bool.false_or] at nx
    simp only[gT,Co,BJ,h.la.ia hi,g1,g2,(HV gs[i].ps).ia hml,FU,h.an,A3S hk,hin,Vk]
    rw[ad]
    exact nx
  ·have:m=gs[i].ps.length:=by omega
   subst this
   rw[List.drop_length,List.any_nil,Bool.or_false] at hx
   rw[FX (by omega),BD]
   exact hx _
theorem C5w {k223:AV→AV→AV→AV→AV→AV→AV→AV→AV→Hp→Al} (h:Aw R gs a) (hi:i<gs.length) (hL:1000<L)
 (hx:∀k' d0 d1 d2,k223 w a (DO (gs.map Cd.id)) (I i) (DO (Hz gs gs[i].id)) k' d0 d1 d2 H=x):
 ∀(f k:Nat) (d0 d1 d2 d3 d4:AV),k≤gs.length→gs.length-k<f→
 FG L R K k223 f w a (DO (gs.map Cd.id)) (I i) (DO (Hz gs gs[i].id)) (I k) d0 d1 d2 d3 d4 H=x:=by
 intro f
 induction f with
 |zero=>intro k d0 d1 d2 d3 d4 _ h;omega
 |succ f ih=>
  intro k d0 d1 d2 d3 d4 hk hf
  have hb:=h.bp _ (QS hi)
  have h8:=h.ok.len
  obtain⟨p,g1,g2⟩:=B4l gs[i] H
  rw[Qg]
  unfold Ic Ar CK
  rw[UL,l1u]
  by_cases hkl:k<gs.length
  ·have ad:∀{K:AV→Al},Go.Abs.Ak Ab .add (I k) (.v (.int .i64 1)) K=K (I ((k+1:Nat):Int)):= λ{K}=>DS (by omega)
   have hin:∀{H:Hp} {K:AV→Al},Ah R Fm [DO gs[i].ps,S gs[k].id] H K=K (Bo (decide (gs[k].id∈gs[i].ps))):= λ{H K}=>h.inn (by omega)
   have hin2:∀{H:Hp} {K:AV→Al},Ah R Fm [DO (Hz gs gs[i].id),S gs[k].id] H K=K (Bo (decide (gs[k].id∈Hz gs gs[i].id))):= λ{H K}=>h.inn (by have:=RR (gs:=gs) (s:=gs[i].id);omega)
   rw[FW (by omega),Dn]
   simp only[h.la.ia hi,g1,g2,BJ,A3S hkl,FU,hin,Cp]
   have e0:(AV.v (.int .i64 0))=I ((0:Nat):Int):=rfl
   rw[e0]
   refine C5v h hi hkl L 0 _ (by omega) (by omega) λm'=> ?_
   have e1:(decide (gs[k].id∈gs[i].ps)||(gs[i].ps.drop 0).any λp=>decide (gs[k].id∈Hz gs p))=decide (gs[k].id∈Hz gs gs[i].id):=by
    rw[l1n,Yg,l1d,decide_eq_true_eq,decide_eq_true_eq,List.any_eq_true,Mg,A9h,B74 h.ok.ids hi]
    simp only[decide_eq_true_eq,Mg]
    have hm:gs[k].id∈gs.map Cd.id:=l2a.2 ⟨_,QS hkl,rfl⟩
    exact⟨λhh=>⟨hm,hh⟩,λhh=>hh.2⟩
   rw[e1,A3S hkl,FU,hin2,C47,bne_self_eq_false,BD,ad]
   exact ih (k+1) _ _ _ _ _ (by omega) (by omega)
  ·have:k=gs.length:=by omega
   subst this
   rw[FX (by omega),BD]
   exact hx _ _ _ _
theorem C5x {k170:AV→AV→AV→AV→AV→AV→AV→AV→AV→AV→Hp→Al} {d1 d2 d3 d4:AV} (h:Aw R gs a) (hi:i<gs.length)
 (hx:∀v k' H,Wf H→B1 H Aj 68 v (Pn gs gs[i].id gs).length ((Pn gs gs[i].id gs).flatMap Cd.cs)→k170 w a (DO (gs.map Cd.id)) (I i) (DO (Hz gs gs[i].id)) d1 d2 d3 v k' H=x):
 ∀(f k:Nat) (v:AV) (H:Hp),k≤gs.length→gs.length-k<f→Wf H→B1 H Aj 68 v (Pn gs gs[i].id (gs.take k)).length ((Pn gs gs[i].id (gs.take k)).flatMap Cd.cs)→
 FH L R K k170 f w a (DO (gs.map Cd.id)) (I i) (DO (Hz gs gs[i].id)) d1 d2 d3 v (I k) d4 H=x:=by
 intro f
 induction f with
 |zero=>intro k v H _ h;omega
 |succ f ih=>
  intro k v H hk hf wf hs
  have h8:=h.ok.len
  rw[Qh]
  unfold XA3 Bu Ar Ev
  rw[h.la.len]
  by_cases hkl:k<gs.length
  ·have ad:∀{K:AV→Al},Go.Abs.Ak Ab .add (I k) (.v (.int .i64 1)) K=K (I ((k+1:Nat):Int)):= λ{K}=>DS (by omega)
   have hin2:∀{H:Hp} {K:AV→Al},Ah R Fm [DO (Hz gs gs[i].id),S gs[k].id] H K=K (Bo (decide (gs[k].id∈Hz gs gs[i].id))):= λ{H K}=>h.inn (by have:=RR (gs:=gs) (s:=gs[i].id);omega)
   have et:Pn gs gs[i].id (gs.take (k+1))=Pn gs gs[i].id (gs.take k)++Pn gs gs[i].id [gs[k]]:=by
    rw[l04 hkl]
    exact List.filter_append ..
   have hol:(Pn gs gs[i].id (gs.take k)).length≤8:=by
    have h1:=List.length_filter_le (λc=>(λq=>decide (q=gs[i].id)||decide (q∈Hz gs gs[i].id)) (Cd.id c)) (gs.take k)
    have h2:(gs.take k).length≤gs.length:=by rw[l0g];omega
    exact l1m h1 (by omega)
   have eq0:∀{K:AV→Al},Go.Abs.Ak Ab .eql (I (k:Int)) (I (i:Int)) K=K (Bo (decide (k=i))):= λ{K}=>by
    have e:decide ((k:Int)=(i:Int))=decide (k=i):=decide_eq_decide.2 (by omega)
    rw[Dz,e]
   have add:Pn gs gs[i].id [gs[k]]=[gs[k]]→∀{F:AV→Hp→Al},(∀v' H',Wf H'→B1 H' Aj 68 v' (Pn gs gs[i].id (gs.take (k+1))).length ((Pn gs gs[i].id (gs.take (k+1))).flatMap Cd.cs)→F v' H'=x)→(Fh Aj 68 Ac 1 [(0,68,.agg gs[k].cs)] H λv219 H220=>DN Aj 68 Ac AR v v219 H220 F)=x:= λeo F hF=>by
    obtain⟨v',H',a1,a2,a3,a4,a5,a6⟩:=A59 (ie:=Ac) (i2:=AR) (ys:=gs[k].cs) hs wf Ct JE (by decide) rfl (λ_=>rfl) (by show(_+1)*800≤_;omega) (by omega)
    rw[C5o Ct JE,a1]
    refine hF v' H' a3 ?_
    rw[et,eo,FA,l2g]
    have e2:[gs[k]].flatMap Cd.cs=gs[k].cs:=by simp
    rw[e2]
    exact a2
   rw[FW (by omega),Dn]
   simp only[Cp]
   rw[eq0]
   by_cases hki:k=i
   ·have eo:Pn gs gs[i].id [gs[k]]=[gs[k]]:=by
     subst hki
     simp[Pn]
    rw[decide_eq_true hki]
    simp only[gFT,Co,Wu]
    rw[Dn,h.la.ia hkl,Y0]
    refine add eo λv' H' w' s'=> ?_
    rw[ad]
    exact ih (k+1) v' H' (by omega) (by omega) w' s'
   ·rw[decide_eq_false hki]
    simp only[gT,Co,A3S hkl,FU,hin2,Vk]
    have hne:gs[k].id≠gs[i].id:= λe=>hki ((C24 h.ok.ids hi hkl).1 e)
    by_cases hm:gs[k].id∈Hz gs gs[i].id
    ·have eo:Pn gs gs[i].id [gs[k]]=[gs[k]]:=by simp[Pn,hm]
     rw[decide_eq_true hm,Dn,h.la.ia hkl,Y0]
     refine add eo λv' H' w' s'=> ?_
     rw[ad]
     exact ih (k+1) v' H' (by omega) (by omega) w' s'
    ·have eo:Pn gs gs[i].id [gs[k]]=[]:=by simp[Pn,hm,hne]
     rw[decide_eq_false hm,BD,ad]
     refine ih (k+1) v H (by omega) (by omega) wf ?_
     rw[et,eo,l1o]
     exact hs
  ·have:k=gs.length:=by omega
   subst this
   rw[l06] at hs
   rw[FX (by omega),BD]
   exact hx v _ H wf hs
theorem C5y {k109:AV→AV→AV→AV→AV→AV→AV→AV→AV→AV→AV→Hp→Al} {d1 d2 d3 d4 d5:AV} {s:EO} (h:Aw R gs a)
 (hx:∀k',k109 w a (DO (gs.map Cd.id)) (I i) (DO (Hz gs s)) d1 d2 d3 d4 d5 k' H=x):
 ∀(f k:Nat),k≤(Hz gs s).length→(Hz gs s).length-k<f→
 FI L R K k109 f w a (DO (gs.map Cd.id)) (I i) (DO (Hz gs s)) d1 d2 d3 d4 d5 (I k) H=x:=by
 intro f
 induction f with
 |zero=>intro k _ h;omega
 |succ f ih=>
  intro k hk hf
  have h8:=h.ok.len
  have hal:=RR (gs:=gs) (s:=s)
  rw[Qi]
  unfold Ie Ba Bu Ar Ev CK
  rw[UL]
  by_cases hl:k<(Hz gs s).length
  ·have ad:∀{K:AV→Al},Go.Abs.Ak Ab .add (I k) (.v (.int .i64 1)) K=K (I ((k+1:Nat):Int)):= λ{K}=>DS (by omega)
   have nx:=ih (k+1) (by omega) (by omega)
   have hm:(Hz gs s)[k]∈gs.map Cd.id:=(Mg.1 (QS hl)).ids
   have hin:∀{p:EO} {H:Hp} {K:AV→Al},Ah R Fm [DO (gs.map Cd.id),S p] H K=K (Bo (decide (p∈gs.map Cd.id))):= λ{p H K}=>h.inn (by rw[l1u];omega)
   have g:∀{K:AV→Al},Go.Abs.Ak Ab .gtr (I (k:Int)) (.v (.int .i64 0)) K=K (Bo (decide (0<k))):= λ{K}=>by
    rw[Ej]
    congr 3
    simp
   rw[FW (by omega),Dn]
   by_cases h0:0<k
   ·have sb:∀{K:AV→Al},Go.Abs.Ak Ab .sub (I k) (.v (.int .i64 1)) K=K (I ((k-1:Nat):Int)):= λ{K}=>C69 h0 (by omega)
    have lt:(Hz gs s)[k-1]<(Hz gs s)[k]:=(l20.1 (B8b h.ok.ids)) (k-1) k (by omega) hl (by omega)
    simp only[(HV _).ia hl,(HV _).ia (show k-1<(Hz gs s).length by omega),BJ,FU,hin,decide_eq_true hm,ntT,gTF,gT,gU,Co,Vk,Wu,g,decide_eq_true h0,sb,B1G,decide_eq_true lt,Bool.not_true]
    rw[BD,ad]
    exact nx
   ·simp only[(HV _).ia hl,BJ,FU,hin,decide_eq_true hm,ntT,gTF,gT,gU,Co,Vk,Wu,g,decide_eq_false h0]
    rw[BD,ad]
    exact nx
  ·have:k=(Hz gs s).length:=by omega
   subst this
   rw[FX (by omega),BD]
   exact hx _
theorem C5z {k7:AV→Hp→Al} (h:Aw R gs a) (hL:1000<L) (hx:∀H,k7 w H=x):
 ∀(f i:Nat) (d0 d1 d2 d3 d4 d5 d6:AV) (H:Hp),i≤gs.length→gs.length-i<f→Wf H→FJ L R K k7 f w a (DO (gs.map Cd.id)) (I i) d0 d1 d2 d3 d4 d5 d6 H=x:=by
 intro f
 induction f with
 |zero=>intro i d0 d1 d2 d3 d4 d5 d6 H _ h;omega
 |succ f ih=>
  intro i d0 d1 d2 d3 d4 d5 d6 H hi hf wf
  have h8:=h.ok.len
  rw[Qj]
  unfold Ig Bu Ar Ev CK
  rw[h.la.len]
  by_cases hl:i<gs.length
  ·have ad:∀{K:AV→Al},Go.Abs.Ak Ab .add (I i) (.v (.int .i64 1)) K=K (I ((i+1:Nat):Int)):= λ{K}=>DS (by omega)
   have e0:(AV.v (.int .i64 0))=I ((0:Nat):Int):=rfl
   have hal:=RR (gs:=gs) (s:=gs[i].id)
   rw[FW (by omega),Dn]
   simp only[Cp]
   rw[A3S hl,FU,h.an,e0]
   refine C5w h hl hL (λk' d0 d1 d2=> ?_) L 0 _ _ _ _ _ (by omega) (by omega)
   refine C5x h hl (λv k' H' w' s'=> ?_) L 0 AO H (by omega) (by omega) wf (.inl ⟨rfl,rfl,rfl⟩)
   obtain⟨hA,hR⟩:=h.al (l:=Pn gs gs[i].id gs) List.filter_sublist s'
   have hsm:∀{K:AV→Al},Ah R Bq [DO (Hz gs gs[i].id),DO (Hz gs gs[i].id)] H' K=K (Bo true):= λ{K}=>h.sm (by omega)
   simp only[A3S hl,FU,BJ,hA,B78 h.ok.ids,hsm,ntT,gT,Co,hR,C1K,h.rl,C47,bne_self_eq_false,Vk]
   rw[BD]
   refine C5y h (λk'=> ?_) L 0 (by omega) (by omega)
   rw[ad]
   exact ih (i+1) _ _ _ _ _ _ _ H' (by omega) (by omega) w'
  ·have:i=gs.length:=by omega
   subst this
   rw[FX (by omega),BD]
   exact hx _
end
section
variable {K:KV} {l:List EO}
theorem B6j {k6:Hp→Al} {x:Al} (hl:l.length<1000) (hx:∀H,k6 H=x):∀(f i:Nat) (H:Hp),i≤l.length→l.length-i<f→Hf (L+20) (rt (L+20) n) K k6 f (DO l) (DO l) (I i) H=x:=by
 intro f
 induction f with
 |zero=>intro i H _ h;omega
 |succ f ih=>
  intro i H hi hf
  rw[Sh]
  unfold J2 Ar CK
  rw[UL]
  by_cases h:i<l.length
  ·have ad:∀{K:AV→Al},Go.Abs.Ak Ab .add (I i) (.v (.int .i64 1)) K=K (I ((i+1:Nat):Int)):= λ{K}=>DS (by omega)
   rw[FW (by omega),Dn]
   simp only[(HV l).ia h,FU,BJ,UR,decide_true,Bool.not_true]
   rw[BD,ad]
   exact ih (i+1) H (by omega) (by omega)
  ·rw[FX (by omega),BD]
   exact hx H
theorem B9a (hl:l.length<1000) (hL:1000<L):CS (rt (L+20) (n+1)) Bq [DO l,DO l] (Bo true):=by
 intro K hK
 rw[Ts]
 unfold Kb Ar Ev CK
 have ne:∀{K:AV→Al},Go.Abs.Ak Ab .neq (I (l.length:Int)) (I (l.length:Int)) K=K (Bo false):= λ{K}=>by rw[GF,decide_eq_true rfl];rfl
 rw[UL,UL,ne,BD]
 simp only[Cp]
 have e0:(AV.v (.int .i64 0))=I ((0:Nat):Int):=rfl
 rw[e0]
 exact B6j (n:=n) hl (λH=>hK _ _ λb=>⟨false,Ed⟩) (L+20) 0 [] (by omega) (by omega)
end
end
section
variable {L n:Nat}
theorem C5s {gs:List Cd} {a:AV} (hL:40000<L) (hg:GOk gs) (hps:∀c∈gs,c.ps.length<100) (ha:LA gs a):Aw (rt (L+20) (n+81)) gs a:=by
 have hsl:∀{l:List Cd},l.Sublist gs→GOk l:= λ{l} h=>by
  refine⟨λc hc=>hg.ok c (h.mem hc),λc hc=>hg.nd c (h.mem hc),hg.ids.sublist (h.map _),?_⟩
  have:=h.length_le
  have:=hg.len
  omega
 have fs:∀{s:EO} {H:Hp},OM true depth [a,S s] [a,S s] H false:= λ{s H}=>A2 (q:=false) (by
  rcases ha with rfl|⟨_,rfl⟩
  ·exact OA
  ·exact Ed) (A2 (q:=false) Ed Bt)
 refine⟨hg,ha,hps,λ{s H K}=> ?_,λ{s H K}=> ?_,λ{l p H K} hl=> ?_,λ{l H K} hl=> ?_,λ{l v H} hl hs=> ?_⟩
 ·exact Bc (YB (L:=L) (n:=n+1) hg hL hps ha) fs
 ·exact Bc (V0 (L:=L) (n:=n+1) hg hL hps ha) fs
 ·exact Bc (C64 (n:=n+79) (HV l) hl (by omega)) (A2 ((HV l).fx H) (A2 (q:=false) Ed Bt))
 ·exact Bc (B9a (n:=n+80) hl (by omega)) (A2 ((HV l).fx H) (A2 ((HV l).fx H) Bt))
 ·have hgl:=hsl hl
  have hpl:∀c∈l,c.ps.length<100:= λc hc=>hps c (hl.mem hc)
  have hv:∃aL q,LA l aL∧∀s:EO,OM true depth [v,S s] [aL,S s] H q:=by
   rcases hs with⟨rfl,hz,_⟩|⟨r,q,rfl,hr,_⟩
   ·exact⟨AO,_,.inr ⟨l1s hz,rfl⟩,λs=>A2 (q:=false) Ed (A2 (q:=false) Ed Bt)⟩
   ·exact⟨_,_,.inl rfl,λs=>A2 (Vn (D:=depth-1) hr (B7L (λc=>Ct) _) (C2b (D:=depth-3) _)) (A2 (q:=false) Ed Bt)⟩
  obtain⟨aL,q,hLA,hFx⟩:=hv
  exact⟨λ{s K}=>Bc (YB (L:=L) (n:=n+1) hgl hL hpl hLA) (hFx s),λ{s K}=>Bc (V0 (L:=L) (n:=n+1) hgl hL hpl hLA) (hFx s)⟩
theorem B9d {xs:List Y7} {a0:AV} {K:KV} (hL:40000<L) (hx:XA xs a0) (hok:∀y∈xs,y.Ok)
 (hK:∀H0,K (Bo true) H0=some (Bo true,[])):(rt (L+20) (n+82)).call LY [a0] [] K=some (Bo true,[]):=by
 rw[QM]
 unfold I4 Ar
 obtain⟨hg,hlen⟩:=B4a xs (min 8 xs.length) (by omega)
 have hx0:Fx true depth a0 a0 [] false:=by
  rcases hx with rfl|⟨_,rfl⟩
  ·exact OA
  ·exact Ed
 rw[Bc (C16 (n:=n) hL) Bt,IK (B3k (n:=n+16) hL hx hok) (A2 hx0 Bt)]
 generalize NV xs (min 8 xs.length)=gs at hg hlen
 have ha:=B7e gs
 have h8:=hg.len
 have hps:∀c∈gs,c.ps.length<100:= λc hc=>by have:=B4Q (hg.ok c hc);omega
 have hi:∀{H:Hp} {K},Ah (rt (L+20) (n+81)) Il [B3N gs] H K=K (DO (gs.map Cd.id)):= λ{H K}=>Bc (B3p (L:=L) (n:=n+16) (λc hc=>⟨hg.ok c hc,hg.nd c hc⟩) (by omega) hL ha) (A2 (ha.fx H) Bt)
 rw[hi]
 simp only[Cp]
 have e0:(AV.v (.int .i64 0))=I ((0:Nat):Int):=rfl
 rw[e0]
 exact C5z (C5s (n:=n) hL hg hps ha) (by omega) (λH=>hK H) (L+20) 0 _ _ _ _ _ _ _ [] (by omega) (by omega) Fv
end
section
variable {L n:Nat}
end
end Go.Abs
end
noncomputable section
namespace Go.Proofs
open Go.Shelf
def Tryz.lays156_ren:Go.Shelf.Ren:=⟨λ|156=>198|165=>252|166=>193|169=>146|240=>250|241=>278|276=>276|277=>313|n=>n,λ|31=>26|9=>9|3=>3|4=>4|0=>0|20=>20|72=>193|76=>242|70=>191|37=>129|75=>241|127=>249|164=>317|5=>5|80=>200|n=>n,λ|n=>n⟩
theorem Tryz.lays156:Go.Proofs.Lays.n156 Tryz.prog Tryz.lays156_ren:={
 mixed:=by kernel_rfl
 f156:=Tryz.func198.trans (congrArg some (by kernel_rfl))
 f165:=Tryz.func252.trans (congrArg some (by kernel_rfl))
 f166:=Tryz.func193.trans (congrArg some (by kernel_rfl))
 f169:=Tryz.func146.trans (congrArg some (by kernel_rfl))
 f240:=Tryz.func250.trans (congrArg some (by kernel_rfl))
 f241:=Tryz.func278.trans (congrArg some (by kernel_rfl))
 f276:=Tryz.func276.trans (congrArg some (by kernel_rfl))
 f277:=Tryz.func313.trans (congrArg some (by kernel_rfl))
 t0:=Tryz.underlying0
 a0:=Tryz.isAgg0
 z0:=Tryz.sizeOf0
 v0:=Tryz.zeroValue0
 t3:=Tryz.underlying3
 a3:=Tryz.isAgg3
 z3:=Tryz.sizeOf3
 v3:=Tryz.zeroValue3
 t4:=Tryz.underlying4
 a4:=Tryz.isAgg4
 z4:=Tryz.sizeOf4
 v4:=Tryz.zeroValue4
 t9:=Tryz.underlying9
 a9:=Tryz.isAgg9
 z9:=Tryz.sizeOf9
 v9:=Tryz.zeroValue9
 t20:=Tryz.underlying20
 a20:=Tryz.isAgg20
 z20:=Tryz.sizeOf20
 v20:=Tryz.zeroValue20
 t31:=Tryz.underlying26
 a31:=Tryz.isAgg26
 z31:=Tryz.sizeOf26
 v31:=Tryz.zeroValue26
 t37:=Tryz.underlying129
 a37:=Tryz.isAgg129
 z37:=Tryz.sizeOf129
 v37:=Tryz.zeroValue129
 t70:=Tryz.underlying191
 a70:=Tryz.isAgg191
 z70:=Tryz.sizeOf191
 v70:=Tryz.zeroValue191
 t72:=Tryz.underlying193
 a72:=Tryz.isAgg193
 z72:=Tryz.sizeOf193
 v72:=Tryz.zeroValue193
 t75:=Tryz.underlying241
 a75:=Tryz.isAgg241
 z75:=Tryz.sizeOf241
 v75:=Tryz.zeroValue241
 t76:=Tryz.underlying242
 a76:=Tryz.isAgg242
 z76:=Tryz.sizeOf242
 v76:=Tryz.zeroValue242
 t127:=Tryz.underlying249
 a127:=Tryz.isAgg249
 z127:=Tryz.sizeOf249
 v127:=Tryz.zeroValue249
 t164:=Tryz.underlying317
 a164:=Tryz.isAgg317
 z164:=Tryz.sizeOf317
 v164:=Tryz.zeroValue317}
theorem Tryz.Builder_Extra_156:Builder.Extra Tryz.prog Tryz.lays156_ren:={
 sizeBuilder:=by kernel_rfl
 liesBuilder:=by kernel_rfl
 t5:=Tryz.underlying5
 a5:=Tryz.isAgg5
 z5:=Tryz.sizeOf5
 v5:=Tryz.zeroValue5
 infoByte:=by kernel_rfl
 cellsByte:=by kernel_rfl
 sizeByte:=by kernel_rfl
 neB5:=by decide}
open Go.RowKit in
theorem Tryz.strings_Join_none (a:Option Addr) (c:Nat) (sep:ByteArray) (w:World):
 Calls Tryz.prog 198 #[.slice a 0 c,.string sep] w λe w'=>e= .returned (.string ⟨#[]⟩)∧w'=w:=Any.strings_Join_none Tryz.lays156 Tryz.Builder_Extra_156 a c sep w
open Go.RowKit in
theorem Tryz.strings_Join (bk o c:Nat) (xs:List ByteArray) (sep:ByteArray) (w:World) (hcells:∀(j:Nat) x,xs[j]?=some x→w.cell? ⟨bk,o+j,none⟩=some (.string x)) (hbk:bk<w.heap.size) (hN:xs.length≤140737488355328) (hcap:xs.length≤c) (hlen:(Lib.join (xs.map (·.data.toList)) sep.data.toList).length≤140737488355328):
 Calls Tryz.prog 198 #[.slice (some ⟨bk,o,none⟩) xs.length c,.string sep] w λe w'=>e= .returned (.string ⟨(Lib.join (xs.map (·.data.toList)) sep.data.toList).toArray⟩)∧Below w.heap.size w w':=Any.strings_Join Tryz.lays156 Tryz.Builder_Extra_156 bk o c xs sep w hcells hbk hN hcap hlen
def Tryz.lays190_ren:Go.Shelf.Ren:=⟨λ|190=>93|125=>74|258=>151|128=>121|129=>122|302=>204|303=>205|304=>206|305=>207|306=>208|307=>209|308=>210|309=>211|310=>212|333=>256|329=>168|330=>169|334=>257|335=>258|336=>123|344=>294|n=>n,λ|31=>26|9=>9|3=>3|46=>132|0=>0|51=>127|53=>158|4=>4|183=>173|182=>172|131=>177|5=>5|218=>224|222=>228|228=>262|229=>263|n=>n,λ|n=>n⟩
theorem Tryz.lays190:Go.Proofs.Lays.n190 Tryz.prog Tryz.lays190_ren:={
 mixed:=by kernel_rfl
 f125:=Tryz.func74.trans (congrArg some (by kernel_rfl))
 f128:=Tryz.func121.trans (congrArg some (by kernel_rfl))
 f129:=Tryz.func122.trans (congrArg some (by kernel_rfl))
 f190:=Tryz.func93.trans (congrArg some (by kernel_rfl))
 f258:=Tryz.func151.trans (congrArg some (by kernel_rfl))
 f302:=Tryz.func204.trans (congrArg some (by kernel_rfl))
 f303:=Tryz.func205.trans (congrArg some (by kernel_rfl))
 f304:=Tryz.func206.trans (congrArg some (by kernel_rfl))
 f305:=Tryz.func207.trans (congrArg some (by kernel_rfl))
 f306:=Tryz.func208.trans (congrArg some (by kernel_rfl))
 f307:=Tryz.func209.trans (congrArg some (by kernel_rfl))
 f308:=Tryz.func210.trans (congrArg some (by kernel_rfl))
 f309:=Tryz.func211.trans (congrArg some (by kernel_rfl))
 f310:=Tryz.func212.trans (congrArg some (by kernel_rfl))
 f329:=Tryz.func168.trans (congrArg some (by kernel_rfl))
 f330:=Tryz.func169.trans (congrArg some (by kernel_rfl))
 f333:=Tryz.func256.trans (congrArg some (by kernel_rfl))
 f334:=Tryz.func257.trans (congrArg some (by kernel_rfl))
 f335:=Tryz.func258.trans (congrArg some (by kernel_rfl))
 f336:=Tryz.func123.trans (congrArg some (by kernel_rfl))
 f344:=Tryz.func294.trans (congrArg some (by kernel_rfl))
 t0:=Tryz.underlying0
 a0:=Tryz.isAgg0
 z0:=Tryz.sizeOf0
 v0:=Tryz.zeroValue0
 t3:=Tryz.underlying3
 a3:=Tryz.isAgg3
 z3:=Tryz.sizeOf3
 v3:=Tryz.zeroValue3
 t4:=Tryz.underlying4
 a4:=Tryz.isAgg4
 z4:=Tryz.sizeOf4
 v4:=Tryz.zeroValue4
 t5:=Tryz.underlying5
 a5:=Tryz.isAgg5
 z5:=Tryz.sizeOf5
 v5:=Tryz.zeroValue5
 t9:=Tryz.underlying9
 a9:=Tryz.isAgg9
 z9:=Tryz.sizeOf9
 v9:=Tryz.zeroValue9
 t31:=Tryz.underlying26
 a31:=Tryz.isAgg26
 z31:=Tryz.sizeOf26
 v31:=Tryz.zeroValue26
 t46:=Tryz.underlying132
 a46:=Tryz.isAgg132
 z46:=Tryz.sizeOf132
 v46:=Tryz.zeroValue132
 t51:=Tryz.underlying127
 a51:=Tryz.isAgg127
 z51:=Tryz.sizeOf127
 v51:=Tryz.zeroValue127
 t53:=Tryz.underlying158
 a53:=Tryz.isAgg158
 z53:=Tryz.sizeOf158
 v53:=Tryz.zeroValue158
 t131:=Tryz.underlying177
 a131:=Tryz.isAgg177
 z131:=Tryz.sizeOf177
 v131:=Tryz.zeroValue177
 t182:=Tryz.underlying172
 a182:=Tryz.isAgg172
 z182:=Tryz.sizeOf172
 v182:=Tryz.zeroValue172
 t183:=Tryz.underlying173
 a183:=Tryz.isAgg173
 z183:=Tryz.sizeOf173
 v183:=Tryz.zeroValue173
 t218:=Tryz.underlying224
 a218:=Tryz.isAgg224
 z218:=Tryz.sizeOf224
 v218:=Tryz.zeroValue224
 t222:=Tryz.underlying228
 a222:=Tryz.isAgg228
 z222:=Tryz.sizeOf228
 v222:=Tryz.zeroValue228
 t228:=Tryz.underlying262
 a228:=Tryz.isAgg262
 z228:=Tryz.sizeOf262
 v228:=Tryz.zeroValue262
 t229:=Tryz.underlying263
 a229:=Tryz.isAgg263
 z229:=Tryz.sizeOf263
 v229:=Tryz.zeroValue263}
open Go.Sort Go.RowKit in
theorem Tryz.slices_Sort_string (blk off cap:Nat) (ss:List (List UInt8)) (w:World) (hH:Holds encStr w blk off ss.toArray) (hblk:blk<w.heap.size) (hsz:ss.length<4611686018427387904):
 Calls Tryz.prog 93 #[.slice (some ⟨blk,off,none⟩) ss.length cap] w λe w'=>
  e= .returned (.tuple #[])∧∃n os,w'=grow (putRow encStr (Sort.ahead w n) blk off (ss.mergeSort λx y=>decide (x≤y)).toArray) os:=Any.slices_Sort_string Tryz.lays190 blk off cap ss w hH hblk hsz
def Tryz.lays105_ren:Go.Shelf.Ren:=⟨λ|105=>330|212=>366|99=>367|165=>252|166=>193|170=>145|169=>146|263=>384|264=>385|206=>377|240=>250|241=>278|276=>276|277=>313|n=>n,λ|9=>9|3=>3|4=>4|20=>20|0=>0|46=>132|109=>380|5=>5|72=>193|76=>242|51=>127|146=>393|53=>158|148=>395|70=>191|37=>129|75=>241|127=>249|164=>317|80=>200|n=>n,λ|n=>n⟩
theorem Tryz.lays105:Go.Proofs.Lays.n105 Tryz.prog Tryz.lays105_ren:={
 mixed:=by kernel_rfl
 f99:=Tryz.func367.trans (congrArg some (by kernel_rfl))
 f105:=Tryz.func330.trans (congrArg some (by kernel_rfl))
 f165:=Tryz.func252.trans (congrArg some (by kernel_rfl))
 f166:=Tryz.func193.trans (congrArg some (by kernel_rfl))
 f169:=Tryz.func146.trans (congrArg some (by kernel_rfl))
 f170:=Tryz.func145.trans (congrArg some (by kernel_rfl))
 f206:=Tryz.func377.trans (congrArg some (by kernel_rfl))
 f212:=Tryz.func366.trans (congrArg some (by kernel_rfl))
 f240:=Tryz.func250.trans (congrArg some (by kernel_rfl))
 f241:=Tryz.func278.trans (congrArg some (by kernel_rfl))
 f263:=Tryz.func384.trans (congrArg some (by kernel_rfl))
 f264:=Tryz.func385.trans (congrArg some (by kernel_rfl))
 f276:=Tryz.func276.trans (congrArg some (by kernel_rfl))
 f277:=Tryz.func313.trans (congrArg some (by kernel_rfl))
 t0:=Tryz.underlying0
 a0:=Tryz.isAgg0
 z0:=Tryz.sizeOf0
 v0:=Tryz.zeroValue0
 t3:=Tryz.underlying3
 a3:=Tryz.isAgg3
 z3:=Tryz.sizeOf3
 v3:=Tryz.zeroValue3
 t4:=Tryz.underlying4
 a4:=Tryz.isAgg4
 z4:=Tryz.sizeOf4
 v4:=Tryz.zeroValue4
 t5:=Tryz.underlying5
 a5:=Tryz.isAgg5
 z5:=Tryz.sizeOf5
 v5:=Tryz.zeroValue5
 t9:=Tryz.underlying9
 a9:=Tryz.isAgg9
 z9:=Tryz.sizeOf9
 v9:=Tryz.zeroValue9
 t20:=Tryz.underlying20
 a20:=Tryz.isAgg20
 z20:=Tryz.sizeOf20
 v20:=Tryz.zeroValue20
 t37:=Tryz.underlying129
 a37:=Tryz.isAgg129
 z37:=Tryz.sizeOf129
 v37:=Tryz.zeroValue129
 t46:=Tryz.underlying132
 a46:=Tryz.isAgg132
 z46:=Tryz.sizeOf132
 v46:=Tryz.zeroValue132
 t51:=Tryz.underlying127
 a51:=Tryz.isAgg127
 z51:=Tryz.sizeOf127
 v51:=Tryz.zeroValue127
 t53:=Tryz.underlying158
 a53:=Tryz.isAgg158
 z53:=Tryz.sizeOf158
 v53:=Tryz.zeroValue158
 t70:=Tryz.underlying191
 a70:=Tryz.isAgg191
 z70:=Tryz.sizeOf191
 v70:=Tryz.zeroValue191
 t72:=Tryz.underlying193
 a72:=Tryz.isAgg193
 z72:=Tryz.sizeOf193
 v72:=Tryz.zeroValue193
 t75:=Tryz.underlying241
 a75:=Tryz.isAgg241
 z75:=Tryz.sizeOf241
 v75:=Tryz.zeroValue241
 t76:=Tryz.underlying242
 a76:=Tryz.isAgg242
 z76:=Tryz.sizeOf242
 v76:=Tryz.zeroValue242
 t109:=Tryz.underlying380
 a109:=Tryz.isAgg380
 z109:=Tryz.sizeOf380
 v109:=Tryz.zeroValue380
 t127:=Tryz.underlying249
 a127:=Tryz.isAgg249
 z127:=Tryz.sizeOf249
 v127:=Tryz.zeroValue249
 t146:=Tryz.underlying393
 a146:=Tryz.isAgg393
 z146:=Tryz.sizeOf393
 v146:=Tryz.zeroValue393
 t148:=Tryz.underlying395
 a148:=Tryz.isAgg395
 z148:=Tryz.sizeOf395
 v148:=Tryz.zeroValue395
 t164:=Tryz.underlying317
 a164:=Tryz.isAgg317
 z164:=Tryz.sizeOf317
 v164:=Tryz.zeroValue317}
theorem Tryz.Builder_Extra_105:Builder.Extra Tryz.prog Tryz.lays105_ren:={
 sizeBuilder:=by kernel_rfl
 liesBuilder:=by kernel_rfl
 t5:=Tryz.underlying5
 a5:=Tryz.isAgg5
 z5:=Tryz.sizeOf5
 v5:=Tryz.zeroValue5
 infoByte:=by kernel_rfl
 cellsByte:=by kernel_rfl
 sizeByte:=by kernel_rfl
 neB5:=by decide}
open Go.RowKit Go.Lib in
theorem Tryz.strings_Repeat (s:ByteArray) (c:Nat) (w:World) (hc:c≤9223372036854775807) (hlen:s.size*c≤140737488355328):
 Calls Tryz.prog 330 #[.string s,.int .i64 c] w λe w'=>e= .returned (.string ⟨(Lib.repeatL s.data.toList c).toArray⟩)∧Below w.heap.size w w':=Any.strings_Repeat Tryz.lays105 Tryz.Builder_Extra_105 s c w hc hlen
end Go.Proofs
end
