import Derived.Shelf.Strings.OnBuilder
import Derived.Shelf.Strings.Repeat
import Derived.Shelf.Sort.Plain
import Derived.Test.YtlbhdmbfdcohhaaGreatDoorProg
import Derived.Test.YtlbhdmbfdcohhaaGreatDoorP17
import Derived.Test.YtlbhdmbfdcohhaaGreatDoorP18
import Derived.Test.YtlbhdmbfdcohhaaGreatDoorP48
import Derived.Test.YtlbhdmbfdcohhaaGreatDoorP49
set_option linter.all false
set_option maxHeartbeats 100000000
noncomputable section
namespace Go.Abs
open Go.RowKit Go.Proofs
set_option maxRecDepth 100000
section
variable {L n:Nat}
def A8U:AV:= .list 2 (IV.cs++TL.cs)
theorem A5p:LA [IV,TL] A8U:= .inl (by
 show AV.list 2 _=AV.list 2 ([IV,TL].flatMap Cd.cs)
 simp)
section
variable {K:AV→Am} {H:Hp}
theorem C5A:QZ 68 Ac 2 [(0,68,.agg IV.cs),(68,68,.agg TL.cs)] K=K A8U:=by kernel_rfl
theorem C5B:QZ 68 Ac 2 [(0,68,.agg IV.cs),(68,68,.agg IV.cs)] K=K B2Z:=by kernel_rfl
theorem bf4:QZ 68 Ac 4 [(0,68,.agg scD.cs),(68,68,.agg V3.cs),(136,68,.agg TL.cs),(204,68,.agg IV.cs)] K=K L7:=by kernel_rfl
theorem bf3:QZ 68 Ac 3 [(0,68,.agg IV.cs),(68,68,.agg TL.cs),(136,68,.agg scE.cs)] K=K B2Y:=by kernel_rfl
theorem C5z {a:List UInt8}:QZ 1 Ad 1 [(0,1,S a)] K=K (FQ [a]):=by kernel_rfl
theorem C4j {a b:List UInt8}:QZ 1 Ad 2 [(0,1,S a),(1,1,S b)] K=K (FQ [a,b]):=by kernel_rfl
theorem C5y {a b c d:List UInt8}:QZ 1 Ad 4 [(0,1,S a),(1,1,S b),(2,1,S c),(3,1,S d)] K=K (FQ [a,b,c,d]):=by kernel_rfl
theorem ix0 {a:List UInt8} {l:List (List UInt8)}:B1 Ae (FQ (a::l)) (.v (.int .i64 0)) K=K (.iptr [S a]):=by
 have:=(Gp (a::l)).ia (K:=K) (i:=0) (by simp)
 exact this
theorem ix1 {a b:List UInt8} {l:List (List UInt8)}:B1 Ae (FQ (a::b::l)) (.v (.int .i64 1)) K=K (.iptr [S b]):=by
 have:=(Gp (a::b::l)).ia (K:=K) (i:=1) (by simp)
 exact this
theorem mmT:eMM true (S lA) (S lB) K=K (S lB):=by kernel_rfl
theorem mmF:eMM false (S lA) (S lB) K=K (S lA):=by kernel_rfl
theorem ln2 {a b:List UInt8}:AM Ae (FQ [a,b]) K=K (.v (.int .i64 2)):=id rfl
theorem ln3 {a b c:List UInt8}:AM Ae (FQ [a,b,c]) K=K (.v (.int .i64 3)):=id rfl
theorem lnp {l:List AV}:AM Jn (.list 1 l) K=K (.v (.int .i64 1)):=id rfl
theorem C52:Go.Abs.Aj Ab .neq (.v (.int .i64 2)) (.v (.int .i64 2)) K=K (Bo false):=by kernel_rfl
theorem C53:Go.Abs.Aj Ab .neq (.v (.int .i64 1)) (.v (.int .i64 1)) K=K (Bo false):=by kernel_rfl
theorem C5o:Go.Abs.Aj Ab .eql (.v (.int .i64 3)) (.v (.int .i64 3)) K=K (Bo true):=by kernel_rfl
theorem C5p:Go.Abs.Aj Ab .eql (I 0) (.v (.int .i64 0)) K=K (Bo true):=by kernel_rfl
end
theorem C04 (hL:40000<L):CS (rt (L+20) (n+81)) Sd [] (Bo true):=by
 intro K hK
 have c1:∀{H K},Ah (rt (L+20) (n+80)) DB [(.v (.int .i64 1))] H K=K (.agg IV.cs):= λ{H K}=>IN (A8C (n:=n+35) (k:=1) hL (by decide) (by decide) B22) (Ay (q:=false) E1 Bl)
 have c2:∀{H K},Ah (rt (L+20) (n+80)) DB [(.v (.int .i64 2))] H K=K (.agg TL.cs):= λ{H K}=>IN (A8C (n:=n+35) (k:=2) hL (by decide) (by decide) B21) (Ay (q:=false) E1 Bl)
 have cI2:∀{H K},Ah (rt (L+20) (n+80)) GG [A8U] H K=K (FQ [lA,lB]):= λ{H K}=>by
  have h:=A8H (L:=L) (n:=n+15) (gs:=[IV,TL]) (a:=A8U) (by
   intro c hc
   simp only[XQ,List.not_mem_nil,or_false] at hc
   rcases hc with rfl|rfl
   ·exact⟨A3r,show([]:List (List UInt8)).Nodup by decide⟩
   ·exact⟨A3q,show([]:List (List UInt8)).Nodup by decide⟩) (by decide) hL A5p
  rw[show([IV,TL].map Cd.id)=[lA,lB] by simp[UH,UG]] at h
  exact AZ h (Ay (A5p.fx H) Bl)
 have cI4:∀{H K},Ah (rt (L+20) (n+80)) GG [L7] H K=K (FQ [lD,lC,lB,lA]):= λ{H K}=>by
  have h:=A8H (L:=L) (n:=n+15) (gs:=gs4) (a:=L7) (λc hc=>⟨A0J.ok c hc,A0J.nd c hc⟩) (by decide) hL RR
  rw[show(gs4.map Cd.id)=[lD,lC,lB,lA] by simp[gs4,UH,UG,ZN,A3s]] at h
  exact AZ h (Ay (RR.fx H) Bl)
 have cC:∀{H K},Ah (rt (L+20) (n+80)) EB [(.v (.int .i64 3)),FQ [lA,lB]] H K=K (.agg V3.cs):= λ{H K}=>IN (A8D (n:=n+35) (k:=3) hL (by decide) (by decide) (l:=[lA,lB]) rfl (by simp[lA,lB]) B20) (Ay (q:=false) E1 (Ay ((Gp _).fx H) Bl))
 have cD:∀{H K},Ah (rt (L+20) (n+80)) EB [(.v (.int .i64 4)),FQ [lC,lM]] H K=K (.agg scD.cs):= λ{H K}=>IN (A8D (n:=n+35) (k:=4) hL (by decide) (by decide) (l:=[lC,lM]) rfl (by simp[lC,lM]) B1Z) (Ay (q:=false) E1 (Ay ((Gp _).fx H) Bl))
 have cP:∀{H K},Ah (rt (L+20) (n+80)) Fm [(.v (.int .i64 77))] H K=K (S lM):= λ{H K}=>by
  rw[←C3k];exact A07 (n:=n+60) hL (by decide) (by decide) H K
 have cID:∀{H K},Ah (rt (L+20) (n+80)) Gb [.agg V3.cs] H K=K (S lC):= λ{H K}=>by
  rw[←ZN];exact AZ (A8b (n:=n+16) hL B1X (show[lA,lB].Nodup by decide)) (XX H)
 have f4:∀{H},Py true depth [L7] [L7] H false:= λ{H}=>Ay (RR.fx H) Bl
 have f4s:∀{H} {s:List UInt8},Py true depth [L7,S s] [L7,S s] H false:= λ{H s}=>Ay (RR.fx H) (Ay (q:=false) E1 Bl)
 have fss:∀{H} {a b:List (List UInt8)},Py true depth [FQ a,FQ b] [FQ a,FQ b] H false:= λ{H a b}=>Ay ((Gp a).fx H) (Ay ((Gp b).fx H) Bl)
 have cO:∀{H K},Ah (rt (L+20) (n+80)) MI [L7] H K=K (.tup [FQ [lB,lA,lC,lD],I 0]):= λ{H K}=>F4 (B5p (n:=n+15) hL) f4
 have cF:∀{H K},Ah (rt (L+20) (n+80)) MK [B2Y] H K=K (.list 1 [S lE,S lB]):= λ{H K}=>F4 (B5s (n:=n+15) hL) (Ay (A3M.fx H) Bl)
 have cFc:∀{H K},Ah (rt (L+20) (n+80)) Ib [L7,S lC] H K=K (.tup [.agg V3.cs,Bo true]):= λ{H K}=>F4 (B5u (n:=n+15) hL) f4s
 have cFm:∀{H K},Ah (rt (L+20) (n+80)) Ib [L7,S lM] H K=K (.tup [.agg B8,Bo false]):= λ{H K}=>F4 (B5t (n:=n+15) hL) f4s
 have cM:∀{H K},Ah (rt (L+20) (n+80)) JX [L7] H K=K (FQ [lM]):= λ{H K}=>F4 (B02 (n:=n+15) hL) f4
 have cH:∀{H K},Ah (rt (L+20) (n+80)) MJ [L7] H K=K (FQ [lD]):= λ{H K}=>F4 (B5r (n:=n+15) hL) f4
 have cAc:∀{H K},Ah (rt (L+20) (n+80)) E8 [L7,S lC] H K=K (FQ [lB,lA]):= λ{H K}=>F4 (C2H (n:=n+15) hL) f4s
 have cAd:∀{H K},Ah (rt (L+20) (n+80)) E8 [L7,S lD] H K=K (FQ [lB,lC,lA]):= λ{H K}=>F4 (C2G (n:=n+15) hL) f4s
 have cV:∀{H K},Ah (rt (L+20) (n+80)) Hd [L7] H K=K (Bo true):= λ{H K}=>F4 (B5n (n:=n+15) hL) f4
 have cV2:∀{H K},Ah (rt (L+20) (n+80)) Hd [B2Z] H K=K (Bo false):= λ{H K}=>F4 (B23 (n:=n+15) hL) (Ay (A3N.fx H) Bl)
 have cS:∀{H K},Ah (rt (L+20) (n+80)) Ks [.agg V3.cs,.agg V3.cs] H K=K (Bo true):= λ{H K}=>F4 (C05 (n:=n+15)) (Ay (A4a (D:=depth-3)) (Ay (A4a (D:=depth-3)) Bl))
 have s1:∀{H K},Ah (rt (L+20) (n+80)) BS [FQ [lM],FQ [lM]] H K=K (Bo true):= λ{H K}=>F4 (C2F (n:=n+78)) fss
 have s2:∀{H K},Ah (rt (L+20) (n+80)) BS [FQ [lD],FQ [lD]] H K=K (Bo true):= λ{H K}=>F4 (C2E (n:=n+78)) fss
 have s3:∀{H K},Ah (rt (L+20) (n+80)) BS [FQ [lB,lA],FQ [lB,lA]] H K=K (Bo true):= λ{H K}=>F4 (C2D (n:=n+78)) fss
 have s4:∀{H K},Ah (rt (L+20) (n+80)) BS [FQ [lB,lA,lC,lD],FQ [lB,lA,lC,lD]] H K=K (Bo true):= λ{H K}=>F4 (C2C (n:=n+78)) fss
 have egr:gr gs4=[(lD,cE scD),(lC,cE V3),(lB,cE TL),(lA,cE IV)]:=by simp[gr,gs4,UH,UG,ZN,A3s]
 have hps:∀c∈gs4,c.ps.length<100:= λc hc=>by have:=B41 (A0J.ok c hc);omega
 have cR:∀{s:List UInt8} {H K},Ah (rt (L+20) (n+80)) Bz [L7,S s] H K=K (Bo (rz [(lD,cE scD),(lC,cE V3),(lB,cE TL),(lA,cE IV)] 4 s)):= λ{s H K}=>by
  have:=UB (L:=L) (n:=n) (s:=s) A0J hL hps RR
  rw[egr] at this
  exact AZ this f4s
 have r1:rz [(lD,cE scD),(lC,cE V3),(lB,cE TL),(lA,cE IV)] 4 lC=true:=by decide
 have r2:rz [(lD,cE scD),(lC,cE V3),(lB,cE TL),(lA,cE IV)] 4 lD=false:=by decide
 have cR1:∀{H K},Ah (rt (L+20) (n+80)) Bz [L7,S lC] H K=K (Bo true):= λ{H K}=>by rw[cR,r1]
 have cR2:∀{H K},Ah (rt (L+20) (n+80)) Bz [L7,S lD] H K=K (Bo false):= λ{H K}=>by rw[cR,r2]
 clear cR r1 r2 egr hps f4 f4s fss
 rw[A0t]
 unfold RH AR Bu Aq DW Cz
 obtain⟨H1,e1,ra1,w1, -⟩:=DZ (e:=Ak) (zs:=B8) (vs:=IV.cs) Fw Cc
 rw[c1,Ba (cs:=B8) rfl,B0 (cs:=B8) (vs:=IV.cs) (A0 (by simp)) Cc rfl J9,←e1]
 generalize A7 []=a at ra1
 obtain⟨H2,e2,rb2,w2,k2⟩:=DZ (e:=Ak) (zs:=B8) (vs:=TL.cs) w1 Cc
 rw[c2,Ba (cs:=B8) rfl,B0 (cs:=B8) (vs:=TL.cs) (A0 (by simp)) Cc rfl J9,←e2]
 have ra2:=(k2 _ _ ra1).1
 generalize A7 H1=b at rb2
 clear e1 e2 k2 ra1 w1
 rw[Bf rfl Cc.symm ra2,Bf rfl Cc.symm rb2,C5A,cI2]
 simp only[ix0,ix1,F3,mmT,mmF,BK]
 obtain⟨H3,e3,rc3,w3,k3⟩:=DZ (e:=Ak) (zs:=B8) (vs:=V3.cs) w2 Cc
 rw[cC,Ba (cs:=B8) rfl,B0 (cs:=B8) (vs:=V3.cs) (A0 (by simp)) Cc rfl J9,←e3]
 have ra3:=(k3 _ _ ra2).1
 have rb3:=(k3 _ _ rb2).1
 generalize A7 H2=c at rc3
 clear e3 k3 ra2 rb2 w2
 rw[cP,Bf rfl Cc.symm rc3,cID,C4j,cD]
 obtain⟨H4,e4,rd4,w4,k4⟩:=DZ (e:=Ak) (zs:=B8) (vs:=scD.cs) w3 Cc
 rw[Ba (cs:=B8) rfl,B0 (cs:=B8) (vs:=scD.cs) (A0 (by simp)) Cc rfl J9,←e4]
 have ra4:=(k4 _ _ ra3).1
 have rb4:=(k4 _ _ rb3).1
 have rc4:=(k4 _ _ rc3).1
 generalize A7 H3=d at rd4
 clear e4 k4 ra3 rb3 rc3 w3
 obtain⟨H5,e5,re5,w5,k5⟩:=DZ (e:=Ak) (zs:=B8) (vs:=TL.cs) w4 Cc
 rw[c2,Ba (cs:=B8) rfl,B0 (cs:=B8) (vs:=TL.cs) (A0 (by simp)) Cc rfl J9,←e5]
 obtain⟨ra5,na⟩:=k5 _ _ ra4
 obtain⟨rb5,nb⟩:=k5 _ _ rb4
 obtain⟨rc5,nc⟩:=k5 _ _ rc4
 obtain⟨rd5,nd⟩:=k5 _ _ rd4
 generalize A7 H4=e at re5 na nb nc nd
 clear e5 k5 ra4 rb4 rc4 rd4 w4
 have eE:TL.cs.set 5 (.v (.int .i64 9))=scE.cs:=rfl
 rw[Ux,E9 re5 (by rw[Cc];decide) rfl rfl rfl,eE]
 have re6:=A8 (q:=true) (e:=Ak) (cs:=scE.cs) re5
 rw[←As (y:= .cells true Ak scE.cs) na] at ra5
 rw[←As (y:= .cells true Ak scE.cs) nb] at rb5
 rw[←As (y:= .cells true Ak scE.cs) nc] at rc5
 rw[←As (y:= .cells true Ak scE.cs) nd] at rd5
 have w6:=C7 (r:=e) (y:= .cells true Ak scE.cs) w5
 generalize upd H5 e (.cells true Ak scE.cs)=H6 at re6 ra5 rb5 rc5 rd5 w6
 clear re5 na nb nc nd w5
 rw[Bf rfl Cc.symm rd5,Bf rfl Cc.symm rc5,Bf rfl Cc.symm rb5,Bf rfl Cc.symm ra5,bf4,cI4,cO,CJ,CI,Bf rfl Cc.symm ra5,Bf rfl Cc.symm rb5,Bf rfl Cc.symm re6,bf3,cF,ix1,F3,cFc,CJ,CI]
 obtain⟨H7,e7,rf7,w7,k7⟩:=DZ (e:=Ak) (zs:=B8) (vs:=V3.cs) w6 Cc
 rw[Ba (cs:=B8) rfl,B0 (cs:=B8) (vs:=V3.cs) (A0 (by simp)) Cc rfl J9,←e7]
 have ra7:=(k7 _ _ ra5).1
 have rc7:=(k7 _ _ rc5).1
 have rd7:=(k7 _ _ rd5).1
 generalize A7 H6=g at rf7
 clear e7 k7 ra5 rb5 rc5 rd5 re6 w6
 obtain⟨H8,e8, -,w8,k8⟩:=DZ (e:=Ak) (zs:=B8) (vs:=B8) w7 rfl
 rw[cFm,CJ,CI,Ba (cs:=B8) rfl,B0 (cs:=B8) (vs:=B8) (A0 (by simp)) rfl rfl rfl,←e8]
 have ra8:=(k8 _ _ ra7).1
 have rc8:=(k8 _ _ rc7).1
 have rd8:=(k8 _ _ rd7).1
 have rf8:=(k8 _ _ rf7).1
 generalize A7 H7=h
 clear e8 k8 ra7 rc7 rd7 rf7 w7 w8
 have dA:∀{K},Ap Ac (.ptr a 0 0) H8 K=K (.agg IV.cs):= λ{K}=>Bf rfl Cc.symm ra8
 have dC:∀{K},Ap Ac (.ptr c 0 0) H8 K=K (.agg V3.cs):= λ{K}=>Bf rfl Cc.symm rc8
 have dF:∀{K},Ap Ac (.ptr g 0 0) H8 K=K (.agg V3.cs):= λ{K}=>Bf rfl Cc.symm rf8
 have pC:∀{K},Ap Ae (.ptr c 31 0) H8 K=K (FQ [lA,lB]):= λ{K}=>AW (p:=31) rfl rc8 (show 31<68 by decide)
 have pD:∀{K},Ap Ae (.ptr d 31 0) H8 K=K (FQ [lC,lM]):= λ{K}=>AW (p:=31) rfl rd8 (show 31<68 by decide)
 simp only[Ux,pC,ln2,C52,gT,BN,pD,QC,lnp,C53]
 rw[BC]
 simp only[cM,C5z,s1,BK,gT,BN,cH,ix0,ix1,F3,s2,Un,cAc,C4j,s3,cAd,ln3,C5o,C5p,C5y,s4,cR1,cR2,ntF,Xj,cV,dA,C5B,cV2,dF,dC,cS]
 exact hK _ _ (λb=>⟨false,λK=>by kernel_rfl⟩)
end
section
variable {L n:Nat}
theorem B0x {α:Type} (f:α→List AV) (k:Nat) (hf:∀x,(f x).length=k):∀(l:List α) (m:Nat),(l.flatMap f).take (m*k)=(l.take m).flatMap f:=by
 intro l
 induction l with
 |nil=>intro m;simp
 |cons a l ih=>
  intro m
  cases m with
  |zero=>simp
  |succ m=>
   rw[List.take_succ_cons,l00,l00,List.take_append,hf,←ih m,l1z (by rw[hf,l19];omega)]
   congr 2
   rw[l19];omega
theorem C2e {xs:List Y7} {a0 w:AV} {ws:List Int} {first:Int} {K:KV} (hL:40000<L) (hx:XA xs a0) (hok:∀y∈xs,y.Ok) (hf:IM first) (hw:NA ws w)
 (hK:∀H0,K (Bo true) H0=some (Bo true,[])):(rt (L+20) (n+82)).call LC [a0,I first,w] [] K=some (Bo true,[]):=by
 rw[QJ]
 unfold I6 AR Aq Cz
 obtain⟨hg,hlen⟩:=B3i xs (min 8 xs.length) (by omega)
 have hx0:Fx true depth a0 a0 [] false:=by
  rcases hx with rfl|⟨_,rfl⟩
  ·exact NM
  ·exact E1
 have hw0:∀H,Fx true depth w w H false:= λH=>by
  rcases hw.1 with rfl|⟨_,rfl⟩
  ·exact NM
  ·exact E1
 rw[AZ (C04 (n:=n) hL) Bl,IN (B2v (n:=n+16) hL hx hok) (Ay hx0 Bl)]
 generalize Nj xs (min 8 xs.length)=gs at hg hlen
 have ha:=B6h gs
 have h8:=hg.len
 have hps:∀c∈gs,c.ps.length<100:= λc hc=>by have:=B41 (hg.ok c hc);omega
 have ids:∀{H K},Ah (rt (L+20) (n+81)) GG [A0z gs] H K=K (FQ (gs.map Cd.id)):= λ{H K}=>AZ (A8H (L:=L) (n:=n+16) (λc hc=>⟨hg.ok c hc,hg.nd c hc⟩) (by omega) hL ha) (Ay (ha.fx H) Bl)
 have pr:=DI (c:=first) (n:=(gs.length:Int)+1) (by omega)
 obtain⟨m,hm,hm2, -⟩:=Kk (c:=first) (m:=((gs.length+1:Nat):Int)) (by omega)
 have hpk:∀{H K},Ah (rt (L+20) (n+81)) Ia [I first,I ((gs.length+1:Nat):Int)] H K=K (I (m:Int)):= λ{H K}=>by rw[←hm];exact A5c (n:=n+80) hf (by omega) (by omega) H K
 obtain⟨sm,hsl,hsm⟩:∃sm,(∀K:AV→Am,Ei AG (A0z gs) none (some (I (m:Int))) none K=K sm)∧LA (gs.take m) sm:=by
  cases hgs:gs with
  |nil=>
   rw[hgs] at hm2
   have:m=0:=by simp at hm2;omega
   subst this
   exact⟨AP,λK=>id rfl,.inr ⟨rfl,rfl⟩⟩
  |cons c l=>
   rw[←hgs]
   have e:A0z gs= .list gs.length (gs.flatMap Cd.cs):=by rw[hgs];rfl
   rw[e]
   refine⟨_,λK=>A2T rfl (by omega),.inl ?_⟩
   rw[B0x Cd.cs 68 (λc=>Cc),l0g,l1x (by omega)]
 have hR:∀{s:List UInt8} {H K},Ah (rt (L+20) (n+1+80)) Bz [A0z gs,S s] H K=K (Bo (rz (gr gs) gs.length s)):= λ{s H K}=>AZ (UB (L:=L) (n:=n+1) (s:=s) hg hL hps ha) (Ay (ha.fx H) (Ay (q:=false) E1 Bl))
 have hS:∀s:List UInt8,∃b:Bool,(∀{H K},Ah (rt (L+20) (n+1+80)) Bz [sm,S s] H K=K (Bo b))∧(b=true→rz (gr gs) gs.length s=true):= λs=>
  ⟨_,λ{H K}=>AZ (UB (L:=L) (n:=n+1) (s:=s) (hg.take m) hL (λc hc=>hps c (l24 hc)) hsm) (Ay (hsm.fx H) (Ay (q:=false) E1 Bl)),B5x⟩
 have hT:∀{s:List UInt8} {H K},Ah (rt (L+20) (n+1+80)) JO [A0z gs,S s,w] H K=K (Bo (trc (gr gs) (Yc ws) (gs.length+1) 0 s)):= λ{s H K}=>AZ (B4J (L:=L) (n:=n+13) (s:=s) hg hL ha hw hps) (Ay (ha.fx H) (Ay (q:=false) E1 (Ay (hw0 H) Bl)))
 rw[ids,ha.len,DH (by omega),hpk,hsl]
 simp only[Cm]
 refine C3d (n:=n+1) (ws:=ws) hg ha hps hR hS hT (by omega) ?_ (L+20) 0 _ _ (by omega) (by omega)
 have e1:=A4T (gs:=gs) (x:=[]) (by decide)
 have e2:=A4T (gs:=gs) (x:=[120]) (by decide)
 have r1:∀{H K},Ah (rt (L+20) (n+81)) Bz [A0z gs,S []] H K=K (Bo false):= λ{H K}=>by have:=hR (s:=[]) (H:=H) (K:=K);rw[e1] at this;exact this
 have r2:∀{H K},Ah (rt (L+20) (n+81)) Bz [A0z gs,S [120]] H K=K (Bo false):= λ{H K}=>by have:=hR (s:=[120]) (H:=H) (K:=K);rw[e2] at this;exact this
 simp only[gT,BN,r1,r2,ntF,Un]
 exact hK _
end
end Go.Abs
end
noncomputable section
namespace Go.Proofs
open Go.Shelf
def Tryz.lays156_ren:Go.Shelf.Ren:=⟨λ|156=>198|165=>252|166=>193|169=>146|240=>250|241=>278|276=>276|277=>313|n=>n,λ|31=>26|9=>9|3=>3|4=>4|0=>0|20=>20|72=>193|76=>242|70=>191|37=>129|75=>241|127=>249|164=>317|5=>5|80=>200|n=>n,λ|n=>n⟩
theorem Tryz.lays156:Go.Proofs.Lays.n156 Tryz.prog Tryz.lays156_ren:={
 mixed:=by kernel_rfl
 f156:=Tryz.func198.trans (congrArg some (by kernel_rfl))
 f165:=Tryz.func252.trans (congrArg some (by kernel_rfl))
 f166:=Tryz.func193.trans (congrArg some (by kernel_rfl))
 f169:=Tryz.func146.trans (congrArg some (by kernel_rfl))
 f240:=Tryz.func250.trans (congrArg some (by kernel_rfl))
 f241:=Tryz.func278.trans (congrArg some (by kernel_rfl))
 f276:=Tryz.func276.trans (congrArg some (by kernel_rfl))
 f277:=Tryz.func313.trans (congrArg some (by kernel_rfl))
 t0:=Tryz.underlying0
 a0:=Tryz.isAgg0
 z0:=Tryz.sizeOf0
 v0:=Tryz.zeroValue0
 t3:=Tryz.underlying3
 a3:=Tryz.isAgg3
 z3:=Tryz.sizeOf3
 v3:=Tryz.zeroValue3
 t4:=Tryz.underlying4
 a4:=Tryz.isAgg4
 z4:=Tryz.sizeOf4
 v4:=Tryz.zeroValue4
 t9:=Tryz.underlying9
 a9:=Tryz.isAgg9
 z9:=Tryz.sizeOf9
 v9:=Tryz.zeroValue9
 t20:=Tryz.underlying20
 a20:=Tryz.isAgg20
 z20:=Tryz.sizeOf20
 v20:=Tryz.zeroValue20
 t31:=Tryz.underlying26
 a31:=Tryz.isAgg26
 z31:=Tryz.sizeOf26
 v31:=Tryz.zeroValue26
 t37:=Tryz.underlying129
 a37:=Tryz.isAgg129
 z37:=Tryz.sizeOf129
 v37:=Tryz.zeroValue129
 t70:=Tryz.underlying191
 a70:=Tryz.isAgg191
 z70:=Tryz.sizeOf191
 v70:=Tryz.zeroValue191
 t72:=Tryz.underlying193
 a72:=Tryz.isAgg193
 z72:=Tryz.sizeOf193
 v72:=Tryz.zeroValue193
 t75:=Tryz.underlying241
 a75:=Tryz.isAgg241
 z75:=Tryz.sizeOf241
 v75:=Tryz.zeroValue241
 t76:=Tryz.underlying242
 a76:=Tryz.isAgg242
 z76:=Tryz.sizeOf242
 v76:=Tryz.zeroValue242
 t127:=Tryz.underlying249
 a127:=Tryz.isAgg249
 z127:=Tryz.sizeOf249
 v127:=Tryz.zeroValue249
 t164:=Tryz.underlying317
 a164:=Tryz.isAgg317
 z164:=Tryz.sizeOf317
 v164:=Tryz.zeroValue317}
theorem Tryz.Builder_Extra_156:Builder.Extra Tryz.prog Tryz.lays156_ren:={
 sizeBuilder:=by kernel_rfl
 liesBuilder:=by kernel_rfl
 t5:=Tryz.underlying5
 a5:=Tryz.isAgg5
 z5:=Tryz.sizeOf5
 v5:=Tryz.zeroValue5
 infoByte:=by kernel_rfl
 cellsByte:=by kernel_rfl
 sizeByte:=by kernel_rfl
 neB5:=by decide}
open Go.RowKit in
theorem Tryz.strings_Join_none (a:Option Addr) (c:Nat) (sep:ByteArray) (w:World):
 Calls Tryz.prog 198 #[.slice a 0 c,.string sep] w λe w'=>e= .returned (.string ⟨#[]⟩)∧w'=w:=Any.strings_Join_none Tryz.lays156 Tryz.Builder_Extra_156 a c sep w
open Go.RowKit in
theorem Tryz.strings_Join (bk o c:Nat) (xs:List ByteArray) (sep:ByteArray) (w:World) (hcells:∀(j:Nat) x,xs[j]?=some x→w.cell? ⟨bk,o+j,none⟩=some (.string x)) (hbk:bk<w.heap.size) (hN:xs.length≤140737488355328) (hcap:xs.length≤c) (hlen:(Lib.join (xs.map (·.data.toList)) sep.data.toList).length≤140737488355328):
 Calls Tryz.prog 198 #[.slice (some ⟨bk,o,none⟩) xs.length c,.string sep] w λe w'=>e= .returned (.string ⟨(Lib.join (xs.map (·.data.toList)) sep.data.toList).toArray⟩)∧Below w.heap.size w w':=Any.strings_Join Tryz.lays156 Tryz.Builder_Extra_156 bk o c xs sep w hcells hbk hN hcap hlen
def Tryz.lays190_ren:Go.Shelf.Ren:=⟨λ|190=>93|125=>74|258=>151|128=>121|129=>122|302=>204|303=>205|304=>206|305=>207|306=>208|307=>209|308=>210|309=>211|310=>212|333=>256|329=>168|330=>169|334=>257|335=>258|336=>123|344=>294|n=>n,λ|31=>26|9=>9|3=>3|46=>132|0=>0|51=>127|53=>158|4=>4|183=>173|182=>172|131=>177|5=>5|218=>224|222=>228|228=>262|229=>263|n=>n,λ|n=>n⟩
theorem Tryz.lays190:Go.Proofs.Lays.n190 Tryz.prog Tryz.lays190_ren:={
 mixed:=by kernel_rfl
 f125:=Tryz.func74.trans (congrArg some (by kernel_rfl))
 f128:=Tryz.func121.trans (congrArg some (by kernel_rfl))
 f129:=Tryz.func122.trans (congrArg some (by kernel_rfl))
 f190:=Tryz.func93.trans (congrArg some (by kernel_rfl))
 f258:=Tryz.func151.trans (congrArg some (by kernel_rfl))
 f302:=Tryz.func204.trans (congrArg some (by kernel_rfl))
 f303:=Tryz.func205.trans (congrArg some (by kernel_rfl))
 f304:=Tryz.func206.trans (congrArg some (by kernel_rfl))
 f305:=Tryz.func207.trans (congrArg some (by kernel_rfl))
 f306:=Tryz.func208.trans (congrArg some (by kernel_rfl))
 f307:=Tryz.func209.trans (congrArg some (by kernel_rfl))
 f308:=Tryz.func210.trans (congrArg some (by kernel_rfl))
 f309:=Tryz.func211.trans (congrArg some (by kernel_rfl))
 f310:=Tryz.func212.trans (congrArg some (by kernel_rfl))
 f329:=Tryz.func168.trans (congrArg some (by kernel_rfl))
 f330:=Tryz.func169.trans (congrArg some (by kernel_rfl))
 f333:=Tryz.func256.trans (congrArg some (by kernel_rfl))
 f334:=Tryz.func257.trans (congrArg some (by kernel_rfl))
 f335:=Tryz.func258.trans (congrArg some (by kernel_rfl))
 f336:=Tryz.func123.trans (congrArg some (by kernel_rfl))
 f344:=Tryz.func294.trans (congrArg some (by kernel_rfl))
 t0:=Tryz.underlying0
 a0:=Tryz.isAgg0
 z0:=Tryz.sizeOf0
 v0:=Tryz.zeroValue0
 t3:=Tryz.underlying3
 a3:=Tryz.isAgg3
 z3:=Tryz.sizeOf3
 v3:=Tryz.zeroValue3
 t4:=Tryz.underlying4
 a4:=Tryz.isAgg4
 z4:=Tryz.sizeOf4
 v4:=Tryz.zeroValue4
 t5:=Tryz.underlying5
 a5:=Tryz.isAgg5
 z5:=Tryz.sizeOf5
 v5:=Tryz.zeroValue5
 t9:=Tryz.underlying9
 a9:=Tryz.isAgg9
 z9:=Tryz.sizeOf9
 v9:=Tryz.zeroValue9
 t31:=Tryz.underlying26
 a31:=Tryz.isAgg26
 z31:=Tryz.sizeOf26
 v31:=Tryz.zeroValue26
 t46:=Tryz.underlying132
 a46:=Tryz.isAgg132
 z46:=Tryz.sizeOf132
 v46:=Tryz.zeroValue132
 t51:=Tryz.underlying127
 a51:=Tryz.isAgg127
 z51:=Tryz.sizeOf127
 v51:=Tryz.zeroValue127
 t53:=Tryz.underlying158
 a53:=Tryz.isAgg158
 z53:=Tryz.sizeOf158
 v53:=Tryz.zeroValue158
 t131:=Tryz.underlying177
 a131:=Tryz.isAgg177
 z131:=Tryz.sizeOf177
 v131:=Tryz.zeroValue177
 t182:=Tryz.underlying172
 a182:=Tryz.isAgg172
 z182:=Tryz.sizeOf172
 v182:=Tryz.zeroValue172
 t183:=Tryz.underlying173
 a183:=Tryz.isAgg173
 z183:=Tryz.sizeOf173
 v183:=Tryz.zeroValue173
 t218:=Tryz.underlying224
 a218:=Tryz.isAgg224
 z218:=Tryz.sizeOf224
 v218:=Tryz.zeroValue224
 t222:=Tryz.underlying228
 a222:=Tryz.isAgg228
 z222:=Tryz.sizeOf228
 v222:=Tryz.zeroValue228
 t228:=Tryz.underlying262
 a228:=Tryz.isAgg262
 z228:=Tryz.sizeOf262
 v228:=Tryz.zeroValue262
 t229:=Tryz.underlying263
 a229:=Tryz.isAgg263
 z229:=Tryz.sizeOf263
 v229:=Tryz.zeroValue263}
open Go.Sort Go.RowKit in
theorem Tryz.slices_Sort_string (blk off cap:Nat) (ss:List (List UInt8)) (w:World) (hH:Holds encStr w blk off ss.toArray) (hblk:blk<w.heap.size) (hsz:ss.length<4611686018427387904):
 Calls Tryz.prog 93 #[.slice (some ⟨blk,off,none⟩) ss.length cap] w λe w'=>
  e= .returned (.tuple #[])∧∃n os,w'=grow (putRow encStr (Sort.ahead w n) blk off (ss.mergeSort λx y=>decide (x≤y)).toArray) os:=Any.slices_Sort_string Tryz.lays190 blk off cap ss w hH hblk hsz
def Tryz.lays105_ren:Go.Shelf.Ren:=⟨λ|105=>330|212=>366|99=>367|165=>252|166=>193|170=>145|169=>146|263=>384|264=>385|206=>377|240=>250|241=>278|276=>276|277=>313|n=>n,λ|9=>9|3=>3|4=>4|20=>20|0=>0|46=>132|109=>380|5=>5|72=>193|76=>242|51=>127|146=>393|53=>158|148=>395|70=>191|37=>129|75=>241|127=>249|164=>317|80=>200|n=>n,λ|n=>n⟩
theorem Tryz.lays105:Go.Proofs.Lays.n105 Tryz.prog Tryz.lays105_ren:={
 mixed:=by kernel_rfl
 f99:=Tryz.func367.trans (congrArg some (by kernel_rfl))
 f105:=Tryz.func330.trans (congrArg some (by kernel_rfl))
 f165:=Tryz.func252.trans (congrArg some (by kernel_rfl))
 f166:=Tryz.func193.trans (congrArg some (by kernel_rfl))
 f169:=Tryz.func146.trans (congrArg some (by kernel_rfl))
 f170:=Tryz.func145.trans (congrArg some (by kernel_rfl))
 f206:=Tryz.func377.trans (congrArg some (by kernel_rfl))
 f212:=Tryz.func366.trans (congrArg some (by kernel_rfl))
 f240:=Tryz.func250.trans (congrArg some (by kernel_rfl))
 f241:=Tryz.func278.trans (congrArg some (by kernel_rfl))
 f263:=Tryz.func384.trans (congrArg some (by kernel_rfl))
 f264:=Tryz.func385.trans (congrArg some (by kernel_rfl))
 f276:=Tryz.func276.trans (congrArg some (by kernel_rfl))
 f277:=Tryz.func313.trans (congrArg some (by kernel_rfl))
 t0:=Tryz.underlying0
 a0:=Tryz.isAgg0
 z0:=Tryz.sizeOf0
 v0:=Tryz.zeroValue0
 t3:=Tryz.underlying3
 a3:=Tryz.isAgg3
 z3:=Tryz.sizeOf3
 v3:=Tryz.zeroValue3
 t4:=Tryz.underlying4
 a4:=Tryz.isAgg4
 z4:=Tryz.sizeOf4
 v4:=Tryz.zeroValue4
 t5:=Tryz.underlying5
 a5:=Tryz.isAgg5
 z5:=Tryz.sizeOf5
 v5:=Tryz.zeroValue5
 t9:=Tryz.underlying9
 a9:=Tryz.isAgg9
 z9:=Tryz.sizeOf9
 v9:=Tryz.zeroValue9
 t20:=Tryz.underlying20
 a20:=Tryz.isAgg20
 z20:=Tryz.sizeOf20
 v20:=Tryz.zeroValue20
 t37:=Tryz.underlying129
 a37:=Tryz.isAgg129
 z37:=Tryz.sizeOf129
 v37:=Tryz.zeroValue129
 t46:=Tryz.underlying132
 a46:=Tryz.isAgg132
 z46:=Tryz.sizeOf132
 v46:=Tryz.zeroValue132
 t51:=Tryz.underlying127
 a51:=Tryz.isAgg127
 z51:=Tryz.sizeOf127
 v51:=Tryz.zeroValue127
 t53:=Tryz.underlying158
 a53:=Tryz.isAgg158
 z53:=Tryz.sizeOf158
 v53:=Tryz.zeroValue158
 t70:=Tryz.underlying191
 a70:=Tryz.isAgg191
 z70:=Tryz.sizeOf191
 v70:=Tryz.zeroValue191
 t72:=Tryz.underlying193
 a72:=Tryz.isAgg193
 z72:=Tryz.sizeOf193
 v72:=Tryz.zeroValue193
 t75:=Tryz.underlying241
 a75:=Tryz.isAgg241
 z75:=Tryz.sizeOf241
 v75:=Tryz.zeroValue241
 t76:=Tryz.underlying242
 a76:=Tryz.isAgg242
 z76:=Tryz.sizeOf242
 v76:=Tryz.zeroValue242
 t109:=Tryz.underlying380
 a109:=Tryz.isAgg380
 z109:=Tryz.sizeOf380
 v109:=Tryz.zeroValue380
 t127:=Tryz.underlying249
 a127:=Tryz.isAgg249
 z127:=Tryz.sizeOf249
 v127:=Tryz.zeroValue249
 t146:=Tryz.underlying393
 a146:=Tryz.isAgg393
 z146:=Tryz.sizeOf393
 v146:=Tryz.zeroValue393
 t148:=Tryz.underlying395
 a148:=Tryz.isAgg395
 z148:=Tryz.sizeOf395
 v148:=Tryz.zeroValue395
 t164:=Tryz.underlying317
 a164:=Tryz.isAgg317
 z164:=Tryz.sizeOf317
 v164:=Tryz.zeroValue317}
theorem Tryz.Builder_Extra_105:Builder.Extra Tryz.prog Tryz.lays105_ren:={
 sizeBuilder:=by kernel_rfl
 liesBuilder:=by kernel_rfl
 t5:=Tryz.underlying5
 a5:=Tryz.isAgg5
 z5:=Tryz.sizeOf5
 v5:=Tryz.zeroValue5
 infoByte:=by kernel_rfl
 cellsByte:=by kernel_rfl
 sizeByte:=by kernel_rfl
 neB5:=by decide}
open Go.RowKit Go.Lib in
theorem Tryz.strings_Repeat (s:ByteArray) (c:Nat) (w:World) (hc:c≤9223372036854775807) (hlen:s.size*c≤140737488355328):
 Calls Tryz.prog 330 #[.string s,.int .i64 c] w λe w'=>e= .returned (.string ⟨(Lib.repeatL s.data.toList c).toArray⟩)∧Below w.heap.size w w':=Any.strings_Repeat Tryz.lays105 Tryz.Builder_Extra_105 s c w hc hlen
end Go.Proofs
end
noncomputable section
namespace Go.Abs
open Go.RowKit Go.Proofs
set_option maxRecDepth 100000
theorem C3Y:YU Tryz.prog 198:=⟨Tryz.f198,by kernel_rfl,by kernel_rfl,by kernel_rfl⟩
theorem C5n:YU Tryz.prog 93:=⟨Tryz.f93,by kernel_rfl,by kernel_rfl,by kernel_rfl⟩
theorem C3X:YU Tryz.prog 330:=⟨Tryz.f330,by kernel_rfl,by kernel_rfl,by kernel_rfl⟩
theorem C30 (E:XE):oT.All (A6c E Tryz.prog):=
 ⟨B3d C3Y Tryz.strings_Join_none Tryz.strings_Join,⟨B1U C5n Tryz.slices_Sort_string,trivial,trivial⟩,⟨A78 C3X Tryz.strings_Repeat,trivial,trivial⟩⟩
end Go.Abs
end
