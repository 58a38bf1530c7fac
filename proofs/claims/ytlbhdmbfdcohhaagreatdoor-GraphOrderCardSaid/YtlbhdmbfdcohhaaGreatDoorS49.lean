import Derived.Test.YtlbhdmbfdcohhaaGreatDoorS46
import Derived.Test.YtlbhdmbfdcohhaaGreatDoorS47
import Derived.Test.YtlbhdmbfdcohhaaGreatDoorS48
set_option linter.all false
set_option maxHeartbeats 100000000
noncomputable section
namespace Go.Abs
open Go.RowKit Go.Proofs
set_option maxRecDepth 100000
section
variable {L n:Nat}
def B09:AV:= .list 2 (JS.cs++Vl.cs)
theorem A6K:LA [JS,Vl] B09:= .inl (by
 show AV.list 2 _=AV.list 2 ([JS,Vl].flatMap Cd.cs)
 simp)
section
variable {K:AV→Aj} {H:Hp}
theorem C7N:Sm 68 Ad 2 [(0,68,.agg JS.cs),(68,68,.agg Vl.cs)] K=K B09:=by kernel_rfl
theorem C7O:Sm 68 Ad 2 [(0,68,.agg JS.cs),(68,68,.agg JS.cs)] K=K B4d:=by kernel_rfl
theorem bf4:Sm 68 Ad 4 [(0,68,.agg scD.cs),(68,68,.agg WN.cs),(136,68,.agg Vl.cs),(204,68,.agg JS.cs)] K=K Nb:=by kernel_rfl
theorem bf3:Sm 68 Ad 3 [(0,68,.agg JS.cs),(68,68,.agg Vl.cs),(136,68,.agg scE.cs)] K=K B4c:=by kernel_rfl
theorem C7M {a:List UInt8}:Sm 1 Ae 1 [(0,1,S a)] K=K (Ep [a]):=by kernel_rfl
theorem C6c {a b:List UInt8}:Sm 1 Ae 2 [(0,1,S a),(1,1,S b)] K=K (Ep [a,b]):=by kernel_rfl
theorem C7L {a b c d:List UInt8}:Sm 1 Ae 4 [(0,1,S a),(1,1,S b),(2,1,S c),(3,1,S d)] K=K (Ep [a,b,c,d]):=by kernel_rfl
theorem ix0 {a:List UInt8} {l:List (List UInt8)}:B9 Ac (Ep (a::l)) (.v (.int .i64 0)) K=K (.iptr [S a]):=by
 have:=(JU (a::l)).ia (K:=K) (i:=0) (by simp)
 exact this
theorem ix1 {a b:List UInt8} {l:List (List UInt8)}:B9 Ac (Ep (a::b::l)) (.v (.int .i64 1)) K=K (.iptr [S b]):=by
 have:=(JU (a::b::l)).ia (K:=K) (i:=1) (by simp)
 exact this
theorem mmT:eMM true (S lA) (S lB) K=K (S lB):=by kernel_rfl
theorem mmF:eMM false (S lA) (S lB) K=K (S lA):=by kernel_rfl
theorem ln2 {a b:List UInt8}:AQ Ac (Ep [a,b]) K=K (.v (.int .i64 2)):=id rfl
theorem ln3 {a b c:List UInt8}:AQ Ac (Ep [a,b,c]) K=K (.v (.int .i64 3)):=id rfl
theorem lnp {l:List AV}:AQ Ki (.list 1 l) K=K (.v (.int .i64 1)):=id rfl
theorem C6Y:Go.Abs.Ak Ab .neq (.v (.int .i64 2)) (.v (.int .i64 2)) K=K (Bo false):=by kernel_rfl
theorem C6Z:Go.Abs.Ak Ab .neq (.v (.int .i64 1)) (.v (.int .i64 1)) K=K (Bo false):=by kernel_rfl
theorem C7l:Go.Abs.Ak Ab .eql (.v (.int .i64 3)) (.v (.int .i64 3)) K=K (Bo true):=by kernel_rfl
theorem C7m:Go.Abs.Ak Ab .eql (I 0) (.v (.int .i64 0)) K=K (Bo true):=by kernel_rfl
end
theorem C1D (hL:40000<L):CS (rt (L+20) (n+81)) To [] (Bo true):=by
 intro K hK
 have c1:∀{H K},Ah (rt (L+20) (n+80)) Eu [(.v (.int .i64 1))] H K=K (.agg JS.cs):= λ{H K}=>GS (A9R (n:=n+35) (k:=1) hL (by decide) (by decide) B3c) (Ay (q:=false) D2 Be)
 have c2:∀{H K},Ah (rt (L+20) (n+80)) Eu [(.v (.int .i64 2))] H K=K (.agg Vl.cs):= λ{H K}=>GS (A9R (n:=n+35) (k:=2) hL (by decide) (by decide) B3b) (Ay (q:=false) D2 Be)
 have cI2:∀{H K},Ah (rt (L+20) (n+80)) IA [B09] H K=K (Ep [lA,lB]):= λ{H K}=>by
  have h:=B3J (L:=L) (n:=n+15) (gs:=[JS,Vl]) (a:=B09) (by
   intro c hc
   simp only[UJ,List.not_mem_nil,or_false] at hc
   rcases hc with rfl|rfl
   ·exact⟨A4y,show([]:List (List UInt8)).Nodup by decide⟩
   ·exact⟨A4x,show([]:List (List UInt8)).Nodup by decide⟩) (by decide) hL A6K
  rw[show([JS,Vl].map Cd.id)=[lA,lB] by simp[VV,VU]] at h
  exact Ba h (Ay (A6K.fx H) Be)
 have cI4:∀{H K},Ah (rt (L+20) (n+80)) IA [Nb] H K=K (Ep [lD,lC,lB,lA]):= λ{H K}=>by
  have h:=B3J (L:=L) (n:=n+15) (gs:=gs4) (a:=Nb) (λc hc=>⟨A1Y.ok c hc,A1Y.nd c hc⟩) (by decide) hL Tf
  rw[show(gs4.map Cd.id)=[lD,lC,lB,lA] by simp[gs4,VV,VU,A18,A4z]] at h
  exact Ba h (Ay (Tf.fx H) Be)
 have cC:∀{H K},Ah (rt (L+20) (n+80)) Fk [(.v (.int .i64 3)),Ep [lA,lB]] H K=K (.agg WN.cs):= λ{H K}=>GS (A9S (n:=n+35) (k:=3) hL (by decide) (by decide) (l:=[lA,lB]) rfl (by simp[lA,lB]) B3a) (Ay (q:=false) D2 (Ay ((JU _).fx H) Be))
 have cD:∀{H K},Ah (rt (L+20) (n+80)) Fk [(.v (.int .i64 4)),Ep [lC,lM]] H K=K (.agg scD.cs):= λ{H K}=>GS (A9S (n:=n+35) (k:=4) hL (by decide) (by decide) (l:=[lC,lM]) rfl (by simp[lC,lM]) B39) (Ay (q:=false) D2 (Ay ((JU _).fx H) Be))
 have cP:∀{H K},Ah (rt (L+20) (n+80)) FZ [(.v (.int .i64 77))] H K=K (S lM):= λ{H K}=>by
  rw[←C57];exact A1p (n:=n+60) hL (by decide) (by decide) H K
 have cID:∀{H K},Ah (rt (L+20) (n+80)) Hf [.agg WN.cs] H K=K (S lC):= λ{H K}=>by
  rw[←A18];exact Ba (A9m (n:=n+16) hL B37 (show[lA,lB].Nodup by decide)) (Zq H)
 have f4:∀{H},Pu true depth [Nb] [Nb] H false:= λ{H}=>Ay (Tf.fx H) Be
 have f4s:∀{H} {s:List UInt8},Pu true depth [Nb,S s] [Nb,S s] H false:= λ{H s}=>Ay (Tf.fx H) (Ay (q:=false) D2 Be)
 have fss:∀{H} {a b:List (List UInt8)},Pu true depth [Ep a,Ep b] [Ep a,Ep b] H false:= λ{H a b}=>Ay ((JU a).fx H) (Ay ((JU b).fx H) Be)
 have cO:∀{H K},Ah (rt (L+20) (n+80)) Iq [Nb] H K=K (.tup [Ep [lB,lA,lC,lD],I 0]):= λ{H K}=>Gu (B6T (n:=n+15) hL) f4
 have cF:∀{H K},Ah (rt (L+20) (n+80)) Od [B4c] H K=K (.list 1 [S lE,S lB]):= λ{H K}=>Gu (B6W (n:=n+15) hL) (Ay (A4Y.fx H) Be)
 have cFc:∀{H K},Ah (rt (L+20) (n+80)) Jc [Nb,S lC] H K=K (.tup [.agg WN.cs,Bo true]):= λ{H K}=>Gu (B6Y (n:=n+15) hL) f4s
 have cFm:∀{H K},Ah (rt (L+20) (n+80)) Jc [Nb,S lM] H K=K (.tup [.agg BJ,Bo false]):= λ{H K}=>Gu (B6X (n:=n+15) hL) f4s
 have cM:∀{H K},Ah (rt (L+20) (n+80)) OP [Nb] H K=K (Ep [lM]):= λ{H K}=>Gu (B18 (n:=n+15) hL) f4
 have cH:∀{H K},Ah (rt (L+20) (n+80)) Oc [Nb] H K=K (Ep [lD]):= λ{H K}=>Gu (B6V (n:=n+15) hL) f4
 have cAc:∀{H K},Ah (rt (L+20) (n+80)) Du [Nb,S lC] H K=K (Ep [lB,lA]):= λ{H K}=>Gu (C4t (n:=n+15) hL) f4s
 have cAd:∀{H K},Ah (rt (L+20) (n+80)) Du [Nb,S lD] H K=K (Ep [lB,lC,lA]):= λ{H K}=>Gu (C4s (n:=n+15) hL) f4s
 have cV:∀{H K},Ah (rt (L+20) (n+80)) Ip [Nb] H K=K (Bo true):= λ{H K}=>Gu (B6R (n:=n+15) hL) f4
 have cV2:∀{H K},Ah (rt (L+20) (n+80)) Ip [B4d] H K=K (Bo false):= λ{H K}=>Gu (B3d (n:=n+15) hL) (Ay (A4Z.fx H) Be)
 have cS:∀{H K},Ah (rt (L+20) (n+80)) L0 [.agg WN.cs,.agg WN.cs] H K=K (Bo true):= λ{H K}=>Gu (C1E (n:=n+15)) (Ay (A9o (D:=depth-3)) (Ay (A9o (D:=depth-3)) Be))
 have s1:∀{H K},Ah (rt (L+20) (n+80)) Cg [Ep [lM],Ep [lM]] H K=K (Bo true):= λ{H K}=>Gu (C4r (n:=n+78)) fss
 have s2:∀{H K},Ah (rt (L+20) (n+80)) Cg [Ep [lD],Ep [lD]] H K=K (Bo true):= λ{H K}=>Gu (C4q (n:=n+78)) fss
 have s3:∀{H K},Ah (rt (L+20) (n+80)) Cg [Ep [lB,lA],Ep [lB,lA]] H K=K (Bo true):= λ{H K}=>Gu (C4p (n:=n+78)) fss
 have s4:∀{H K},Ah (rt (L+20) (n+80)) Cg [Ep [lB,lA,lC,lD],Ep [lB,lA,lC,lD]] H K=K (Bo true):= λ{H K}=>Gu (C4o (n:=n+78)) fss
 have egr:gr gs4=[(lD,cE scD),(lC,cE WN),(lB,cE Vl),(lA,cE JS)]:=by simp[gr,gs4,VV,VU,A18,A4z]
 have hps:∀c∈gs4,c.ps.length<100:= λc hc=>by have:=B5m (A1Y.ok c hc);omega
 have cR:∀{s:List UInt8} {H K},Ah (rt (L+20) (n+80)) F9 [Nb,S s] H K=K (Bo (rz [(lD,cE scD),(lC,cE WN),(lB,cE Vl),(lA,cE JS)] 4 s)):= λ{s H K}=>by
  have:=A7Y (L:=L) (n:=n) (s:=s) A1Y hL hps Tf
  rw[egr] at this
  exact Ba this f4s
 have r1:rz [(lD,cE scD),(lC,cE WN),(lB,cE Vl),(lA,cE JS)] 4 lC=true:=by decide
 have r2:rz [(lD,cE scD),(lC,cE WN),(lB,cE Vl),(lA,cE JS)] 4 lD=false:=by decide
 have cR1:∀{H K},Ah (rt (L+20) (n+80)) F9 [Nb,S lC] H K=K (Bo true):= λ{H K}=>by rw[cR,r1]
 have cR2:∀{H K},Ah (rt (L+20) (n+80)) F9 [Nb,S lD] H K=K (Bo false):= λ{H K}=>by rw[cR,r2]
 clear cR r1 r2 egr hps f4 f4s fss
 rw[A1J]
 unfold SY Bc BS Av Gb Dr
 obtain⟨H1,e1,ra1,w1, -⟩:=Er (e:=Al) (zs:=BJ) (vs:=JS.cs) FH CA
 rw[c1,Bi (cs:=BJ) rfl,B7 (cs:=BJ) (vs:=JS.cs) (A1 (by simp)) CA rfl KC,←e1]
 generalize A2 []=a at ra1
 obtain⟨H2,e2,rb2,w2,k2⟩:=Er (e:=Al) (zs:=BJ) (vs:=Vl.cs) w1 CA
 rw[c2,Bi (cs:=BJ) rfl,B7 (cs:=BJ) (vs:=Vl.cs) (A1 (by simp)) CA rfl KC,←e2]
 have ra2:=(k2 _ _ ra1).1
 generalize A2 H1=b at rb2
 clear e1 e2 k2 ra1 w1
 rw[Bq rfl CA.symm ra2,Bq rfl CA.symm rb2,C7N,cI2]
 simp only[ix0,ix1,Gt,mmT,mmF,BN]
 obtain⟨H3,e3,rc3,w3,k3⟩:=Er (e:=Al) (zs:=BJ) (vs:=WN.cs) w2 CA
 rw[cC,Bi (cs:=BJ) rfl,B7 (cs:=BJ) (vs:=WN.cs) (A1 (by simp)) CA rfl KC,←e3]
 have ra3:=(k3 _ _ ra2).1
 have rb3:=(k3 _ _ rb2).1
 generalize A2 H2=c at rc3
 clear e3 k3 ra2 rb2 w2
 rw[cP,Bq rfl CA.symm rc3,cID,C6c,cD]
 obtain⟨H4,e4,rd4,w4,k4⟩:=Er (e:=Al) (zs:=BJ) (vs:=scD.cs) w3 CA
 rw[Bi (cs:=BJ) rfl,B7 (cs:=BJ) (vs:=scD.cs) (A1 (by simp)) CA rfl KC,←e4]
 have ra4:=(k4 _ _ ra3).1
 have rb4:=(k4 _ _ rb3).1
 have rc4:=(k4 _ _ rc3).1
 generalize A2 H3=d at rd4
 clear e4 k4 ra3 rb3 rc3 w3
 obtain⟨H5,e5,re5,w5,k5⟩:=Er (e:=Al) (zs:=BJ) (vs:=Vl.cs) w4 CA
 rw[c2,Bi (cs:=BJ) rfl,B7 (cs:=BJ) (vs:=Vl.cs) (A1 (by simp)) CA rfl KC,←e5]
 obtain⟨ra5,na⟩:=k5 _ _ ra4
 obtain⟨rb5,nb⟩:=k5 _ _ rb4
 obtain⟨rc5,nc⟩:=k5 _ _ rc4
 obtain⟨rd5,nd⟩:=k5 _ _ rd4
 generalize A2 H4=e at re5 na nb nc nd
 clear e5 k5 ra4 rb4 rc4 rd4 w4
 have eE:Vl.cs.set 5 (.v (.int .i64 9))=scE.cs:=rfl
 rw[VO,Ez re5 (by rw[CA];decide) rfl rfl rfl,eE]
 have re6:=AB (q:=true) (e:=Al) (cs:=scE.cs) re5
 rw[←Ap (y:= .cells true Al scE.cs) na] at ra5
 rw[←Ap (y:= .cells true Al scE.cs) nb] at rb5
 rw[←Ap (y:= .cells true Al scE.cs) nc] at rc5
 rw[←Ap (y:= .cells true Al scE.cs) nd] at rd5
 have w6:=BR (r:=e) (y:= .cells true Al scE.cs) w5
 generalize upd H5 e (.cells true Al scE.cs)=H6 at re6 ra5 rb5 rc5 rd5 w6
 clear re5 na nb nc nd w5
 rw[Bq rfl CA.symm rd5,Bq rfl CA.symm rc5,Bq rfl CA.symm rb5,Bq rfl CA.symm ra5,bf4,cI4,cO,CZ,CY,Bq rfl CA.symm ra5,Bq rfl CA.symm rb5,Bq rfl CA.symm re6,bf3,cF,ix1,Gt,cFc,CZ,CY]
 obtain⟨H7,e7,rf7,w7,k7⟩:=Er (e:=Al) (zs:=BJ) (vs:=WN.cs) w6 CA
 rw[Bi (cs:=BJ) rfl,B7 (cs:=BJ) (vs:=WN.cs) (A1 (by simp)) CA rfl KC,←e7]
 have ra7:=(k7 _ _ ra5).1
 have rc7:=(k7 _ _ rc5).1
 have rd7:=(k7 _ _ rd5).1
 generalize A2 H6=g at rf7
 clear e7 k7 ra5 rb5 rc5 rd5 re6 w6
 obtain⟨H8,e8, -,w8,k8⟩:=Er (e:=Al) (zs:=BJ) (vs:=BJ) w7 rfl
 rw[cFm,CZ,CY,Bi (cs:=BJ) rfl,B7 (cs:=BJ) (vs:=BJ) (A1 (by simp)) rfl rfl rfl,←e8]
 have ra8:=(k8 _ _ ra7).1
 have rc8:=(k8 _ _ rc7).1
 have rd8:=(k8 _ _ rd7).1
 have rf8:=(k8 _ _ rf7).1
 generalize A2 H7=h
 clear e8 k8 ra7 rc7 rd7 rf7 w7 w8
 have dA:∀{K},Ar Ad (.ptr a 0 0) H8 K=K (.agg JS.cs):= λ{K}=>Bq rfl CA.symm ra8
 have dC:∀{K},Ar Ad (.ptr c 0 0) H8 K=K (.agg WN.cs):= λ{K}=>Bq rfl CA.symm rc8
 have dF:∀{K},Ar Ad (.ptr g 0 0) H8 K=K (.agg WN.cs):= λ{K}=>Bq rfl CA.symm rf8
 have pC:∀{K},Ar Ac (.ptr c 31 0) H8 K=K (Ep [lA,lB]):= λ{K}=>AP (p:=31) rfl rc8 (show 31<68 by decide)
 have pD:∀{K},Ar Ac (.ptr d 31 0) H8 K=K (Ep [lC,lM]):= λ{K}=>AP (p:=31) rfl rd8 (show 31<68 by decide)
 simp only[VO,pC,ln2,C6Y,gT,Cz,pD,WV,lnp,C6Z]
 rw[Bz]
 simp only[cM,C7M,s1,BN,gT,Cz,cH,ix0,ix1,Gt,s2,XO,cAc,C6c,s3,cAd,ln3,C7l,C7m,C7L,s4,cR1,cR2,ntF,ntT,cV,dA,C7O,cV2,dF,dC,cS]
 exact hK _ _ (λb=>⟨false,λK=>by kernel_rfl⟩)
end
section
variable {L n:Nat}
section
variable {α:Type} {f:α→List AV} {w:Nat}
end
section
variable {gs less:List Cd} {H:Hp} {K:AV→Aj} {D:Nat}
end
section
variable {gs:List Cd} {k:Nat}
end
end
section
variable {L n:Nat}
section
variable {gs:List Cd} {f:Bt→Bool} {s x y:Bt}
theorem A4M (h:(gs.map Cd.id).Nodup) {i:Nat} (hi:i<gs.length):MV gs gs[i].id=gs[i].ps:=by
 have h1:=B8d h hi
 rw[B4F] at h1
 unfold MV
 cases hf:JM (gE gs) gs[i].id with
 |none=>rw[hf] at h1;cases h1
 |some c=>
  rw[hf] at h1
  simp only[l0x,l0y] at h1
  exact congrArg Ce.ps h1
end
section
variable {K:KV} {x:Aj} {H:Hp} {gs:List Cd} {a w:AV} {i:Nat} {R:Rt}
theorem B9o {k:Nat} (hk:k<gs.length) {K:AV→Aj}:B9 Ac (Ep (gs.map Cd.id)) (I k) K=K (.iptr [S gs[k].id]):=by
 have hk':k<(gs.map Cd.id).length:=by rw[Wv];exact hk
 rw[(JU _).ia hk',l2i]
end
section
variable {K:KV} {l:List Bt}
end
end
section
variable {gs:List Cd} {out l:List Bt} {x y p m:Bt}
def C3b (gs:List Cd) (out:List Bt) (x:Bt):Bool:=decide (x∉out)&&(MV gs x).all λp=>decide (p∉gs.map Cd.id)||decide (p∈out)
theorem B5o:C3b gs out x=true↔x∉out∧∀p∈MV gs x,p∈gs.map Cd.id→p∈out:=by
 unfold C3b
 rw[Jm,decide_eq_true_eq,HB]
 refine and_congr Iff.rfl ⟨λh p hp hi=> ?_,λh p hp=> ?_⟩
 ·have:=h p hp
  rw[l1d,decide_eq_true_eq,decide_eq_true_eq] at this
  exact this.resolve_left λh=>h hi
 ·rw[l1d,decide_eq_true_eq,decide_eq_true_eq]
  by_cases hi:p∈gs.map Cd.id
  ·exact .inr (h p hp hi)
  ·exact .inl hi
def rdy (gs:List Cd) (out:List Bt):List Bt:=(gs.map Cd.id).filter (C3b gs out)
theorem WR:x∈rdy gs out↔x∈gs.map Cd.id∧x∉out∧∀p∈MV gs x,p∈gs.map Cd.id→p∈out:=by
 rw[rdy,List.mem_filter,B5o]
def A2X (gs:List Cd):Nat→List Bt→List Bt
 |0,out=>out
 |n+1,out=>match I9 (rdy gs out) with
  |[]=>out
  |m::_=>A2X gs n (out++[m])
def Kz (gs:List Cd):List Bt:=A2X gs gs.length []
structure OrdK (gs:List Cd) (out:List Bt):Prop where
 nd:out.Nodup
 ids:∀x∈out,x∈gs.map Cd.id
 pr:∀a x b,out=a++x::b→∀p∈MV gs x,p∈gs.map Cd.id→p∈a
theorem OrdK.nil:OrdK gs []:=⟨List.nodup_nil,by simp,λa x b h=>by cases a<;>cases h⟩
theorem OrdK.step (h:OrdK gs out) (hm:m∈rdy gs out):OrdK gs (out++[m]):=by
 obtain⟨h1,h2,h3⟩:=WR.1 hm
 refine⟨List.nodup_append.2 ⟨h.nd,by simp,λa ha c hc=>by simp at hc;subst hc;exact λe=>h2 (e▸ha)⟩,λx hx=> ?_,λa x b e p hp hi=> ?_⟩
 ·rcases Zi.1 hx with hx|hx
  ·exact h.ids x hx
  ·rw[l2f] at hx;subst hx;exact h1
 ·rcases List.eq_nil_or_concat b with rfl|⟨b',z,rfl⟩
  ·have:=List.append_inj' e rfl
   obtain⟨e1,e2⟩:=this
   cases e2
   subst e1
   exact h3 p hp hi
  ·have e':out++[m]=(a++x::b')++[z]:=by rw[e];simp
   obtain⟨e1,e2⟩:=List.append_inj' e' rfl
   exact h.pr a x b' e1 p hp hi
theorem A4O:∀{l1 l2:List Bt},l1.Nodup→(∀x∈l1,x∈l2)→l1.length≤l2.length:=by
 intro l1
 induction l1 with
 |nil=>intro _ _ _;exact l1c _
 |cons a l ih=>
  intro l2 hn hs
  rw[List.nodup_cons] at hn
  have ha:a∈l2:=hs a (by simp)
  obtain⟨u,v,rfl⟩:=List.append_of_mem ha
  have:=ih (l2:=u++v) hn.2 λx hx=>by
   have h1:=hs x (by simp[hx])
   rw[Zi,UJ] at h1
   rw[Zi]
   rcases h1 with h1|h1|h1
   ·exact .inl h1
   ·subst h1;exact absurd hx hn.1
   ·exact .inr h1
  simp at this⊢
  omega
theorem OrdK.len (h:OrdK gs out):out.length≤gs.length:=by
 have:=A4O h.nd h.ids
 rw[Wv] at this
 exact this
theorem OrdK.all (h:OrdK gs out) (hl:gs.length≤out.length) (hx:x∈gs.map Cd.id):x∈out:=by
 apply Classical.byContradiction
 intro hn
 have:=A4O (l1:=x::out) (l2:=gs.map Cd.id) (List.nodup_cons.2 ⟨hn,h.nd⟩) λy hy=>by
  rcases UJ.1 hy with rfl|hy
  ·exact hx
  ·exact h.ids y hy
 rw[Wv,K9] at this
 omega
theorem A6m (h:OrdK gs out) (hl:gs.length≤out.length):rdy gs out=[]:=by
 rw[List.eq_nil_iff_forall_not_mem]
 intro x hx
 obtain⟨h1,h2,_⟩:=WR.1 hx
 exact h2 (h.all hl h1)
theorem B45:∀(n:Nat) (out:List Bt),OrdK gs out→gs.length≤out.length+n→OrdK gs (A2X gs n out)∧rdy gs (A2X gs n out)=[]:=by
 intro n
 induction n with
 |zero=>intro out h hl;exact⟨h,A6m h hl⟩
 |succ n ih=>
  intro out h hl
  unfold A2X
  cases hs:I9 (rdy gs out) with
  |nil=>
   refine⟨h,?_⟩
   have:=(CD (rdy gs out)).length_eq
   rw[hs] at this
   exact l1s this.symm
  |cons m l=>
   have hm:m∈rdy gs out:=(CD _).mem_iff.1 (by rw[hs];simp)
   exact ih (out++[m]) (h.step hm) (by rw[Fl,List.length_singleton];omega)
theorem WX:OrdK gs (Kz gs)∧rdy gs (Kz gs)=[]:=B45 gs.length [] OrdK.nil (by simp)
theorem OrdK.before (h:OrdK gs out) {a b:List Bt} (e:out=a++x::b) (ha:Anc gs x y):y∈a:=by
 induction ha with
 |one h1 h2=>exact h.pr a x b e _ h2 h1
 |more _ h1 h2 ih=>
  obtain⟨u,v,rfl⟩:=List.append_of_mem ih
  have:=h.pr u _ (v++x::b) (by rw[e];simp) _ h2 h1
  exact List.mem_append_left _ this
theorem OrdK.acyc (h:OrdK gs out) (hx:x∈out):¬Anc gs x x:=by
 intro ha
 obtain⟨a,b,rfl⟩:=List.append_of_mem hx
 have:=h.before rfl ha
 have hn:=h.nd
 rw[List.nodup_append] at hn
 exact hn.2.2 x this x (by simp) rfl
theorem B2c (h:Anc gs x p) (hq:Anc gs p y):Anc gs x y:=by
 induction hq with
 |one h1 h2=>exact .more h h1 h2
 |more _ h1 h2 ih=>exact .more ih h1 h2
open Classical in
theorem B8E (ha:¬Anc gs p p) (h:Anc gs x p):(TU gs p).length<(TU gs x).length:=by
 unfold TU
 rw[(CD _).length_eq,(CD _).length_eq]
 refine Vt (λa _ hq=> ?_) h.ids (decide_eq_true h) (decide_eq_false ha)
 rw[decide_eq_true_eq] at hq⊢
 exact B2c h hq
theorem OrdK.full (h:OrdK gs out) (hr:rdy gs out=[]) (hac:∀x∈gs.map Cd.id,¬Anc gs x x):∀(n:Nat) (x:Bt),(TU gs x).length<n→x∈gs.map Cd.id→x∈out:=by
 intro n
 induction n with
 |zero=>intro x h;omega
 |succ n ih=>
  intro x hl hx
  apply Classical.byContradiction
  intro hn
  have h1:x∉rdy gs out:=by rw[hr];simp
  refine h1 (WR.2 ⟨hx,hn,λp hp hi=> ?_⟩)
  have ha:Anc gs x p:= .one hi hp
  have:=B8E (hac p hi) ha
  exact ih p (by omega) hi
theorem B44 (hn:(gs.map Cd.id).Nodup):gs.length≤(Kz gs).length↔∀x∈gs.map Cd.id,¬Anc gs x x:=by
 obtain⟨h1,h2⟩:=WX (gs:=gs)
 constructor
 ·intro hl x hx
  exact h1.acyc (h1.all hl hx)
 ·intro h
  have:=A4O hn λx hx=>h1.full h2 h _ x (Nat.lt_succ_self _) hx
  rw[Wv] at this
  exact this
theorem OrdK.after (h:OrdK gs out) {a b:List Bt} (e:out=a++x::b) (hy:y∈out) (hp:x∈MV gs y) (hx:x∈gs.map Cd.id):y∈b:=by
 have hn:=h.nd
 rw[e,List.nodup_append,List.nodup_cons] at hn
 rw[e,Zi,UJ] at hy
 rcases hy with hy|hy|hy
 ·obtain⟨u,v,rfl⟩:=List.append_of_mem hy
  have:=h.pr u y (v++x::b) (by rw[e];simp) x hp hx
  exact absurd rfl (hn.2.2 x (List.mem_append_left _ this) x (by simp))
 ·subst hy
  have:=h.pr a y b e y hp hx
  exact absurd rfl (hn.2.2 y this y (by simp))
 ·exact hy
end
section
variable {L n:Nat}
section
variable {l:List Bt} {m a b:Bt} {x:Aj} {K:KV} {H:Hp}
theorem C5V {K:AV→Aj}:eMM true (S a) (S b) K=K (S (if a≤b then a else b)):=by
 have e:eMM true (S a) (S b) K=@Bool.rec (λ_=>Aj) (K (S b)) (K (S a)) (ltB a b||eqB a b):=rfl
 rw[e,A4W,OQ,bytesLess_eq]
 by_cases h:a≤b
 ·have h1:(decide (a<b)||a==b)=true:=by
   by_cases h2:a<b
   ·simp[h2]
   ·have:=A13 h h2
    simp[this]
  rw[if_pos h,h1]
 ·have h1:(decide (a<b)||a==b)=false:=by
   have h2:¬a<b:= λh2=>h ((L4 a b).elim id λh3=>absurd h2 h3)
   have h3:a≠b:= λe=>h (e▸((L4 a a).elim id id))
   simp[h2,h3]
  rw[if_neg h,h1]
theorem C2p {k8:AV→Hp→Aj} (hm:m∈l) (hle:∀y∈l,m≤y) (hb:l.length<1000000) (hx:k8 (S m) H=x):∀(f i:Nat) (cur:Bt),i≤l.length→l.length-i<f→cur∈l→(∀y∈l.take i,cur≤y)→
 Ef (L+20) (rt (L+20) n) K k8 f (Ls l) (S cur) (I i) H=x:=by
 intro f
 induction f with
 |zero=>intro i cur _ h;omega
 |succ f ih=>
  intro i cur hi hf hc hl
  rw[LO]
  unfold F4 Av
  rw[Lc]
  by_cases h:i<l.length
  ·rw[FW (by omega),De,NL h,Gt,C5V,D4 (by omega)]
   refine ih (i+1) _ (by omega) (by omega) ?_ λy hy=> ?_
   ·split
    ·exact hc
    ·exact QE h
   ·rw[l04 h,Zi,l2f] at hy
    split
    ·rename_i h1
     rcases hy with hy|rfl
     ·exact hl y hy
     ·exact h1
    ·rename_i h1
     have h2:l[i]≤cur:=(L4 cur l[i]).elim (λh=>absurd h h1) id
     rcases hy with hy|rfl
     ·exact Yf h2 (hl y hy)
     ·exact(L4 _ _).elim id id
  ·have:i=l.length:=by omega
   subst this
   rw[l06] at hl
   rw[FE (by omega),Bz]
   have:cur=m:=A13 (hl m hm) (hle cur hc)
   rw[this];exact hx
theorem C3W (hm:m∈l) (hle:∀y∈l,m≤y) (hb:l.length<1000000) (hL:l.length<L):CS (rt (L+20) (n+1)) FY [Ls l] (S m):=by
 intro K hK
 rw[MX]
 unfold FO Av
 have h0:0<l.length:=List.length_pos_of_mem hm
 simp only[BX]
 have ls:∀{K:AV→Aj},Go.Abs.Ak Ab .lss (I (l.length:Int)) (AV.v (.int .i64 1)) K=K (Bo false):= λ{K}=>FE (by omega)
 have e0:(AV.v (.int .i64 0))=I ((0:Nat):Int):=rfl
 have e1:(AV.v (.int .i64 1))=I ((1:Nat):Int):=rfl
 rw[Lc,ls,Bz,e0,NL h0,Gt,e1]
 refine C2p (n:=n) hm hle hb (hK _ _ λb=>⟨false,D2⟩) (L+20) 1 _ (by omega) (by omega) (QE h0) λy hy=> ?_
 rw[show 1=0+1 from rfl,l04 h0,List.take_zero,List.nil_append,l2f] at hy
 subst hy
 exact(L4 _ _).elim id id
end
section
variable {l:List Bt} {x:Aj} {K:KV} {H:Hp} {fn:AV} {P:Bt→Bool} {R:Rt}
def fiN (P:Bt→Bool):List Bt→Nat→Int
 |[],_=> -1
 |a::l,i=>if P a=true then(i:Int) else fiN P l (i+1)
theorem B4M {a:Bt} {i:Nat}:fiN P (a::l) i=if P a=true then(i:Int) else fiN P l (i+1):=rfl
theorem C2B {k4:Hp→Aj} {a:AV} (ha:SA l a) (hf:∀(s:Bt) (K:KV),Dy (E (L+20)) R fn [S s] H K=K (Bo (P s)) H) (hb:l.length<1000000) (hk:∀v,v=fiN P l 0→K (I v) H=x) (hx:fiN P l 0= -1→k4 H=x):
 ∀(f i:Nat),i≤l.length→l.length-i<f→fiN P (l.drop i) i=fiN P l 0→
 Cv (L+20) R K k4 f a fn (I l.length) (I i) H=x:=by
 intro f
 induction f with
 |zero=>intro i _ h;omega
 |succ f ih=>
  intro i hi hf' he
  rw[FL]
  unfold Dj Av
  by_cases h:i<l.length
  ·rw[FW (by omega),De,ha.ia h,Gt,hf]
   rw[l11 h] at he
   rw[B4M] at he
   cases hp:P l[i] with
   |true=>
    rw[hp,if_pos rfl] at he
    rw[De]
    exact hk _ he
   |false=>
    rw[hp,if_neg (by simp)] at he
    rw[Bz,D4 (by omega)]
    exact ih (i+1) (by omega) (by omega) he
  ·have:i=l.length:=by omega
   subst this
   rw[List.drop_length] at he
   rw[FE (by omega),Bz]
   exact hx he.symm
theorem C3Z {a:AV} (ha:SA l a) (hf:∀(s:Bt) (K:KV),Dy (E (L+20)) (rt (L+20) n) fn [S s] [] K=K (Bo (P s)) []) (hb:l.length<1000000) (hL:l.length<L):CS (rt (L+20) (n+1)) C9 [a,fn] (I (fiN P l 0)):=by
 intro K hK
 rw[Gh]
 unfold Dt Av
 simp only[BX]
 have e0:(AV.v (.int .i64 0))=I ((0:Nat):Int):=rfl
 rw[ha.len,e0]
 have fin:∀v H,v=fiN P l 0→K (I v) H=some (I (fiN P l 0),[]):= λv H e=>by
  rw[e];exact hK _ _ λb=>⟨false,D2⟩
 refine C2B (R:=rt (L+20) n) ha hf hb (λv e=>fin v _ e) (λe=>fin (-1) _ e.symm) (L+20) 0 (by omega) (by omega) (by rw[l1n])
def VF (H:Hp) (v:AV) (l:List Bt):Prop:=(v=AA∧l=[])∨∃r q tl,v= .sl 1 r 0 l.length∧Aq H r=some (.cells q Au (AK l++tl))
theorem VF.len {v:AV} (h:VF H v l) {K:AV→Aj}:AQ Ac v K=K (I l.length):=by
 rcases h with⟨rfl,rfl⟩|⟨r,q,tl,rfl,_⟩<;>exact _root_.id rfl
theorem VF.kp {H':Hp} {v:AV} (h:VF H v l) (k:∀u y,AG v u→Aq H u=some y→Aq H' u=some y):VF H' v l:=by
 rcases h with h|⟨r,q,tl,h1,h2⟩
 ·exact .inl h
 ·exact .inr ⟨r,q,tl,h1,k r _ ⟨1,0,_,h1⟩ h2⟩
theorem VF.lt {v:AV} (h:VF H v l) (w:Wf H) {u:Nat} (hu:AG v u):u<A2 H:=by
 obtain⟨a,b,c,rfl⟩:=hu
 rcases h with⟨h,_⟩|⟨r,q,tl,h1,h2⟩
 ·cases h
 ·injection h1 with _ h1;subst h1;exact w.lt h2
theorem B4B {D:Nat} {b:Bool}:∀l:List Bt,Pu b D (AK l) (AK l) H false:=by
 intro l
 induction l with
 |nil=>exact Be
 |cons s l ih=>exact Ay (q:=false) D2 ih
theorem VF.fx {v:AV} (h:VF H v l) {D:Nat}:∃a q,SA l a∧Fx true (D+1) v a H q:=by
 rcases h with⟨rfl,rfl⟩|⟨r,q,tl,rfl,h2⟩
 ·exact⟨AA,false,.inr ⟨rfl,rfl⟩,D2⟩
 ·refine⟨Ls l,true,.inl rfl,B4C (q':=false) h2 (by rw[Fl,Cr];omega) ?_⟩
  have:((AK l++tl).drop 0).take (l.length*1)=AK l:=by
   rw[l1n,l28]
   have:=List.take_left (l₁:=AK l) (l₂:=tl)
   rw[Cr] at this
   exact this
  rw[this]
  exact B4B l
theorem B1O {m i:Nat} {r:Nat} (h:i≤m) {K:AV→Aj}:Dh Ac (.sl 1 r 0 m) (some (I (i:Int))) none none K=K (.sl 1 r i (m-i)):=by
 have e1:Dh Ac (.sl 1 r 0 m) (some (I (i:Int))) none none K=ck (Nat.beq 1 1) (iN (i:Int) λl=>fN m λh=>fN m λx=>ck ((true||false)&&(Nat.ble l h&&(Nat.ble h x&&Nat.ble x m))) (fN (Nat.add 0 (Nat.mul l 1)) λo'=>fN (Nat.sub h l) λn=>K (.sl 1 r o' n))):=rfl
 rw[e1,Jn,Di,Di]
 have c:((true||false)&&(Nat.ble i m&&(Nat.ble m m&&Nat.ble m m)))=true:=by simp;omega
 rw[c]
 show fN (Nat.add 0 (Nat.mul i 1)) (λo'=>fN (Nat.sub m i) λn=>K (.sl 1 r o' n))=_
 rw[Di,Di]
 have e2:Nat.add 0 (Nat.mul i 1)=i:=by show 0+i*1=i;omega
 rw[e2];rfl
theorem B1P {m i:Nat} {r:Nat} (h:i≤m) {K:AV→Aj}:Dh Ac (.sl 1 r 0 m) none (some (I (i:Int))) none K=K (.sl 1 r 0 i):=by
 have e1:Dh Ac (.sl 1 r 0 m) none (some (I (i:Int))) none K=ck (Nat.beq 1 1) (fN 0 λl=>iN (i:Int) λh=>fN m λx=>ck ((true||true)&&(Nat.ble l h&&(Nat.ble h x&&Nat.ble x m))) (fN (Nat.add 0 (Nat.mul l 1)) λo'=>fN (Nat.sub h l) λn=>K (.sl 1 r o' n))):=rfl
 rw[e1,Di,Jn,Di]
 have c:((true||true)&&(Nat.ble 0 i&&(Nat.ble i m&&Nat.ble m m)))=true:=by simp;omega
 rw[c]
 show fN (Nat.add 0 (Nat.mul 0 1)) (λo'=>fN (Nat.sub i 0) λn=>K (.sl 1 r o' n))=_
 rw[Di,Di];rfl
theorem C30 {r i m:Nat} {q:Bool} {cs:List AV} (hl:Aq H r=some (.cells q Au cs)) (h:i+m≤cs.length):∃cs' H',(∀K:Hp→Aj,A7l 1 Ae (.sl 1 r i m) H K=K H')∧Aq H' r=some (.cells q Au cs')∧cs'.take i=cs.take i∧Lat H H' (λu=>u=r):=by
 cases m with
 |zero=>exact⟨cs,H,λK=>rfl,hl,rfl,Lat.refl _ _⟩
 |succ m=>
  refine⟨splice cs i (List.replicate (m+1) (S [])),upd H r (.cells q Au (splice cs i (List.replicate (m+1) (S [])))),λK=> ?_,AB hl,?_,Lat.upd _ _ _ rfl⟩
  ·have e1:A7l 1 Ae (.sl 1 r i (m+1)) H K=Hi Ae.zero λz=>GP z 0 λk=>ck (Nat.beq k 1&&(Nat.beq 1 1&&PZ z)) (UQ (m+1) z λys=>JL H r λx=>A1a x λq E cs=>E8 i ys cs λcs'=>LL H r (.cells q E cs') K):=rfl
   have hz:B8 Ae.zero=[S []]:=rfl
   rw[e1,CQ,hz,Co]
   show UQ (m+1) [S []] _=_
   rw[A3P,BI hl]
   show E8 i (List.replicate (m+1) (S [])) cs _=_
   rw[Ka _ _ _ _ (by rw[List.length_replicate];omega),Dm]
  ·unfold splice
   rw[l0k,List.take_append_of_le_length (by rw[l0g];omega),List.take_take,Nat.min_self]
theorem B4L (P:Bt→Bool):∀(l:List Bt) (k:Nat),(fiN P l k= -1∧∀a∈l,P a=false)∨∃(i:Nat) (h:i<l.length),fiN P l k=((k+i:Nat):Int)∧P l[i]=true∧∀a∈l.take i,P a=false:=by
 intro l
 induction l with
 |nil=>intro k;exact .inl ⟨rfl,by simp⟩
 |cons a l ih=>
  intro k
  unfold fiN
  cases hp:P a with
  |true=>
   rw[if_pos rfl]
   exact .inr ⟨0,by simp,by simp,hp,by simp⟩
  |false=>
   rw[if_neg (by simp)]
   rcases ih (k+1) with⟨h1,h2⟩|⟨i,h,h1,h2,h3⟩
   ·refine .inl ⟨h1,λb hb=> ?_⟩
    rcases UJ.1 hb with rfl|hb
    ·exact hp
    ·exact h2 b hb
   ·refine .inr ⟨i+1,by simp;omega,by rw[h1];congr 1;omega,h2,λb hb=> ?_⟩
    rw[List.take_succ_cons] at hb
    rcases UJ.1 hb with rfl|hb
    ·exact hp
    ·exact h3 b hb
theorem C37 {k12:AV→AV→Hp→Aj} {H0:Hp} {r:Nat} {q:Bool} {tl:List AV} (hb:l.length<1000000) (w0:Wf H0) (hf:∀H',Lat H0 H' (λu=>u=r)→∀(s:Bt) (K:KV),Dy (E (L+20)) R fn [S s] H' K=K (Bo (P s)) H')
 (hfin:∀cs H',Aq H' r=some (.cells q Au cs)→cs.length=l.length+tl.length→cs.take (l.filter λs=> !P s).length=AK (l.filter λs=> !P s)→Lat H0 H' (λu=>u=r)→k12 (.sl 1 r 0 l.length) (I (l.filter λs=> !P s).length) H'=x):
 ∀(f j:Nat) (cs:List AV) (H':Hp),j≤l.length→l.length-j<f→Aq H' r=some (.cells q Au cs)→cs.length=l.length+tl.length→cs.take ((l.take j).filter λs=> !P s).length=AK ((l.take j).filter λs=> !P s)→cs.drop j=AK (l.drop j)++tl→Lat H0 H' (λu=>u=r)→((l.take j).filter λs=> !P s).length<j→
 Db (L+20) R K k12 f (.sl 1 r 0 l.length) fn (I ((l.take j).filter λs=> !P s).length) (I j) H'=x:=by
 intro f
 induction f with
 |zero=>intro j cs H' _ h;omega
 |succ f ih=>
  intro j cs H' hj hf' hl hlen ht hd hk hij
  rw[JJ]
  unfold Eg Av
  have el:∀K,AQ Ac (.sl 1 r 0 l.length) K=K (I l.length):= λK=>id rfl
  rw[el]
  by_cases h:j<l.length
  ·have hc:j<cs.length:=by omega
   have e1:=hd
   rw[l11 hc,l11 h] at e1
   injection e1 with e1 e2
   have hld:∀{K:AV→Aj},Ar Ae (.ptr r j 0) H' K=K (S l[j]):= λ{K}=>by
    rw[AP (p:=j) rfl hl hc,TW,Kq hc,l1l,e1]
   rw[FW (by omega),De]
   simp only[BX]
   rw[X5 h,hld,hf H' hk,Ku]
   have et:(l.take (j+1)).filter (λs=> !P s)=(l.take j).filter (λs=> !P s)++[l[j]].filter (λs=> !P s):=by
    rw[l04 h,List.filter_append]
   cases hp:P l[j] with
   |true=>
    have e3:(l.take (j+1)).filter (λs=> !P s)=(l.take j).filter (λs=> !P s):=by rw[et];simp[hp]
    show Aw (.v (.bool false)) _ _=_
    rw[Bz,D4 (by omega)]
    have:=ih (j+1) cs H' (by omega) (by omega) hl hlen (by rw[e3];exact ht) e2 hk (by rw[e3];omega)
    rw[e3] at this
    exact this
   |false=>
    have e3:(l.take (j+1)).filter (λs=> !P s)=(l.take j).filter (λs=> !P s)++[l[j]]:=by rw[et];simp[hp]
    have hi:((l.take j).filter λs=> !P s).length<l.length:=by omega
    show Aw (.v (.bool true)) _ _=_
    rw[De,X5 hi,Ez hl (by omega) rfl rfl rfl,D4 (by omega),D4 (by omega)]
    have e4:((l.take (j+1)).filter λs=> !P s).length=((l.take j).filter λs=> !P s).length+1:=by rw[e3,Fl];rfl
    rw[←e4]
    refine ih (j+1) (cs.set ((l.take j).filter λs=> !P s).length (S l[j])) _ (by omega) (by omega) (AB hl) (by rw[List.length_set];exact hlen) ?_ ?_ (hk.trans (Lat.upd _ _ _ (P:= λu=>u=r) rfl) (λ_ _ h=>h) (λ_ _ h=>h)) (by omega)
    ·have hlt:((l.take j).filter λs=> !P s).length<(cs.set ((l.take j).filter λs=> !P s).length (S l[j])).length:=by rw[List.length_set];omega
     rw[e4,l04 hlt,List.getElem_set_self,e3,List.take_set_of_le (OV _),ht]
     simp[AK]
    ·rw[List.drop_set_of_lt (by omega)]
     exact e2
  ·have:j=l.length:=by omega
   subst this
   rw[l06] at ht⊢
   rw[FE (by omega),Bz]
   exact hfin cs H' hl hlen ht hk
theorem B8R {v:AV} (wf:Wf H) (h:VF H v l) (hb:l.length<100000) (hL:200000<L) (hfx:∃fn' q,Fx true depth fn fn' H q∧∀(s:Bt) (K:KV),Dy (E (L+20)) (rt (L+20) n) fn' [S s] [] K=K (Bo (P s)) [])
 (hf:∀H',Lat H H' (AG v)→∀(s:Bt) (K:KV),Dy (E (L+20)) (rt (L+20) (n+1)) fn [S s] H' K=K (Bo (P s)) H')
 (hx:∀v' H',VF H' v' (l.filter λs=> !P s)→(∀u,AG v' u→AG v u)→Lat H H' (AG v)→K v' H'=x):(rt (L+20) (n+2)).call Cx [v,fn] H K=x:=by
 rw[JW]
 unfold Es Av
 obtain⟨a,q,ha,hq⟩:=h.fx (D:=depth-1)
 obtain⟨fn',q',hq',hf0⟩:=hfx
 rw[Ba (C3Z (n:=n) ha hf0 (by omega) (by omega)) (Ay hq (Ay hq' Be))]
 rcases B4L P l 0 with⟨h1,h2⟩|⟨i,hi,h1,h2,h3⟩
 ·have e:∀{K:AV→Aj},Go.Abs.Ak Ab .eql (I (-1)) (AV.v (.int .i64 (-1))) K=K (Bo true):= λ{K}=>by rw[Dd,decide_eq_true rfl]
  rw[h1,e,De]
  have e2:l.filter (λs=> !P s)=l:=List.filter_eq_self.2 λa ha=>by rw[h2 a ha];rfl
  rw[e2] at hx
  exact hx v H h (λ_ h=>h) (Lat.refl _ _)
 ·rw[KF] at h1
  have e:∀{K:AV→Aj},Go.Abs.Ak Ab .eql (I (i:Int)) (AV.v (.int .i64 (-1))) K=K (Bo false):= λ{K}=>by rw[Dd,decide_eq_false (by omega)]
  rw[h1,e,Bz]
  simp only[BX]
  rcases h with⟨_,rfl⟩|⟨r,q0,tl,rfl,hl⟩
  ·simp at hi
  have hrow:∀u,AG (.sl 1 r 0 l.length) u↔u=r:= λu=>⟨λ⟨_,_,_,h⟩=>by injection h with _ h;exact h.symm,λh=>h▸⟨1,0,_,rfl⟩⟩
  have lat:∀{H'},Lat H H' (λu=>u=r)→Lat H H' (AG (.sl 1 r 0 l.length)):= λk=>⟨k.wf,k.nx,λw u y hu hn=>k.keep w u y hu λe=>hn ((hrow u).2 e)⟩
  have e3:(l.take (i+1)).filter (λs=> !P s)=l.take i:=by
   rw[l04 hi,List.filter_append]
   have a1:(l.take i).filter (λs=> !P s)=l.take i:=List.filter_eq_self.2 λa ha=>by rw[h3 a ha];rfl
   rw[a1];simp[h2]
  have e4:((l.take (i+1)).filter λs=> !P s).length=i:=by rw[e3,l0g];omega
  have ht:AK (l.take i)=(AK l).take i:=by simp[AK,List.map_take]
  have hd:AK (l.drop (i+1))=(AK l).drop (i+1):=by simp[AK,List.map_drop]
  rw[D4 (by omega)]
  have main:=C37 (L:=L) (R:=rt (L+20) (n+1)) (K:=K) (fn:=fn) (P:=P) (l:=l) (H0:=H) (r:=r) (q:=q0) (tl:=tl) (x:=x)
   (k12:= λv13 v14 H15=>Dh Ac v13 (some v14) none none λv7=>A7l 1 Ae v7 H15 λH8=>Dh Ac v13 none (some v14) none λv10=>K v10 H8)
   (by omega) wf (λH' k=>hf H' (lat k)) (λcs H' g1 g2 g3 g4=> ?_) (L+20) (i+1) (AK l++tl) H (by omega) (by omega) hl (by rw[Fl,Cr]) (by rw[e4,e3,ht,List.take_append_of_le_length (by rw[Cr];omega)]) (by rw[hd,List.drop_append_of_le_length (by rw[Cr];omega)]) (Lat.refl _ _) (by omega)
  ·rw[e4] at main
   exact main
  ·have hfl:(l.filter λs=> !P s).length≤l.length:=List.length_filter_le _ _
   obtain⟨cs',H2,c1,c2,c3,c4⟩:=C30 (H:=H') (r:=r) (i:=(l.filter λs=> !P s).length) (m:=l.length-(l.filter λs=> !P s).length) g1 (by omega)
   show(Dh Ac (.sl 1 r 0 l.length) (some (I ((l.filter λs=> !P s).length:Nat))) none none _)=_
   rw[B1O hfl,c1,B1P hfl]
   refine hx _ H2 (.inr ⟨r,q0,cs'.drop (l.filter λs=> !P s).length,rfl,?_⟩) (λu hu=> ?_) (lat (g4.trans c4 (λ_ _ h=>h) (λ_ _ h=>h)))
   ·rw[c2,←g3,←c3,List.take_append_drop]
   ·obtain⟨_,_,_,h⟩:=hu
    injection h with _ h
    exact⟨1,0,_,by rw[h]⟩
end
end
section
variable {L n:Nat}
abbrev Edg:=Bt×Bt
def Nc (gs:List Cd):List Edg:=gs.flatMap λc=>c.ps.map λp=>(c.id,p)
def A5z (R:Rt) (L s0 it:Nat) (I:List Edg→Hp→Prop):Prop:=∀(es:List Edg) (s p:Bt) (H:Hp) (K:KV) (x:Aj),es.length<1000→I es H→(∀H',I (es++[(s,p)]) H'→(∀y,Aq H it=some y→Aq H' it=some y)→K (Bo true) H'=x)→Dy (E (L+20)) R (.yl s0) [S s,S p] H K=x
theorem B4A {rem:List Cd} {a c:List (Bt×Cd)} {e:Bt×Cd} (h:gE rem=a++e::c):∃ra cd rc,rem=ra++cd::rc∧a=gE ra∧e=(cd.id,cd)∧c=gE rc:=by
 obtain⟨ra,rb,h1,h2,h3⟩:=List.map_eq_append_iff.1 h
 obtain⟨cd,rc,h4,h5,h6⟩:=List.map_eq_cons_iff.1 h3
 subst h4
 exact⟨ra,cd,rc,h1,h2.symm,h5.symm,h6.symm⟩
section
variable {gs:List Cd} {K:KV} {x:Aj} {s0 it:Nat} {Q:List Edg→Hp→Prop}
theorem A77:∀gs:List Cd,(∀c∈gs,c.ps.length<100)→(Nc gs).length≤gs.length*100:=by
 intro gs
 induction gs with
 |nil=>intro _;simp[Nc]
 |cons c gs ih=>
  intro h
  have h1:=h c (by simp)
  have h2:=ih λd hd=>h d (by simp[hd])
  have e:Nc (c::gs)=c.ps.map (λp=>(c.id,p))++Nc gs:=rfl
  rw[e,Fl,Wv,K9,l19];omega
theorem B8l {k34:AV→AV→AV→AV→AV→AV→Hp→Aj} {a8:AV} {s:Bt} {ps:List Bt} (hb:ps.length<100) (hr:A5z (rt (L+20) (n+2)) L s0 it Q):∀(f i:Nat) (es:List Edg) (H:Hp) (y:Row),i≤ps.length→ps.length-i<f→es.length+(ps.length-i)<1000→Q es H→Aq H it=some y→
 (∀d H',Q (es++(ps.drop i).map λp=>(s,p)) H'→Aq H' it=some y→k34 (.yl s0) (S s) a8 (Ep ps) (I ps.length) d H'=x)→
 Fb (L+20) (rt (L+20) (n+2)) K k34 f (.yl s0) (S s) a8 (Ep ps) (I ps.length) (I i) H=x:=by
 intro f
 induction f with
 |zero=>intro i es H y _ h;omega
 |succ f ih=>
  intro i es H y hi hf hn hm hy hx
  rw[ON]
  unfold GZ Av
  by_cases h:i<ps.length
  ·rw[FW (by omega),De,(JU ps).ia h,Gt]
   rw[l11 h] at hx
   refine hr es s ps[i] H _ x (by omega) hm λH' hm' hk=> ?_
   rw[Ku]
   show Aw (.v (.bool false)) _ _=_
   rw[Bz,D4 (by omega)]
   refine ih (i+1) (es++[(s,ps[i])]) H' y (by omega) (by omega) (by rw[Fl,List.length_singleton];omega) hm' (hk y hy) λd H2 h2 hy2=>hx d H2 ?_ hy2
   rw[XS]
   rw[l0k] at h2
   exact h2
  ·rw[FE (by omega),Bz]
   have:i=ps.length:=by omega
   subst this
   rw[List.drop_length,List.map_nil,XR] at hx
   exact hx _ H hm hy
theorem B8m {k4:Hp→Aj} {w:AV} (hw:Zr 6 w w=true) (hg:gs.length≤8) (hp:∀c∈gs,c.ps.length<100) (hL:100<L) (hr:A5z (rt (L+20) (n+2)) L s0 it Q)
 (hkp:∀es H H',Q es H→Wf H'→(∀u y,u≠it→Aq H u=some y→Aq H' u=some y)→Q es H') (hwf:∀es H,Q es H→Wf H)
 (hfin:∀done H,done.Perm gs→Q (Nc done) H→k4 H=some (w,[])):
 ∀(f:Nat) (rem done:List Cd) (H:Hp) (o:Option (Value×AV)) (d0 d1 d2 d3:AV),rem.length<f→(done++rem).Perm gs→Q (Nc done) H→Aq H it=some (.iter (GF P0 (gE rem)) o)→
 DV (L+20) (rt (L+20) (n+2)) K k4 f (.yl s0) d0 (.it it) d1 d2 d3 H=some (w,[]):=by
 intro f
 induction f with
 |zero=>intro rem done H o d0 d1 d2 d3 h;omega
 |succ f ih=>
  intro rem done H o d0 d1 d2 d3 hf hpm hm hl
  rw[Jo]
  unfold Fc Av
  refine A8C (f:=P0) hw hl (λe=> ?_) (λa e c hec=> ?_)
  ·have e':rem=[]:=by
    cases rem with
    |nil=>rfl
    |cons _ _=>cases e
   subst e'
   rw[Tt,Bz]
   rw[XR] at hpm
   exact hfin done H hpm hm
  ·obtain⟨ra,cd,rc,rfl,rfl,rfl,rfl⟩:=B4A hec
   have hcd:cd∈gs:=hpm.mem_iff.1 (by simp)
   have hps:=hp cd hcd
   have e9:gE ra++gE rc=gE (ra++rc):=by simp[gE]
   have hl1:=Wi (es:=GF P0 (gE ra++gE rc)) (o:=some (.string ⟨⟨cd.id⟩⟩,P0 cd)) hl
   have hm1:Q (Nc done) (upd H it (.iter (GF P0 (gE ra++gE rc)) (some (.string ⟨⟨cd.id⟩⟩,P0 cd)))):=hkp _ _ _ hm (BR (hwf _ _ hm)) λu y hu hy=>by rw[Ap hu];exact hy
   show AN (.tup [.v (.bool true),S cd.id,P0 cd]) 0 _=_
   rw[Tt,De]
   simp only[BX]
   show A3k (.it it) (upd H it (.iter (GF P0 (gE ra++gE rc)) (some (.string ⟨⟨cd.id⟩⟩,P0 cd)))) _=_
   rw[YS hl1,Tt,C2Y]
   generalize upd H it (.iter (GF P0 (gE ra++gE rc)) (some (.string ⟨⟨cd.id⟩⟩,P0 cd)))=H1 at hl1 hm1
   obtain⟨H2,e2,hc2,w2,k2⟩:=Er (e:=Al) (zs:=BJ) (vs:=cd.cs) (hwf _ _ hm1) CA
   rw[Bi (cs:=BJ) rfl,B7 (cs:=BJ) (vs:=cd.cs) (A1 (by simp)) CA rfl KC,←e2,fA,KF,B9l hc2,UW]
   have hm2:=hkp _ _ _ hm1 w2 λu y _ hy=>(k2 u y hy).1
   have hl2:=(k2 _ _ hl1).1
   have e0:(AV.v (.int .i64 0))=I ((0:Nat):Int):=rfl
   have hlen:=hpm.length_eq
   rw[Fl,Fl,K9] at hlen
   have hel:=A77 done λc hc=>hp c (hpm.mem_iff.1 (by simp[hc]))
   rw[e0]
   refine B8l (n:=n) hps hr (L+20) 0 (Nc done) H2 _ (by omega) (by omega) (by omega) hm2 hl2 λd H' hm' hl'=> ?_
   rw[l1n] at hm'
   have e8:Nc done++cd.ps.map (λp=>(cd.id,p))=Nc (done++[cd]):=by simp[Nc]
   rw[e8] at hm'
   rw[e9] at hl'
   refine ih (ra++rc) (done++[cd]) H' _ _ _ _ _ (by simp at hf⊢;omega) ?_ hm' hl'
   refine List.Perm.trans ?_ hpm
   rw[l0k]
   refine List.Perm.append_left done ?_
   show(cd::(ra++rc)).Perm _
   exact List.perm_middle.symm
theorem B6e {H:Hp} {w:AV} (hw:Zr 6 w w=true) (hg:gs.length≤8) (hp:∀c∈gs,c.ps.length<100) (hL:100<L) (hr:A5z (rt (L+20) (n+2)) L s0 (A2 H) Q)
 (hkp:∀es H1 H',Q es H1→Wf H'→(∀u y,u≠A2 H→Aq H1 u=some y→Aq H' u=some y)→Q es H') (hwf:∀es H,Q es H→Wf H)
 (h0:Q [] ((A2 H,.iter (GF P0 (gE gs)) none)::H)) (hfin:∀done H,done.Perm gs→Q (Nc done) H→K (.tup []) H=some (w,[])):
 (rt (L+20) (n+3)).call CO [.yl s0,.iptr [gV gs]] H K=some (w,[]):=by
 rw[JE]
 unfold Fu
 have e2:∀{H:Hp} {K:AV→Aj},Ar AT (.iptr [gV gs]) H K=K (gV gs):= λ{H K}=>NJ rfl
 rw[e2,A5i]
 simp only[BX]
 exact B8m (n:=n) (it:=A2 H) hw hg hp hL hr hkp hwf (λdone H hd hq=>hfin done H hd hq) (L+20) gs [] _ none _ _ _ _ (by omega) (List.Perm.refl _) h0 (A1 (by simp))
theorem B9K {H:Hp} {K:AV→Aj}:Ah (rt (L+20) (n+1)) E1 [gV gs] H K=K (B8n gs):=by
 refine GS (λK hK=> ?_) (Ay (q:=false) A0t Be)
 rw[RY]
 unfold J4
 rw[B5d]
 exact hK _ _ ⟨true,λK=>by kernel_rfl⟩
abbrev Xm (gs:List Cd):AV:= .fn (.func Cy) [] [.iptr [gV gs]]
theorem B4r {H0:Hp} {r0 s e0 it:Nat} {q0:Bool} {c6 w:AV} {k4:Hp→Aj} {ks:List Bt} (hw:Zr 6 w w=true) (hlen:ks.length<1000000)
 (hfin:∀l v H,l.Perm ks→(l=[]→v=AA)→Coll H0 r0 s q0 e0 c6 l v H→k4 H=some (w,[])) (hit:it≠r0∧it≠s∧A2 H0≤it):
 ∀(f:Nat) (es:List (Bt×Cd)) (l:List Bt) (v:AV) (H:Hp) (o:Option (Value×AV)),es.length<f→(l++es.map Prod.fst).Perm ks→(l=[]→v=AA)→Coll H0 r0 s q0 e0 c6 l v H→¬AG v it→Aq H it=some (.iter (GF P0 es) o)→
 Bu (L+20) (rt (L+20) (n+1)) K k4 f (.yl s) (.it it) H=some (w,[]):=by
 intro f
 induction f with
 |zero=>intro es l v H o h;omega
 |succ f ih=>
  intro es l v H o hf hp h0 hc hv hl
  rw[FV]
  unfold Cu
  refine A8C (f:=P0) hw hl (λe=> ?_) (λa e b he=> ?_)
  ·subst e
   rw[Tt,Bz]
   exact hfin l v H (by simpa using hp) h0 hc
  ·subst he
   have hc1:=hc.it (.iter (GF P0 (a++b)) (some (.string ⟨⟨e.1⟩⟩,P0 e.2))) hit hv
   have hl1:=Wi (es:=GF P0 (a++b)) (o:=some (.string ⟨⟨e.1⟩⟩,P0 e.2)) hl
   have hll:(l++(a++e::b).map Prod.fst).length=ks.length:=hp.length_eq
   simp at hll
   have eo:ofV (.string ⟨⟨e.1⟩⟩)=S e.1:=rfl
   rw[Tt,De,YS hl1,Tt,eo]
   refine A9U hc1 (by omega) λv' H' hc' hk hr=> ?_
   rw[Ku]
   show Aw (.v (.bool false)) _ _=_
   rw[Bz]
   refine ih (a++b) (l++[e.1]) v' H' _ (by simp at hf⊢;omega) ?_ (by simp) hc' (λhu=> ?_) (hk it _ hit.1 hit.2.1 hv hl1)
   ·refine List.Perm.trans ?_ hp
    simp only[Zl,XS,l0k]
    refine List.Perm.append_left l ?_
    show(e.1::(a.map Prod.fst++b.map Prod.fst)).Perm _
    exact List.perm_middle.symm
   ·have g1:=hr it hu
    have g2:=hc1.wf.lt hl1
    rw[BY] at g1 g2
    omega
theorem A84 {H0:Hp} {w:AV} (hw:Zr 6 w w=true) (hg:gs.length≤8) (hL:100<L) (wf:Wf H0)
 (hx:∀l v H,l.Perm (gs.map Cd.id)→(l=[]→v=AA)→NewSl H0 l v H→K v H=some (w,[])):
 (rt (L+20) (n+4)).call EH [Xm gs] H0 K=some (w,[]):=by
 rw[Hu]
 unfold EF
 rw[Ek]
 unfold C8
 simp only[BX]
 rw[A5n (by rfl),A0k,Gc]
 unfold Cw
 simp only[BX]
 have w1:=Br (x:= .cells true Bf [AA]) wf
 have hn0:=A1 (H:=H0) (x:= .cells true Bf [AA]) (by simp)
 have hne:A2 ((A2 H0,Row.cells true Bf [AA])::H0)=A2 H0+1:=rfl
 have w2:Wf ((A2 H0+1,Py (.ptr (A2 H0) 0 0) (Xm gs) (some none))::(A2 H0,Row.cells true Bf [AA])::H0):=Br (x:=Py (.ptr (A2 H0) 0 0) (Xm gs) (some none)) w1
 have hs0:Aq ((A2 H0+1,Py (.ptr (A2 H0) 0 0) (Xm gs) (some none))::(A2 H0,Row.cells true Bf [AA])::H0) (A2 H0+1)=some (Py (.ptr (A2 H0) 0 0) (Xm gs) (some none)):=A1 (H:=((A2 H0,Row.cells true Bf [AA])::H0)) (x:=Py (.ptr (A2 H0) 0 0) (Xm gs) (some none)) (by simp[Py])
 have ol:∀u y,Aq H0 u=some y→Aq ((A2 H0+1,Py (.ptr (A2 H0) 0 0) (Xm gs) (some none))::(A2 H0,Row.cells true Bf [AA])::H0) u=some y:= λu y hu=>by
  have a1:=AS (x:= .cells true Bf [AA]) (wf.lt hu) hu
  exact AS (w1.lt a1) a1
 have e2:∀{H:Hp} {K:AV→Aj},Ar AT (.iptr [gV gs]) H K=K (gV gs):= λ{H K}=>NJ rfl
 rw[e2,A5i]
 have hr2:Aq ((A2 H0+1,Py (.ptr (A2 H0) 0 0) (Xm gs) (some none))::(A2 H0,Row.cells true Bf [AA])::H0) (A2 H0)=some (.cells true Bf [AA]):=AS (w1.lt hn0) hn0
 show Bu (L+20) (rt (L+20) (n+1)) _ _ (L+20) (.yl (A2 H0+1)) (.it (A2 ((A2 H0+1,Py (.ptr (A2 H0) 0 0) (Xm gs) (some none))::(A2 H0,Row.cells true Bf [AA])::H0))) ((A2 ((A2 H0+1,Py (.ptr (A2 H0) 0 0) (Xm gs) (some none))::(A2 H0,Row.cells true Bf [AA])::H0),.iter (GF P0 (gE gs)) none)::((A2 H0+1,Py (.ptr (A2 H0) 0 0) (Xm gs) (some none))::(A2 H0,Row.cells true Bf [AA])::H0))=_
 generalize hH2:((A2 H0+1,Py (.ptr (A2 H0) 0 0) (Xm gs) (some none))::(A2 H0,Row.cells true Bf [AA])::H0:Hp)=H2 at w2 hs0 ol hr2
 have hn2:A2 H2=A2 H0+2:=by rw[←hH2];rfl
 have w4:=Br (x:= .iter (GF P0 (gE gs)) none) w2
 have up:∀u y,Aq H2 u=some y→Aq ((A2 H2,Row.iter (GF P0 (gE gs)) none)::H2) u=some y:= λu y hy=>AS (w2.lt hy) hy
 have it0:Aq ((A2 H2,Row.iter (GF P0 (gE gs)) none)::H2) (A2 H2)=some (.iter (GF P0 (gE gs)) none):=A1 (by simp)
 have hgl:(gE gs).length=gs.length:=by simp[gE]
 refine B4r (n:=n) (H0:=H0) (r0:=A2 H0) (s:=A2 H0+1) (it:=A2 H2) (q0:=true) (e0:=Bf) (c6:=Xm gs) (ks:=gs.map Cd.id) hw (by rw[Wv];omega) ?_ (by omega) (L+20) (gE gs) [] AA _ none (by omega) (by rw[List.nil_append,A59]) (λ_=>rfl)
  ⟨up _ _ hr2,.inl ⟨rfl,rfl,rfl⟩,up _ _ hs0,λu ⟨_,_,_,h⟩=>(by cases h),w4,λu y hu=>up u y (ol u y hu),by omega,by omega,by omega,wf⟩ (λ⟨_,_,_,h⟩=>(by cases h)) it0
 intro l v H hp h0 hc
 show JL H (A2 H0+1) _=_
 rw[BI hc.lp]
 show LL H (A2 H0+1) .gone _=_
 rw[Dm]
 have hr:Aq (upd H (A2 H0+1) .gone) (A2 H0)=some (.cells true Bf [v]):=by rw[Ap (by omega)];exact hc.at_
 show Ar Ac (.ptr (A2 H0) 0 0) (upd H (A2 H0+1) .gone) _=_
 rw[AP (p:=0) rfl hr (by simp)]
 refine hx _ _ _ hp h0 ⟨?_,λu hu=>(hc.new u hu).2.2,BR hc.wf,λu y hu=> ?_,?_⟩
 ·exact hc.sl.lat hc.wf (Lat.upd H _ _ (P:= λu=>u=A2 H0+1) rfl) (λu hu=>(hc.new u hu).2.1)
 ·have:=wf.lt hu
  rw[Ap (by omega)];exact hc.keep u y hu
 ·rw[BY]
  have:=hc.wf.lt hc.at_
  omega
theorem B2O {H0:Hp} {w:AV} (hw:Zr 6 w w=true) (hg:gs.length≤8) (hL:100<L) (wf:Wf H0)
 (hx:∀v H,NewSl H0 (I9 (gs.map Cd.id)) v H→(gs=[]→v=AA)→K v H=some (w,[])):(rt (L+20) (n+6)).call Iv [gV gs] H0 K=some (w,[]):=by
 rw[TM]
 unfold K4
 have ky:∀{K:AV→Aj},Ah (rt (L+20) (n+5)) CN [gV gs] H0 K=K (Xm gs):= λ{K}=>by
  refine GS (λK hK=> ?_) (Ay (q:=false) A0t Be)
  rw[show n+5=(n+4)+1 from rfl,GY]
  unfold CM
  have eb:∀{H:Hp} {K:KV},DK BC (gV gs) H K=K (.ptr (A2 H) 0 0) ((A2 H,.cells true BC [gV gs])::H):= λ{H K}=>B5d
  rw[eb]
  exact hK _ _ ⟨true,λK=>by kernel_rfl⟩
 rw[ky,Ie]
 unfold EW
 refine A84 (n:=n) hw hg hL wf λl v H hp h0 hc=> ?_
 refine B2I (n:=n) wf (by rw[hp.length_eq,Wv];omega) h0 hc λH' hc'=> ?_
 have e:I9 l=I9 (gs.map Cd.id):=QU ((CD l).trans (hp.trans (CD _).symm)) (IW l) (IW _)
 rw[e] at hc'
 refine hx v H' hc' λh=>h0 ?_
 subst h
 exact l1s (by rw[hp.length_eq];rfl)
end
end
end Go.Abs
end
