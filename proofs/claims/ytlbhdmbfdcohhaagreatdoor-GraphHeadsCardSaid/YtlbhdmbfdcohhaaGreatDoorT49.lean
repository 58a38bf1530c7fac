import Derived.Test.YtlbhdmbfdcohhaaGreatDoorT46
import Derived.Test.YtlbhdmbfdcohhaaGreatDoorT48
set_option linter.all false
set_option maxHeartbeats 100000000
noncomputable section
namespace Go.Abs
open Go.RowKit Go.Proofs
set_option maxRecDepth 100000
section
variable {L n:Nat}
def B05:AV:= .list 2 (JQ.cs++Vm.cs)
theorem A6D:LA [JQ,Vm] B05:= .inl (by
 show AV.list 2 _=AV.list 2 ([JQ,Vm].flatMap Cd.cs)
 simp)
section
variable {K:AV→Aj} {H:Hp}
theorem C7Q:Sn 68 Ad 2 [(0,68,.agg JQ.cs),(68,68,.agg Vm.cs)] K=K B05:=by kernel_rfl
theorem C7R:Sn 68 Ad 2 [(0,68,.agg JQ.cs),(68,68,.agg JQ.cs)] K=K B4c:=by kernel_rfl
theorem bf4:Sn 68 Ad 4 [(0,68,.agg scD.cs),(68,68,.agg WS.cs),(136,68,.agg Vm.cs),(204,68,.agg JQ.cs)] K=K Na:=by kernel_rfl
theorem bf3:Sn 68 Ad 3 [(0,68,.agg JQ.cs),(68,68,.agg Vm.cs),(136,68,.agg scE.cs)] K=K B4b:=by kernel_rfl
theorem C7P {a:List UInt8}:Sn 1 Ae 1 [(0,1,S a)] K=K (DV [a]):=by kernel_rfl
theorem C6j {a b:List UInt8}:Sn 1 Ae 2 [(0,1,S a),(1,1,S b)] K=K (DV [a,b]):=by kernel_rfl
theorem C7O {a b c d:List UInt8}:Sn 1 Ae 4 [(0,1,S a),(1,1,S b),(2,1,S c),(3,1,S d)] K=K (DV [a,b,c,d]):=by kernel_rfl
theorem ix0 {a:List UInt8} {l:List (List UInt8)}:BA Ac (DV (a::l)) (.v (.int .i64 0)) K=K (.iptr [S a]):=by
 have:=(I5 (a::l)).ia (K:=K) (i:=0) (by simp)
 exact this
theorem ix1 {a b:List UInt8} {l:List (List UInt8)}:BA Ac (DV (a::b::l)) (.v (.int .i64 1)) K=K (.iptr [S b]):=by
 have:=(I5 (a::b::l)).ia (K:=K) (i:=1) (by simp)
 exact this
theorem mmT:eMM true (S lA) (S lB) K=K (S lB):=by kernel_rfl
theorem mmF:eMM false (S lA) (S lB) K=K (S lA):=by kernel_rfl
theorem ln2 {a b:List UInt8}:AR Ac (DV [a,b]) K=K (.v (.int .i64 2)):=id rfl
theorem ln3 {a b c:List UInt8}:AR Ac (DV [a,b,c]) K=K (.v (.int .i64 3)):=id rfl
theorem lnp {l:List AV}:AR Kg (.list 1 l) K=K (.v (.int .i64 1)):=id rfl
theorem C75:Go.Abs.Al Ab .neq (.v (.int .i64 2)) (.v (.int .i64 2)) K=K (Bo false):=by kernel_rfl
theorem C76:Go.Abs.Al Ab .neq (.v (.int .i64 1)) (.v (.int .i64 1)) K=K (Bo false):=by kernel_rfl
theorem C7r:Go.Abs.Al Ab .eql (.v (.int .i64 3)) (.v (.int .i64 3)) K=K (Bo true):=by kernel_rfl
theorem C7s:Go.Abs.Al Ab .eql (I 0) (.v (.int .i64 0)) K=K (Bo true):=by kernel_rfl
end
theorem C1B (hL:40000<L):CS (rt (L+20) (n+81)) Ts [] (Bo true):=by
 intro K hK
 have c1:∀{H K},Ai (rt (L+20) (n+80)) Ez [(.v (.int .i64 1))] H K=K (.agg JQ.cs):= λ{H K}=>Gz (A9M (n:=n+35) (k:=1) hL (by decide) (by decide) B39) (Ax (q:=false) D1 Ba)
 have c2:∀{H K},Ai (rt (L+20) (n+80)) Ez [(.v (.int .i64 2))] H K=K (.agg Vm.cs):= λ{H K}=>Gz (A9M (n:=n+35) (k:=2) hL (by decide) (by decide) B38) (Ax (q:=false) D1 Ba)
 have cI2:∀{H K},Ai (rt (L+20) (n+80)) IF [B05] H K=K (DV [lA,lB]):= λ{H K}=>by
  have h:=B3G (L:=L) (n:=n+15) (gs:=[JQ,Vm]) (a:=B05) (by
   intro c hc
   simp only[TA,List.not_mem_nil,or_false] at hc
   rcases hc with rfl|rfl
   ·exact⟨A4A,show([]:List (List UInt8)).Nodup by decide⟩
   ·exact⟨A4z,show([]:List (List UInt8)).Nodup by decide⟩) (by decide) hL A6D
  rw[show([JQ,Vm].map Cd.id)=[lA,lB] by simp[Wa,VZ]] at h
  exact AT h (Ax (A6D.fx H) Ba)
 have cI4:∀{H K},Ai (rt (L+20) (n+80)) IF [Na] H K=K (DV [lD,lC,lB,lA]):= λ{H K}=>by
  have h:=B3G (L:=L) (n:=n+15) (gs:=gs4) (a:=Na) (λc hc=>⟨A21.ok c hc,A21.nd c hc⟩) (by decide) hL Th
  rw[show(gs4.map Cd.id)=[lD,lC,lB,lA] by simp[gs4,Wa,VZ,A1b,A4B]] at h
  exact AT h (Ax (Th.fx H) Ba)
 have cC:∀{H K},Ai (rt (L+20) (n+80)) Fq [(.v (.int .i64 3)),DV [lA,lB]] H K=K (.agg WS.cs):= λ{H K}=>Gz (A9N (n:=n+35) (k:=3) hL (by decide) (by decide) (l:=[lA,lB]) rfl (by simp[lA,lB]) B37) (Ax (q:=false) D1 (Ax ((I5 _).fx H) Ba))
 have cD:∀{H K},Ai (rt (L+20) (n+80)) Fq [(.v (.int .i64 4)),DV [lC,lM]] H K=K (.agg scD.cs):= λ{H K}=>Gz (A9N (n:=n+35) (k:=4) hL (by decide) (by decide) (l:=[lC,lM]) rfl (by simp[lC,lM]) B36) (Ax (q:=false) D1 (Ax ((I5 _).fx H) Ba))
 have cP:∀{H K},Ai (rt (L+20) (n+80)) Ge [(.v (.int .i64 77))] H K=K (S lM):= λ{H K}=>by
  rw[←C56];exact A1s (n:=n+60) hL (by decide) (by decide) H K
 have cID:∀{H K},Ai (rt (L+20) (n+80)) Hh [.agg WS.cs] H K=K (S lC):= λ{H K}=>by
  rw[←A1b];exact AT (A9g (n:=n+16) hL B34 (show[lA,lB].Nodup by decide)) (Zw H)
 have f4:∀{H},OV true depth [Na] [Na] H false:= λ{H}=>Ax (Th.fx H) Ba
 have f4s:∀{H} {s:List UInt8},OV true depth [Na,S s] [Na,S s] H false:= λ{H s}=>Ax (Th.fx H) (Ax (q:=false) D1 Ba)
 have fss:∀{H} {a b:List (List UInt8)},OV true depth [DV a,DV b] [DV a,DV b] H false:= λ{H a b}=>Ax ((I5 a).fx H) (Ax ((I5 b).fx H) Ba)
 have cO:∀{H K},Ai (rt (L+20) (n+80)) Iu [Na] H K=K (.tup [DV [lB,lA,lC,lD],I 0]):= λ{H K}=>Gy (B6W (n:=n+15) hL) f4
 have cF:∀{H K},Ai (rt (L+20) (n+80)) Od [B4b] H K=K (.list 1 [S lE,S lB]):= λ{H K}=>Gy (B6Z (n:=n+15) hL) (Ax (A4V.fx H) Ba)
 have cFc:∀{H K},Ai (rt (L+20) (n+80)) Jc [Na,S lC] H K=K (.tup [.agg WS.cs,Bo true]):= λ{H K}=>Gy (B71 (n:=n+15) hL) f4s
 have cFm:∀{H K},Ai (rt (L+20) (n+80)) Jc [Na,S lM] H K=K (.tup [.agg BL,Bo false]):= λ{H K}=>Gy (B70 (n:=n+15) hL) f4s
 have cM:∀{H K},Ai (rt (L+20) (n+80)) ON [Na] H K=K (DV [lM]):= λ{H K}=>Gy (B15 (n:=n+15) hL) f4
 have cH:∀{H K},Ai (rt (L+20) (n+80)) Iv [Na] H K=K (DV [lD]):= λ{H K}=>Gy (B6Y (n:=n+15) hL) f4
 have cAc:∀{H K},Ai (rt (L+20) (n+80)) Ds [Na,S lC] H K=K (DV [lB,lA]):= λ{H K}=>Gy (C4t (n:=n+15) hL) f4s
 have cAd:∀{H K},Ai (rt (L+20) (n+80)) Ds [Na,S lD] H K=K (DV [lB,lC,lA]):= λ{H K}=>Gy (C4s (n:=n+15) hL) f4s
 have cV:∀{H K},Ai (rt (L+20) (n+80)) It [Na] H K=K (Bo true):= λ{H K}=>Gy (B6U (n:=n+15) hL) f4
 have cV2:∀{H K},Ai (rt (L+20) (n+80)) It [B4c] H K=K (Bo false):= λ{H K}=>Gy (B3a (n:=n+15) hL) (Ax (A4W.fx H) Ba)
 have cS:∀{H K},Ai (rt (L+20) (n+80)) Lz [.agg WS.cs,.agg WS.cs] H K=K (Bo true):= λ{H K}=>Gy (C1C (n:=n+15)) (Ax (A9i (D:=depth-3)) (Ax (A9i (D:=depth-3)) Ba))
 have s1:∀{H K},Ai (rt (L+20) (n+80)) Ch [DV [lM],DV [lM]] H K=K (Bo true):= λ{H K}=>Gy (C4r (n:=n+78)) fss
 have s2:∀{H K},Ai (rt (L+20) (n+80)) Ch [DV [lD],DV [lD]] H K=K (Bo true):= λ{H K}=>Gy (C4q (n:=n+78)) fss
 have s3:∀{H K},Ai (rt (L+20) (n+80)) Ch [DV [lB,lA],DV [lB,lA]] H K=K (Bo true):= λ{H K}=>Gy (C4p (n:=n+78)) fss
 have s4:∀{H K},Ai (rt (L+20) (n+80)) Ch [DV [lB,lA,lC,lD],DV [lB,lA,lC,lD]] H K=K (Bo true):= λ{H K}=>Gy (C4o (n:=n+78)) fss
 have egr:gr gs4=[(lD,cE scD),(lC,cE WS),(lB,cE Vm),(lA,cE JQ)]:=by simp[gr,gs4,Wa,VZ,A1b,A4B]
 have hps:∀c∈gs4,c.ps.length<100:= λc hc=>by have:=B5n (A21.ok c hc);omega
 have cR:∀{s:List UInt8} {H K},Ai (rt (L+20) (n+80)) FF [Na,S s] H K=K (Bo (rz [(lD,cE scD),(lC,cE WS),(lB,cE Vm),(lA,cE JQ)] 4 s)):= λ{s H K}=>by
  have:=A7S (L:=L) (n:=n) (s:=s) A21 hL hps Th
  rw[egr] at this
  exact AT this f4s
 have r1:rz [(lD,cE scD),(lC,cE WS),(lB,cE Vm),(lA,cE JQ)] 4 lC=true:=by decide
 have r2:rz [(lD,cE scD),(lC,cE WS),(lB,cE Vm),(lA,cE JQ)] 4 lD=false:=by decide
 have cR1:∀{H K},Ai (rt (L+20) (n+80)) FF [Na,S lC] H K=K (Bo true):= λ{H K}=>by rw[cR,r1]
 have cR2:∀{H K},Ai (rt (L+20) (n+80)) FF [Na,S lD] H K=K (Bo false):= λ{H K}=>by rw[cR,r2]
 clear cR r1 r2 egr hps f4 f4s fss
 rw[A1M]
 unfold Ta Bh BU Av Gr D3
 obtain⟨H1,e1,ra1,w1, -⟩:=Ev (e:=Ak) (zs:=BL) (vs:=JQ.cs) F8 CD
 rw[c1,Bi (cs:=BL) rfl,B8 (cs:=BL) (vs:=JQ.cs) (A1 (by simp)) CD rfl KB,←e1]
 generalize A2 []=a at ra1
 obtain⟨H2,e2,rb2,w2,k2⟩:=Ev (e:=Ak) (zs:=BL) (vs:=Vm.cs) w1 CD
 rw[c2,Bi (cs:=BL) rfl,B8 (cs:=BL) (vs:=Vm.cs) (A1 (by simp)) CD rfl KB,←e2]
 have ra2:=(k2 _ _ ra1).1
 generalize A2 H1=b at rb2
 clear e1 e2 k2 ra1 w1
 rw[Br rfl CD.symm ra2,Br rfl CD.symm rb2,C7Q,cI2]
 simp only[ix0,ix1,Gf,mmT,mmF,BK]
 obtain⟨H3,e3,rc3,w3,k3⟩:=Ev (e:=Ak) (zs:=BL) (vs:=WS.cs) w2 CD
 rw[cC,Bi (cs:=BL) rfl,B8 (cs:=BL) (vs:=WS.cs) (A1 (by simp)) CD rfl KB,←e3]
 have ra3:=(k3 _ _ ra2).1
 have rb3:=(k3 _ _ rb2).1
 generalize A2 H2=c at rc3
 clear e3 k3 ra2 rb2 w2
 rw[cP,Br rfl CD.symm rc3,cID,C6j,cD]
 obtain⟨H4,e4,rd4,w4,k4⟩:=Ev (e:=Ak) (zs:=BL) (vs:=scD.cs) w3 CD
 rw[Bi (cs:=BL) rfl,B8 (cs:=BL) (vs:=scD.cs) (A1 (by simp)) CD rfl KB,←e4]
 have ra4:=(k4 _ _ ra3).1
 have rb4:=(k4 _ _ rb3).1
 have rc4:=(k4 _ _ rc3).1
 generalize A2 H3=d at rd4
 clear e4 k4 ra3 rb3 rc3 w3
 obtain⟨H5,e5,re5,w5,k5⟩:=Ev (e:=Ak) (zs:=BL) (vs:=Vm.cs) w4 CD
 rw[c2,Bi (cs:=BL) rfl,B8 (cs:=BL) (vs:=Vm.cs) (A1 (by simp)) CD rfl KB,←e5]
 obtain⟨ra5,na⟩:=k5 _ _ ra4
 obtain⟨rb5,nb⟩:=k5 _ _ rb4
 obtain⟨rc5,nc⟩:=k5 _ _ rc4
 obtain⟨rd5,nd⟩:=k5 _ _ rd4
 generalize A2 H4=e at re5 na nb nc nd
 clear e5 k5 ra4 rb4 rc4 rd4 w4
 have eE:Vm.cs.set 5 (.v (.int .i64 9))=scE.cs:=rfl
 rw[VT,E4 re5 (by rw[CD];decide) rfl rfl rfl,eE]
 have re6:=A9 (q:=true) (e:=Ak) (cs:=scE.cs) re5
 rw[←Ap (y:= .cells true Ak scE.cs) na] at ra5
 rw[←Ap (y:= .cells true Ak scE.cs) nb] at rb5
 rw[←Ap (y:= .cells true Ak scE.cs) nc] at rc5
 rw[←Ap (y:= .cells true Ak scE.cs) nd] at rd5
 have w6:=BH (r:=e) (y:= .cells true Ak scE.cs) w5
 generalize upd H5 e (.cells true Ak scE.cs)=H6 at re6 ra5 rb5 rc5 rd5 w6
 clear re5 na nb nc nd w5
 rw[Br rfl CD.symm rd5,Br rfl CD.symm rc5,Br rfl CD.symm rb5,Br rfl CD.symm ra5,bf4,cI4,cO,CZ,CY,Br rfl CD.symm ra5,Br rfl CD.symm rb5,Br rfl CD.symm re6,bf3,cF,ix1,Gf,cFc,CZ,CY]
 obtain⟨H7,e7,rf7,w7,k7⟩:=Ev (e:=Ak) (zs:=BL) (vs:=WS.cs) w6 CD
 rw[Bi (cs:=BL) rfl,B8 (cs:=BL) (vs:=WS.cs) (A1 (by simp)) CD rfl KB,←e7]
 have ra7:=(k7 _ _ ra5).1
 have rc7:=(k7 _ _ rc5).1
 have rd7:=(k7 _ _ rd5).1
 generalize A2 H6=g at rf7
 clear e7 k7 ra5 rb5 rc5 rd5 re6 w6
 obtain⟨H8,e8, -,w8,k8⟩:=Ev (e:=Ak) (zs:=BL) (vs:=BL) w7 rfl
 rw[cFm,CZ,CY,Bi (cs:=BL) rfl,B8 (cs:=BL) (vs:=BL) (A1 (by simp)) rfl rfl rfl,←e8]
 have ra8:=(k8 _ _ ra7).1
 have rc8:=(k8 _ _ rc7).1
 have rd8:=(k8 _ _ rd7).1
 have rf8:=(k8 _ _ rf7).1
 generalize A2 H7=h
 clear e8 k8 ra7 rc7 rd7 rf7 w7 w8
 have dA:∀{K},Au Ad (.ptr a 0 0) H8 K=K (.agg JQ.cs):= λ{K}=>Br rfl CD.symm ra8
 have dC:∀{K},Au Ad (.ptr c 0 0) H8 K=K (.agg WS.cs):= λ{K}=>Br rfl CD.symm rc8
 have dF:∀{K},Au Ad (.ptr g 0 0) H8 K=K (.agg WS.cs):= λ{K}=>Br rfl CD.symm rf8
 have pC:∀{K},Au Ac (.ptr c 31 0) H8 K=K (DV [lA,lB]):= λ{K}=>AK (p:=31) rfl rc8 (show 31<68 by decide)
 have pD:∀{K},Au Ac (.ptr d 31 0) H8 K=K (DV [lC,lM]):= λ{K}=>AK (p:=31) rfl rd8 (show 31<68 by decide)
 simp only[VT,pC,ln2,C75,gT,Cu,pD,V3,lnp,C76]
 rw[Bx]
 simp only[cM,C7P,s1,BK,gT,Cu,cH,ix0,ix1,Gf,s2,Wz,cAc,C6j,s3,cAd,ln3,C7r,C7s,C7O,s4,cR1,cR2,ntF,ntT,cV,dA,C7R,cV2,dF,dC,cS]
 exact hK _ _ (λb=>⟨false,λK=>by kernel_rfl⟩)
end
section
variable {L n:Nat}
section
variable {α:Type} {f:α→List AV} {w:Nat}
end
section
variable {gs less:List Cd} {H:Hp} {K:AV→Aj} {D:Nat}
end
section
variable {gs:List Cd} {k:Nat}
end
end
section
variable {L n:Nat}
section
variable {gs:List Cd} {f:Bp→Bool} {s x y:Bp}
theorem A4L (h:(gs.map Cd.id).Nodup) {i:Nat} (hi:i<gs.length):Mj gs gs[i].id=gs[i].ps:=by
 have h1:=B8g h hi
 rw[B4F] at h1
 unfold Mj
 cases hf:JK (gE gs) gs[i].id with
 |none=>rw[hf] at h1;cases h1
 |some c=>
  rw[hf] at h1
  simp only[l0x,l0y] at h1
  exact congrArg Ce.ps h1
end
section
variable {K:KV} {x:Aj} {H:Hp} {gs:List Cd} {a w:AV} {i:Nat} {R:Rt}
theorem B5F {k:Nat} (hk:k<gs.length) {K:AV→Aj}:BA Ac (DV (gs.map Cd.id)) (I k) K=K (.iptr [S gs[k].id]):=by
 have hk':k<(gs.map Cd.id).length:=by rw[XU];exact hk
 rw[(I5 _).ia hk',l2i]
end
section
variable {K:KV} {l:List Bp}
end
end
section
variable {gs:List Cd} {out l:List Bp} {x y p m:Bp}
def C3c (gs:List Cd) (out:List Bp) (x:Bp):Bool:=decide (x∉out)&&(Mj gs x).all λp=>decide (p∉gs.map Cd.id)||decide (p∈out)
theorem B5p:C3c gs out x=true↔x∉out∧∀p∈Mj gs x,p∈gs.map Cd.id→p∈out:=by
 unfold C3c
 rw[Jq,decide_eq_true_eq,HF]
 refine and_congr Iff.rfl ⟨λh p hp hi=> ?_,λh p hp=> ?_⟩
 ·have:=h p hp
  rw[l1d,decide_eq_true_eq,decide_eq_true_eq] at this
  exact this.resolve_left λh=>h hi
 ·rw[l1d,decide_eq_true_eq,decide_eq_true_eq]
  by_cases hi:p∈gs.map Cd.id
  ·exact .inr (h p hp hi)
  ·exact .inl hi
def rdy (gs:List Cd) (out:List Bp):List Bp:=(gs.map Cd.id).filter (C3c gs out)
theorem A0n:x∈rdy gs out↔x∈gs.map Cd.id∧x∉out∧∀p∈Mj gs x,p∈gs.map Cd.id→p∈out:=by
 rw[rdy,List.mem_filter,B5p]
def A33 (gs:List Cd):Nat→List Bp→List Bp
 |0,out=>out
 |n+1,out=>match IB (rdy gs out) with
  |[]=>out
  |m::_=>A33 gs n (out++[m])
def V4 (gs:List Cd):List Bp:=A33 gs gs.length []
structure OrdK (gs:List Cd) (out:List Bp):Prop where
 nd:out.Nodup
 ids:∀x∈out,x∈gs.map Cd.id
 pr:∀a x b,out=a++x::b→∀p∈Mj gs x,p∈gs.map Cd.id→p∈a
theorem OrdK.nil:OrdK gs []:=⟨List.nodup_nil,by simp,λa x b h=>by cases a<;>cases h⟩
theorem OrdK.step (h:OrdK gs out) (hm:m∈rdy gs out):OrdK gs (out++[m]):=by
 obtain⟨h1,h2,h3⟩:=A0n.1 hm
 refine⟨List.nodup_append.2 ⟨h.nd,by simp,λa ha c hc=>by simp at hc;subst hc;exact λe=>h2 (e▸ha)⟩,λx hx=> ?_,λa x b e p hp hi=> ?_⟩
 ·rcases YD.1 hx with hx|hx
  ·exact h.ids x hx
  ·rw[Zo] at hx;subst hx;exact h1
 ·rcases List.eq_nil_or_concat b with rfl|⟨b',z,rfl⟩
  ·have:=List.append_inj' e rfl
   obtain⟨e1,e2⟩:=this
   cases e2
   subst e1
   exact h3 p hp hi
  ·have e':out++[m]=(a++x::b')++[z]:=by rw[e];simp
   obtain⟨e1,e2⟩:=List.append_inj' e' rfl
   exact h.pr a x b' e1 p hp hi
theorem A8z:∀{l1 l2:List Bp},l1.Nodup→(∀x∈l1,x∈l2)→l1.length≤l2.length:=by
 intro l1
 induction l1 with
 |nil=>intro _ _ _;exact l1c _
 |cons a l ih=>
  intro l2 hn hs
  rw[List.nodup_cons] at hn
  have ha:a∈l2:=hs a (by simp)
  obtain⟨u,v,rfl⟩:=List.append_of_mem ha
  have:=ih (l2:=u++v) hn.2 λx hx=>by
   have h1:=hs x (by simp[hx])
   rw[YD,TA] at h1
   rw[YD]
   rcases h1 with h1|h1|h1
   ·exact .inl h1
   ·subst h1;exact absurd hx hn.1
   ·exact .inr h1
  simp at this⊢
  omega
theorem OrdK.len (h:OrdK gs out):out.length≤gs.length:=by
 have:=A8z h.nd h.ids
 rw[XU] at this
 exact this
theorem OrdK.all (h:OrdK gs out) (hl:gs.length≤out.length) (hx:x∈gs.map Cd.id):x∈out:=by
 apply Classical.byContradiction
 intro hn
 have:=A8z (l1:=x::out) (l2:=gs.map Cd.id) (List.nodup_cons.2 ⟨hn,h.nd⟩) λy hy=>by
  rcases TA.1 hy with rfl|hy
  ·exact hx
  ·exact h.ids y hy
 rw[XU,K7] at this
 omega
theorem A6h (h:OrdK gs out) (hl:gs.length≤out.length):rdy gs out=[]:=by
 rw[List.eq_nil_iff_forall_not_mem]
 intro x hx
 obtain⟨h1,h2,_⟩:=A0n.1 hx
 exact h2 (h.all hl h1)
theorem B43:∀(n:Nat) (out:List Bp),OrdK gs out→gs.length≤out.length+n→OrdK gs (A33 gs n out)∧rdy gs (A33 gs n out)=[]:=by
 intro n
 induction n with
 |zero=>intro out h hl;exact⟨h,A6h h hl⟩
 |succ n ih=>
  intro out h hl
  unfold A33
  cases hs:IB (rdy gs out) with
  |nil=>
   refine⟨h,?_⟩
   have:=(C5 (rdy gs out)).length_eq
   rw[hs] at this
   exact l1s this.symm
  |cons m l=>
   have hm:m∈rdy gs out:=(C5 _).mem_iff.1 (by rw[hs];simp)
   exact ih (out++[m]) (h.step hm) (by rw[XA2,List.length_singleton];omega)
theorem B42:OrdK gs (V4 gs)∧rdy gs (V4 gs)=[]:=B43 gs.length [] OrdK.nil (by simp)
theorem OrdK.before (h:OrdK gs out) {a b:List Bp} (e:out=a++x::b) (ha:Anc gs x y):y∈a:=by
 induction ha with
 |one h1 h2=>exact h.pr a x b e _ h2 h1
 |more _ h1 h2 ih=>
  obtain⟨u,v,rfl⟩:=List.append_of_mem ih
  have:=h.pr u _ (v++x::b) (by rw[e];simp) _ h2 h1
  exact List.mem_append_left _ this
def DX (gs:List Cd):List Bp:=IB ((gs.map Cd.id).filter λx=>decide (∀c∈gs,x∉c.ps))
theorem Sf:x∈DX gs↔x∈gs.map Cd.id∧∀c∈gs,x∉c.ps:=by
 rw[DX,(C5 _).mem_iff,List.mem_filter,decide_eq_true_eq]
theorem A6N (h:(gs.map Cd.id).Nodup):(DX gs).Nodup:=(C5 _).symm.nodup (h.sublist List.filter_sublist)
theorem B4y (h:(gs.map Cd.id).Nodup):(DX gs).Pairwise (· < ·):=by
 refine((GF _).and (A6N h)).imp λ{a b} ⟨h1,h2⟩=> ?_
 rcases Decidable.em (a<b) with h|h
 ·exact h
 ·exact absurd (WQ h1 h) h2
theorem A3Q:(DX gs).length≤gs.length:=by
 rw[DX,(C5 _).length_eq]
 have:=List.length_filter_le (λx=>decide (∀c∈gs,x∉Cd.ps c)) (gs.map Cd.id)
 rw[XU] at this
 exact this
theorem OrdK.after (h:OrdK gs out) {a b:List Bp} (e:out=a++x::b) (hy:y∈out) (hp:x∈Mj gs y) (hx:x∈gs.map Cd.id):y∈b:=by
 have hn:=h.nd
 rw[e,List.nodup_append,List.nodup_cons] at hn
 rw[e,YD,TA] at hy
 rcases hy with hy|hy|hy
 ·obtain⟨u,v,rfl⟩:=List.append_of_mem hy
  have:=h.pr u y (v++x::b) (by rw[e];simp) x hp hx
  exact absurd rfl (hn.2.2 x (List.mem_append_left _ this) x (by simp))
 ·subst hy
  have:=h.pr a y b e y hp hx
  exact absurd rfl (hn.2.2 y this y (by simp))
 ·exact hy
theorem OrdK.covered (hi:(gs.map Cd.id).Nodup) (h:OrdK gs out) (hall:∀x∈gs.map Cd.id,x∈out):∀(n:Nat) (x:Bp) (a b:List Bp),b.length<n→out=a++x::b→x∈DX gs∨∃z∈DX gs,Anc gs z x:=by
 intro n
 induction n with
 |zero=>intro x a b h;omega
 |succ n ih=>
  intro x a b hl e
  have hx:x∈gs.map Cd.id:=h.ids x (by rw[e];simp)
  by_cases hh:∀c∈gs,x∉c.ps
  ·exact .inl (Sf.2 ⟨hx,hh⟩)
  ·right
   simp only[Classical.not_forall,Classical.not_not] at hh
   obtain⟨c,hc,hcp⟩:=hh
   obtain⟨i,hil,rfl⟩:=List.getElem_of_mem hc
   have hp:x∈Mj gs gs[i].id:=by rw[A4L hi hil];exact hcp
   have hci:gs[i].id∈gs.map Cd.id:=Zp.2 ⟨_,hc,rfl⟩
   have hb:=h.after e (hall _ hci) hp hx
   obtain⟨u,v,rfl⟩:=List.append_of_mem hb
   rcases ih gs[i].id (a++x::u) v (by simp at hl;omega) (by rw[e];simp) with h1|⟨z,h1,h2⟩
   ·exact⟨_,h1,.one hx hp⟩
   ·exact⟨z,h1,.more h2 hx hp⟩
end
section
variable {L n:Nat}
section
variable {l:List Bp} {m a b:Bp} {x:Aj} {K:KV} {H:Hp}
theorem C5Y {K:AV→Aj}:eMM true (S a) (S b) K=K (S (if a≤b then a else b)):=by
 have e:eMM true (S a) (S b) K=@Bool.rec (λ_=>Aj) (K (S b)) (K (S a)) (ltB a b||eqB a b):=rfl
 rw[e,A1Q,OO,bytesLess_eq]
 by_cases h:a≤b
 ·have h1:(decide (a<b)||a==b)=true:=by
   by_cases h2:a<b
   ·simp[h2]
   ·have:=WQ h h2
    simp[this]
  rw[if_pos h,h1]
 ·have h1:(decide (a<b)||a==b)=false:=by
   have h2:¬a<b:= λh2=>h ((L3 a b).elim id λh3=>absurd h2 h3)
   have h3:a≠b:= λe=>h (e▸((L3 a a).elim id id))
   simp[h2,h3]
  rw[if_neg h,h1]
theorem C2m {k8:AV→Hp→Aj} (hm:m∈l) (hle:∀y∈l,m≤y) (hb:l.length<1000000) (hx:k8 (S m) H=x):∀(f i:Nat) (cur:Bp),i≤l.length→l.length-i<f→cur∈l→(∀y∈l.take i,cur≤y)→
 Ej (L+20) (rt (L+20) n) K k8 f (Ls l) (S cur) (I i) H=x:=by
 intro f
 induction f with
 |zero=>intro i cur _ h;omega
 |succ f ih=>
  intro i cur hi hf hc hl
  rw[LN]
  unfold F9 Av
  rw[La]
  by_cases h:i<l.length
  ·rw[FL (by omega),Dc,NK h,Gf,C5Y,Dv (by omega)]
   refine ih (i+1) _ (by omega) (by omega) ?_ λy hy=> ?_
   ·split
    ·exact hc
    ·exact QN h
   ·rw[l04 h,YD,Zo] at hy
    split
    ·rename_i h1
     rcases hy with hy|rfl
     ·exact hl y hy
     ·exact h1
    ·rename_i h1
     have h2:l[i]≤cur:=(L3 cur l[i]).elim (λh=>absurd h h1) id
     rcases hy with hy|rfl
     ·exact Yi h2 (hl y hy)
     ·exact(L3 _ _).elim id id
  ·have:i=l.length:=by omega
   subst this
   rw[l06] at hl
   rw[FE (by omega),Bx]
   have:cur=m:=WQ (hl m hm) (hle cur hc)
   rw[this];exact hx
theorem C3W (hm:m∈l) (hle:∀y∈l,m≤y) (hb:l.length<1000000) (hL:l.length<L):CS (rt (L+20) (n+1)) Gc [Ls l] (S m):=by
 intro K hK
 rw[MW]
 unfold FU Av
 have h0:0<l.length:=List.length_pos_of_mem hm
 simp only[BW]
 have ls:∀{K:AV→Aj},Go.Abs.Al Ab .lss (I (l.length:Int)) (AV.v (.int .i64 1)) K=K (Bo false):= λ{K}=>FE (by omega)
 have e0:(AV.v (.int .i64 0))=I ((0:Nat):Int):=rfl
 have e1:(AV.v (.int .i64 1))=I ((1:Nat):Int):=rfl
 rw[La,ls,Bx,e0,NK h0,Gf,e1]
 refine C2m (n:=n) hm hle hb (hK _ _ λb=>⟨false,D1⟩) (L+20) 1 _ (by omega) (by omega) (QN h0) λy hy=> ?_
 rw[show 1=0+1 from rfl,l04 h0,List.take_zero,List.nil_append,Zo] at hy
 subst hy
 exact(L3 _ _).elim id id
end
section
variable {l:List Bp} {x:Aj} {K:KV} {H:Hp} {fn:AV} {P:Bp→Bool} {R:Rt}
def fiN (P:Bp→Bool):List Bp→Nat→Int
 |[],_=> -1
 |a::l,i=>if P a=true then(i:Int) else fiN P l (i+1)
theorem B4N {a:Bp} {i:Nat}:fiN P (a::l) i=if P a=true then(i:Int) else fiN P l (i+1):=rfl
theorem C2A {k4:Hp→Aj} {a:AV} (ha:SA l a) (hf:∀(s:Bp) (K:KV),Dx (E (L+20)) R fn [S s] H K=K (Bo (P s)) H) (hb:l.length<1000000) (hk:∀v,v=fiN P l 0→K (I v) H=x) (hx:fiN P l 0= -1→k4 H=x):
 ∀(f i:Nat),i≤l.length→l.length-i<f→fiN P (l.drop i) i=fiN P l 0→
 Cx (L+20) R K k4 f a fn (I l.length) (I i) H=x:=by
 intro f
 induction f with
 |zero=>intro i _ h;omega
 |succ f ih=>
  intro i hi hf' he
  rw[FQ]
  unfold Di Av
  by_cases h:i<l.length
  ·rw[FL (by omega),Dc,ha.ia h,Gf,hf]
   rw[l11 h] at he
   rw[B4N] at he
   cases hp:P l[i] with
   |true=>
    rw[hp,if_pos rfl] at he
    rw[Dc]
    exact hk _ he
   |false=>
    rw[hp,if_neg (by simp)] at he
    rw[Bx,Dv (by omega)]
    exact ih (i+1) (by omega) (by omega) he
  ·have:i=l.length:=by omega
   subst this
   rw[List.drop_length] at he
   rw[FE (by omega),Bx]
   exact hx he.symm
theorem C3Z {a:AV} (ha:SA l a) (hf:∀(s:Bp) (K:KV),Dx (E (L+20)) (rt (L+20) n) fn [S s] [] K=K (Bo (P s)) []) (hb:l.length<1000000) (hL:l.length<L):CS (rt (L+20) (n+1)) CC [a,fn] (I (fiN P l 0)):=by
 intro K hK
 rw[Gn]
 unfold Dq Av
 simp only[BW]
 have e0:(AV.v (.int .i64 0))=I ((0:Nat):Int):=rfl
 rw[ha.len,e0]
 have fin:∀v H,v=fiN P l 0→K (I v) H=some (I (fiN P l 0),[]):= λv H e=>by
  rw[e];exact hK _ _ λb=>⟨false,D1⟩
 refine C2A (R:=rt (L+20) n) ha hf hb (λv e=>fin v _ e) (λe=>fin (-1) _ e.symm) (L+20) 0 (by omega) (by omega) (by rw[l1n])
def VJ (H:Hp) (v:AV) (l:List Bp):Prop:=(v=AA∧l=[])∨∃r q tl,v= .sl 1 r 0 l.length∧Aq H r=some (.cells q Ar (AL l++tl))
theorem VJ.len {v:AV} (h:VJ H v l) {K:AV→Aj}:AR Ac v K=K (I l.length):=by
 rcases h with⟨rfl,rfl⟩|⟨r,q,tl,rfl,_⟩<;>exact _root_.id rfl
theorem VJ.kp {H':Hp} {v:AV} (h:VJ H v l) (k:∀u y,AF v u→Aq H u=some y→Aq H' u=some y):VJ H' v l:=by
 rcases h with h|⟨r,q,tl,h1,h2⟩
 ·exact .inl h
 ·exact .inr ⟨r,q,tl,h1,k r _ ⟨1,0,_,h1⟩ h2⟩
theorem VJ.lt {v:AV} (h:VJ H v l) (w:Wf H) {u:Nat} (hu:AF v u):u<A2 H:=by
 obtain⟨a,b,c,rfl⟩:=hu
 rcases h with⟨h,_⟩|⟨r,q,tl,h1,h2⟩
 ·cases h
 ·injection h1 with _ h1;subst h1;exact w.lt h2
theorem B4B {D:Nat} {b:Bool}:∀l:List Bp,OV b D (AL l) (AL l) H false:=by
 intro l
 induction l with
 |nil=>exact Ba
 |cons s l ih=>exact Ax (q:=false) D1 ih
theorem VJ.fx {v:AV} (h:VJ H v l) {D:Nat}:∃a q,SA l a∧Fx true (D+1) v a H q:=by
 rcases h with⟨rfl,rfl⟩|⟨r,q,tl,rfl,h2⟩
 ·exact⟨AA,false,.inr ⟨rfl,rfl⟩,D1⟩
 ·refine⟨Ls l,true,.inl rfl,B4C (q':=false) h2 (by rw[XA2,Cs];omega) ?_⟩
  have:((AL l++tl).drop 0).take (l.length*1)=AL l:=by
   rw[l1n,l28]
   have:=List.take_left (l₁:=AL l) (l₂:=tl)
   rw[Cs] at this
   exact this
  rw[this]
  exact B4B l
theorem B1K {m i:Nat} {r:Nat} (h:i≤m) {K:AV→Aj}:DI Ac (.sl 1 r 0 m) (some (I (i:Int))) none none K=K (.sl 1 r i (m-i)):=by
 have e1:DI Ac (.sl 1 r 0 m) (some (I (i:Int))) none none K=ck (Nat.beq 1 1) (iN (i:Int) λl=>fN m λh=>fN m λx=>ck ((true||false)&&(Nat.ble l h&&(Nat.ble h x&&Nat.ble x m))) (fN (Nat.add 0 (Nat.mul l 1)) λo'=>fN (Nat.sub h l) λn=>K (.sl 1 r o' n))):=rfl
 rw[e1,JD,Dt,Dt]
 have c:((true||false)&&(Nat.ble i m&&(Nat.ble m m&&Nat.ble m m)))=true:=by simp;omega
 rw[c]
 show fN (Nat.add 0 (Nat.mul i 1)) (λo'=>fN (Nat.sub m i) λn=>K (.sl 1 r o' n))=_
 rw[Dt,Dt]
 have e2:Nat.add 0 (Nat.mul i 1)=i:=by show 0+i*1=i;omega
 rw[e2];rfl
theorem B1L {m i:Nat} {r:Nat} (h:i≤m) {K:AV→Aj}:DI Ac (.sl 1 r 0 m) none (some (I (i:Int))) none K=K (.sl 1 r 0 i):=by
 have e1:DI Ac (.sl 1 r 0 m) none (some (I (i:Int))) none K=ck (Nat.beq 1 1) (fN 0 λl=>iN (i:Int) λh=>fN m λx=>ck ((true||true)&&(Nat.ble l h&&(Nat.ble h x&&Nat.ble x m))) (fN (Nat.add 0 (Nat.mul l 1)) λo'=>fN (Nat.sub h l) λn=>K (.sl 1 r o' n))):=rfl
 rw[e1,Dt,JD,Dt]
 have c:((true||true)&&(Nat.ble 0 i&&(Nat.ble i m&&Nat.ble m m)))=true:=by simp;omega
 rw[c]
 show fN (Nat.add 0 (Nat.mul 0 1)) (λo'=>fN (Nat.sub i 0) λn=>K (.sl 1 r o' n))=_
 rw[Dt,Dt];rfl
theorem C30 {r i m:Nat} {q:Bool} {cs:List AV} (hl:Aq H r=some (.cells q Ar cs)) (h:i+m≤cs.length):∃cs' H',(∀K:Hp→Aj,A7e 1 Ae (.sl 1 r i m) H K=K H')∧Aq H' r=some (.cells q Ar cs')∧cs'.take i=cs.take i∧Lat H H' (λu=>u=r):=by
 cases m with
 |zero=>exact⟨cs,H,λK=>rfl,hl,rfl,Lat.refl _ _⟩
 |succ m=>
  refine⟨splice cs i (List.replicate (m+1) (S [])),upd H r (.cells q Ar (splice cs i (List.replicate (m+1) (S [])))),λK=> ?_,A9 hl,?_,Lat.upd _ _ _ rfl⟩
  ·have e1:A7e 1 Ae (.sl 1 r i (m+1)) H K=Ho Ae.zero λz=>GS z 0 λk=>ck (Nat.beq k 1&&(Nat.beq 1 1&&PZ z)) (UR (m+1) z λys=>J3 H r λx=>A1d x λq E cs=>EE i ys cs λcs'=>Lx H r (.cells q E cs') K):=rfl
   have hz:B9 Ae.zero=[S []]:=rfl
   rw[e1,CQ,hz,Cq]
   show UR (m+1) [S []] _=_
   rw[A3R,B5 hl]
   show EE i (List.replicate (m+1) (S [])) cs _=_
   rw[JX _ _ _ _ (by rw[List.length_replicate];omega),Db]
  ·unfold splice
   rw[l0k,List.take_append_of_le_length (by rw[l0g];omega),List.take_take,Nat.min_self]
theorem B4M (P:Bp→Bool):∀(l:List Bp) (k:Nat),(fiN P l k= -1∧∀a∈l,P a=false)∨∃(i:Nat) (h:i<l.length),fiN P l k=((k+i:Nat):Int)∧P l[i]=true∧∀a∈l.take i,P a=false:=by
 intro l
 induction l with
 |nil=>intro k;exact .inl ⟨rfl,by simp⟩
 |cons a l ih=>
  intro k
  unfold fiN
  cases hp:P a with
  |true=>
   rw[if_pos rfl]
   exact .inr ⟨0,by simp,by simp,hp,by simp⟩
  |false=>
   rw[if_neg (by simp)]
   rcases ih (k+1) with⟨h1,h2⟩|⟨i,h,h1,h2,h3⟩
   ·refine .inl ⟨h1,λb hb=> ?_⟩
    rcases TA.1 hb with rfl|hb
    ·exact hp
    ·exact h2 b hb
   ·refine .inr ⟨i+1,by simp;omega,by rw[h1];congr 1;omega,h2,λb hb=> ?_⟩
    rw[List.take_succ_cons] at hb
    rcases TA.1 hb with rfl|hb
    ·exact hp
    ·exact h3 b hb
theorem C37 {k12:AV→AV→Hp→Aj} {H0:Hp} {r:Nat} {q:Bool} {tl:List AV} (hb:l.length<1000000) (w0:Wf H0) (hf:∀H',Lat H0 H' (λu=>u=r)→∀(s:Bp) (K:KV),Dx (E (L+20)) R fn [S s] H' K=K (Bo (P s)) H')
 (hfin:∀cs H',Aq H' r=some (.cells q Ar cs)→cs.length=l.length+tl.length→cs.take (l.filter λs=> !P s).length=AL (l.filter λs=> !P s)→Lat H0 H' (λu=>u=r)→k12 (.sl 1 r 0 l.length) (I (l.filter λs=> !P s).length) H'=x):
 ∀(f j:Nat) (cs:List AV) (H':Hp),j≤l.length→l.length-j<f→Aq H' r=some (.cells q Ar cs)→cs.length=l.length+tl.length→cs.take ((l.take j).filter λs=> !P s).length=AL ((l.take j).filter λs=> !P s)→cs.drop j=AL (l.drop j)++tl→Lat H0 H' (λu=>u=r)→((l.take j).filter λs=> !P s).length<j→
 Dd (L+20) R K k12 f (.sl 1 r 0 l.length) fn (I ((l.take j).filter λs=> !P s).length) (I j) H'=x:=by
 intro f
 induction f with
 |zero=>intro j cs H' _ h;omega
 |succ f ih=>
  intro j cs H' hj hf' hl hlen ht hd hk hij
  rw[JI]
  unfold Ek Av
  have el:∀K,AR Ac (.sl 1 r 0 l.length) K=K (I l.length):= λK=>id rfl
  rw[el]
  by_cases h:j<l.length
  ·have hc:j<cs.length:=by omega
   have e1:=hd
   rw[l11 hc,l11 h] at e1
   injection e1 with e1 e2
   have hld:∀{K:AV→Aj},Au Ae (.ptr r j 0) H' K=K (S l[j]):= λ{K}=>by
    rw[AK (p:=j) rfl hl hc,Ua,Kn hc,l1l,e1]
   rw[FL (by omega),Dc]
   simp only[BW]
   rw[X9 h,hld,hf H' hk,Ks]
   have et:(l.take (j+1)).filter (λs=> !P s)=(l.take j).filter (λs=> !P s)++[l[j]].filter (λs=> !P s):=by
    rw[l04 h,List.filter_append]
   cases hp:P l[j] with
   |true=>
    have e3:(l.take (j+1)).filter (λs=> !P s)=(l.take j).filter (λs=> !P s):=by rw[et];simp[hp]
    show Aw (.v (.bool false)) _ _=_
    rw[Bx,Dv (by omega)]
    have:=ih (j+1) cs H' (by omega) (by omega) hl hlen (by rw[e3];exact ht) e2 hk (by rw[e3];omega)
    rw[e3] at this
    exact this
   |false=>
    have e3:(l.take (j+1)).filter (λs=> !P s)=(l.take j).filter (λs=> !P s)++[l[j]]:=by rw[et];simp[hp]
    have hi:((l.take j).filter λs=> !P s).length<l.length:=by omega
    show Aw (.v (.bool true)) _ _=_
    rw[Dc,X9 hi,E4 hl (by omega) rfl rfl rfl,Dv (by omega),Dv (by omega)]
    have e4:((l.take (j+1)).filter λs=> !P s).length=((l.take j).filter λs=> !P s).length+1:=by rw[e3,XA2];rfl
    rw[←e4]
    refine ih (j+1) (cs.set ((l.take j).filter λs=> !P s).length (S l[j])) _ (by omega) (by omega) (A9 hl) (by rw[List.length_set];exact hlen) ?_ ?_ (hk.trans (Lat.upd _ _ _ (P:= λu=>u=r) rfl) (λ_ _ h=>h) (λ_ _ h=>h)) (by omega)
    ·have hlt:((l.take j).filter λs=> !P s).length<(cs.set ((l.take j).filter λs=> !P s).length (S l[j])).length:=by rw[List.length_set];omega
     rw[e4,l04 hlt,List.getElem_set_self,e3,List.take_set_of_le (OU _),ht]
     simp[AL]
    ·rw[List.drop_set_of_lt (by omega)]
     exact e2
  ·have:j=l.length:=by omega
   subst this
   rw[l06] at ht⊢
   rw[FE (by omega),Bx]
   exact hfin cs H' hl hlen ht hk
theorem B8R {v:AV} (wf:Wf H) (h:VJ H v l) (hb:l.length<100000) (hL:200000<L) (hfx:∃fn' q,Fx true depth fn fn' H q∧∀(s:Bp) (K:KV),Dx (E (L+20)) (rt (L+20) n) fn' [S s] [] K=K (Bo (P s)) [])
 (hf:∀H',Lat H H' (AF v)→∀(s:Bp) (K:KV),Dx (E (L+20)) (rt (L+20) (n+1)) fn [S s] H' K=K (Bo (P s)) H')
 (hx:∀v' H',VJ H' v' (l.filter λs=> !P s)→(∀u,AF v' u→AF v u)→Lat H H' (AF v)→K v' H'=x):(rt (L+20) (n+2)).call Cz [v,fn] H K=x:=by
 rw[JT]
 unfold Ew Av
 obtain⟨a,q,ha,hq⟩:=h.fx (D:=depth-1)
 obtain⟨fn',q',hq',hf0⟩:=hfx
 rw[AT (C3Z (n:=n) ha hf0 (by omega) (by omega)) (Ax hq (Ax hq' Ba))]
 rcases B4M P l 0 with⟨h1,h2⟩|⟨i,hi,h1,h2,h3⟩
 ·have e:∀{K:AV→Aj},Go.Abs.Al Ab .eql (I (-1)) (AV.v (.int .i64 (-1))) K=K (Bo true):= λ{K}=>by rw[Do,decide_eq_true rfl]
  rw[h1,e,Dc]
  have e2:l.filter (λs=> !P s)=l:=List.filter_eq_self.2 λa ha=>by rw[h2 a ha];rfl
  rw[e2] at hx
  exact hx v H h (λ_ h=>h) (Lat.refl _ _)
 ·rw[KN] at h1
  have e:∀{K:AV→Aj},Go.Abs.Al Ab .eql (I (i:Int)) (AV.v (.int .i64 (-1))) K=K (Bo false):= λ{K}=>by rw[Do,decide_eq_false (by omega)]
  rw[h1,e,Bx]
  simp only[BW]
  rcases h with⟨_,rfl⟩|⟨r,q0,tl,rfl,hl⟩
  ·simp at hi
  have hrow:∀u,AF (.sl 1 r 0 l.length) u↔u=r:= λu=>⟨λ⟨_,_,_,h⟩=>by injection h with _ h;exact h.symm,λh=>h▸⟨1,0,_,rfl⟩⟩
  have lat:∀{H'},Lat H H' (λu=>u=r)→Lat H H' (AF (.sl 1 r 0 l.length)):= λk=>⟨k.wf,k.nx,λw u y hu hn=>k.keep w u y hu λe=>hn ((hrow u).2 e)⟩
  have e3:(l.take (i+1)).filter (λs=> !P s)=l.take i:=by
   rw[l04 hi,List.filter_append]
   have a1:(l.take i).filter (λs=> !P s)=l.take i:=List.filter_eq_self.2 λa ha=>by rw[h3 a ha];rfl
   rw[a1];simp[h2]
  have e4:((l.take (i+1)).filter λs=> !P s).length=i:=by rw[e3,l0g];omega
  have ht:AL (l.take i)=(AL l).take i:=by simp[AL,List.map_take]
  have hd:AL (l.drop (i+1))=(AL l).drop (i+1):=by simp[AL,List.map_drop]
  rw[Dv (by omega)]
  have main:=C37 (L:=L) (R:=rt (L+20) (n+1)) (K:=K) (fn:=fn) (P:=P) (l:=l) (H0:=H) (r:=r) (q:=q0) (tl:=tl) (x:=x)
   (k12:= λv13 v14 H15=>DI Ac v13 (some v14) none none λv7=>A7e 1 Ae v7 H15 λH8=>DI Ac v13 none (some v14) none λv10=>K v10 H8)
   (by omega) wf (λH' k=>hf H' (lat k)) (λcs H' g1 g2 g3 g4=> ?_) (L+20) (i+1) (AL l++tl) H (by omega) (by omega) hl (by rw[XA2,Cs]) (by rw[e4,e3,ht,List.take_append_of_le_length (by rw[Cs];omega)]) (by rw[hd,List.drop_append_of_le_length (by rw[Cs];omega)]) (Lat.refl _ _) (by omega)
  ·rw[e4] at main
   exact main
  ·have hfl:(l.filter λs=> !P s).length≤l.length:=List.length_filter_le _ _
   obtain⟨cs',H2,c1,c2,c3,c4⟩:=C30 (H:=H') (r:=r) (i:=(l.filter λs=> !P s).length) (m:=l.length-(l.filter λs=> !P s).length) g1 (by omega)
   show(DI Ac (.sl 1 r 0 l.length) (some (I ((l.filter λs=> !P s).length:Nat))) none none _)=_
   rw[B1K hfl,c1,B1L hfl]
   refine hx _ H2 (.inr ⟨r,q0,cs'.drop (l.filter λs=> !P s).length,rfl,?_⟩) (λu hu=> ?_) (lat (g4.trans c4 (λ_ _ h=>h) (λ_ _ h=>h)))
   ·rw[c2,←g3,←c3,List.take_append_drop]
   ·obtain⟨_,_,_,h⟩:=hu
    injection h with _ h
    exact⟨1,0,_,by rw[h]⟩
end
end
section
variable {L n:Nat}
abbrev Edg:=Bp×Bp
def Nb (gs:List Cd):List Edg:=gs.flatMap λc=>c.ps.map λp=>(c.id,p)
def A2B (R:Rt) (L s0 it:Nat) (I:List Edg→Hp→Prop):Prop:=∀(es:List Edg) (s p:Bp) (H:Hp) (K:KV) (x:Aj),es.length<1000→I es H→(∀H',I (es++[(s,p)]) H'→(∀y,Aq H it=some y→Aq H' it=some y)→K (Bo true) H'=x)→Dx (E (L+20)) R (.yl s0) [S s,S p] H K=x
theorem A6R {rem:List Cd} {a c:List (Bp×Cd)} {e:Bp×Cd} (h:gE rem=a++e::c):∃ra cd rc,rem=ra++cd::rc∧a=gE ra∧e=(cd.id,cd)∧c=gE rc:=by
 obtain⟨ra,rb,h1,h2,h3⟩:=List.map_eq_append_iff.1 h
 obtain⟨cd,rc,h4,h5,h6⟩:=List.map_eq_cons_iff.1 h3
 subst h4
 exact⟨ra,cd,rc,h1,h2.symm,h5.symm,h6.symm⟩
section
variable {gs:List Cd} {K:KV} {x:Aj} {s0 it:Nat} {Q:List Edg→Hp→Prop}
theorem A70:∀gs:List Cd,(∀c∈gs,c.ps.length<100)→(Nb gs).length≤gs.length*100:=by
 intro gs
 induction gs with
 |nil=>intro _;simp[Nb]
 |cons c gs ih=>
  intro h
  have h1:=h c (by simp)
  have h2:=ih λd hd=>h d (by simp[hd])
  have e:Nb (c::gs)=c.ps.map (λp=>(c.id,p))++Nb gs:=rfl
  rw[e,XA2,XU,K7,l19];omega
theorem B8n {k34:AV→AV→AV→AV→AV→AV→Hp→Aj} {a8:AV} {s:Bp} {ps:List Bp} (hb:ps.length<100) (hr:A2B (rt (L+20) (n+2)) L s0 it Q):∀(f i:Nat) (es:List Edg) (H:Hp) (y:Row),i≤ps.length→ps.length-i<f→es.length+(ps.length-i)<1000→Q es H→Aq H it=some y→
 (∀d H',Q (es++(ps.drop i).map λp=>(s,p)) H'→Aq H' it=some y→k34 (.yl s0) (S s) a8 (DV ps) (I ps.length) d H'=x)→
 Fh (L+20) (rt (L+20) (n+2)) K k34 f (.yl s0) (S s) a8 (DV ps) (I ps.length) (I i) H=x:=by
 intro f
 induction f with
 |zero=>intro i es H y _ h;omega
 |succ f ih=>
  intro i es H y hi hf hn hm hy hx
  rw[OL]
  unfold He Av
  by_cases h:i<ps.length
  ·rw[FL (by omega),Dc,(I5 ps).ia h,Gf]
   rw[l11 h] at hx
   refine hr es s ps[i] H _ x (by omega) hm λH' hm' hk=> ?_
   rw[Ks]
   show Aw (.v (.bool false)) _ _=_
   rw[Bx,Dv (by omega)]
   refine ih (i+1) (es++[(s,ps[i])]) H' y (by omega) (by omega) (by rw[XA2,List.length_singleton];omega) hm' (hk y hy) λd H2 h2 hy2=>hx d H2 ?_ hy2
   rw[Vu]
   rw[l0k] at h2
   exact h2
  ·rw[FE (by omega),Bx]
   have:i=ps.length:=by omega
   subst this
   rw[List.drop_length,List.map_nil,Xn] at hx
   exact hx _ H hm hy
theorem B8o {k4:Hp→Aj} {w:AV} (hw:XV 6 w w=true) (hg:gs.length≤8) (hp:∀c∈gs,c.ps.length<100) (hL:100<L) (hr:A2B (rt (L+20) (n+2)) L s0 it Q)
 (hkp:∀es H H',Q es H→Wf H'→(∀u y,u≠it→Aq H u=some y→Aq H' u=some y)→Q es H') (hwf:∀es H,Q es H→Wf H)
 (hfin:∀done H,done.Perm gs→Q (Nb done) H→k4 H=some (w,[])):
 ∀(f:Nat) (rem done:List Cd) (H:Hp) (o:Option (Value×AV)) (d0 d1 d2 d3:AV),rem.length<f→(done++rem).Perm gs→Q (Nb done) H→Aq H it=some (.iter (ES Kt (gE rem)) o)→
 DY (L+20) (rt (L+20) (n+2)) K k4 f (.yl s0) d0 (.it it) d1 d2 d3 H=some (w,[]):=by
 intro f
 induction f with
 |zero=>intro rem done H o d0 d1 d2 d3 h;omega
 |succ f ih=>
  intro rem done H o d0 d1 d2 d3 hf hpm hm hl
  rw[Jm]
  unfold Fi Av
  refine A4M (f:=Kt) hw hl (λe=> ?_) (λa e c hec=> ?_)
  ·have e':rem=[]:=by
    cases rem with
    |nil=>rfl
    |cons _ _=>cases e
   subst e'
   rw[OP,Bx]
   rw[Xn] at hpm
   exact hfin done H hpm hm
  ·obtain⟨ra,cd,rc,rfl,rfl,rfl,rfl⟩:=A6R hec
   have hcd:cd∈gs:=hpm.mem_iff.1 (by simp)
   have hps:=hp cd hcd
   have e9:gE ra++gE rc=gE (ra++rc):=by simp[gE]
   have hl1:=Tj (es:=ES Kt (gE ra++gE rc)) (o:=some (.string ⟨⟨cd.id⟩⟩,Kt cd)) hl
   have hm1:Q (Nb done) (upd H it (.iter (ES Kt (gE ra++gE rc)) (some (.string ⟨⟨cd.id⟩⟩,Kt cd)))):=hkp _ _ _ hm (BH (hwf _ _ hm)) λu y hu hy=>by rw[Ap hu];exact hy
   show Bc (.tup [.v (.bool true),S cd.id,Kt cd]) 0 _=_
   rw[OP,Dc]
   simp only[BW]
   show A2k (.it it) (upd H it (.iter (ES Kt (gE ra++gE rc)) (some (.string ⟨⟨cd.id⟩⟩,Kt cd)))) _=_
   rw[Vx hl1,OP,C2Y]
   generalize upd H it (.iter (ES Kt (gE ra++gE rc)) (some (.string ⟨⟨cd.id⟩⟩,Kt cd)))=H1 at hl1 hm1
   obtain⟨H2,e2,hc2,w2,k2⟩:=Ev (e:=Ak) (zs:=BL) (vs:=cd.cs) (hwf _ _ hm1) CD
   rw[Bi (cs:=BL) rfl,B8 (cs:=BL) (vs:=cd.cs) (A1 (by simp)) CD rfl KB,←e2,fA,KN,B9l hc2,Va]
   have hm2:=hkp _ _ _ hm1 w2 λu y _ hy=>(k2 u y hy).1
   have hl2:=(k2 _ _ hl1).1
   have e0:(AV.v (.int .i64 0))=I ((0:Nat):Int):=rfl
   have hlen:=hpm.length_eq
   rw[XA2,XA2,K7] at hlen
   have hel:=A70 done λc hc=>hp c (hpm.mem_iff.1 (by simp[hc]))
   rw[e0]
   refine B8n (n:=n) hps hr (L+20) 0 (Nb done) H2 _ (by omega) (by omega) (by omega) hm2 hl2 λd H' hm' hl'=> ?_
   rw[l1n] at hm'
   have e8:Nb done++cd.ps.map (λp=>(cd.id,p))=Nb (done++[cd]):=by simp[Nb]
   rw[e8] at hm'
   rw[e9] at hl'
   refine ih (ra++rc) (done++[cd]) H' _ _ _ _ _ (by simp at hf⊢;omega) ?_ hm' hl'
   refine List.Perm.trans ?_ hpm
   rw[l0k]
   refine List.Perm.append_left done ?_
   show(cd::(ra++rc)).Perm _
   exact List.perm_middle.symm
theorem A9H {H:Hp} {w:AV} (hw:XV 6 w w=true) (hg:gs.length≤8) (hp:∀c∈gs,c.ps.length<100) (hL:100<L) (hr:A2B (rt (L+20) (n+2)) L s0 (A2 H) Q)
 (hkp:∀es H1 H',Q es H1→Wf H'→(∀u y,u≠A2 H→Aq H1 u=some y→Aq H' u=some y)→Q es H') (hwf:∀es H,Q es H→Wf H)
 (h0:Q [] ((A2 H,.iter (ES Kt (gE gs)) none)::H)) (hfin:∀done H,done.Perm gs→Q (Nb done) H→K (.tup []) H=some (w,[])):
 (rt (L+20) (n+3)).call Cw [.yl s0,.iptr [gV gs]] H K=some (w,[]):=by
 rw[JC]
 unfold F0
 have e2:∀{H:Hp} {K:AV→Aj},Au AS (.iptr [gV gs]) H K=K (gV gs):= λ{H K}=>NI rfl
 rw[e2,A0z]
 simp only[BW]
 exact B8o (n:=n) (it:=A2 H) hw hg hp hL hr hkp hwf (λdone H hd hq=>hfin done H hd hq) (L+20) gs [] _ none _ _ _ _ (by omega) (List.Perm.refl _) h0 (A1 (by simp))
theorem B2P {H:Hp} {K:AV→Aj}:Ai (rt (L+20) (n+1)) E6 [gV gs] H K=K (B8p gs):=by
 refine Gz (λK hK=> ?_) (Ax (q:=false) A0w Ba)
 rw[RZ]
 unfold J1
 rw[B5e]
 exact hK _ _ ⟨true,λK=>by kernel_rfl⟩
abbrev Xq (gs:List Cd):AV:= .fn (.func C4) [] [.iptr [gV gs]]
theorem B4q {H0:Hp} {r0 s e0 it:Nat} {q0:Bool} {c6 w:AV} {k4:Hp→Aj} {ks:List Bp} (hw:XV 6 w w=true) (hlen:ks.length<1000000)
 (hfin:∀l v H,l.Perm ks→(l=[]→v=AA)→Coll H0 r0 s q0 e0 c6 l v H→k4 H=some (w,[])) (hit:it≠r0∧it≠s∧A2 H0≤it):
 ∀(f:Nat) (es:List (Bp×Cd)) (l:List Bp) (v:AV) (H:Hp) (o:Option (Value×AV)),es.length<f→(l++es.map Prod.fst).Perm ks→(l=[]→v=AA)→Coll H0 r0 s q0 e0 c6 l v H→¬AF v it→Aq H it=some (.iter (ES Kt es) o)→
 Bt (L+20) (rt (L+20) (n+1)) K k4 f (.yl s) (.it it) H=some (w,[]):=by
 intro f
 induction f with
 |zero=>intro es l v H o h;omega
 |succ f ih=>
  intro es l v H o hf hp h0 hc hv hl
  rw[Ga]
  unfold Cv
  refine A4M (f:=Kt) hw hl (λe=> ?_) (λa e b he=> ?_)
  ·subst e
   rw[OP,Bx]
   exact hfin l v H (by simpa using hp) h0 hc
  ·subst he
   have hc1:=hc.it (.iter (ES Kt (a++b)) (some (.string ⟨⟨e.1⟩⟩,Kt e.2))) hit hv
   have hl1:=Tj (es:=ES Kt (a++b)) (o:=some (.string ⟨⟨e.1⟩⟩,Kt e.2)) hl
   have hll:(l++(a++e::b).map Prod.fst).length=ks.length:=hp.length_eq
   simp at hll
   have eo:ofV (.string ⟨⟨e.1⟩⟩)=S e.1:=rfl
   rw[OP,Dc,Vx hl1,OP,eo]
   refine A9P hc1 (by omega) λv' H' hc' hk hr=> ?_
   rw[Ks]
   show Aw (.v (.bool false)) _ _=_
   rw[Bx]
   refine ih (a++b) (l++[e.1]) v' H' _ (by simp at hf⊢;omega) ?_ (by simp) hc' (λhu=> ?_) (hk it _ hit.1 hit.2.1 hv hl1)
   ·refine List.Perm.trans ?_ hp
    simp only[YG,Vu,l0k]
    refine List.Perm.append_left l ?_
    show(e.1::(a.map Prod.fst++b.map Prod.fst)).Perm _
    exact List.perm_middle.symm
   ·have g1:=hr it hu
    have g2:=hc1.wf.lt hl1
    rw[BS] at g1 g2
    omega
theorem A7Y {H0:Hp} {w:AV} (hw:XV 6 w w=true) (hg:gs.length≤8) (hL:100<L) (wf:Wf H0)
 (hx:∀l v H,l.Perm (gs.map Cd.id)→(l=[]→v=AA)→NewSl H0 l v H→K v H=some (w,[])):
 (rt (L+20) (n+4)).call EM [Xq gs] H0 K=some (w,[]):=by
 rw[HB]
 unfold EK
 rw[Ep]
 unfold CA
 simp only[BW]
 rw[A5i (by rfl),WU,Gh]
 unfold Cy
 simp only[BW]
 have w1:=Bj (x:= .cells true Bb [AA]) wf
 have hn0:=A1 (H:=H0) (x:= .cells true Bb [AA]) (by simp)
 have hne:A2 ((A2 H0,Row.cells true Bb [AA])::H0)=A2 H0+1:=rfl
 have w2:Wf ((A2 H0+1,Py (.ptr (A2 H0) 0 0) (Xq gs) (some none))::(A2 H0,Row.cells true Bb [AA])::H0):=Bj (x:=Py (.ptr (A2 H0) 0 0) (Xq gs) (some none)) w1
 have hs0:Aq ((A2 H0+1,Py (.ptr (A2 H0) 0 0) (Xq gs) (some none))::(A2 H0,Row.cells true Bb [AA])::H0) (A2 H0+1)=some (Py (.ptr (A2 H0) 0 0) (Xq gs) (some none)):=A1 (H:=((A2 H0,Row.cells true Bb [AA])::H0)) (x:=Py (.ptr (A2 H0) 0 0) (Xq gs) (some none)) (by simp[Py])
 have ol:∀u y,Aq H0 u=some y→Aq ((A2 H0+1,Py (.ptr (A2 H0) 0 0) (Xq gs) (some none))::(A2 H0,Row.cells true Bb [AA])::H0) u=some y:= λu y hu=>by
  have a1:=AM (x:= .cells true Bb [AA]) (wf.lt hu) hu
  exact AM (w1.lt a1) a1
 have e2:∀{H:Hp} {K:AV→Aj},Au AS (.iptr [gV gs]) H K=K (gV gs):= λ{H K}=>NI rfl
 rw[e2,A0z]
 have hr2:Aq ((A2 H0+1,Py (.ptr (A2 H0) 0 0) (Xq gs) (some none))::(A2 H0,Row.cells true Bb [AA])::H0) (A2 H0)=some (.cells true Bb [AA]):=AM (w1.lt hn0) hn0
 show Bt (L+20) (rt (L+20) (n+1)) _ _ (L+20) (.yl (A2 H0+1)) (.it (A2 ((A2 H0+1,Py (.ptr (A2 H0) 0 0) (Xq gs) (some none))::(A2 H0,Row.cells true Bb [AA])::H0))) ((A2 ((A2 H0+1,Py (.ptr (A2 H0) 0 0) (Xq gs) (some none))::(A2 H0,Row.cells true Bb [AA])::H0),.iter (ES Kt (gE gs)) none)::((A2 H0+1,Py (.ptr (A2 H0) 0 0) (Xq gs) (some none))::(A2 H0,Row.cells true Bb [AA])::H0))=_
 generalize hH2:((A2 H0+1,Py (.ptr (A2 H0) 0 0) (Xq gs) (some none))::(A2 H0,Row.cells true Bb [AA])::H0:Hp)=H2 at w2 hs0 ol hr2
 have hn2:A2 H2=A2 H0+2:=by rw[←hH2];rfl
 have w4:=Bj (x:= .iter (ES Kt (gE gs)) none) w2
 have up:∀u y,Aq H2 u=some y→Aq ((A2 H2,Row.iter (ES Kt (gE gs)) none)::H2) u=some y:= λu y hy=>AM (w2.lt hy) hy
 have it0:Aq ((A2 H2,Row.iter (ES Kt (gE gs)) none)::H2) (A2 H2)=some (.iter (ES Kt (gE gs)) none):=A1 (by simp)
 have hgl:(gE gs).length=gs.length:=by simp[gE]
 refine B4q (n:=n) (H0:=H0) (r0:=A2 H0) (s:=A2 H0+1) (it:=A2 H2) (q0:=true) (e0:=Bb) (c6:=Xq gs) (ks:=gs.map Cd.id) hw (by rw[XU];omega) ?_ (by omega) (L+20) (gE gs) [] AA _ none (by omega) (by rw[List.nil_append,A55]) (λ_=>rfl)
  ⟨up _ _ hr2,.inl ⟨rfl,rfl,rfl⟩,up _ _ hs0,λu ⟨_,_,_,h⟩=>(by cases h),w4,λu y hu=>up u y (ol u y hu),by omega,by omega,by omega,wf⟩ (λ⟨_,_,_,h⟩=>(by cases h)) it0
 intro l v H hp h0 hc
 show J3 H (A2 H0+1) _=_
 rw[B5 hc.lp]
 show Lx H (A2 H0+1) .gone _=_
 rw[Db]
 have hr:Aq (upd H (A2 H0+1) .gone) (A2 H0)=some (.cells true Bb [v]):=by rw[Ap (by omega)];exact hc.at_
 show Au Ac (.ptr (A2 H0) 0 0) (upd H (A2 H0+1) .gone) _=_
 rw[AK (p:=0) rfl hr (by simp)]
 refine hx _ _ _ hp h0 ⟨?_,λu hu=>(hc.new u hu).2.2,BH hc.wf,λu y hu=> ?_,?_⟩
 ·exact hc.sl.lat hc.wf (Lat.upd H _ _ (P:= λu=>u=A2 H0+1) rfl) (λu hu=>(hc.new u hu).2.1)
 ·have:=wf.lt hu
  rw[Ap (by omega)];exact hc.keep u y hu
 ·rw[BS]
  have:=hc.wf.lt hc.at_
  omega
theorem B2K {H0:Hp} {w:AV} (hw:XV 6 w w=true) (hg:gs.length≤8) (hL:100<L) (wf:Wf H0)
 (hx:∀v H,NewSl H0 (IB (gs.map Cd.id)) v H→(gs=[]→v=AA)→K v H=some (w,[])):(rt (L+20) (n+6)).call I0 [gV gs] H0 K=some (w,[]):=by
 rw[TO]
 unfold K0
 have ky:∀{K:AV→Aj},Ai (rt (L+20) (n+5)) CO [gV gs] H0 K=K (Xq gs):= λ{K}=>by
  refine Gz (λK hK=> ?_) (Ax (q:=false) A0w Ba)
  rw[show n+5=(n+4)+1 from rfl,GZ]
  unfold CN
  have eb:∀{H:Hp} {K:KV},DS BD (gV gs) H K=K (.ptr (A2 H) 0 0) ((A2 H,.cells true BD [gV gs])::H):= λ{H K}=>B5e
  rw[eb]
  exact hK _ _ ⟨true,λK=>by kernel_rfl⟩
 rw[ky,Ii]
 unfold Fb
 refine A7Y (n:=n) hw hg hL wf λl v H hp h0 hc=> ?_
 refine B2F (n:=n) wf (by rw[hp.length_eq,XU];omega) h0 hc λH' hc'=> ?_
 have e:IB l=IB (gs.map Cd.id):=QU ((C5 l).trans (hp.trans (C5 _).symm)) (GF l) (GF _)
 rw[e] at hc'
 refine hx v H' hc' λh=>h0 ?_
 subst h
 exact l1s (by rw[hp.length_eq];rfl)
end
end
end Go.Abs
end
