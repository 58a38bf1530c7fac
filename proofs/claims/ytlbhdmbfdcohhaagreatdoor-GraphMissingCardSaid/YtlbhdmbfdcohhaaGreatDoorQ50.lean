import Derived.Shelf.Strings.OnBuilder
import Derived.Shelf.Strings.Repeat
import Derived.Shelf.Sort.Plain
import Derived.Test.YtlbhdmbfdcohhaaGreatDoorProg
import Derived.Test.YtlbhdmbfdcohhaaGreatDoorQ16
import Derived.Test.YtlbhdmbfdcohhaaGreatDoorQ17
import Derived.Test.YtlbhdmbfdcohhaaGreatDoorQ47
import Derived.Test.YtlbhdmbfdcohhaaGreatDoorQ49
set_option linter.all false
set_option maxHeartbeats 100000000
noncomputable section
namespace Go.Abs
open Go.RowKit Go.Proofs
set_option maxRecDepth 100000
section
variable {L n:Nat}
def A9C:AV:= .list 2 (Jz.cs++Uq.cs)
theorem A6f:LA [Jz,Uq] A9C:= .inl (by
 show AV.list 2 _=AV.list 2 ([Jz,Uq].flatMap Cd.cs)
 simp)
section
variable {K:AV→Al} {H:Hp}
theorem C6C:R9 68 Ac 2 [(0,68,.agg Jz.cs),(68,68,.agg Uq.cs)] K=K A9C:=by kernel_rfl
theorem C6D:R9 68 Ac 2 [(0,68,.agg Jz.cs),(68,68,.agg Jz.cs)] K=K B3E:=by kernel_rfl
theorem bf4:R9 68 Ac 4 [(0,68,.agg scD.cs),(68,68,.agg We.cs),(136,68,.agg Uq.cs),(204,68,.agg Jz.cs)] K=K Mh:=by kernel_rfl
theorem bf3:R9 68 Ac 3 [(0,68,.agg Jz.cs),(68,68,.agg Uq.cs),(136,68,.agg scE.cs)] K=K B3D:=by kernel_rfl
theorem C6B {a:List UInt8}:R9 1 Ad 1 [(0,1,S a)] K=K (Ec [a]):=by kernel_rfl
theorem C59 {a b:List UInt8}:R9 1 Ad 2 [(0,1,S a),(1,1,S b)] K=K (Ec [a,b]):=by kernel_rfl
theorem C6A {a b c d:List UInt8}:R9 1 Ad 4 [(0,1,S a),(1,1,S b),(2,1,S c),(3,1,S d)] K=K (Ec [a,b,c,d]):=by kernel_rfl
theorem ix0 {a:List UInt8} {l:List (List UInt8)}:Bv Ae (Ec (a::l)) (.v (.int .i64 0)) K=K (.iptr [S a]):=by
 have:=(Gx (a::l)).ia (K:=K) (i:=0) (by simp)
 exact this
theorem ix1 {a b:List UInt8} {l:List (List UInt8)}:Bv Ae (Ec (a::b::l)) (.v (.int .i64 1)) K=K (.iptr [S b]):=by
 have:=(Gx (a::b::l)).ia (K:=K) (i:=1) (by simp)
 exact this
theorem mmT:eMM true (S lA) (S lB) K=K (S lB):=by kernel_rfl
theorem mmF:eMM false (S lA) (S lB) K=K (S lA):=by kernel_rfl
theorem ln2 {a b:List UInt8}:AN Ae (Ec [a,b]) K=K (.v (.int .i64 2)):=id rfl
theorem ln3 {a b c:List UInt8}:AN Ae (Ec [a,b,c]) K=K (.v (.int .i64 3)):=id rfl
theorem lnp {l:List AV}:AN JH (.list 1 l) K=K (.v (.int .i64 1)):=id rfl
theorem C5W:Go.Abs.Ak Ab .neq (.v (.int .i64 2)) (.v (.int .i64 2)) K=K (Bo false):=by kernel_rfl
theorem C5X:Go.Abs.Ak Ab .neq (.v (.int .i64 1)) (.v (.int .i64 1)) K=K (Bo false):=by kernel_rfl
theorem C6h:Go.Abs.Ak Ab .eql (.v (.int .i64 3)) (.v (.int .i64 3)) K=K (Bo true):=by kernel_rfl
theorem C6i:Go.Abs.Ak Ab .eql (I 0) (.v (.int .i64 0)) K=K (Bo true):=by kernel_rfl
end
theorem C0J (hL:40000<L):CS (rt (L+20) (n+81)) SH [] (Bo true):=by
 intro K hK
 have c1:∀{H K},Ah (rt (L+20) (n+80)) DV [(.v (.int .i64 1))] H K=K (.agg Jz.cs):= λ{H K}=>HP (A9l (n:=n+35) (k:=1) hL (by decide) (by decide) B2F) (A0 (q:=false) E5 Bp)
 have c2:∀{H K},Ah (rt (L+20) (n+80)) DV [(.v (.int .i64 2))] H K=K (.agg Uq.cs):= λ{H K}=>HP (A9l (n:=n+35) (k:=2) hL (by decide) (by decide) B2E) (A0 (q:=false) E5 Bp)
 have cI2:∀{H K},Ah (rt (L+20) (n+80)) Ie [A9C] H K=K (Ec [lA,lB]):= λ{H K}=>by
  have h:=B3c (L:=L) (n:=n+15) (gs:=[Jz,Uq]) (a:=A9C) (by
   intro c hc
   simp only[Xi,List.not_mem_nil,or_false] at hc
   rcases hc with rfl|rfl
   ·exact⟨A47,show([]:List (List UInt8)).Nodup by decide⟩
   ·exact⟨A46,show([]:List (List UInt8)).Nodup by decide⟩) (by decide) hL A6f
  rw[show([Jz,Uq].map Cd.id)=[lA,lB] by simp[Vo,Vn]] at h
  exact Be h (A0 (A6f.fx H) Bp)
 have cI4:∀{H K},Ah (rt (L+20) (n+80)) Ie [Mh] H K=K (Ec [lD,lC,lB,lA]):= λ{H K}=>by
  have h:=B3c (L:=L) (n:=n+15) (gs:=gs4) (a:=Mh) (λc hc=>⟨A1o.ok c hc,A1o.nd c hc⟩) (by decide) hL Sz
  rw[show(gs4.map Cd.id)=[lD,lC,lB,lA] by simp[gs4,Vo,Vn,A0q,A48]] at h
  exact Be h (A0 (Sz.fx H) Bp)
 have cC:∀{H K},Ah (rt (L+20) (n+80)) EV [(.v (.int .i64 3)),Ec [lA,lB]] H K=K (.agg We.cs):= λ{H K}=>HP (A9m (n:=n+35) (k:=3) hL (by decide) (by decide) (l:=[lA,lB]) rfl (by simp[lA,lB]) B2D) (A0 (q:=false) E5 (A0 ((Gx _).fx H) Bp))
 have cD:∀{H K},Ah (rt (L+20) (n+80)) EV [(.v (.int .i64 4)),Ec [lC,lM]] H K=K (.agg scD.cs):= λ{H K}=>HP (A9m (n:=n+35) (k:=4) hL (by decide) (by decide) (l:=[lC,lM]) rfl (by simp[lC,lM]) B2C) (A0 (q:=false) E5 (A0 ((Gx _).fx H) Bp))
 have cP:∀{H K},Ah (rt (L+20) (n+80)) FD [(.v (.int .i64 77))] H K=K (S lM):= λ{H K}=>by
  rw[←C48];exact A0K (n:=n+60) hL (by decide) (by decide) H K
 have cID:∀{H K},Ah (rt (L+20) (n+80)) GA [.agg We.cs] H K=K (S lC):= λ{H K}=>by
  rw[←A0q];exact Be (A8U (n:=n+16) hL B2A (show[lA,lB].Nodup by decide)) (YC H)
 have f4:∀{H},PH true depth [Mh] [Mh] H false:= λ{H}=>A0 (Sz.fx H) Bp
 have f4s:∀{H} {s:List UInt8},PH true depth [Mh,S s] [Mh,S s] H false:= λ{H s}=>A0 (Sz.fx H) (A0 (q:=false) E5 Bp)
 have fss:∀{H} {a b:List (List UInt8)},PH true depth [Ec a,Ec b] [Ec a,Ec b] H false:= λ{H a b}=>A0 ((Gx a).fx H) (A0 ((Gx b).fx H) Bp)
 have cO:∀{H K},Ah (rt (L+20) (n+80)) Nm [Mh] H K=K (.tup [Ec [lB,lA,lC,lD],I 0]):= λ{H K}=>FV (B6c (n:=n+15) hL) f4
 have cF:∀{H K},Ah (rt (L+20) (n+80)) No [B3D] H K=K (.list 1 [S lE,S lB]):= λ{H K}=>FV (B6f (n:=n+15) hL) (A0 (A4v.fx H) Bp)
 have cFc:∀{H K},Ah (rt (L+20) (n+80)) I2 [Mh,S lC] H K=K (.tup [.agg We.cs,Bo true]):= λ{H K}=>FV (B6h (n:=n+15) hL) f4s
 have cFm:∀{H K},Ah (rt (L+20) (n+80)) I2 [Mh,S lM] H K=K (.tup [.agg BA,Bo false]):= λ{H K}=>FV (B6g (n:=n+15) hL) f4s
 have cM:∀{H K},Ah (rt (L+20) (n+80)) DJ [Mh] H K=K (Ec [lM]):= λ{H K}=>FV (B0B (n:=n+15) hL) f4
 have cH:∀{H K},Ah (rt (L+20) (n+80)) Nn [Mh] H K=K (Ec [lD]):= λ{H K}=>FV (B6e (n:=n+15) hL) f4
 have cAc:∀{H K},Ah (rt (L+20) (n+80)) ES [Mh,S lC] H K=K (Ec [lB,lA]):= λ{H K}=>FV (C3t (n:=n+15) hL) f4s
 have cAd:∀{H K},Ah (rt (L+20) (n+80)) ES [Mh,S lD] H K=K (Ec [lB,lC,lA]):= λ{H K}=>FV (C3s (n:=n+15) hL) f4s
 have cV:∀{H K},Ah (rt (L+20) (n+80)) HI [Mh] H K=K (Bo true):= λ{H K}=>FV (B6a (n:=n+15) hL) f4
 have cV2:∀{H K},Ah (rt (L+20) (n+80)) HI [B3E] H K=K (Bo false):= λ{H K}=>FV (B2G (n:=n+15) hL) (A0 (A4w.fx H) Bp)
 have cS:∀{H K},Ah (rt (L+20) (n+80)) KP [.agg We.cs,.agg We.cs] H K=K (Bo true):= λ{H K}=>FV (C0K (n:=n+15)) (A0 (A4U (D:=depth-3)) (A0 (A4U (D:=depth-3)) Bp))
 have s1:∀{H K},Ah (rt (L+20) (n+80)) BV [Ec [lM],Ec [lM]] H K=K (Bo true):= λ{H K}=>FV (C3r (n:=n+78)) fss
 have s2:∀{H K},Ah (rt (L+20) (n+80)) BV [Ec [lD],Ec [lD]] H K=K (Bo true):= λ{H K}=>FV (C3q (n:=n+78)) fss
 have s3:∀{H K},Ah (rt (L+20) (n+80)) BV [Ec [lB,lA],Ec [lB,lA]] H K=K (Bo true):= λ{H K}=>FV (C3p (n:=n+78)) fss
 have s4:∀{H K},Ah (rt (L+20) (n+80)) BV [Ec [lB,lA,lC,lD],Ec [lB,lA,lC,lD]] H K=K (Bo true):= λ{H K}=>FV (C3o (n:=n+78)) fss
 have egr:gr gs4=[(lD,cE scD),(lC,cE We),(lB,cE Uq),(lA,cE Jz)]:=by simp[gr,gs4,Vo,Vn,A0q,A48]
 have hps:∀c∈gs4,c.ps.length<100:= λc hc=>by have:=B4E (A1o.ok c hc);omega
 have cR:∀{s:List UInt8} {H K},Ah (rt (L+20) (n+80)) Fs [Mh,S s] H K=K (Bo (rz [(lD,cE scD),(lC,cE We),(lB,cE Uq),(lA,cE Jz)] 4 s)):= λ{s H K}=>by
  have:=A7w (L:=L) (n:=n) (s:=s) A1o hL hps Sz
  rw[egr] at this
  exact Be this f4s
 have r1:rz [(lD,cE scD),(lC,cE We),(lB,cE Uq),(lA,cE Jz)] 4 lC=true:=by decide
 have r2:rz [(lD,cE scD),(lC,cE We),(lB,cE Uq),(lA,cE Jz)] 4 lD=false:=by decide
 have cR1:∀{H K},Ah (rt (L+20) (n+80)) Fs [Mh,S lC] H K=K (Bo true):= λ{H K}=>by rw[cR,r1]
 have cR2:∀{H K},Ah (rt (L+20) (n+80)) Fs [Mh,S lD] H K=K (Bo false):= λ{H K}=>by rw[cR,r2]
 clear cR r1 r2 egr hps f4 f4s fss
 rw[A17]
 unfold Sm AU Bw Ar E4 CH
 obtain⟨H1,e1,ra1,w1, -⟩:=Ed (e:=Ai) (zs:=BA) (vs:=Jz.cs) F3 BM
 rw[c1,Ba (cs:=BA) rfl,B0 (cs:=BA) (vs:=Jz.cs) (Ay (by simp)) BM rfl Jg,←e1]
 generalize A3 []=a at ra1
 obtain⟨H2,e2,rb2,w2,k2⟩:=Ed (e:=Ai) (zs:=BA) (vs:=Uq.cs) w1 BM
 rw[c2,Ba (cs:=BA) rfl,B0 (cs:=BA) (vs:=Uq.cs) (Ay (by simp)) BM rfl Jg,←e2]
 have ra2:=(k2 _ _ ra1).1
 generalize A3 H1=b at rb2
 clear e1 e2 k2 ra1 w1
 rw[Bk rfl BM.symm ra2,Bk rfl BM.symm rb2,C6C,cI2]
 simp only[ix0,ix1,ET,mmT,mmF,BH]
 obtain⟨H3,e3,rc3,w3,k3⟩:=Ed (e:=Ai) (zs:=BA) (vs:=We.cs) w2 BM
 rw[cC,Ba (cs:=BA) rfl,B0 (cs:=BA) (vs:=We.cs) (Ay (by simp)) BM rfl Jg,←e3]
 have ra3:=(k3 _ _ ra2).1
 have rb3:=(k3 _ _ rb2).1
 generalize A3 H2=c at rc3
 clear e3 k3 ra2 rb2 w2
 rw[cP,Bk rfl BM.symm rc3,cID,C59,cD]
 obtain⟨H4,e4,rd4,w4,k4⟩:=Ed (e:=Ai) (zs:=BA) (vs:=scD.cs) w3 BM
 rw[Ba (cs:=BA) rfl,B0 (cs:=BA) (vs:=scD.cs) (Ay (by simp)) BM rfl Jg,←e4]
 have ra4:=(k4 _ _ ra3).1
 have rb4:=(k4 _ _ rb3).1
 have rc4:=(k4 _ _ rc3).1
 generalize A3 H3=d at rd4
 clear e4 k4 ra3 rb3 rc3 w3
 obtain⟨H5,e5,re5,w5,k5⟩:=Ed (e:=Ai) (zs:=BA) (vs:=Uq.cs) w4 BM
 rw[c2,Ba (cs:=BA) rfl,B0 (cs:=BA) (vs:=Uq.cs) (Ay (by simp)) BM rfl Jg,←e5]
 obtain⟨ra5,na⟩:=k5 _ _ ra4
 obtain⟨rb5,nb⟩:=k5 _ _ rb4
 obtain⟨rc5,nc⟩:=k5 _ _ rc4
 obtain⟨rd5,nd⟩:=k5 _ _ rd4
 generalize A3 H4=e at re5 na nb nc nd
 clear e5 k5 ra4 rb4 rc4 rd4 w4
 have eE:Uq.cs.set 5 (.v (.int .i64 9))=scE.cs:=rfl
 rw[Vg,E1 re5 (by rw[BM];decide) rfl rfl rfl,eE]
 have re6:=A9 (q:=true) (e:=Ai) (cs:=scE.cs) re5
 rw[←Ap (y:= .cells true Ai scE.cs) na] at ra5
 rw[←Ap (y:= .cells true Ai scE.cs) nb] at rb5
 rw[←Ap (y:= .cells true Ai scE.cs) nc] at rc5
 rw[←Ap (y:= .cells true Ai scE.cs) nd] at rd5
 have w6:=BL (r:=e) (y:= .cells true Ai scE.cs) w5
 generalize upd H5 e (.cells true Ai scE.cs)=H6 at re6 ra5 rb5 rc5 rd5 w6
 clear re5 na nb nc nd w5
 rw[Bk rfl BM.symm rd5,Bk rfl BM.symm rc5,Bk rfl BM.symm rb5,Bk rfl BM.symm ra5,bf4,cI4,cO,CY,CX,Bk rfl BM.symm ra5,Bk rfl BM.symm rb5,Bk rfl BM.symm re6,bf3,cF,ix1,ET,cFc,CY,CX]
 obtain⟨H7,e7,rf7,w7,k7⟩:=Ed (e:=Ai) (zs:=BA) (vs:=We.cs) w6 BM
 rw[Ba (cs:=BA) rfl,B0 (cs:=BA) (vs:=We.cs) (Ay (by simp)) BM rfl Jg,←e7]
 have ra7:=(k7 _ _ ra5).1
 have rc7:=(k7 _ _ rc5).1
 have rd7:=(k7 _ _ rd5).1
 generalize A3 H6=g at rf7
 clear e7 k7 ra5 rb5 rc5 rd5 re6 w6
 obtain⟨H8,e8, -,w8,k8⟩:=Ed (e:=Ai) (zs:=BA) (vs:=BA) w7 rfl
 rw[cFm,CY,CX,Ba (cs:=BA) rfl,B0 (cs:=BA) (vs:=BA) (Ay (by simp)) rfl rfl rfl,←e8]
 have ra8:=(k8 _ _ ra7).1
 have rc8:=(k8 _ _ rc7).1
 have rd8:=(k8 _ _ rd7).1
 have rf8:=(k8 _ _ rf7).1
 generalize A3 H7=h
 clear e8 k8 ra7 rc7 rd7 rf7 w7 w8
 have dA:∀{K},Aq Ac (.ptr a 0 0) H8 K=K (.agg Jz.cs):= λ{K}=>Bk rfl BM.symm ra8
 have dC:∀{K},Aq Ac (.ptr c 0 0) H8 K=K (.agg We.cs):= λ{K}=>Bk rfl BM.symm rc8
 have dF:∀{K},Aq Ac (.ptr g 0 0) H8 K=K (.agg We.cs):= λ{K}=>Bk rfl BM.symm rf8
 have pC:∀{K},Aq Ae (.ptr c 31 0) H8 K=K (Ec [lA,lB]):= λ{K}=>AQ (p:=31) rfl rc8 (show 31<68 by decide)
 have pD:∀{K},Aq Ae (.ptr d 31 0) H8 K=K (Ec [lC,lM]):= λ{K}=>AQ (p:=31) rfl rd8 (show 31<68 by decide)
 simp only[Vg,pC,ln2,C5W,gT,Ci,pD,TB,lnp,C5X]
 rw[B9]
 simp only[cM,C6B,s1,BH,gT,Ci,cH,ix0,ix1,ET,s2,Vu,cAc,C59,s3,cAd,ln3,C6h,C6i,C6A,s4,cR1,cR2,ntF,ntT,cV,dA,C6D,cV2,dF,dC,cS]
 exact hK _ _ (λb=>⟨false,λK=>by kernel_rfl⟩)
end
section
variable {L n:Nat}
section
variable {α:Type} {f:α→List AV} {w:Nat}
theorem A4I (hf:∀x,(f x).length=w):∀(l:List α) (m:Nat),(l.flatMap f).take (m*w)=(l.take m).flatMap f∧(l.flatMap f).drop (m*w)=(l.drop m).flatMap f:=by
 intro l
 induction l with
 |nil=>intro m;simp
 |cons a l ih=>
  intro m
  cases m with
  |zero=>simp
  |succ m=>
   obtain⟨h1,h2⟩:=ih m
   have e:(m+1)*w=(f a).length+m*w:=by rw[hf,l19];omega
   rw[l00,e,List.take_length_add_append,List.drop_length_add_append,h1,h2]
   exact⟨rfl,rfl⟩
theorem B7z (hf:∀x,(f x).length=w) {d:AV}:∀(l:List α) (i j:Nat) (h:i<l.length),j<w→(l.flatMap f).getD (i*w+j) d=(f l[i]).getD j d:=by
 intro l i j h hj
 have e1:(l.flatMap f).getD (i*w+j) d=((l.flatMap f).drop (i*w)).getD j d:=by simp[Th,l0d]
 have hjl:j<(f l[i]).length:=by rw[hf];exact hj
 rw[e1,(A4I hf l i).2,l11 h,l00,Th,l0l hjl,←Th]
theorem WH (hf:∀x,(f x).length=w):∀l:List α,(l.flatMap f).length=l.length*w:=by
 intro l
 induction l with
 |nil=>simp
 |cons a l ih=>rw[l00,FK,hf,ih,Lf,l19];omega
end
section
variable {gs less:List Cd} {H:Hp} {K:AV→Al} {D:Nat}
theorem C2h {c:Cd}:PH true (D+2) c.cs c.cs H false:= λK=>(A4U (D:=D) (c:=c) (H:=H)) λq a=>match a with| .agg l=>K q l|_=>none
theorem C1I:∀l:List Cd,PH true (D+2) (l.flatMap Cd.cs) (l.flatMap Cd.cs) H false:=by
 intro l
 induction l with
 |nil=>exact Bp
 |cons c l ih=>rw[l00];exact A4E C2h ih
theorem A3H:∀l:List Cd,(l.flatMap Cd.cs).all AV.one=true:=by
 intro l
 induction l with
 |nil=>rfl
 |cons c l ih=>rw[l00,List.all_append,Jg,ih];rfl
theorem C6k (c:Cd):c.cs.getD 31 .dk=Ec c.ps:=by
 match c with
 | .re b u=>rfl
 | .co b p ps none=>rfl
 | .co b p ps (some (k,vd))=>rfl
theorem C24 {r m i:Nat} (h:i<m):Bv A2 (.sl 68 r 0 m) (I (i:Int)) K=K (.ptr r (i*68) 0):=by
 have e1:Bv A2 (.sl 68 r 0 m) (I (i:Int)) K=iN (i:Int) λn=>ck (Nat.blt n m) (fN (Nat.add 0 (Nat.mul n 68)) λp=>K (.ptr r p 0)):=rfl
 rw[e1,J6,DL]
 have h1:Nat.blt i m=true:=by rw[TU];exact h
 have e2:Nat.add 0 (Nat.mul i 68)=i*68:=K1 _
 rw[h1,e2];rfl
theorem C6z {K:KV}:Ft Ai 68 Ac 0 [] H K=K (.sl 68 (A3 H) 0 0) ((A3 H,.cells false Ai [])::H):=by
 have e:Ft Ai 68 Ac 0 [] H K=HM H (λs=>K (.sl 68 s 0 0) ((s,.cells false Ai [])::H)):=_root_.id rfl
 rw[e,BW]
theorem B1k {t:TI} {e w m i:Nat} {cs:List AV} (hd:t.d= .slice e w) (h:i≤m) (hc:cs.length=m*w):El t (.list m cs) (some (I (i:Int))) none none K=K (.list (m-i) (cs.drop (i*w))):=by
 obtain⟨s,b,d,z⟩:=t
 simp only at hd
 subst hd
 have e1:El ⟨s,b,.slice e w,z⟩ (.list m cs) (some (I (i:Int))) none none K=iN (i:Int) λl=>fN m λh=>fN m λx=>ck ((true||false)&&(Nat.ble l h&&(Nat.ble h x&&Nat.ble x m))) (fN (Nat.sub h l) λn=>Po (Nat.mul n w) (Dg (Nat.mul l w) cs) λc=>K (.list n c)):=rfl
 rw[e1,J6,DL,DL]
 have c:((true||false)&&(Nat.ble i m&&(Nat.ble m m&&Nat.ble m m)))=true:=by simp;omega
 rw[c]
 show fN (Nat.sub m i) (λn=>Po (Nat.mul n w) (Dg (Nat.mul i w) cs) λc=>K (.list n c))=_
 rw[DL,Kt,Ct]
 show K (.list (m-i) ((cs.drop (i*w)).take ((m-i)*w)))=_
 rw[l1z]
 rw[l0t,hc,Nat.sub_mul];exact NU _
end
section
variable {gs:List Cd} {k:Nat}
def wo (gs:List Cd) (k:Nat):List Cd:=gs.take k++gs.drop (k+1)
theorem A5q (hk:k<gs.length):gs=gs.take k++gs[k]::gs.drop (k+1):=by
 rw[←l11 hk,List.take_append_drop]
theorem B24 (hk:k<gs.length) {c:Cd}:c∈gs↔c∈wo gs k∨c=gs[k]:=by
 conv=>lhs;rw[A5q hk]
 unfold wo
 simp only[l2e,Xi]
 constructor
 ·rintro(h|h|h)
  ·exact .inl (.inl h)
  ·exact .inr h
  ·exact .inl (.inr h)
 ·rintro((h|h)|h)
  ·exact .inl h
  ·exact .inr (.inr h)
  ·exact .inr (.inl h)
theorem Vi:(wo gs k).Sublist gs:=by
 have:=List.eraseIdx_sublist gs k
 rw[List.eraseIdx_eq_take_drop_succ] at this
 exact this
theorem GOk.wo (h:GOk gs):GOk (wo gs k):=by
 have hm:∀c∈Go.Abs.wo gs k,c∈gs:= λc hc=>Vi.mem hc
 refine⟨λc hc=>h.ok c (hm c hc),λc hc=>h.nd c (hm c hc),h.ids.sublist (Vi.map _),?_⟩
 have:=h.len
 have:=(Vi (gs:=gs) (k:=k)).length_le
 omega
theorem B25 (h:(gs.map Cd.id).Nodup) (hk:k<gs.length) {p:Jh}:p∈(wo gs k).map Cd.id↔p∈gs.map Cd.id∧p≠gs[k].id:=by
 have hn:gs[k].id∉(wo gs k).map Cd.id:=by
  intro hm
  rw[A5q hk,Zt,ZK,List.nodup_append,List.nodup_cons] at h
  unfold wo at hm
  rw[Zt,l2e] at hm
  rcases hm with hm|hm
  ·exact h.2.2 _ hm _ List.mem_cons_self rfl
  ·exact h.2.1.1 hm
 constructor
 ·intro hp
  refine⟨?_,λe=>hn (e▸hp)⟩
  obtain⟨c,hc,rfl⟩:=l2a.1 hp
  exact l2a.2 ⟨c,Vi.mem hc,rfl⟩
 ·rintro⟨hp,hne⟩
  obtain⟨c,hc,rfl⟩:=l2a.1 hp
  rcases(B24 hk).1 hc with h1|h1
  ·exact l2a.2 ⟨c,h1,rfl⟩
  ·exact absurd (by rw[h1]) hne
theorem B3C:(KU gs).Pairwise (· < ·):=by
 refine(A9B.and A6d).imp λ{a b} ⟨h1,h2⟩=> ?_
 rcases Decidable.em (a<b) with h|h
 ·exact h
 ·exact absurd (A5F h1 h) h2
end
theorem B8Q {xs:List Y7} {a0:AV} {which:Int} {K:KV} (hL:40000<L) (hx:XA xs a0) (hok:∀y∈xs,y.Ok) (hf:JU which)
 (hK:∀H0,K (Bo true) H0=some (Bo true,[])):(rt (L+20) (n+82)).call XA6 [a0,I which] [] K=some (Bo true,[]):=by
 rw[So]
 unfold J3 AU Bw Ar E4 CH
 obtain⟨hg,hlen⟩:=B40 xs (min 8 xs.length) (by omega)
 have hx0:Fx true depth a0 a0 [] false:=by
  rcases hx with rfl|⟨_,rfl⟩
  ·exact Qb
  ·exact E5
 rw[Be (C0J (n:=n) hL) Bp,HP (B37 (n:=n+16) hL hx hok) (A0 hx0 Bp)]
 generalize NL xs (min 8 xs.length)=gs at hg hlen
 have ha:=B72 gs
 have h8:=hg.len
 have hps:∀c∈gs,c.ps.length<100:= λc hc=>by have:=B4E (hg.ok c hc);omega
 have hM:∀{H K},Ah (rt (L+20) (n+81)) DJ [A4u gs] H K=K (Ec (KU gs)):= λ{H K}=>Be (A2X (L:=L) (n:=n+1) hg hL hps ha) (A0 (ha.fx H) Bp)
 have eq0:∀{K:AV→Al},Go.Abs.Ak Ab .eql (I (gs.length:Int)) (.v (.int .i64 0)) K=K (Bo (decide (gs.length=0))):= λ{K}=>by
  rw[Dy]
  congr 3
  simp
 rw[ha.len,eq0]
 by_cases h0:gs.length=0
 ·have hgs:=l1s h0
  subst hgs
  have e:KU []=[]:=rfl
  have q0:∀{K:AV→Al},Go.Abs.Ak Ab .eql (I (([]:List Jh).length:Int)) (.v (.int .i64 0)) K=K (Bo true):= λ{K}=>by kernel_rfl
  rw[decide_eq_true h0,D3]
  simp only[gT,Ci,hM,e,ZI,q0,Vu]
  exact hK _
 rw[decide_eq_false h0,B9,ha.len]
 obtain⟨k,hk,hk2, -⟩:=KG (c:=which) (m:=((gs.length:Nat):Int)) (by omega)
 have hkl:k<gs.length:=by omega
 have hpk:∀{H K},Ah (rt (L+20) (n+81)) O1 [I which,I ((gs.length:Nat):Int)] H K=K (I (k:Int)):= λ{H K}=>by rw[←hk];exact B3p (n:=n+80) hf (by omega) (by omega) H K
 have hli:A4u gs= .list gs.length (gs.flatMap Cd.cs):=by
  cases gs with
  |nil=>exact absurd rfl h0
  |cons c l=>rfl
 have hfl:(gs.flatMap Cd.cs).length=gs.length*68:=WH (λc=>BM) gs
 obtain⟨t1,d1⟩:=A4I (f:=Cd.cs) (w:=68) (λc=>BM) gs k
 obtain⟨-,d2⟩:=A4I (f:=Cd.cs) (w:=68) (λc=>BM) gs (k+1)
 have s1:∀K:AV→Al,El A2 (A4u gs) none (some (I (k:Int))) none K=K (.list k ((gs.take k).flatMap Cd.cs)):= λK=>by rw[hli,B1i (e:=Ai) (w:=68) rfl (by omega),t1]
 have s2:∀K:AV→Al,El A2 (A4u gs) (some (I ((k+1:Nat):Int))) none none K=K (.list (gs.length-(k+1)) ((gs.drop (k+1)).flatMap Cd.cs)):= λK=>by rw[hli,B1k (e:=Ai) (w:=68) rfl (by omega) hfl,d2]
 obtain⟨H1,e1,hc1,w1,k1⟩:=Ed (e:=Ai) (zs:=BA) (vs:=gs[k].cs) F3 BM
 rw[hpk,ha.ia hkl,A1O,Ba (cs:=BA) rfl,B0 (cs:=BA) (vs:=gs[k].cs) (Ay (by simp)) BM rfl Jg,←e1]
 generalize A3 []=rc at hc1
 clear e1 k1
 have hb1:=Ay (H:=H1) (x:= .cells false Ai []) (by simp)
 have w2:=B3 (x:= .cells false Ai []) w1
 have hc2:=Bh (x:= .cells false Ai []) (w1.lt hc1) hc1
 have hrl:=w1.lt hc1
 rw[C6z]
 simp only[Ci,s1,BH]
 generalize ((A3 H1,Row.cells false Ai [])::H1:Hp)=H2 at hb1 w2 hc2
 obtain⟨v1,H3,a1,sa1,n1,l1⟩:=apt (H:=H2) (e:=Ai) (sz:=68) (n:=0) (m:=k) (ie:=Ac) (i2:=A2) (v:= .sl 68 (A3 H1) 0 0) (src:= .list k ((gs.take k).flatMap Cd.cs)) (cs:=[]) (ys:=(gs.take k).flatMap Cd.cs)
  (.inr ⟨_,_,rfl,hb1,rfl⟩) (λK=>rfl) (by rw[WH (λc=>BM),l0g];congr 1;omega) (A3H _) (by decide) rfl rfl (by show(0+k)*Ac.bytes≤_;have:Ac.bytes≤100000:=(by decide);exact l1m (Nat.mul_le_mul (show 0+k≤8 by omega) this) (by decide)) (by omega)
 rw[a1]
 have hc3:=l1.keep w2 _ _ hc2 (λ⟨_,_,_,h⟩=>by injection h with _ h;omega)
 have w3:=l1.wf w2
 have nl:A3 H1<A3 H2:=w2.lt hb1
 simp only[Ci,DS (show k<1000000000 by omega),BH,s2]
 obtain⟨v2,H4,a2,sa2,n2,l2⟩:=apt (H:=H3) (e:=Ai) (sz:=68) (n:=0+k) (m:=gs.length-(k+1)) (ie:=Ac) (i2:=A2) (v:=v1) (src:= .list (gs.length-(k+1)) ((gs.drop (k+1)).flatMap Cd.cs)) (cs:=[]++(gs.take k).flatMap Cd.cs) (ys:=(gs.drop (k+1)).flatMap Cd.cs)
  sa1 (λK=>rfl) (by rw[WH (λc=>BM),l0t]) (A3H _) (by decide) rfl rfl (by have:Ac.bytes≤100000:=(by decide);exact l1m (Nat.mul_le_mul (show 0+k+(gs.length-(k+1))≤8 by omega) this) (by decide)) (by omega)
 rw[a2]
 have hc4:=l2.keep w3 _ _ hc3 (λh=>by have:=n1 _ h;omega)
 simp only[Ci]
 have hwl:0+k+(gs.length-(k+1))=(wo gs k).length:=by unfold wo;rw[FK,l0g,l0t];omega
 have hwc:[]++(gs.take k).flatMap Cd.cs++(gs.drop (k+1)).flatMap Cd.cs=(wo gs k).flatMap Cd.cs:=by unfold wo;rw[List.nil_append,l2g]
 rw[hwl,hwc] at sa2
 have hgl:=hg.wo (k:=k)
 have hpl:∀c∈wo gs k,c.ps.length<100:= λc hc=>hps c (Vi.mem hc)
 have hv:∃r aL q,LA (wo gs k) aL∧PH true depth [v2] [aL] H4 q∧(∀(i:Nat) (K:AV→Al),i<(wo gs k).length→Bv A2 v2 (I i) K=K (.ptr r (i*68) 0))∧∀(i:Nat) (h:i<(wo gs k).length) (K:AV→Al),Aq Ae (.ptr r (i*68+31) 0) H4 K=K (Ec (wo gs k)[i].ps):=by
  rcases sa2 with⟨rfl,hz,_⟩|⟨r,q,rfl,hr,_⟩
  ·exact⟨0,AM,false,.inr ⟨l1s hz,rfl⟩,A0 (q:=false) E5 Bp,λi K hi=>by omega,λi hi=>by omega⟩
  ·exact⟨r,_,_,.inl rfl,A0 (UZ (D:=depth-1) hr (WH (λc=>BM) _) (C1I (D:=depth-3) _)) Bp,λi K hi=>C24 hi,λi hi K=>by rw[AQ (p:=i*68+31) rfl hr (by rw[WH (λc=>BM)];omega),B7z (λc=>BM) _ _ _ hi (by decide),C6k]⟩
 obtain⟨r,aL,q,hLA,hFx,hia,hpr⟩:=hv
 have hal:(wo gs k).length≤8:=hgl.len
 have hms:∀{K},Ah (rt (L+20) (n+81)) DJ [v2] H4 K=K (Ec (KU (wo gs k))):= λ{K}=>
  Be (A2X (L:=L) (n:=n+1) hgl hL hpl hLA) hFx
 have hi:∀{K},Ah (rt (L+20) (n+81)) Ie [A4u gs] H4 K=K (Ec (gs.map Cd.id)):= λ{K}=>Be (B3c (L:=L) (n:=n+16) (λc hc=>⟨hg.ok c hc,hg.nd c hc⟩) (by omega) hL ha) (A0 (ha.fx H4) Bp)
 have hin:∀(l:List Jh),l.length<1000→∀(p:Jh) (K:AV→Al),Ah (rt (L+20) (n+81)) DC [Ec l,S p] H4 K=K (Bo (decide (p∈l))):= λl hl p K=>
  Be (C5K (n:=n+79) (Gx l) hl (by omega)) (A0 ((Gx l).fx H4) (A0 (q:=false) E5 Bp))
 rw[hi,hM,hms]
 simp only[Cl]
 have hlm:Lm (rt (L+20) (n+81)) H4 (gs.map Cd.id) (KU gs) (KU (wo gs k)) gs[k].ps gs[k].id k (wo gs k) v2 r rc:=
  {len:= λK=>I5 (H:=H4) (e:=Ai) (e':=Ai) (z':=68) rfl sa2
   ia:=hia
   ps:=hpr
   ck:= λK=>B4H hc4
   ii:=hin _ (by rw[l1u];omega)
   ia':=hin _ (Uw hg hps)
   is:=hin _ (Uw hgl hpl)
   ic:=hin _ (by have:=hps gs[k] (Ow hkl);omega)
   hk:=by rw[l1u];exact hkl
   hid:=by rw[l2i]
   bl:=by omega
   bp:=hpl
   ba:=Uw hg hps
   bc:=hps _ (Ow hkl)
   hA:= λc hc p hp=>by
    rw[HY]
    exact⟨λh=>h.1,λh=>⟨h,c,Vi.mem hc,hp⟩⟩
   hB:= λc hc p hp hne=>by
    rw[HY,HY,B25 hg.ids hkl]
    exact⟨λh=>⟨λh2=>h.1 h2.1,c,hc,hp⟩,λh=>⟨λh2=>h.1 ⟨h2,hne⟩,c,Vi.mem hc,hp⟩⟩
   hS:=by
    rw[HY,B25 hg.ids hkl]
    exact⟨λh=>h.2,λh=>⟨λh2=>h2.2 rfl,h⟩⟩
   hN:=by
    rw[HY]
    exact λh=>h.1 (l2a.2 ⟨_,Ow hkl,rfl⟩)
   hC:= λp hp hns=>by
    obtain⟨h1,c,hc,hcp⟩:=HY.1 hp
    rcases(B24 hkl).1 hc with h2|h2
    ·exact absurd (HY.2 ⟨λh3=>h1 ((B25 hg.ids hkl).1 h3).1,c,h2,hcp⟩) hns
    ·rw[←h2];exact hcp
   hQ:=B3C
   hD:= λp hp=>by
    rw[HY]
    exact⟨λh=>h.1,λh=>⟨h,_,Ow hkl,hp⟩⟩}
 generalize KU gs=al at hlm
 generalize KU (wo gs k)=sl at hlm
 generalize gs[k].ps=cp at hlm
 have e0:(AV.v (.int .i64 0))=I ((0:Nat):Int):=rfl
 have ef:(AV.v (.bool false))=Bo false:=rfl
 rw[e0,ef]
 refine C3Z hlm (by omega) (λi' d=> ?_) (L+20) 0 false _ _ (by omega) (by omega) (by rw[Bool.false_or,l1n])
 have hik:∀K:AV→Al,Bv Ae (Ec (gs.map Cd.id)) (I k) K=K (.iptr [S gs[k].id]):= λK=>by rw[(Gx _).ia hlm.hk,hlm.hid]
 have hpb:(decide (gs[k].id∈sl) !=((wo gs k).any λc=>c.ps.any λp=>decide (p=gs[k].id)))=false:=by
  have h1:=hlm.hS
  have h2:((wo gs k).any λc=>c.ps.any λp=>decide (p=gs[k].id))=decide (gs[k].id∈sl):=by
   rw[Zs,List.any_eq_true,decide_eq_true_eq,h1]
   constructor
   ·rintro⟨c,hc,h⟩
    obtain⟨p,hp,he⟩:=List.any_eq_true.1 h
    rw[decide_eq_true_eq] at he
    exact⟨c,hc,he▸hp⟩
   ·rintro⟨c,hc,h⟩
    exact⟨c,hc,List.any_eq_true.2 ⟨_,h,decide_eq_true rfl⟩⟩
  rw[h2];simp
 rw[hik,ET,hlm.is,C1p,hpb]
 simp only[gT,Ci,hik,ET,hlm.ia',decide_eq_false hlm.hN,TB]
 rw[B9]
 refine C40 hlm (λi'=> ?_) (L+20) 0 (by omega) (by have:=hlm.ba;omega)
 refine C41 hlm ?_ (L+20) 0 (by omega) (by have:=hlm.bc;omega)
 exact hK _
end
section
variable {L n:Nat}
end
end Go.Abs
end
noncomputable section
namespace Go.Proofs
open Go.Shelf
def Tryz.lays156_ren:Go.Shelf.Ren:=⟨λ|156=>198|165=>252|166=>193|169=>146|240=>250|241=>278|276=>276|277=>313|n=>n,λ|31=>26|9=>9|3=>3|4=>4|0=>0|20=>20|72=>193|76=>242|70=>191|37=>129|75=>241|127=>249|164=>317|5=>5|80=>200|n=>n,λ|n=>n⟩
theorem Tryz.lays156:Go.Proofs.Lays.n156 Tryz.prog Tryz.lays156_ren:={
 mixed:=by kernel_rfl
 f156:=Tryz.func198.trans (congrArg some (by kernel_rfl))
 f165:=Tryz.func252.trans (congrArg some (by kernel_rfl))
 f166:=Tryz.func193.trans (congrArg some (by kernel_rfl))
 f169:=Tryz.func146.trans (congrArg some (by kernel_rfl))
 f240:=Tryz.func250.trans (congrArg some (by kernel_rfl))
 f241:=Tryz.func278.trans (congrArg some (by kernel_rfl))
 f276:=Tryz.func276.trans (congrArg some (by kernel_rfl))
 f277:=Tryz.func313.trans (congrArg some (by kernel_rfl))
 t0:=Tryz.underlying0
 a0:=Tryz.isAgg0
 z0:=Tryz.sizeOf0
 v0:=Tryz.zeroValue0
 t3:=Tryz.underlying3
 a3:=Tryz.isAgg3
 z3:=Tryz.sizeOf3
 v3:=Tryz.zeroValue3
 t4:=Tryz.underlying4
 a4:=Tryz.isAgg4
 z4:=Tryz.sizeOf4
 v4:=Tryz.zeroValue4
 t9:=Tryz.underlying9
 a9:=Tryz.isAgg9
 z9:=Tryz.sizeOf9
 v9:=Tryz.zeroValue9
 t20:=Tryz.underlying20
 a20:=Tryz.isAgg20
 z20:=Tryz.sizeOf20
 v20:=Tryz.zeroValue20
 t31:=Tryz.underlying26
 a31:=Tryz.isAgg26
 z31:=Tryz.sizeOf26
 v31:=Tryz.zeroValue26
 t37:=Tryz.underlying129
 a37:=Tryz.isAgg129
 z37:=Tryz.sizeOf129
 v37:=Tryz.zeroValue129
 t70:=Tryz.underlying191
 a70:=Tryz.isAgg191
 z70:=Tryz.sizeOf191
 v70:=Tryz.zeroValue191
 t72:=Tryz.underlying193
 a72:=Tryz.isAgg193
 z72:=Tryz.sizeOf193
 v72:=Tryz.zeroValue193
 t75:=Tryz.underlying241
 a75:=Tryz.isAgg241
 z75:=Tryz.sizeOf241
 v75:=Tryz.zeroValue241
 t76:=Tryz.underlying242
 a76:=Tryz.isAgg242
 z76:=Tryz.sizeOf242
 v76:=Tryz.zeroValue242
 t127:=Tryz.underlying249
 a127:=Tryz.isAgg249
 z127:=Tryz.sizeOf249
 v127:=Tryz.zeroValue249
 t164:=Tryz.underlying317
 a164:=Tryz.isAgg317
 z164:=Tryz.sizeOf317
 v164:=Tryz.zeroValue317}
theorem Tryz.Builder_Extra_156:Builder.Extra Tryz.prog Tryz.lays156_ren:={
 sizeBuilder:=by kernel_rfl
 liesBuilder:=by kernel_rfl
 t5:=Tryz.underlying5
 a5:=Tryz.isAgg5
 z5:=Tryz.sizeOf5
 v5:=Tryz.zeroValue5
 infoByte:=by kernel_rfl
 cellsByte:=by kernel_rfl
 sizeByte:=by kernel_rfl
 neB5:=by decide}
open Go.RowKit in
theorem Tryz.strings_Join_none (a:Option Addr) (c:Nat) (sep:ByteArray) (w:World):
 Calls Tryz.prog 198 #[.slice a 0 c,.string sep] w λe w'=>e= .returned (.string ⟨#[]⟩)∧w'=w:=Any.strings_Join_none Tryz.lays156 Tryz.Builder_Extra_156 a c sep w
open Go.RowKit in
theorem Tryz.strings_Join (bk o c:Nat) (xs:List ByteArray) (sep:ByteArray) (w:World) (hcells:∀(j:Nat) x,xs[j]?=some x→w.cell? ⟨bk,o+j,none⟩=some (.string x)) (hbk:bk<w.heap.size) (hN:xs.length≤140737488355328) (hcap:xs.length≤c) (hlen:(Lib.join (xs.map (·.data.toList)) sep.data.toList).length≤140737488355328):
 Calls Tryz.prog 198 #[.slice (some ⟨bk,o,none⟩) xs.length c,.string sep] w λe w'=>e= .returned (.string ⟨(Lib.join (xs.map (·.data.toList)) sep.data.toList).toArray⟩)∧Below w.heap.size w w':=Any.strings_Join Tryz.lays156 Tryz.Builder_Extra_156 bk o c xs sep w hcells hbk hN hcap hlen
def Tryz.lays190_ren:Go.Shelf.Ren:=⟨λ|190=>93|125=>74|258=>151|128=>121|129=>122|302=>204|303=>205|304=>206|305=>207|306=>208|307=>209|308=>210|309=>211|310=>212|333=>256|329=>168|330=>169|334=>257|335=>258|336=>123|344=>294|n=>n,λ|31=>26|9=>9|3=>3|46=>132|0=>0|51=>127|53=>158|4=>4|183=>173|182=>172|131=>177|5=>5|218=>224|222=>228|228=>262|229=>263|n=>n,λ|n=>n⟩
theorem Tryz.lays190:Go.Proofs.Lays.n190 Tryz.prog Tryz.lays190_ren:={
 mixed:=by kernel_rfl
 f125:=Tryz.func74.trans (congrArg some (by kernel_rfl))
 f128:=Tryz.func121.trans (congrArg some (by kernel_rfl))
 f129:=Tryz.func122.trans (congrArg some (by kernel_rfl))
 f190:=Tryz.func93.trans (congrArg some (by kernel_rfl))
 f258:=Tryz.func151.trans (congrArg some (by kernel_rfl))
 f302:=Tryz.func204.trans (congrArg some (by kernel_rfl))
 f303:=Tryz.func205.trans (congrArg some (by kernel_rfl))
 f304:=Tryz.func206.trans (congrArg some (by kernel_rfl))
 f305:=Tryz.func207.trans (congrArg some (by kernel_rfl))
 f306:=Tryz.func208.trans (congrArg some (by kernel_rfl))
 f307:=Tryz.func209.trans (congrArg some (by kernel_rfl))
 f308:=Tryz.func210.trans (congrArg some (by kernel_rfl))
 f309:=Tryz.func211.trans (congrArg some (by kernel_rfl))
 f310:=Tryz.func212.trans (congrArg some (by kernel_rfl))
 f329:=Tryz.func168.trans (congrArg some (by kernel_rfl))
 f330:=Tryz.func169.trans (congrArg some (by kernel_rfl))
 f333:=Tryz.func256.trans (congrArg some (by kernel_rfl))
 f334:=Tryz.func257.trans (congrArg some (by kernel_rfl))
 f335:=Tryz.func258.trans (congrArg some (by kernel_rfl))
 f336:=Tryz.func123.trans (congrArg some (by kernel_rfl))
 f344:=Tryz.func294.trans (congrArg some (by kernel_rfl))
 t0:=Tryz.underlying0
 a0:=Tryz.isAgg0
 z0:=Tryz.sizeOf0
 v0:=Tryz.zeroValue0
 t3:=Tryz.underlying3
 a3:=Tryz.isAgg3
 z3:=Tryz.sizeOf3
 v3:=Tryz.zeroValue3
 t4:=Tryz.underlying4
 a4:=Tryz.isAgg4
 z4:=Tryz.sizeOf4
 v4:=Tryz.zeroValue4
 t5:=Tryz.underlying5
 a5:=Tryz.isAgg5
 z5:=Tryz.sizeOf5
 v5:=Tryz.zeroValue5
 t9:=Tryz.underlying9
 a9:=Tryz.isAgg9
 z9:=Tryz.sizeOf9
 v9:=Tryz.zeroValue9
 t31:=Tryz.underlying26
 a31:=Tryz.isAgg26
 z31:=Tryz.sizeOf26
 v31:=Tryz.zeroValue26
 t46:=Tryz.underlying132
 a46:=Tryz.isAgg132
 z46:=Tryz.sizeOf132
 v46:=Tryz.zeroValue132
 t51:=Tryz.underlying127
 a51:=Tryz.isAgg127
 z51:=Tryz.sizeOf127
 v51:=Tryz.zeroValue127
 t53:=Tryz.underlying158
 a53:=Tryz.isAgg158
 z53:=Tryz.sizeOf158
 v53:=Tryz.zeroValue158
 t131:=Tryz.underlying177
 a131:=Tryz.isAgg177
 z131:=Tryz.sizeOf177
 v131:=Tryz.zeroValue177
 t182:=Tryz.underlying172
 a182:=Tryz.isAgg172
 z182:=Tryz.sizeOf172
 v182:=Tryz.zeroValue172
 t183:=Tryz.underlying173
 a183:=Tryz.isAgg173
 z183:=Tryz.sizeOf173
 v183:=Tryz.zeroValue173
 t218:=Tryz.underlying224
 a218:=Tryz.isAgg224
 z218:=Tryz.sizeOf224
 v218:=Tryz.zeroValue224
 t222:=Tryz.underlying228
 a222:=Tryz.isAgg228
 z222:=Tryz.sizeOf228
 v222:=Tryz.zeroValue228
 t228:=Tryz.underlying262
 a228:=Tryz.isAgg262
 z228:=Tryz.sizeOf262
 v228:=Tryz.zeroValue262
 t229:=Tryz.underlying263
 a229:=Tryz.isAgg263
 z229:=Tryz.sizeOf263
 v229:=Tryz.zeroValue263}
open Go.Sort Go.RowKit in
theorem Tryz.slices_Sort_string (blk off cap:Nat) (ss:List (List UInt8)) (w:World) (hH:Holds encStr w blk off ss.toArray) (hblk:blk<w.heap.size) (hsz:ss.length<4611686018427387904):
 Calls Tryz.prog 93 #[.slice (some ⟨blk,off,none⟩) ss.length cap] w λe w'=>
  e= .returned (.tuple #[])∧∃n os,w'=grow (putRow encStr (Sort.ahead w n) blk off (ss.mergeSort λx y=>decide (x≤y)).toArray) os:=Any.slices_Sort_string Tryz.lays190 blk off cap ss w hH hblk hsz
def Tryz.lays105_ren:Go.Shelf.Ren:=⟨λ|105=>330|212=>366|99=>367|165=>252|166=>193|170=>145|169=>146|263=>384|264=>385|206=>377|240=>250|241=>278|276=>276|277=>313|n=>n,λ|9=>9|3=>3|4=>4|20=>20|0=>0|46=>132|109=>380|5=>5|72=>193|76=>242|51=>127|146=>393|53=>158|148=>395|70=>191|37=>129|75=>241|127=>249|164=>317|80=>200|n=>n,λ|n=>n⟩
theorem Tryz.lays105:Go.Proofs.Lays.n105 Tryz.prog Tryz.lays105_ren:={
 mixed:=by kernel_rfl
 f99:=Tryz.func367.trans (congrArg some (by kernel_rfl))
 f105:=Tryz.func330.trans (congrArg some (by kernel_rfl))
 f165:=Tryz.func252.trans (congrArg some (by kernel_rfl))
 f166:=Tryz.func193.trans (congrArg some (by kernel_rfl))
 f169:=Tryz.func146.trans (congrArg some (by kernel_rfl))
 f170:=Tryz.func145.trans (congrArg some (by kernel_rfl))
 f206:=Tryz.func377.trans (congrArg some (by kernel_rfl))
 f212:=Tryz.func366.trans (congrArg some (by kernel_rfl))
 f240:=Tryz.func250.trans (congrArg some (by kernel_rfl))
 f241:=Tryz.func278.trans (congrArg some (by kernel_rfl))
 f263:=Tryz.func384.trans (congrArg some (by kernel_rfl))
 f264:=Tryz.func385.trans (congrArg some (by kernel_rfl))
 f276:=Tryz.func276.trans (congrArg some (by kernel_rfl))
 f277:=Tryz.func313.trans (congrArg some (by kernel_rfl))
 t0:=Tryz.underlying0
 a0:=Tryz.isAgg0
 z0:=Tryz.sizeOf0
 v0:=Tryz.zeroValue0
 t3:=Tryz.underlying3
 a3:=Tryz.isAgg3
 z3:=Tryz.sizeOf3
 v3:=Tryz.zeroValue3
 t4:=Tryz.underlying4
 a4:=Tryz.isAgg4
 z4:=Tryz.sizeOf4
 v4:=Tryz.zeroValue4
 t5:=Tryz.underlying5
 a5:=Tryz.isAgg5
 z5:=Tryz.sizeOf5
 v5:=Tryz.zeroValue5
 t9:=Tryz.underlying9
 a9:=Tryz.isAgg9
 z9:=Tryz.sizeOf9
 v9:=Tryz.zeroValue9
 t20:=Tryz.underlying20
 a20:=Tryz.isAgg20
 z20:=Tryz.sizeOf20
 v20:=Tryz.zeroValue20
 t37:=Tryz.underlying129
 a37:=Tryz.isAgg129
 z37:=Tryz.sizeOf129
 v37:=Tryz.zeroValue129
 t46:=Tryz.underlying132
 a46:=Tryz.isAgg132
 z46:=Tryz.sizeOf132
 v46:=Tryz.zeroValue132
 t51:=Tryz.underlying127
 a51:=Tryz.isAgg127
 z51:=Tryz.sizeOf127
 v51:=Tryz.zeroValue127
 t53:=Tryz.underlying158
 a53:=Tryz.isAgg158
 z53:=Tryz.sizeOf158
 v53:=Tryz.zeroValue158
 t70:=Tryz.underlying191
 a70:=Tryz.isAgg191
 z70:=Tryz.sizeOf191
 v70:=Tryz.zeroValue191
 t72:=Tryz.underlying193
 a72:=Tryz.isAgg193
 z72:=Tryz.sizeOf193
 v72:=Tryz.zeroValue193
 t75:=Tryz.underlying241
 a75:=Tryz.isAgg241
 z75:=Tryz.sizeOf241
 v75:=Tryz.zeroValue241
 t76:=Tryz.underlying242
 a76:=Tryz.isAgg242
 z76:=Tryz.sizeOf242
 v76:=Tryz.zeroValue242
 t109:=Tryz.underlying380
 a109:=Tryz.isAgg380
 z109:=Tryz.sizeOf380
 v109:=Tryz.zeroValue380
 t127:=Tryz.underlying249
 a127:=Tryz.isAgg249
 z127:=Tryz.sizeOf249
 v127:=Tryz.zeroValue249
 t146:=Tryz.underlying393
 a146:=Tryz.isAgg393
 z146:=Tryz.sizeOf393
 v146:=Tryz.zeroValue393
 t148:=Tryz.underlying395
 a148:=Tryz.isAgg395
 z148:=Tryz.sizeOf395
 v148:=Tryz.zeroValue395
 t164:=Tryz.underlying317
 a164:=Tryz.isAgg317
 z164:=Tryz.sizeOf317
 v164:=Tryz.zeroValue317}
theorem Tryz.Builder_Extra_105:Builder.Extra Tryz.prog Tryz.lays105_ren:={
 sizeBuilder:=by kernel_rfl
 liesBuilder:=by kernel_rfl
 t5:=Tryz.underlying5
 a5:=Tryz.isAgg5
 z5:=Tryz.sizeOf5
 v5:=Tryz.zeroValue5
 infoByte:=by kernel_rfl
 cellsByte:=by kernel_rfl
 sizeByte:=by kernel_rfl
 neB5:=by decide}
open Go.RowKit Go.Lib in
theorem Tryz.strings_Repeat (s:ByteArray) (c:Nat) (w:World) (hc:c≤9223372036854775807) (hlen:s.size*c≤140737488355328):
 Calls Tryz.prog 330 #[.string s,.int .i64 c] w λe w'=>e= .returned (.string ⟨(Lib.repeatL s.data.toList c).toArray⟩)∧Below w.heap.size w w':=Any.strings_Repeat Tryz.lays105 Tryz.Builder_Extra_105 s c w hc hlen
end Go.Proofs
end
noncomputable section
namespace Go.Abs
open Go.RowKit Go.Proofs
set_option maxRecDepth 100000
theorem C4N:ZC Tryz.prog 198:=⟨Tryz.f198,by kernel_rfl,by kernel_rfl,by kernel_rfl⟩
theorem C6g:ZC Tryz.prog 93:=⟨Tryz.f93,by kernel_rfl,by kernel_rfl,by kernel_rfl⟩
theorem C4M:ZC Tryz.prog 330:=⟨Tryz.f330,by kernel_rfl,by kernel_rfl,by kernel_rfl⟩
theorem C3M (E:XE):oT.All (A73 E Tryz.prog):=
 ⟨B3W C4N Tryz.strings_Join_none Tryz.strings_Join,⟨B2x C6g Tryz.slices_Sort_string,trivial,trivial⟩,⟨A7X C4M Tryz.strings_Repeat,trivial,trivial⟩⟩
end Go.Abs
end
