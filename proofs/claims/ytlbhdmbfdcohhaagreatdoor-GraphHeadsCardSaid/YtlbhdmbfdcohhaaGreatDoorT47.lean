import Derived.Test.YtlbhdmbfdcohhaaGreatDoorT43
import Derived.Test.YtlbhdmbfdcohhaaGreatDoorT46
set_option linter.all false
set_option maxHeartbeats 100000000
noncomputable section
namespace Go.Abs
open Go.RowKit Go.Proofs
set_option maxRecDepth 100000
section
variable {L n:Nat}
def lA:List UInt8:=[190,37,193,108,62,69,192,54,146,30,179,35,185,160,42,118,74,72,34,96,70,26,154,115,110,60,175,172,120,42,152,121]
def lB:List UInt8:=[63,129,197,209,192,171,238,78,64,123,139,56,179,57,155,251,126,184,172,103,57,87,222,153,225,163,5,204,149,119,153,179]
def lC:List UInt8:=[71,37,141,151,10,1,163,27,132,95,7,9,41,219,210,4,28,226,237,216,22,83,151,14,245,69,75,76,21,75,82,216]
def lM:List UInt8:=[138,237,11,190,196,80,244,57,90,159,226,217,140,117,21,86,222,147,187,253,67,69,36,87,52,61,73,4,157,145,48,204]
def lD:List UInt8:=[43,112,24,193,160,158,31,110,143,43,225,193,162,105,217,23,179,133,159,236,252,133,93,18,158,85,197,253,46,253,8,36]
def lE:List UInt8:=[11,203,203,231,166,154,207,130,208,249,166,236,80,133,250,187,224,115,94,57,103,34,211,136,99,121,167,117,21,244,36,120]
def JQ:Cd:= .re ⟨⟨1,1,1,0,0⟩, -80,0,[(1, -8),(2, -8),(3, -8),(4, -8),(5, -8)]⟩ 0
def Vm:Cd:= .re ⟨⟨1,2,1,0,0⟩, -80,0,[(1, -8),(2, -8),(3, -8),(4, -8),(5, -8)]⟩ 0
def scE:Cd:= .re ⟨⟨1,2,1,0,9⟩, -80,0,[(1, -8),(2, -8),(3, -8),(4, -8),(5, -8)]⟩ 0
def WS:Cd:= .co ⟨⟨1,3,1,0,0⟩, -80,0,[(1, -5),(2, -5),(3, -5),(4, -8),(5, -8)]⟩ ⟨2,[3,3],.no⟩ [lA,lB] none
def scD:Cd:= .co ⟨⟨1,4,1,0,0⟩, -80,0,[(1, -5),(2, -5),(3, -5),(4, -8),(5, -8)]⟩ ⟨2,[3,3],.no⟩ [lC,lM] none
theorem B39:cdM 0 0 0 0 0 0 0 0 0 0 0 0 none []=JQ:=by kernel_rfl
theorem B38:cdM 0 0 1 0 0 0 0 0 0 0 0 0 none []=Vm:=by kernel_rfl
theorem B37:cdM 1 0 11 0 0 0 3 3 3 0 0 0 none [lA,lB]=WS:=by kernel_rfl
theorem B36:cdM 1 0 12 0 0 0 3 3 3 0 0 0 none [lC,lM]=scD:=by kernel_rfl
theorem Wa:JQ.id=lA:=by kernel_rfl
theorem VZ:Vm.id=lB:=by kernel_rfl
theorem A1b:WS.id=lC:=by kernel_rfl
theorem A4B:scD.id=lD:=by kernel_rfl
theorem B35:scE.id=lE:=by kernel_rfl
theorem C56:A31 77=lM:=by kernel_rfl
end
section
variable {L n:Nat}
def RT (R:Rt) (f:Nat) (args:List AV) (v:AV):Prop:=(R.call f args [] λv H'=>HR true H' depth v λ_ v'=>some (v',[]))=some (v,[])
theorem Gy {R:Rt} {f:Nat} {args args':List AV} {v:AV} {H:Hp} {K:AV→Aj} (hc:RT R f args' v) (ha:OV true depth args args' H false):Ai R f args H K=K v:=by
 unfold Ai
 rw[ha]
 show Ah (R.call f args' [] _) K=K v
 rw[show((!false)=true) from rfl,hc];rfl
def gs4:List Cd:=[scD,WS,Vm,JQ]
theorem A4A:JQ.Ok:=B39▸A2s (by simp)
theorem A4z:Vm.Ok:=B38▸A2s (by simp)
theorem B34:WS.Ok:=B37▸A2s (by simp[lA,lB])
theorem C1A:scD.Ok:=B36▸A2s (by simp[lC,lM])
theorem C1z:scE.Ok:=by
 obtain⟨h,hu⟩:=A4z
 exact⟨⟨⟨by decide,by decide,by decide,by decide,by decide,by decide,by decide,by decide,by decide,by decide⟩,h.c1,h.c2,h.r1,h.r2,h.ts⟩,hu⟩
theorem A21:GOk gs4:=by
 refine⟨?_,?_,?_,by decide⟩
 ·intro c hc
  simp only[gs4,TA,List.not_mem_nil,or_false] at hc
  rcases hc with rfl|rfl|rfl|rfl
  ·exact C1A
  ·exact B34
  ·exact A4z
  ·exact A4A
 ·intro c hc
  simp only[gs4,TA,List.not_mem_nil,or_false] at hc
  rcases hc with rfl|rfl|rfl|rfl
  ·show[lC,lM].Nodup;decide
  ·show[lA,lB].Nodup;decide
  ·show([]:List (List UInt8)).Nodup;decide
  ·show([]:List (List UInt8)).Nodup;decide
 ·show[scD.id,WS.id,Vm.id,JQ.id].Nodup
  rw[Wa,VZ,A1b,A4B];decide
def Na:AV:= .list 4 (scD.cs++(WS.cs++(Vm.cs++JQ.cs)))
theorem Th:LA gs4 Na:= .inl (by
 show AV.list 4 _=AV.list 4 (gs4.flatMap Cd.cs)
 simp[gs4])
theorem of4 (hL:40000<L):∀H K,Ai (rt (L+20) (n+64)) E0 [Na] H K=K (.tup [.imap [(.string ⟨⟨lD⟩⟩,.agg scD.cs),(.string ⟨⟨lC⟩⟩,.agg WS.cs),(.string ⟨⟨lB⟩⟩,.agg Vm.cs),(.string ⟨⟨lA⟩⟩,.agg JQ.cs)],Bo true]):=by
 intro H K
 rw[Gz (B0P (n:=n) A21 hL Th) (Ax (Th.fx H) Ba)]
 have e:gV gs4= .imap [(.string ⟨⟨lD⟩⟩,.agg scD.cs),(.string ⟨⟨lC⟩⟩,.agg WS.cs),(.string ⟨⟨lB⟩⟩,.agg Vm.cs),(.string ⟨⟨lA⟩⟩,.agg JQ.cs)]:=by
  have:gE gs4=[(lD,scD),(lC,WS),(lB,Vm),(lA,JQ)]:=by simp[gE,gs4,Wa,VZ,A1b,A4B]
  rw[gV,this];rfl
 rw[e]
noncomputable def rg_graph_Missing_0:Operand×Array Tmp×Code×Code:=Zj (Bl Tryz.f19) 0
noncomputable def n_graph_Missing:J6:= λL R a0 H K=>Ai R E0 [a0] H λe=>Bc e 0 λi=>Bc e 1 λz=>AJ BD AS H λb j=>CI AS b i j λk=>L9 BV k λl m=>AJ Dh Eh m λa n=>CI Eh a l n λc=>jn (λo f=>Au Eh o f λp=>R.call Jb [p] f λq r=>K q r) λs=>Au AS b c λt=>Ai R E6 [t] c λg=>jn (λu w=>s u w) λh=>ZB R 27 g [(2,(AV.v (.slice none 0 0))),(3,b),(5,a),(7,AV.dk),(15,g),(17,AV.dk),(18,AV.dk),(19,AV.dk),(20,AV.dk),(21,AV.dk),(22,AV.dk),(23,AV.dk),(24,AV.dk)] (rg_graph_Missing_0).2.1 (rg_graph_Missing_0).2.2.1 (rg_graph_Missing_0).2.2.2 c λx d=>Zm x (h a d) (K (AV.v (.slice none 0 0)) d) (λy=>@Bool.rec (λ_=>Aj) (none) (h a d) (Nat.beq y 0)) (λ_=>none)
theorem n_graph_Missing_c (L n:Nat) (a:AV) (H:Hp) (K:KV):(rt L (n+1)).call ON [a] H K=n_graph_Missing L (rt L n) a H K:=by kernel_rfl
theorem B15 (hL:40000<L):RT (rt (L+20) (n+65)) ON [Na] (DV [lM]):=by
 unfold RT
 rw[n_graph_Missing_c];unfold n_graph_Missing
 rw[of4 hL];kernel_rfl
theorem B6U (hL:40000<L):RT (rt (L+20) (n+65)) It [Na] (Bo true):=by
 unfold RT
 rw[T6];unfold NZ
 rw[of4 hL];kernel_rfl
theorem B6Y (hL:40000<L):RT (rt (L+20) (n+65)) Iv [Na] (DV [lD]):=by
 unfold RT
 rw[T8];unfold Ob
 rw[of4 hL];kernel_rfl
theorem C4t (hL:40000<L):RT (rt (L+20) (n+65)) Ds [Na,S lC] (DV [lB,lA]):=by
 unfold RT
 rw[K1];unfold HQ
 rw[of4 hL];kernel_rfl
theorem C4s (hL:40000<L):RT (rt (L+20) (n+65)) Ds [Na,S lD] (DV [lB,lC,lA]):=by
 unfold RT
 rw[K1];unfold HQ
 rw[of4 hL];kernel_rfl
theorem B71 (hL:40000<L):RT (rt (L+20) (n+65)) Jc [Na,S lC] (.tup [.agg WS.cs,Bo true]):=by
 unfold RT
 rw[UI];unfold Pi
 simp only[of4 hL];kernel_rfl
theorem B70 (hL:40000<L):RT (rt (L+20) (n+65)) Jc [Na,S lM] (.tup [.agg BL,Bo false]):=by
 unfold RT
 rw[UI];unfold Pi
 simp only[of4 hL];kernel_rfl
end
end Go.Abs
end
noncomputable section
end
noncomputable section
namespace Go.Abs
open Go.RowKit Go.Proofs
set_option maxRecDepth 100000
section
variable {L n:Nat}
section
variable {K:KV} {x:Aj} {H:Hp} {z:Nat}
theorem A7k {cs:List AV} (w:Wf H) (hz:Aq H z=some (.cells true Ak BL)) (h1:cs.length=68) (h2:cs.all AV.one=true) (hK:∀H',(∀s q,s≠z→Aq H s=some q→Aq H' s=some q)→K (.agg cs) H'=x):
 (AJ Ak Ad H λv7 H8=>CI Ad v7 (.agg cs) H8 λH9=>Au Ad v7 H9 λv11=>CI Ad (.ptr z 0 0) v11 H9 λH12=>Au Ad (.ptr z 0 0) H12 λv14=>K v14 H12)=x:=by
 obtain⟨H1,e1,m1,w1,kp1⟩:=Ev (e:=Ak) (zs:=BL) (vs:=cs) w h1
 rw[Bi (cs:=BL) rfl,B8 (cs:=BL) (vs:=cs) (A1 (by simp)) h1 rfl h2,←e1]
 obtain⟨z1, -⟩:=kp1 _ _ hz
 rw[Br (cs:=cs) rfl (by rw[h1];rfl) m1,B8 z1 h1 rfl h2,Br (cs:=cs) rfl (by rw[h1];rfl) (A9 z1)]
 exact hK _ λs q hs hl=>by rw[Ap hs];exact(kp1 _ _ hl).1
theorem A3r {a:Int} (h1: -100≤a) (h2:a≤100):Lc a:=by unfold Lc;omega
theorem A9M (hL:40000<L) {k:Int} (h1:1≤k) (h2:k≤2) {c:Cd} (hc:cdM 0 0 (k-1) 0 0 0 0 0 0 0 0 0 none []=c):CT (rt (L+20) (n+45)) Ez [I k] (.agg c.cs):=by
 intro K hK
 rw[TK]
 unfold Ky Av
 obtain⟨H1,z,e1,s1,l1,w1,k1⟩:=push F8 (.cells true Ak BL) (by simp)
 have b0:∀{K:AV→Aj},B4 Bq [] K=K (.agg [I 0,I 0,I 0,I 0,I 0,I 0]):= λ{K}=>id rfl
 have b2:∀{K:AV→Aj},B4 Bq [(0,1,(AV.v (.int .i64 0))),(1,1,(AV.v (.int .i64 0))),(2,1,I (k-1)),(3,1,(AV.v (.int .i64 0))),(4,1,(AV.v (.int .i64 0))),(5,1,(AV.v (.int .i64 0)))] K=K (.agg [I 0,I 0,I (k-1),I 0,I 0,I 0]):= λ{K}=>id rfl
 rw[Bi (cs:=BL) rfl,←s1,←e1,Hn,Cl (by omega) (by omega),b2,b0]
 have z0:Lc 0:=A3r (by decide) (by decide)
 refine A1t (n:=n) (y:=none) (l:=[]) hL w1 z0 z0 (A3r (by omega) (by omega)) z0 z0 z0 z0 z0 z0 z0 z0 z0 (λH' _=>⟨false,D1⟩) trivial (.inl (.inr ⟨rfl,rfl⟩)) (by decide) (by simp) ?_
 rw[hc]
 intro v H' sv nv w' kp fr
 refine A7k w' (kp _ _ l1) (Tx c) (XG c (Bu.one sv)) λH2 k2=> ?_
 have hz:∀s,AF v s→s≠z:= λs hs=>by have:=fr s hs;have:=w1.lt l1;omega
 obtain⟨q,hq⟩:=A5k (D:=depth-2) (sv.kp λs q hs hl=>k2 s q (hz s hs) hl) nv
 exact hK _ _ ⟨q,Qn (D:=depth-1) hq⟩
theorem A9N (hL:40000<L) {k:Int} (h1:1≤k) (h2:k≤9) {c:Cd} {l:List (List UInt8)} (hl2:l.length=2) (h32:∀s∈l,s.length=32) (hc:cdM 1 0 (9+k-1) 0 0 0 3 3 3 0 0 0 none l=c):CT (rt (L+20) (n+45)) Fq [I k,DV l] (.agg c.cs):=by
 intro K hK
 rw[TL]
 unfold Kz Av
 obtain⟨H1,z,e1,s1,l1,w1,k1⟩:=push F8 (.cells true Ak BL) (by simp)
 have b0:∀{K:AV→Aj},B4 Bq [(0,1,(AV.v (.int .i64 3))),(1,1,(AV.v (.int .i64 3))),(2,1,(AV.v (.int .i64 3))),(3,1,(AV.v (.int .i64 0))),(4,1,(AV.v (.int .i64 0))),(5,1,(AV.v (.int .i64 0)))] K=K (.agg [I 3,I 3,I 3,I 0,I 0,I 0]):= λ{K}=>id rfl
 have b2:∀{K:AV→Aj},B4 Bq [(0,1,(AV.v (.int .i64 1))),(1,1,(AV.v (.int .i64 0))),(2,1,I (9+k-1)),(3,1,(AV.v (.int .i64 0))),(4,1,(AV.v (.int .i64 0))),(5,1,(AV.v (.int .i64 0)))] K=K (.agg [I 1,I 0,I (9+k-1),I 0,I 0,I 0]):= λ{K}=>id rfl
 have sub:∀{K:AV→Aj},Go.Abs.Al Ab .sub (I ((2:Nat):Int)) (.v (.int .i64 1)) K=K (I 1):= λ{K}=>by kernel_rfl
 have mul:∀{K:AV→Aj},Go.Abs.Al Ab .mul (.v (.int .i64 9)) (I 1) K=K (I 9):= λ{K}=>by kernel_rfl
 rw[Bi (cs:=BL) rfl,←s1,←e1,(I5 l).len,hl2,sub,mul,CG,Cl (by omega) (by omega),Hn,Cl (by omega) (by omega),b2,b0]
 have z0:Lc 0:=A3r (by decide) (by decide)
 have z3:Lc 3:=A3r (by decide) (by decide)
 refine A1t (n:=n) (y:=none) (l:=l) hL w1 (A3r (by decide) (by decide)) z0 (A3r (by omega) (by omega)) z0 z0 z0 z3 z3 z3 z0 z0 z0 (λH' _=>⟨false,D1⟩) trivial (.inl (I5 l)) (by omega) h32 ?_
 rw[hc]
 intro v H' sv nv w' kp fr
 refine A7k w' (kp _ _ l1) (Tx c) (XG c (Bu.one sv)) λH2 k2=> ?_
 have hz:∀s,AF v s→s≠z:= λs hs=>by have:=fr s hs;have:=w1.lt l1;omega
 obtain⟨q,hq⟩:=A5k (D:=depth-2) (sv.kp λs q hs hl=>k2 s q (hz s hs) hl) nv
 exact hK _ _ ⟨q,Qn (D:=depth-1) hq⟩
end
def gs3:List Cd:=[JQ,Vm,scE]
def B4b:AV:= .list 3 (JQ.cs++(Vm.cs++scE.cs))
theorem C2E:GOk gs3:=by
 refine⟨?_,?_,?_,by decide⟩
 ·intro c hc
  simp only[gs3,TA,List.not_mem_nil,or_false] at hc
  rcases hc with rfl|rfl|rfl
  ·exact A4A
  ·exact A4z
  ·exact C1z
 ·intro c hc
  simp only[gs3,TA,List.not_mem_nil,or_false] at hc
  rcases hc with rfl|rfl|rfl<;>(show([]:List (List UInt8)).Nodup;decide)
 ·show[JQ.id,Vm.id,scE.id].Nodup
  rw[Wa,VZ,B35];decide
theorem A4V:LA gs3 B4b:= .inl (by
 show AV.list 3 _=AV.list 3 (gs3.flatMap Cd.cs)
 simp[gs3])
theorem of3 (hL:40000<L):∀H K,Ai (rt (L+20) (n+64)) E0 [B4b] H K=K (.tup [.imap [(.string ⟨⟨lA⟩⟩,.agg JQ.cs),(.string ⟨⟨lB⟩⟩,.agg Vm.cs),(.string ⟨⟨lE⟩⟩,.agg scE.cs)],Bo true]):=by
 intro H K
 rw[Gz (B0P (n:=n) C2E hL A4V) (Ax (A4V.fx H) Ba)]
 have e:gV gs3= .imap [(.string ⟨⟨lA⟩⟩,.agg JQ.cs),(.string ⟨⟨lB⟩⟩,.agg Vm.cs),(.string ⟨⟨lE⟩⟩,.agg scE.cs)]:=by
  have:gE gs3=[(lA,JQ),(lB,Vm),(lE,scE)]:=by simp[gE,gs3,Wa,VZ,B35]
  rw[gV,this];rfl
 rw[e]
def B4c:AV:= .list 2 (JQ.cs++JQ.cs)
theorem A4W:LA [JQ,JQ] B4c:= .inl (by
 show AV.list 2 _=AV.list 2 ([JQ,JQ].flatMap Cd.cs)
 simp)
theorem of2 (hL:40000<L):CT (rt (L+20) (n+64)) E0 [B4c] (.tup [.imap [],Bo false]):=by
 intro K hK
 have ha:=A4W
 rw[Xi]
 unfold Tb Av Gr D3
 have em:∀(H:Hp) (K:KV),L9 Ad H K=K (.mp (A2 H)) ((A2 H,.map false [] none)::H):= λH K=>by
  show Ih H (λs=>K (.mp s) ((s,.map false [] (A4R Ad.d))::H))=_
  rw[Ca];rfl
 have hid:=B5m (L:=L) (n:=n) hL A4A (show([]:List (List UInt8)).Nodup by decide)
 have ek:∀(F:Value→Aj),Ix (S JQ.id) F=F (SV JQ.id):= λF=>id rfl
 have q1:∀{K},Go.Abs.Al Ae .eql (S JQ.id) (S []) K=K (Bo false):= λ{K}=>by rw[LB,decide_eq_false (A2r _)]
 rw[em]
 simp only[BW]
 have hl:=A1 (H:=[]) (x:= .map false [] none) (by simp)
 have wf:=Bj (x:= .map false [] none) F8
 generalize ((A2 [],Row.map false [] none)::([]:Hp))=H0 at hl wf
 generalize A2 []=r at hl
 have e0:(AV.v (.int .i64 0))=I ((0:Nat):Int):=rfl
 rw[ha.len,e0]
 show On (L+20) (rt (L+20) (n+63)) K _ ((L+18)+1+1) _ _ _ _ _ H0=_
 rw[Rr]
 unfold Oo BU Av Gr D3
 have i0:([JQ,JQ]:List Cd)[0]=JQ:=rfl
 have i1:([JQ,JQ]:List Cd)[1]=JQ:=rfl
 have a0:= λK=>ha.ia (K:=K) (i:=0) (by decide)
 have a1:= λK=>ha.ia (K:=K) (i:=1) (by decide)
 rw[i0] at a0
 rw[i1] at a1
 obtain⟨H1,e1,hc1,w1,k1⟩:=Ev (e:=Ak) (zs:=BL) (vs:=JQ.cs) wf CD
 rw[FL (by decide),Dc,a0,A5f,Bi (cs:=BL) rfl,B8 (cs:=BL) (vs:=JQ.cs) (A1 (by simp)) CD rfl KB,←e1,Br rfl CD.symm hc1,AT hid (Zw H1)]
 have hl1:=(k1 _ _ hl).1
 rw[ek,Rx (f:=Kt) (b:=([]:List (List UInt8×Cd))) (λK=>Pq hl1)]
 have fn:JK ([]:List (List UInt8×Cd)) JQ.id=none:=rfl
 rw[fn]
 simp only[]
 obtain⟨H2,e2,hc2,w2,k2⟩:=Ev (e:=Ak) (zs:=BL) (vs:=BL) w1 rfl
 rw[CZ,CY,Bi (cs:=BL) rfl]
 rw[show(Ad.zero:AV)= .agg BL from rfl,B8 (cs:=BL) (vs:=BL) (A1 (by simp)) rfl rfl rfl,←e2]
 have hl2:=(k2 _ _ hl1).1
 have hc3:=(k2 _ _ hc1).1
 simp only[gT,Cu,q1,V3]
 have hl2':Aq H2 r=some (.map false (ES Kt ([]:List (List UInt8×Cd))) none):=hl2
 rw[Bx,Br rfl CD.symm hc3,ek,Tu (f:=Kt) (v:=JQ) hl2',Dv (by decide)]
 have hl3:Aq (upd H2 r (.map false (ES Kt (G6 ([]:List (List UInt8×Cd)) JQ.id JQ)) none)) r=some (.map false (ES Kt (G6 ([]:List (List UInt8×Cd)) JQ.id JQ)) none):=(Dr hl2').trans rfl
 have w3:=BH (r:=r) (y:= .map false (ES Kt (G6 ([]:List (List UInt8×Cd)) JQ.id JQ)) none) w2
 generalize upd H2 r (.map false (ES Kt (G6 ([]:List (List UInt8×Cd)) JQ.id JQ)) none)=H3 at hl3 w3
 rw[Rr]
 unfold Oo BU Av Gr D3
 obtain⟨H4,e4,hc4,w4,k4⟩:=Ev (e:=Ak) (zs:=BL) (vs:=JQ.cs) w3 CD
 rw[FL (by decide),Dc,a1,A5f,Bi (cs:=BL) rfl,B8 (cs:=BL) (vs:=JQ.cs) (A1 (by simp)) CD rfl KB,←e4,Br rfl CD.symm hc4,AT hid (Zw H4)]
 have hl4:=(k4 _ _ hl3).1
 have fn2:JK (G6 ([]:List (List UInt8×Cd)) JQ.id JQ) JQ.id=some JQ:=by rw[Gb,if_pos rfl]
 rw[ek,Rx (f:=Kt) (b:=G6 ([]:List (List UInt8×Cd)) JQ.id JQ) (λK=>Pq hl4),fn2]
 simp only[]
 obtain⟨H5,e5,hc5,w5,k5⟩:=Ev (e:=Ak) (zs:=BL) (vs:=JQ.cs) w4 CD
 rw[CZ,CY,Bi (cs:=BL) rfl,B8 (cs:=BL) (vs:=JQ.cs) (A1 (by simp)) CD rfl KB,←e5]
 simp only[gFT,Cu,Wz]
 rw[Dc,em]
 refine hK _ _ ⟨true,UP (D:=depth-1) (q:=true) (Ax (B9c (D:=depth-5) (es:=[]) (A1 (by simp))) (Ax (q:=false) D1 Ba))⟩
theorem B3a (hL:40000<L):RT (rt (L+20) (n+65)) It [B4c] (Bo false):=by
 unfold RT
 rw[T6];unfold NZ
 rw[Gz (of2 (n:=n) hL) (Ax (A4W.fx []) Ba)];kernel_rfl
theorem C1C:RT (rt (L+20) (n+65)) Lz [.agg WS.cs,.agg WS.cs] (Bo true):=by unfold RT;kernel_rfl
theorem C4r:RT (rt (L+20) (n+2)) Ch [DV [lM],DV [lM]] (Bo true):=by unfold RT;kernel_rfl
theorem C4q:RT (rt (L+20) (n+2)) Ch [DV [lD],DV [lD]] (Bo true):=by unfold RT;kernel_rfl
theorem C4p:RT (rt (L+20) (n+2)) Ch [DV [lB,lA],DV [lB,lA]] (Bo true):=by unfold RT;kernel_rfl
theorem C4o:RT (rt (L+20) (n+2)) Ch [DV [lB,lA,lC,lD],DV [lB,lA,lC,lD]] (Bo true):=by unfold RT;kernel_rfl
end
section
variable {L n:Nat}
theorem B6Z (hL:40000<L):RT (rt (L+20) (n+65)) Od [B4b] (.list 1 [S lE,S lB]):=by
 unfold RT
 rw[A03];unfold Rq Av
 rw[of3 hL];kernel_rfl
end
end Go.Abs
end
