import Derived.Test.YtlbhdmbfdcohhaaGreatDoorS43
import Derived.Test.YtlbhdmbfdcohhaaGreatDoorS45
import Derived.Test.YtlbhdmbfdcohhaaGreatDoorS46
set_option linter.all false
set_option maxHeartbeats 100000000
noncomputable section
namespace Go.Abs
open Go.RowKit Go.Proofs
set_option maxRecDepth 100000
section
variable {L n:Nat}
section
variable {K:KV} {x:Aj} {H:Hp} {l:List Bt} {p:Bt} {a:AV}
theorem C6L (ha:SA l a) (hb:l.length<1000) (hL:2000<L):CS (rt (L+20) (n+2)) Ja [a,S p] (Bo (decide (p∈l))):=by
 intro K hK
 rw[A4R]
 unfold Wd
 rw[Ba (B3K (n:=n) ha hb hL) (Ay (ha.fx _) (Ay (q:=false) D2 Be))]
 by_cases h:p∈l
 ·obtain⟨k,hk, -, -,e⟩:=UM _ 0 h
  rw[e,CZ,CY]
  rw[decide_eq_true h] at hK⊢
  exact hK _ _ λb=>⟨false,D2⟩
 ·rw[Xq _ 0 h,CZ,CY]
  rw[decide_eq_false h] at hK⊢
  exact hK _ _ λb=>⟨false,D2⟩
theorem C7k {b c:Bool} {K:AV→Aj}:Go.Abs.Ak It .eql (Bo b) (Bo c) K=K (Bo (b==c)):=by cases b<;>cases c<;>exact _root_.id rfl
end
section
variable {K:KV} {x:Aj} {H:Hp} {il al sl cp:List Bt} {idk:Bt} {k r rc:Nat} {less:List Cd} {v:AV} {R:Rt}
end
end
section
variable {L n:Nat}
def lA:List UInt8:=[190,37,193,108,62,69,192,54,146,30,179,35,185,160,42,118,74,72,34,96,70,26,154,115,110,60,175,172,120,42,152,121]
def lB:List UInt8:=[63,129,197,209,192,171,238,78,64,123,139,56,179,57,155,251,126,184,172,103,57,87,222,153,225,163,5,204,149,119,153,179]
def lC:List UInt8:=[71,37,141,151,10,1,163,27,132,95,7,9,41,219,210,4,28,226,237,216,22,83,151,14,245,69,75,76,21,75,82,216]
def lM:List UInt8:=[138,237,11,190,196,80,244,57,90,159,226,217,140,117,21,86,222,147,187,253,67,69,36,87,52,61,73,4,157,145,48,204]
def lD:List UInt8:=[43,112,24,193,160,158,31,110,143,43,225,193,162,105,217,23,179,133,159,236,252,133,93,18,158,85,197,253,46,253,8,36]
def lE:List UInt8:=[11,203,203,231,166,154,207,130,208,249,166,236,80,133,250,187,224,115,94,57,103,34,211,136,99,121,167,117,21,244,36,120]
def JS:Cd:= .re ⟨⟨1,1,1,0,0⟩, -80,0,[(1, -8),(2, -8),(3, -8),(4, -8),(5, -8)]⟩ 0
def Vl:Cd:= .re ⟨⟨1,2,1,0,0⟩, -80,0,[(1, -8),(2, -8),(3, -8),(4, -8),(5, -8)]⟩ 0
def scE:Cd:= .re ⟨⟨1,2,1,0,9⟩, -80,0,[(1, -8),(2, -8),(3, -8),(4, -8),(5, -8)]⟩ 0
def WN:Cd:= .co ⟨⟨1,3,1,0,0⟩, -80,0,[(1, -5),(2, -5),(3, -5),(4, -8),(5, -8)]⟩ ⟨2,[3,3],.no⟩ [lA,lB] none
def scD:Cd:= .co ⟨⟨1,4,1,0,0⟩, -80,0,[(1, -5),(2, -5),(3, -5),(4, -8),(5, -8)]⟩ ⟨2,[3,3],.no⟩ [lC,lM] none
theorem B3c:cdM 0 0 0 0 0 0 0 0 0 0 0 0 none []=JS:=by kernel_rfl
theorem B3b:cdM 0 0 1 0 0 0 0 0 0 0 0 0 none []=Vl:=by kernel_rfl
theorem B3a:cdM 1 0 11 0 0 0 3 3 3 0 0 0 none [lA,lB]=WN:=by kernel_rfl
theorem B39:cdM 1 0 12 0 0 0 3 3 3 0 0 0 none [lC,lM]=scD:=by kernel_rfl
theorem VV:JS.id=lA:=by kernel_rfl
theorem VU:Vl.id=lB:=by kernel_rfl
theorem A18:WN.id=lC:=by kernel_rfl
theorem A4z:scD.id=lD:=by kernel_rfl
theorem B38:scE.id=lE:=by kernel_rfl
theorem C57:A2V 77=lM:=by kernel_rfl
end
section
variable {L n:Nat}
def RT (R:Rt) (f:Nat) (args:List AV) (v:AV):Prop:=(R.call f args [] λv H'=>HO true H' depth v λ_ v'=>some (v',[]))=some (v,[])
theorem Gu {R:Rt} {f:Nat} {args args':List AV} {v:AV} {H:Hp} {K:AV→Aj} (hc:RT R f args' v) (ha:Pu true depth args args' H false):Ah R f args H K=K v:=by
 unfold Ah
 rw[ha]
 show Ai (R.call f args' [] _) K=K v
 rw[show((!false)=true) from rfl,hc];rfl
def gs4:List Cd:=[scD,WN,Vl,JS]
theorem A4y:JS.Ok:=B3c▸A2o (by simp)
theorem A4x:Vl.Ok:=B3b▸A2o (by simp)
theorem B37:WN.Ok:=B3a▸A2o (by simp[lA,lB])
theorem C1C:scD.Ok:=B39▸A2o (by simp[lC,lM])
theorem C1B:scE.Ok:=by
 obtain⟨h,hu⟩:=A4x
 exact⟨⟨⟨by decide,by decide,by decide,by decide,by decide,by decide,by decide,by decide,by decide,by decide⟩,h.c1,h.c2,h.r1,h.r2,h.ts⟩,hu⟩
theorem A1Y:GOk gs4:=by
 refine⟨?_,?_,?_,by decide⟩
 ·intro c hc
  simp only[gs4,UJ,List.not_mem_nil,or_false] at hc
  rcases hc with rfl|rfl|rfl|rfl
  ·exact C1C
  ·exact B37
  ·exact A4x
  ·exact A4y
 ·intro c hc
  simp only[gs4,UJ,List.not_mem_nil,or_false] at hc
  rcases hc with rfl|rfl|rfl|rfl
  ·show[lC,lM].Nodup;decide
  ·show[lA,lB].Nodup;decide
  ·show([]:List (List UInt8)).Nodup;decide
  ·show([]:List (List UInt8)).Nodup;decide
 ·show[scD.id,WN.id,Vl.id,JS.id].Nodup
  rw[VV,VU,A18,A4z];decide
def Nb:AV:= .list 4 (scD.cs++(WN.cs++(Vl.cs++JS.cs)))
theorem Tf:LA gs4 Nb:= .inl (by
 show AV.list 4 _=AV.list 4 (gs4.flatMap Cd.cs)
 simp[gs4])
theorem of4 (hL:40000<L):∀H K,Ah (rt (L+20) (n+64)) ED [Nb] H K=K (.tup [.imap [(.string ⟨⟨lD⟩⟩,.agg scD.cs),(.string ⟨⟨lC⟩⟩,.agg WN.cs),(.string ⟨⟨lB⟩⟩,.agg Vl.cs),(.string ⟨⟨lA⟩⟩,.agg JS.cs)],Bo true]):=by
 intro H K
 rw[GS (B2N (n:=n) A1Y hL Tf) (Ay (Tf.fx H) Be)]
 have e:gV gs4= .imap [(.string ⟨⟨lD⟩⟩,.agg scD.cs),(.string ⟨⟨lC⟩⟩,.agg WN.cs),(.string ⟨⟨lB⟩⟩,.agg Vl.cs),(.string ⟨⟨lA⟩⟩,.agg JS.cs)]:=by
  have:gE gs4=[(lD,scD),(lC,WN),(lB,Vl),(lA,JS)]:=by simp[gE,gs4,VV,VU,A18,A4z]
  rw[gV,this];rfl
 rw[e]
noncomputable def rg_graph_Missing_0:Operand×Array Tmp×Code×Code:=Zd (Bk Tryz.f19) 0
noncomputable def n_graph_Missing:Js:= λL R a0 H K=>Ah R ED [a0] H λe=>AN e 0 λi=>AN e 1 λz=>AJ BC AT H λb j=>CG AT b i j λk=>MQ Ct k λl m=>AJ FJ HJ m λa n=>CG HJ a l n λc=>jn (λo f=>Ar HJ o f λp=>R.call Jb [p] f λq r=>K q r) λs=>Ar AT b c λt=>Ah R E1 [t] c λg=>jn (λu w=>s u w) λh=>Zy R 27 g [(2,(AV.v (.slice none 0 0))),(3,b),(5,a),(7,AV.dk),(15,g),(17,AV.dk),(18,AV.dk),(19,AV.dk),(20,AV.dk),(21,AV.dk),(22,AV.dk),(23,AV.dk),(24,AV.dk)] (rg_graph_Missing_0).2.1 (rg_graph_Missing_0).2.2.1 (rg_graph_Missing_0).2.2.2 c λx d=>Zg x (h a d) (K (AV.v (.slice none 0 0)) d) (λy=>@Bool.rec (λ_=>Aj) (none) (h a d) (Nat.beq y 0)) (λ_=>none)
theorem n_graph_Missing_c (L n:Nat) (a:AV) (H:Hp) (K:KV):(rt L (n+1)).call OP [a] H K=n_graph_Missing L (rt L n) a H K:=by kernel_rfl
theorem B18 (hL:40000<L):RT (rt (L+20) (n+65)) OP [Nb] (Ep [lM]):=by
 unfold RT
 rw[n_graph_Missing_c];unfold n_graph_Missing
 rw[of4 hL];kernel_rfl
theorem B6R (hL:40000<L):RT (rt (L+20) (n+65)) Ip [Nb] (Bo true):=by
 unfold RT
 rw[T2];unfold NZ
 rw[of4 hL];kernel_rfl
theorem B6V (hL:40000<L):RT (rt (L+20) (n+65)) Oc [Nb] (Ep [lD]):=by
 unfold RT
 rw[A00];unfold Rq
 rw[of4 hL];kernel_rfl
theorem C4t (hL:40000<L):RT (rt (L+20) (n+65)) Du [Nb,S lC] (Ep [lB,lA]):=by
 unfold RT
 rw[K5];unfold HN
 rw[of4 hL];kernel_rfl
theorem C4s (hL:40000<L):RT (rt (L+20) (n+65)) Du [Nb,S lD] (Ep [lB,lC,lA]):=by
 unfold RT
 rw[K5];unfold HN
 rw[of4 hL];kernel_rfl
theorem B6Y (hL:40000<L):RT (rt (L+20) (n+65)) Jc [Nb,S lC] (.tup [.agg WN.cs,Bo true]):=by
 unfold RT
 rw[UF];unfold Pi
 simp only[of4 hL];kernel_rfl
theorem B6X (hL:40000<L):RT (rt (L+20) (n+65)) Jc [Nb,S lM] (.tup [.agg BJ,Bo false]):=by
 unfold RT
 rw[UF];unfold Pi
 simp only[of4 hL];kernel_rfl
end
end Go.Abs
end
noncomputable section
end
noncomputable section
namespace Go.Abs
open Go.RowKit Go.Proofs
set_option maxRecDepth 100000
section
variable {L n:Nat}
section
variable {K:KV} {x:Aj} {H:Hp} {z:Nat}
theorem A7r {cs:List AV} (w:Wf H) (hz:Aq H z=some (.cells true Al BJ)) (h1:cs.length=68) (h2:cs.all AV.one=true) (hK:∀H',(∀s q,s≠z→Aq H s=some q→Aq H' s=some q)→K (.agg cs) H'=x):
 (AJ Al Ad H λv7 H8=>CG Ad v7 (.agg cs) H8 λH9=>Ar Ad v7 H9 λv11=>CG Ad (.ptr z 0 0) v11 H9 λH12=>Ar Ad (.ptr z 0 0) H12 λv14=>K v14 H12)=x:=by
 obtain⟨H1,e1,m1,w1,kp1⟩:=Er (e:=Al) (zs:=BJ) (vs:=cs) w h1
 rw[Bi (cs:=BJ) rfl,B7 (cs:=BJ) (vs:=cs) (A1 (by simp)) h1 rfl h2,←e1]
 obtain⟨z1, -⟩:=kp1 _ _ hz
 rw[Bq (cs:=cs) rfl (by rw[h1];rfl) m1,B7 z1 h1 rfl h2,Bq (cs:=cs) rfl (by rw[h1];rfl) (AB z1)]
 exact hK _ λs q hs hl=>by rw[Ap hs];exact(kp1 _ _ hl).1
theorem A3p {a:Int} (h1: -100≤a) (h2:a≤100):Le a:=by unfold Le;omega
theorem A9R (hL:40000<L) {k:Int} (h1:1≤k) (h2:k≤2) {c:Cd} (hc:cdM 0 0 (k-1) 0 0 0 0 0 0 0 0 0 none []=c):CT (rt (L+20) (n+45)) Eu [I k] (.agg c.cs):=by
 intro K hK
 rw[TH]
 unfold K1 Av
 obtain⟨H1,z,e1,s1,l1,w1,k1⟩:=push FH (.cells true Al BJ) (by simp)
 have b0:∀{K:AV→Aj},B3 Bp [] K=K (.agg [I 0,I 0,I 0,I 0,I 0,I 0]):= λ{K}=>id rfl
 have b2:∀{K:AV→Aj},B3 Bp [(0,1,(AV.v (.int .i64 0))),(1,1,(AV.v (.int .i64 0))),(2,1,I (k-1)),(3,1,(AV.v (.int .i64 0))),(4,1,(AV.v (.int .i64 0))),(5,1,(AV.v (.int .i64 0)))] K=K (.agg [I 0,I 0,I (k-1),I 0,I 0,I 0]):= λ{K}=>id rfl
 rw[Bi (cs:=BJ) rfl,←s1,←e1,HY,Cp (by omega) (by omega),b2,b0]
 have z0:Le 0:=A3p (by decide) (by decide)
 refine A1q (n:=n) (y:=none) (l:=[]) hL w1 z0 z0 (A3p (by omega) (by omega)) z0 z0 z0 z0 z0 z0 z0 z0 z0 (λH' _=>⟨false,D2⟩) trivial (.inl (.inr ⟨rfl,rfl⟩)) (by decide) (by simp) ?_
 rw[hc]
 intro v H' sv nv w' kp fr
 refine A7r w' (kp _ _ l1) (Tu c) (XB c (Bv.one sv)) λH2 k2=> ?_
 have hz:∀s,AG v s→s≠z:= λs hs=>by have:=fr s hs;have:=w1.lt l1;omega
 obtain⟨q,hq⟩:=A5p (D:=depth-2) (sv.kp λs q hs hl=>k2 s q (hz s hs) hl) nv
 exact hK _ _ ⟨q,Qm (D:=depth-1) hq⟩
theorem A9S (hL:40000<L) {k:Int} (h1:1≤k) (h2:k≤9) {c:Cd} {l:List (List UInt8)} (hl2:l.length=2) (h32:∀s∈l,s.length=32) (hc:cdM 1 0 (9+k-1) 0 0 0 3 3 3 0 0 0 none l=c):CT (rt (L+20) (n+45)) Fk [I k,Ep l] (.agg c.cs):=by
 intro K hK
 rw[TJ]
 unfold K3 Av
 obtain⟨H1,z,e1,s1,l1,w1,k1⟩:=push FH (.cells true Al BJ) (by simp)
 have b0:∀{K:AV→Aj},B3 Bp [(0,1,(AV.v (.int .i64 3))),(1,1,(AV.v (.int .i64 3))),(2,1,(AV.v (.int .i64 3))),(3,1,(AV.v (.int .i64 0))),(4,1,(AV.v (.int .i64 0))),(5,1,(AV.v (.int .i64 0)))] K=K (.agg [I 3,I 3,I 3,I 0,I 0,I 0]):= λ{K}=>id rfl
 have b2:∀{K:AV→Aj},B3 Bp [(0,1,(AV.v (.int .i64 1))),(1,1,(AV.v (.int .i64 0))),(2,1,I (9+k-1)),(3,1,(AV.v (.int .i64 0))),(4,1,(AV.v (.int .i64 0))),(5,1,(AV.v (.int .i64 0)))] K=K (.agg [I 1,I 0,I (9+k-1),I 0,I 0,I 0]):= λ{K}=>id rfl
 have sub:∀{K:AV→Aj},Go.Abs.Ak Ab .sub (I ((2:Nat):Int)) (.v (.int .i64 1)) K=K (I 1):= λ{K}=>by kernel_rfl
 have mul:∀{K:AV→Aj},Go.Abs.Ak Ab .mul (.v (.int .i64 9)) (I 1) K=K (I 9):= λ{K}=>by kernel_rfl
 rw[Bi (cs:=BJ) rfl,←s1,←e1,(JU l).len,hl2,sub,mul,CH,Cp (by omega) (by omega),HY,Cp (by omega) (by omega),b2,b0]
 have z0:Le 0:=A3p (by decide) (by decide)
 have z3:Le 3:=A3p (by decide) (by decide)
 refine A1q (n:=n) (y:=none) (l:=l) hL w1 (A3p (by decide) (by decide)) z0 (A3p (by omega) (by omega)) z0 z0 z0 z3 z3 z3 z0 z0 z0 (λH' _=>⟨false,D2⟩) trivial (.inl (JU l)) (by omega) h32 ?_
 rw[hc]
 intro v H' sv nv w' kp fr
 refine A7r w' (kp _ _ l1) (Tu c) (XB c (Bv.one sv)) λH2 k2=> ?_
 have hz:∀s,AG v s→s≠z:= λs hs=>by have:=fr s hs;have:=w1.lt l1;omega
 obtain⟨q,hq⟩:=A5p (D:=depth-2) (sv.kp λs q hs hl=>k2 s q (hz s hs) hl) nv
 exact hK _ _ ⟨q,Qm (D:=depth-1) hq⟩
end
def gs3:List Cd:=[JS,Vl,scE]
def B4c:AV:= .list 3 (JS.cs++(Vl.cs++scE.cs))
theorem C2F:GOk gs3:=by
 refine⟨?_,?_,?_,by decide⟩
 ·intro c hc
  simp only[gs3,UJ,List.not_mem_nil,or_false] at hc
  rcases hc with rfl|rfl|rfl
  ·exact A4y
  ·exact A4x
  ·exact C1B
 ·intro c hc
  simp only[gs3,UJ,List.not_mem_nil,or_false] at hc
  rcases hc with rfl|rfl|rfl<;>(show([]:List (List UInt8)).Nodup;decide)
 ·show[JS.id,Vl.id,scE.id].Nodup
  rw[VV,VU,B38];decide
theorem A4Y:LA gs3 B4c:= .inl (by
 show AV.list 3 _=AV.list 3 (gs3.flatMap Cd.cs)
 simp[gs3])
theorem of3 (hL:40000<L):∀H K,Ah (rt (L+20) (n+64)) ED [B4c] H K=K (.tup [.imap [(.string ⟨⟨lA⟩⟩,.agg JS.cs),(.string ⟨⟨lB⟩⟩,.agg Vl.cs),(.string ⟨⟨lE⟩⟩,.agg scE.cs)],Bo true]):=by
 intro H K
 rw[GS (B2N (n:=n) C2F hL A4Y) (Ay (A4Y.fx H) Be)]
 have e:gV gs3= .imap [(.string ⟨⟨lA⟩⟩,.agg JS.cs),(.string ⟨⟨lB⟩⟩,.agg Vl.cs),(.string ⟨⟨lE⟩⟩,.agg scE.cs)]:=by
  have:gE gs3=[(lA,JS),(lB,Vl),(lE,scE)]:=by simp[gE,gs3,VV,VU,B38]
  rw[gV,this];rfl
 rw[e]
def B4d:AV:= .list 2 (JS.cs++JS.cs)
theorem A4Z:LA [JS,JS] B4d:= .inl (by
 show AV.list 2 _=AV.list 2 ([JS,JS].flatMap Cd.cs)
 simp)
theorem of2 (hL:40000<L):CT (rt (L+20) (n+64)) ED [B4d] (.tup [.imap [],Bo false]):=by
 intro K hK
 have ha:=A4Z
 rw[Xf]
 unfold SZ Av Gb Dr
 have em:∀(H:Hp) (K:KV),MQ Ad H K=K (.mp (A2 H)) ((A2 H,.map false [] none)::H):= λH K=>by
  show XA3 H (λs=>K (.mp s) ((s,.map false [] (A4S Ad.d))::H))=_
  rw[BZ];rfl
 have hid:=B5l (L:=L) (n:=n) hL A4y (show([]:List (List UInt8)).Nodup by decide)
 have ek:∀(F:Value→Aj),IV (S JS.id) F=F (SV JS.id):= λF=>id rfl
 have q1:∀{K},Go.Abs.Ak Ae .eql (S JS.id) (S []) K=K (Bo false):= λ{K}=>by rw[L9,decide_eq_false (A2n _)]
 rw[em]
 simp only[BX]
 have hl:=A1 (H:=[]) (x:= .map false [] none) (by simp)
 have wf:=Br (x:= .map false [] none) FH
 generalize ((A2 [],Row.map false [] none)::([]:Hp))=H0 at hl wf
 generalize A2 []=r at hl
 have e0:(AV.v (.int .i64 0))=I ((0:Nat):Int):=rfl
 rw[ha.len,e0]
 show On (L+20) (rt (L+20) (n+63)) K _ ((L+18)+1+1) _ _ _ _ _ H0=_
 rw[Rs]
 unfold Oo BS Av Gb Dr
 have i0:([JS,JS]:List Cd)[0]=JS:=rfl
 have i1:([JS,JS]:List Cd)[1]=JS:=rfl
 have a0:= λK=>ha.ia (K:=K) (i:=0) (by decide)
 have a1:= λK=>ha.ia (K:=K) (i:=1) (by decide)
 rw[i0] at a0
 rw[i1] at a1
 obtain⟨H1,e1,hc1,w1,k1⟩:=Er (e:=Al) (zs:=BJ) (vs:=JS.cs) wf CA
 rw[FW (by decide),De,a0,A5k,Bi (cs:=BJ) rfl,B7 (cs:=BJ) (vs:=JS.cs) (A1 (by simp)) CA rfl KC,←e1,Bq rfl CA.symm hc1,Ba hid (Zq H1)]
 have hl1:=(k1 _ _ hl).1
 rw[ek,R4 (f:=P0) (b:=([]:List (List UInt8×Cd))) (λK=>Pq hl1)]
 have fn:JM ([]:List (List UInt8×Cd)) JS.id=none:=rfl
 rw[fn]
 simp only[]
 obtain⟨H2,e2,hc2,w2,k2⟩:=Er (e:=Al) (zs:=BJ) (vs:=BJ) w1 rfl
 rw[CZ,CY,Bi (cs:=BJ) rfl]
 rw[show(Ad.zero:AV)= .agg BJ from rfl,B7 (cs:=BJ) (vs:=BJ) (A1 (by simp)) rfl rfl rfl,←e2]
 have hl2:=(k2 _ _ hl1).1
 have hc3:=(k2 _ _ hc1).1
 simp only[gT,Cz,q1,WV]
 have hl2':Aq H2 r=some (.map false (GF P0 ([]:List (List UInt8×Cd))) none):=hl2
 rw[Bz,Bq rfl CA.symm hc3,ek,Vv (f:=P0) (v:=JS) hl2',D4 (by decide)]
 have hl3:Aq (upd H2 r (.map false (GF P0 (Gv ([]:List (List UInt8×Cd)) JS.id JS)) none)) r=some (.map false (GF P0 (Gv ([]:List (List UInt8×Cd)) JS.id JS)) none):=(Ed hl2').trans rfl
 have w3:=BR (r:=r) (y:= .map false (GF P0 (Gv ([]:List (List UInt8×Cd)) JS.id JS)) none) w2
 generalize upd H2 r (.map false (GF P0 (Gv ([]:List (List UInt8×Cd)) JS.id JS)) none)=H3 at hl3 w3
 rw[Rs]
 unfold Oo BS Av Gb Dr
 obtain⟨H4,e4,hc4,w4,k4⟩:=Er (e:=Al) (zs:=BJ) (vs:=JS.cs) w3 CA
 rw[FW (by decide),De,a1,A5k,Bi (cs:=BJ) rfl,B7 (cs:=BJ) (vs:=JS.cs) (A1 (by simp)) CA rfl KC,←e4,Bq rfl CA.symm hc4,Ba hid (Zq H4)]
 have hl4:=(k4 _ _ hl3).1
 have fn2:JM (Gv ([]:List (List UInt8×Cd)) JS.id JS) JS.id=some JS:=by rw[FX,if_pos rfl]
 rw[ek,R4 (f:=P0) (b:=Gv ([]:List (List UInt8×Cd)) JS.id JS) (λK=>Pq hl4),fn2]
 simp only[]
 obtain⟨H5,e5,hc5,w5,k5⟩:=Er (e:=Al) (zs:=BJ) (vs:=JS.cs) w4 CA
 rw[CZ,CY,Bi (cs:=BJ) rfl,B7 (cs:=BJ) (vs:=JS.cs) (A1 (by simp)) CA rfl KC,←e5]
 simp only[gFT,Cz,XO]
 rw[De,em]
 refine hK _ _ ⟨true,UO (D:=depth-1) (q:=true) (Ay (B9c (D:=depth-5) (es:=[]) (A1 (by simp))) (Ay (q:=false) D2 Be))⟩
theorem B3d (hL:40000<L):RT (rt (L+20) (n+65)) Ip [B4d] (Bo false):=by
 unfold RT
 rw[T2];unfold NZ
 rw[GS (of2 (n:=n) hL) (Ay (A4Z.fx []) Be)];kernel_rfl
theorem C1E:RT (rt (L+20) (n+65)) L0 [.agg WN.cs,.agg WN.cs] (Bo true):=by unfold RT;kernel_rfl
theorem C4r:RT (rt (L+20) (n+2)) Cg [Ep [lM],Ep [lM]] (Bo true):=by unfold RT;kernel_rfl
theorem C4q:RT (rt (L+20) (n+2)) Cg [Ep [lD],Ep [lD]] (Bo true):=by unfold RT;kernel_rfl
theorem C4p:RT (rt (L+20) (n+2)) Cg [Ep [lB,lA],Ep [lB,lA]] (Bo true):=by unfold RT;kernel_rfl
theorem C4o:RT (rt (L+20) (n+2)) Cg [Ep [lB,lA,lC,lD],Ep [lB,lA,lC,lD]] (Bo true):=by unfold RT;kernel_rfl
end
section
variable {L n:Nat}
theorem B6W (hL:40000<L):RT (rt (L+20) (n+65)) Od [B4c] (.list 1 [S lE,S lB]):=by
 unfold RT
 rw[A01];unfold Rr Av
 rw[of3 hL];kernel_rfl
end
end Go.Abs
end
