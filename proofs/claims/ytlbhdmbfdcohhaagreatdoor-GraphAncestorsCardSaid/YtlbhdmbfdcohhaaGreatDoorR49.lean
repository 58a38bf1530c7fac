import Derived.Test.YtlbhdmbfdcohhaaGreatDoorR45
import Derived.Test.YtlbhdmbfdcohhaaGreatDoorR48
set_option linter.all false
set_option maxHeartbeats 100000000
noncomputable section
namespace Go.Abs
open Go.RowKit Go.Proofs
set_option maxRecDepth 100000
section
variable {L n:Nat}
section
variable {K:KV} {x:Al} {gs:List Cd} {a w o sm:AV} {H:Hp} {ws:List Int}
theorem B4l (c:Cd) (H:Hp):∃p,(∀K:AV→Al,AN 31 (.iptr c.cs) K=K p)∧∀K:AV→Al,Aq Ad p H K=K (DO c.ps):=by
 match c with
 | .re b u=>exact⟨_,λK=>_root_.id rfl,λK=>_root_.id rfl⟩
 | .co b p ps none=>exact⟨_,λK=>_root_.id rfl,λK=>_root_.id rfl⟩
 | .co b p ps (some (k,vd))=>exact⟨_,λK=>_root_.id rfl,λK=>_root_.id rfl⟩
theorem UL {ps:List (List UInt8)} {K:AV→Al}:AP Ad (DO ps) K=K (I ps.length):=(HV ps).len
theorem C47 {b c:Bool} {K:AV→Al}:Go.Abs.Ak EZ .neq (Bo b) (Bo c) K=K (Bo (b !=c)):=by cases b<;>cases c<;>exact _root_.id rfl
end
end
section
variable {L n:Nat}
section
variable {K:KV} {x:Al} {H:Hp} {l:List EO} {p:EO} {a:AV}
theorem C64 (ha:SA l a) (hb:l.length<1000) (hL:2000<L):CS (rt (L+20) (n+2)) Fm [a,S p] (Bo (decide (p∈l))):=by
 intro K hK
 rw[A4x]
 unfold VC
 rw[Bc (B8n (n:=n) ha hb hL) (A2 (ha.fx _) (A2 (q:=false) Ed Bt))]
 by_cases h:p∈l
 ·obtain⟨k,hk, -, -,e⟩:=WL _ 0 h
  rw[e,CW,CV]
  rw[decide_eq_true h] at hK⊢
  exact hK _ _ λb=>⟨false,Ed⟩
 ·rw[WM _ 0 h,CW,CV]
  rw[decide_eq_false h] at hK⊢
  exact hK _ _ λb=>⟨false,Ed⟩
end
section
variable {K:KV} {x:Al} {H:Hp} {il al sl cp:List EO} {idk:EO} {k r rc:Nat} {less:List Cd} {v:AV} {R:Rt}
theorem C69 {i:Nat} {K:AV→Al} (h:0<i) (h2:i<1000000000):Go.Abs.Ak Ab .sub (I (i:Int)) (.v (.int .i64 1)) K=K (I ((i-1:Nat):Int)):=by
 rw[GE,Cb (by omega) (by omega),show((i:Int)-1)=((i-1:Nat):Int) from by omega]
theorem B1G {s u:List UInt8} {K:AV→Al}:Go.Abs.Ak Ae .geq (S s) (S u) K=K (Bo (!decide (s<u))):=by
 have:Go.Abs.Ak Ae .geq (S s) (S u) K=bB (!ltB s u) K:=rfl
 rw[this,A4C,bytesLess_eq,Ld]
end
end
section
variable {L n:Nat}
def lA:List UInt8:=[190,37,193,108,62,69,192,54,146,30,179,35,185,160,42,118,74,72,34,96,70,26,154,115,110,60,175,172,120,42,152,121]
def lB:List UInt8:=[63,129,197,209,192,171,238,78,64,123,139,56,179,57,155,251,126,184,172,103,57,87,222,153,225,163,5,204,149,119,153,179]
def lC:List UInt8:=[71,37,141,151,10,1,163,27,132,95,7,9,41,219,210,4,28,226,237,216,22,83,151,14,245,69,75,76,21,75,82,216]
def lM:List UInt8:=[138,237,11,190,196,80,244,57,90,159,226,217,140,117,21,86,222,147,187,253,67,69,36,87,52,61,73,4,157,145,48,204]
def lD:List UInt8:=[43,112,24,193,160,158,31,110,143,43,225,193,162,105,217,23,179,133,159,236,252,133,93,18,158,85,197,253,46,253,8,36]
def lE:List UInt8:=[11,203,203,231,166,154,207,130,208,249,166,236,80,133,250,187,224,115,94,57,103,34,211,136,99,121,167,117,21,244,36,120]
def J0:Cd:= .re ⟨⟨1,1,1,0,0⟩, -80,0,[(1, -8),(2, -8),(3, -8),(4, -8),(5, -8)]⟩ 0
def UH:Cd:= .re ⟨⟨1,2,1,0,0⟩, -80,0,[(1, -8),(2, -8),(3, -8),(4, -8),(5, -8)]⟩ 0
def scE:Cd:= .re ⟨⟨1,2,1,0,9⟩, -80,0,[(1, -8),(2, -8),(3, -8),(4, -8),(5, -8)]⟩ 0
def Wn:Cd:= .co ⟨⟨1,3,1,0,0⟩, -80,0,[(1, -5),(2, -5),(3, -5),(4, -8),(5, -8)]⟩ ⟨2,[3,3],.no⟩ [lA,lB] none
def scD:Cd:= .co ⟨⟨1,4,1,0,0⟩, -80,0,[(1, -5),(2, -5),(3, -5),(4, -8),(5, -8)]⟩ ⟨2,[3,3],.no⟩ [lC,lM] none
theorem B2S:cdM 0 0 0 0 0 0 0 0 0 0 0 0 none []=J0:=by kernel_rfl
theorem B2R:cdM 0 0 1 0 0 0 0 0 0 0 0 0 none []=UH:=by kernel_rfl
theorem B2Q:cdM 1 0 11 0 0 0 3 3 3 0 0 0 none [lA,lB]=Wn:=by kernel_rfl
theorem B2P:cdM 1 0 12 0 0 0 3 3 3 0 0 0 none [lC,lM]=scD:=by kernel_rfl
theorem V4:J0.id=lA:=by kernel_rfl
theorem V3:UH.id=lB:=by kernel_rfl
theorem A0F:Wn.id=lC:=by kernel_rfl
theorem A4h:scD.id=lD:=by kernel_rfl
theorem B2O:scE.id=lE:=by kernel_rfl
theorem C4n:A2D 77=lM:=by kernel_rfl
end
section
variable {L n:Nat}
def RT (R:Rt) (f:Nat) (args:List AV) (v:AV):Prop:=(R.call f args [] λv H'=>Jg true H' depth v λ_ v'=>some (v',[]))=some (v,[])
theorem FV {R:Rt} {f:Nat} {args args':List AV} {v:AV} {H:Hp} {K:AV→Al} (hc:RT R f args' v) (ha:OM true depth args args' H false):Ah R f args H K=K v:=by
 unfold Ah
 rw[ha]
 show Ai (R.call f args' [] _) K=K v
 rw[show((!false)=true) from rfl,hc];rfl
def gs4:List Cd:=[scD,Wn,UH,J0]
theorem A4g:J0.Ok:=B2S▸A27 (by simp)
theorem A4f:UH.Ok:=B2R▸A27 (by simp)
theorem B2N:Wn.Ok:=B2Q▸A27 (by simp[lA,lB])
theorem C15:scD.Ok:=B2P▸A27 (by simp[lC,lM])
theorem C14:scE.Ok:=by
 obtain⟨h,hu⟩:=A4f
 exact⟨⟨⟨by decide,by decide,by decide,by decide,by decide,by decide,by decide,by decide,by decide,by decide⟩,h.c1,h.c2,h.r1,h.r2,h.ts⟩,hu⟩
theorem A1A:GOk gs4:=by
 refine⟨?_,?_,?_,by decide⟩
 ·intro c hc
  simp only[gs4,WG,List.not_mem_nil,or_false] at hc
  rcases hc with rfl|rfl|rfl|rfl
  ·exact C15
  ·exact B2N
  ·exact A4f
  ·exact A4g
 ·intro c hc
  simp only[gs4,WG,List.not_mem_nil,or_false] at hc
  rcases hc with rfl|rfl|rfl|rfl
  ·show[lC,lM].Nodup;decide
  ·show[lA,lB].Nodup;decide
  ·show([]:List (List UInt8)).Nodup;decide
  ·show([]:List (List UInt8)).Nodup;decide
 ·show[scD.id,Wn.id,UH.id,J0.id].Nodup
  rw[V4,V3,A0F,A4h];decide
def Mo:AV:= .list 4 (scD.cs++(Wn.cs++(UH.cs++J0.cs)))
theorem SM:LA gs4 Mo:= .inl (by
 show AV.list 4 _=AV.list 4 (gs4.flatMap Cd.cs)
 simp[gs4])
theorem of4 (hL:40000<L):∀H K,Ah (rt (L+20) (n+64)) EN [Mo] H K=K (.tup [.imap [(.string ⟨⟨lD⟩⟩,.agg scD.cs),(.string ⟨⟨lC⟩⟩,.agg Wn.cs),(.string ⟨⟨lB⟩⟩,.agg UH.cs),(.string ⟨⟨lA⟩⟩,.agg J0.cs)],Bo true]):=by
 intro H K
 rw[IK (B5G (n:=n) A1A hL SM) (A2 (SM.fx H) Bt)]
 have e:gV gs4= .imap [(.string ⟨⟨lD⟩⟩,.agg scD.cs),(.string ⟨⟨lC⟩⟩,.agg Wn.cs),(.string ⟨⟨lB⟩⟩,.agg UH.cs),(.string ⟨⟨lA⟩⟩,.agg J0.cs)]:=by
  have:gE gs4=[(lD,scD),(lC,Wn),(lB,UH),(lA,J0)]:=by simp[gE,gs4,V4,V3,A0F,A4h]
  rw[gV,this];rfl
 rw[e]
noncomputable def rg_graph_Missing_0:Operand×Array Tmp×Code×Code:=YE (Bh Tryz.f19) 0
noncomputable def n_graph_Missing:IJ:= λL R a0 H K=>Ah R EN [a0] H λe=>AD e 0 λi=>AD e 1 λz=>AK DF BO H λb j=>Cq BO b i j λk=>NR Cn k λl m=>AK Gp He m λa n=>Cq He a l n λc=>jn (λo f=>Aq He o f λp=>R.call I9 [p] f λq r=>K q r) λs=>Aq BO b c λt=>Ah R GJ [t] c λg=>jn (λu w=>s u w) λh=>Za R 27 g [(2,(AV.v (.slice none 0 0))),(3,b),(5,a),(7,AV.dk),(15,g),(17,AV.dk),(18,AV.dk),(19,AV.dk),(20,AV.dk),(21,AV.dk),(22,AV.dk),(23,AV.dk),(24,AV.dk)] (rg_graph_Missing_0).2.1 (rg_graph_Missing_0).2.2.1 (rg_graph_Missing_0).2.2.2 c λx d=>YH x (h a d) (K (AV.v (.slice none 0 0)) d) (λy=>@Bool.rec (λ_=>Al) (none) (h a d) (Nat.beq y 0)) (λ_=>none)
theorem n_graph_Missing_c (L n:Nat) (a:AV) (H:Hp) (K:KV):(rt L (n+1)).call Ol [a] H K=n_graph_Missing L (rt L n) a H K:=by kernel_rfl
theorem B0Q (hL:40000<L):RT (rt (L+20) (n+65)) Ol [Mo] (DO [lM]):=by
 unfold RT
 rw[n_graph_Missing_c];unfold n_graph_Missing
 rw[of4 hL];kernel_rfl
theorem B6k (hL:40000<L):RT (rt (L+20) (n+65)) HN [Mo] (Bo true):=by
 unfold RT
 rw[Th];unfold Nq
 rw[of4 hL];kernel_rfl
theorem B6o (hL:40000<L):RT (rt (L+20) (n+65)) Nt [Mo] (DO [lD]):=by
 unfold RT
 rw[ZF];unfold QQ
 rw[of4 hL];kernel_rfl
theorem C3M (hL:40000<L):RT (rt (L+20) (n+65)) Cm [Mo,S lC] (DO [lB,lA]):=by
 unfold RT
 rw[Ke];unfold Hj
 rw[of4 hL];kernel_rfl
theorem C3L (hL:40000<L):RT (rt (L+20) (n+65)) Cm [Mo,S lD] (DO [lB,lC,lA]):=by
 unfold RT
 rw[Ke];unfold Hj
 rw[of4 hL];kernel_rfl
theorem B6r (hL:40000<L):RT (rt (L+20) (n+65)) IA [Mo,S lC] (.tup [.agg Wn.cs,Bo true]):=by
 unfold RT
 rw[Ug];unfold O7
 simp only[of4 hL];kernel_rfl
theorem B6q (hL:40000<L):RT (rt (L+20) (n+65)) IA [Mo,S lM] (.tup [.agg BM,Bo false]):=by
 unfold RT
 rw[Ug];unfold O7
 simp only[of4 hL];kernel_rfl
end
end Go.Abs
end
noncomputable section
end
noncomputable section
namespace Go.Abs
open Go.RowKit Go.Proofs
set_option maxRecDepth 100000
section
variable {L n:Nat}
section
variable {K:KV} {x:Al} {H:Hp} {z:Nat}
theorem A71 {cs:List AV} (w:Wf H) (hz:Ax H z=some (.cells true Aj BM)) (h1:cs.length=68) (h2:cs.all AV.one=true) (hK:∀H',(∀s q,s≠z→Ax H s=some q→Ax H' s=some q)→K (.agg cs) H'=x):
 (AK Aj Ac H λv7 H8=>Cq Ac v7 (.agg cs) H8 λH9=>Aq Ac v7 H9 λv11=>Cq Ac (.ptr z 0 0) v11 H9 λH12=>Aq Ac (.ptr z 0 0) H12 λv14=>K v14 H12)=x:=by
 obtain⟨H1,e1,m1,w1,kp1⟩:=Er (e:=Aj) (zs:=BM) (vs:=cs) w h1
 rw[Bf (cs:=BM) rfl,B7 (cs:=BM) (vs:=cs) (A1 (by simp)) h1 rfl h2,←e1]
 obtain⟨z1, -⟩:=kp1 _ _ hz
 rw[Bm (cs:=cs) rfl (by rw[h1];rfl) m1,B7 z1 h1 rfl h2,Bm (cs:=cs) rfl (by rw[h1];rfl) (AC z1)]
 exact hK _ λs q hs hl=>by rw[Au hs];exact(kp1 _ _ hl).1
theorem A36 {a:Int} (h1: -100≤a) (h2:a≤100):K8 a:=by unfold K8;omega
theorem A9x (hL:40000<L) {k:Int} (h1:1≤k) (h2:k≤2) {c:Cd} (hc:cdM 0 0 (k-1) 0 0 0 0 0 0 0 0 0 none []=c):CT (rt (L+20) (n+45)) DV [I k] (.agg c.cs):=by
 intro K hK
 rw[Tt]
 unfold Kc Ar
 obtain⟨H1,z,e1,s1,l1,w1,k1⟩:=push Fv (.cells true Aj BM) (by simp)
 have b0:∀{K:AV→Al},Bk Bl [] K=K (.agg [I 0,I 0,I 0,I 0,I 0,I 0]):= λ{K}=>id rfl
 have b2:∀{K:AV→Al},Bk Bl [(0,1,(AV.v (.int .i64 0))),(1,1,(AV.v (.int .i64 0))),(2,1,I (k-1)),(3,1,(AV.v (.int .i64 0))),(4,1,(AV.v (.int .i64 0))),(5,1,(AV.v (.int .i64 0)))] K=K (.agg [I 0,I 0,I (k-1),I 0,I 0,I 0]):= λ{K}=>id rfl
 rw[Bf (cs:=BM) rfl,←s1,←e1,GE,Cb (by omega) (by omega),b2,b0]
 have z0:K8 0:=A36 (by decide) (by decide)
 refine A10 (n:=n) (y:=none) (l:=[]) hL w1 z0 z0 (A36 (by omega) (by omega)) z0 z0 z0 z0 z0 z0 z0 z0 z0 (λH' _=>⟨false,Ed⟩) trivial (.inl (.inr ⟨rfl,rfl⟩)) (by decide) (by simp) ?_
 rw[hc]
 intro v H' sv nv w' kp fr
 refine A71 w' (kp _ _ l1) (Tc c) (Xi c (B1.one sv)) λH2 k2=> ?_
 have hz:∀s,AX v s→s≠z:= λs hs=>by have:=fr s hs;have:=w1.lt l1;omega
 obtain⟨q,hq⟩:=A52 (D:=depth-2) (sv.kp λs q hs hl=>k2 s q (hz s hs) hl) nv
 exact hK _ _ ⟨q,PE (D:=depth-1) hq⟩
theorem A9y (hL:40000<L) {k:Int} (h1:1≤k) (h2:k≤9) {c:Cd} {l:List (List UInt8)} (hl2:l.length=2) (h32:∀s∈l,s.length=32) (hc:cdM 1 0 (9+k-1) 0 0 0 3 3 3 0 0 0 none l=c):CT (rt (L+20) (n+45)) XA0 [I k,DO l] (.agg c.cs):=by
 intro K hK
 rw[Tu]
 unfold Kd Ar
 obtain⟨H1,z,e1,s1,l1,w1,k1⟩:=push Fv (.cells true Aj BM) (by simp)
 have b0:∀{K:AV→Al},Bk Bl [(0,1,(AV.v (.int .i64 3))),(1,1,(AV.v (.int .i64 3))),(2,1,(AV.v (.int .i64 3))),(3,1,(AV.v (.int .i64 0))),(4,1,(AV.v (.int .i64 0))),(5,1,(AV.v (.int .i64 0)))] K=K (.agg [I 3,I 3,I 3,I 0,I 0,I 0]):= λ{K}=>id rfl
 have b2:∀{K:AV→Al},Bk Bl [(0,1,(AV.v (.int .i64 1))),(1,1,(AV.v (.int .i64 0))),(2,1,I (9+k-1)),(3,1,(AV.v (.int .i64 0))),(4,1,(AV.v (.int .i64 0))),(5,1,(AV.v (.int .i64 0)))] K=K (.agg [I 1,I 0,I (9+k-1),I 0,I 0,I 0]):= λ{K}=>id rfl
 have sub:∀{K:AV→Al},Go.Abs.Ak Ab .sub (I ((2:Nat):Int)) (.v (.int .i64 1)) K=K (I 1):= λ{K}=>by kernel_rfl
 have mul:∀{K:AV→Al},Go.Abs.Ak Ab .mul (.v (.int .i64 9)) (I 1) K=K (I 9):= λ{K}=>by kernel_rfl
 rw[Bf (cs:=BM) rfl,←s1,←e1,(HV l).len,hl2,sub,mul,Cz,Cb (by omega) (by omega),GE,Cb (by omega) (by omega),b2,b0]
 have z0:K8 0:=A36 (by decide) (by decide)
 have z3:K8 3:=A36 (by decide) (by decide)
 refine A10 (n:=n) (y:=none) (l:=l) hL w1 (A36 (by decide) (by decide)) z0 (A36 (by omega) (by omega)) z0 z0 z0 z3 z3 z3 z0 z0 z0 (λH' _=>⟨false,Ed⟩) trivial (.inl (HV l)) (by omega) h32 ?_
 rw[hc]
 intro v H' sv nv w' kp fr
 refine A71 w' (kp _ _ l1) (Tc c) (Xi c (B1.one sv)) λH2 k2=> ?_
 have hz:∀s,AX v s→s≠z:= λs hs=>by have:=fr s hs;have:=w1.lt l1;omega
 obtain⟨q,hq⟩:=A52 (D:=depth-2) (sv.kp λs q hs hl=>k2 s q (hz s hs) hl) nv
 exact hK _ _ ⟨q,PE (D:=depth-1) hq⟩
end
def gs3:List Cd:=[J0,UH,scE]
def B3O:AV:= .list 3 (J0.cs++(UH.cs++scE.cs))
theorem C28:GOk gs3:=by
 refine⟨?_,?_,?_,by decide⟩
 ·intro c hc
  simp only[gs3,WG,List.not_mem_nil,or_false] at hc
  rcases hc with rfl|rfl|rfl
  ·exact A4g
  ·exact A4f
  ·exact C14
 ·intro c hc
  simp only[gs3,WG,List.not_mem_nil,or_false] at hc
  rcases hc with rfl|rfl|rfl<;>(show([]:List (List UInt8)).Nodup;decide)
 ·show[J0.id,UH.id,scE.id].Nodup
  rw[V4,V3,B2O];decide
theorem A4D:LA gs3 B3O:= .inl (by
 show AV.list 3 _=AV.list 3 (gs3.flatMap Cd.cs)
 simp[gs3])
theorem of3 (hL:40000<L):∀H K,Ah (rt (L+20) (n+64)) EN [B3O] H K=K (.tup [.imap [(.string ⟨⟨lA⟩⟩,.agg J0.cs),(.string ⟨⟨lB⟩⟩,.agg UH.cs),(.string ⟨⟨lE⟩⟩,.agg scE.cs)],Bo true]):=by
 intro H K
 rw[IK (B5G (n:=n) C28 hL A4D) (A2 (A4D.fx H) Bt)]
 have e:gV gs3= .imap [(.string ⟨⟨lA⟩⟩,.agg J0.cs),(.string ⟨⟨lB⟩⟩,.agg UH.cs),(.string ⟨⟨lE⟩⟩,.agg scE.cs)]:=by
  have:gE gs3=[(lA,J0),(lB,UH),(lE,scE)]:=by simp[gE,gs3,V4,V3,B2O]
  rw[gV,this];rfl
 rw[e]
def B3P:AV:= .list 2 (J0.cs++J0.cs)
theorem A4E:LA [J0,J0] B3P:= .inl (by
 show AV.list 2 _=AV.list 2 ([J0,J0].flatMap Cd.cs)
 simp)
theorem of2 (hL:40000<L):CT (rt (L+20) (n+64)) EN [B3P] (.tup [.imap [],Bo false]):=by
 intro K hK
 have ha:=A4E
 rw[WB]
 unfold SG Ar Ev CK
 have em:∀(H:Hp) (K:KV),NR Ac H K=K (.mp (A6 H)) ((A6 H,.map false [] none)::H):= λH K=>by
  show HE H (λs=>K (.mp s) ((s,.map false [] (A4y Ac.d))::H))=_
  rw[BX];rfl
 have hid:=B4P (L:=L) (n:=n) hL A4g (show([]:List (List UInt8)).Nodup by decide)
 have ek:∀(F:Value→Al),Mp (S J0.id) F=F (SV J0.id):= λF=>id rfl
 have q1:∀{K},Go.Abs.Ak Ae .eql (S J0.id) (S []) K=K (Bo false):= λ{K}=>by rw[Nb,decide_eq_false (A26 _)]
 rw[em]
 simp only[Cp]
 have hl:=A1 (H:=[]) (x:= .map false [] none) (by simp)
 have wf:=BE (x:= .map false [] none) Fv
 generalize ((A6 [],Row.map false [] none)::([]:Hp))=H0 at hl wf
 generalize A6 []=r at hl
 have e0:(AV.v (.int .i64 0))=I ((0:Nat):Int):=rfl
 rw[ha.len,e0]
 show XA6 (L+20) (rt (L+20) (n+63)) K _ ((L+18)+1+1) _ _ _ _ _ H0=_
 rw[QU]
 unfold NG Bu Ar Ev CK
 have i0:([J0,J0]:List Cd)[0]=J0:=rfl
 have i1:([J0,J0]:List Cd)[1]=J0:=rfl
 have a0:= λK=>ha.ia (K:=K) (i:=0) (by decide)
 have a1:= λK=>ha.ia (K:=K) (i:=1) (by decide)
 rw[i0] at a0
 rw[i1] at a1
 obtain⟨H1,e1,hc1,w1,k1⟩:=Er (e:=Aj) (zs:=BM) (vs:=J0.cs) wf Ct
 rw[FW (by decide),Dn,a0,Y0,Bf (cs:=BM) rfl,B7 (cs:=BM) (vs:=J0.cs) (A1 (by simp)) Ct rfl JE,←e1,Bm rfl Ct.symm hc1,Bc hid (YS H1)]
 have hl1:=(k1 _ _ hl).1
 rw[ek,QZ (f:=cA') (b:=([]:List (List UInt8×Cd))) (λK=>SX hl1)]
 have fn:KT ([]:List (List UInt8×Cd)) J0.id=none:=rfl
 rw[fn]
 simp only[]
 obtain⟨H2,e2,hc2,w2,k2⟩:=Er (e:=Aj) (zs:=BM) (vs:=BM) w1 rfl
 rw[CW,CV,Bf (cs:=BM) rfl]
 rw[show(Ac.zero:AV)= .agg BM from rfl,B7 (cs:=BM) (vs:=BM) (A1 (by simp)) rfl rfl rfl,←e2]
 have hl2:=(k2 _ _ hl1).1
 have hc3:=(k2 _ _ hc1).1
 simp only[gT,Co,q1,Vk]
 have hl2':Ax H2 r=some (.map false (Oe cA' ([]:List (List UInt8×Cd))) none):=hl2
 rw[BD,Bm rfl Ct.symm hc3,ek,UQ (f:=cA') (v:=J0) hl2',DS (by decide)]
 have hl3:Ax (upd H2 r (.map false (Oe cA' (IL ([]:List (List UInt8×Cd)) J0.id J0)) none)) r=some (.map false (Oe cA' (IL ([]:List (List UInt8×Cd)) J0.id J0)) none):=(Ec hl2').trans rfl
 have w3:=Cj (r:=r) (y:= .map false (Oe cA' (IL ([]:List (List UInt8×Cd)) J0.id J0)) none) w2
 generalize upd H2 r (.map false (Oe cA' (IL ([]:List (List UInt8×Cd)) J0.id J0)) none)=H3 at hl3 w3
 rw[QU]
 unfold NG Bu Ar Ev CK
 obtain⟨H4,e4,hc4,w4,k4⟩:=Er (e:=Aj) (zs:=BM) (vs:=J0.cs) w3 Ct
 rw[FW (by decide),Dn,a1,Y0,Bf (cs:=BM) rfl,B7 (cs:=BM) (vs:=J0.cs) (A1 (by simp)) Ct rfl JE,←e4,Bm rfl Ct.symm hc4,Bc hid (YS H4)]
 have hl4:=(k4 _ _ hl3).1
 have fn2:KT (IL ([]:List (List UInt8×Cd)) J0.id J0) J0.id=some J0:=by rw[Ih,if_pos rfl]
 rw[ek,QZ (f:=cA') (b:=IL ([]:List (List UInt8×Cd)) J0.id J0) (λK=>SX hl4),fn2]
 simp only[]
 obtain⟨H5,e5,hc5,w5,k5⟩:=Er (e:=Aj) (zs:=BM) (vs:=J0.cs) w4 Ct
 rw[CW,CV,Bf (cs:=BM) rfl,B7 (cs:=BM) (vs:=J0.cs) (A1 (by simp)) Ct rfl JE,←e5]
 simp only[gFT,Co,Wu]
 rw[Dn,em]
 refine hK _ _ ⟨true,Yo (D:=depth-1) (q:=true) (A2 (B8J (D:=depth-5) (es:=[]) (A1 (by simp))) (A2 (q:=false) Ed Bt))⟩
theorem B2T (hL:40000<L):RT (rt (L+20) (n+65)) HN [B3P] (Bo false):=by
 unfold RT
 rw[Th];unfold Nq
 rw[IK (of2 (n:=n) hL) (A2 (A4E.fx []) Bt)];kernel_rfl
theorem C17:RT (rt (L+20) (n+65)) KU [.agg Wn.cs,.agg Wn.cs] (Bo true):=by unfold RT;kernel_rfl
theorem C3K:RT (rt (L+20) (n+2)) Bq [DO [lM],DO [lM]] (Bo true):=by unfold RT;kernel_rfl
theorem C3J:RT (rt (L+20) (n+2)) Bq [DO [lD],DO [lD]] (Bo true):=by unfold RT;kernel_rfl
theorem C3I:RT (rt (L+20) (n+2)) Bq [DO [lB,lA],DO [lB,lA]] (Bo true):=by unfold RT;kernel_rfl
theorem C3H:RT (rt (L+20) (n+2)) Bq [DO [lB,lA,lC,lD],DO [lB,lA,lC,lD]] (Bo true):=by unfold RT;kernel_rfl
end
section
variable {L n:Nat}
theorem B6p (hL:40000<L):RT (rt (L+20) (n+65)) Nu [B3O] (.list 1 [S lE,S lB]):=by
 unfold RT
 rw[ZG];unfold QR Ar
 rw[of3 hL];kernel_rfl
end
end Go.Abs
end
