import Derived.Test.YtlbhdmbfdcohhaaGreatDoorP44
import Derived.Test.YtlbhdmbfdcohhaaGreatDoorP45
import Derived.Test.YtlbhdmbfdcohhaaGreatDoorP47
set_option linter.all false
set_option maxHeartbeats 100000000
noncomputable section
namespace Go.Abs
open Go.RowKit Go.Proofs
set_option maxRecDepth 100000
section
variable {L n:Nat}
section
variable {K:KV} {x:Am} {gs:List Cd} {a w o sm:AV} {H:Hp} {ws:List Int}
theorem C42 {c:Cd} {H:Hp} {K:AV→Am}:(AH 0 (.iptr c.cs) λp=>Ap Ab p H K)=K (I c.kd):=by
 match c with
 | .re b u=>exact _root_.id rfl
 | .co b p ps none=>exact _root_.id rfl
 | .co b p ps (some (k,vd))=>exact _root_.id rfl
theorem B3y (c:Cd) (H:Hp):∃p,(∀K:AV→Am,AH 31 (.iptr c.cs) K=K p)∧∀K:AV→Am,Ap Ae p H K=K (FQ c.ps):=by
 match c with
 | .re b u=>exact⟨_,λK=>_root_.id rfl,λK=>_root_.id rfl⟩
 | .co b p ps none=>exact⟨_,λK=>_root_.id rfl,λK=>_root_.id rfl⟩
 | .co b p ps (some (k,vd))=>exact⟨_,λK=>_root_.id rfl,λK=>_root_.id rfl⟩
theorem A8J {ps:List (List UInt8)} {K:AV→Am}:AM Ae (FQ ps) K=K (I ps.length):=(Gp ps).len
theorem C32 {b c:Bool} {K:AV→Am}:Go.Abs.Aj EX .neq (Bo b) (Bo c) K=K (Bo (b !=c)):=by cases b<;>cases c<;>exact _root_.id rfl
theorem C3c {k119:AV→AV→AV→AV→AV→AV→AV→AV→Hp→Am} (ha:LA gs a) {i:Nat} (hi:i<gs.length) (hb:gs[i].ps.length<100) (hR:∀{s:List UInt8} {H K},Ah (rt (L+20) (n+80)) Bz [a,S s] H K=K (Bo (rz (gr gs) gs.length s))):
 ∀(f k:Nat) (b:Bool),k≤gs[i].ps.length→gs[i].ps.length-k<f→(∀k',k119 w o a (FQ (gs.map Cd.id)) sm (I i) (Bo (b&&(gs[i].ps.drop k).all λp=>rz (gr gs) gs.length p)) k' H=x)→
 Ey (L+20) (rt (L+20) (n+80)) K k119 f w o a (FQ (gs.map Cd.id)) sm (I i) (Bo b) (I k) H=x:=by
 intro f
 induction f with
 |zero=>intro k b _ h;omega
 |succ f ih=>
  intro k b hk hf hx
  rw[Qc]
  unfold HU AR Aq Cz
  obtain⟨p,g1,g2⟩:=B3y gs[i] H
  rw[ha.ia hi,g1,g2,A8J]
  by_cases h:k<gs[i].ps.length
  ·have ad:∀{K:AV→Am},Go.Abs.Aj Ab .add (I k) (.v (.int .i64 1)) K=K (I ((k+1:Nat):Int)):= λ{K}=>DH (by omega)
   have ed:gs[i].ps.drop k=gs[i].ps[k]::gs[i].ps.drop (k+1):=l11 h
   rw[ed,l2j,←Bool.and_assoc] at hx
   rw[FR (by omega),Do]
   cases b with
   |true=>
    simp only[gT,BN,ha.ia hi,g1,g2,(Gp gs[i].ps).ia h,F3,hR,Un,ad]
    exact ih (k+1) _ (by omega) (by omega) (by simpa using hx)
   |false=>
    simp only[gTF,BN,QC,ad]
    exact ih (k+1) false (by omega) (by omega) (by simpa using hx)
  ·have:k=gs[i].ps.length:=by omega
   subst this
   rw[List.drop_length,List.all_nil,l1b] at hx
   rw[FT (by omega),BC]
   exact hx _
theorem C3d {k26:AV→AV→Hp→Am} (hg:GOk gs) (ha:LA gs a) (hp:∀c∈gs,c.ps.length<100) (hR:∀{s:List UInt8} {H K},Ah (rt (L+20) (n+80)) Bz [a,S s] H K=K (Bo (rz (gr gs) gs.length s)))
 (hS:∀s:List UInt8,∃b:Bool,(∀{H K},Ah (rt (L+20) (n+80)) Bz [sm,S s] H K=K (Bo b))∧(b=true→rz (gr gs) gs.length s=true))
 (hT:∀{s:List UInt8} {H K},Ah (rt (L+20) (n+80)) JO [a,S s,w] H K=K (Bo (trc (gr gs) (Yc ws) (gs.length+1) 0 s))) (hL:100<L)
 (hfin:k26 o a H=x):
 ∀(f i:Nat) (d0 d1:AV),i≤gs.length→gs.length-i<f→FD (L+20) (rt (L+20) (n+80)) K k26 f w o a (FQ (gs.map Cd.id)) sm (I i) d0 d1 H=x:=by
 intro f
 induction f with
 |zero=>intro i d0 d1 _ h;omega
 |succ f ih=>
  intro i d0 d1 hi hf
  have hlen:=hg.len
  rw[Qd]
  unfold HV AR Bu Aq DW Cz
  rw[ha.len]
  by_cases h:i<gs.length
  ·have hps:=hp _ (Qu h)
   obtain⟨p,g1,g2⟩:=B3y gs[i] H
   rw[FR (by omega),Do,ha.ia h,C42,CG]
   have hk119:∀{k119:AV→AV→AV→AV→AV→AV→AV→AV→Hp→Am},(∀k',k119 w o a (FQ (gs.map Cd.id)) sm (I i) (Bo (rz (gr gs) gs.length gs[i].id)) k' H=x)→Ey (L+20) (rt (L+20) (n+80)) K k119 (L+20) w o a (FQ (gs.map Cd.id)) sm (I i) (Bo (decide (gs[i].kd=1)||decide (0<gs[i].ps.length))) (I ((0:Nat):Int)) H=x:=by
    intro k119 hk
    refine C3c ha h hps hR (L+20) 0 _ (by omega) (by omega) λk'=> ?_
    rw[l1n,←C07 hg.ids h]
    exact hk k'
   have hil:i<(gs.map Cd.id).length:=by rw[l1u];exact h
   have hid:(gs.map Cd.id)[i]=gs[i].id:=by rw[l2i]
   have ad:∀{K:AV→Am},Go.Abs.Aj Ab .add (I i) (.v (.int .i64 1)) K=K (I ((i+1:Nat):Int)):= λ{K}=>DH (by omega)
   obtain⟨b,hb1,hb2⟩:=hS gs[i].id
   by_cases hk:gs[i].kd=1
   ·rw[decide_eq_true hk] at hk119⊢
    rw[Bool.true_or] at hk119
    simp only[gFT,BN,Un]
    refine HW λk60 h60=> ?_
    refine HW λk119 h119=> ?_
    refine hk119 λk'=> ?_
    rw[h119,h60]
    clear h119 h60
    dsimp only
    rw[(Gp _).ia hil,F3,hid,hR,C32]
    cases hr:rz (gr gs) gs.length gs[i].id with
    |true=>
     have htr:=B25 (ws:=ws) hr
     simp only[bne_self_eq_false,gT,BN,(Gp _).ia hil,F3,hid,hT,htr,Xj,Un,QC,hb1]
     cases b with
     |true=>
      simp only[gT,BN,Xj,Un,QC]
      rw[BC,ad]
      exact ih (i+1) _ _ (by omega) (by omega)
     |false=>
      simp only[gTF,BN,QC]
      rw[BC,ad]
      exact ih (i+1) _ _ (by omega) (by omega)
    |false=>
     have hbf:b=false:=by
      cases b with
      |false=>rfl
      |true=>rw[hb2 rfl] at hr;cases hr
     subst hbf
     simp only[bne_self_eq_false,gT,gTF,gU,BN,(Gp _).ia hil,F3,hid,QC,hb1]
     rw[BC,ad]
     exact ih (i+1) _ _ (by omega) (by omega)
   ·rw[decide_eq_false hk] at hk119⊢
    rw[Bool.false_or] at hk119
    have hz:decide ((0:Int)<(gs[i].ps.length:Nat))=decide (0<gs[i].ps.length):=by simp
    simp only[gT,BN,ha.ia h,g1,g2,A8J,DQ,QC,hz]
    refine HW λk60 h60=> ?_
    refine HW λk119 h119=> ?_
    refine hk119 λk'=> ?_
    rw[h119,h60]
    clear h119 h60
    dsimp only
    rw[(Gp _).ia hil,F3,hid,hR,C32]
    cases hr:rz (gr gs) gs.length gs[i].id with
    |true=>
     have htr:=B25 (ws:=ws) hr
     simp only[bne_self_eq_false,gT,BN,(Gp _).ia hil,F3,hid,hT,htr,Xj,Un,QC,hb1]
     cases b with
     |true=>
      simp only[gT,BN,Xj,Un,QC]
      rw[BC,ad]
      exact ih (i+1) _ _ (by omega) (by omega)
     |false=>
      simp only[gTF,BN,QC]
      rw[BC,ad]
      exact ih (i+1) _ _ (by omega) (by omega)
    |false=>
     have hbf:b=false:=by
      cases b with
      |false=>rfl
      |true=>rw[hb2 rfl] at hr;cases hr
     subst hbf
     simp only[bne_self_eq_false,gT,gTF,gU,BN,(Gp _).ia hil,F3,hid,QC,hb1]
     rw[BC,ad]
     exact ih (i+1) _ _ (by omega) (by omega)
  ·have:i=gs.length:=by omega
   subst this
   rw[FT (by omega),BC]
   exact hfin
end
end
section
variable {L n:Nat}
def lA:List UInt8:=[190,37,193,108,62,69,192,54,146,30,179,35,185,160,42,118,74,72,34,96,70,26,154,115,110,60,175,172,120,42,152,121]
def lB:List UInt8:=[63,129,197,209,192,171,238,78,64,123,139,56,179,57,155,251,126,184,172,103,57,87,222,153,225,163,5,204,149,119,153,179]
def lC:List UInt8:=[71,37,141,151,10,1,163,27,132,95,7,9,41,219,210,4,28,226,237,216,22,83,151,14,245,69,75,76,21,75,82,216]
def lM:List UInt8:=[138,237,11,190,196,80,244,57,90,159,226,217,140,117,21,86,222,147,187,253,67,69,36,87,52,61,73,4,157,145,48,204]
def lD:List UInt8:=[43,112,24,193,160,158,31,110,143,43,225,193,162,105,217,23,179,133,159,236,252,133,93,18,158,85,197,253,46,253,8,36]
def lE:List UInt8:=[11,203,203,231,166,154,207,130,208,249,166,236,80,133,250,187,224,115,94,57,103,34,211,136,99,121,167,117,21,244,36,120]
def IV:Cd:= .re ⟨⟨1,1,1,0,0⟩, -80,0,[(1, -8),(2, -8),(3, -8),(4, -8),(5, -8)]⟩ 0
def TL:Cd:= .re ⟨⟨1,2,1,0,0⟩, -80,0,[(1, -8),(2, -8),(3, -8),(4, -8),(5, -8)]⟩ 0
def scE:Cd:= .re ⟨⟨1,2,1,0,9⟩, -80,0,[(1, -8),(2, -8),(3, -8),(4, -8),(5, -8)]⟩ 0
def V3:Cd:= .co ⟨⟨1,3,1,0,0⟩, -80,0,[(1, -5),(2, -5),(3, -5),(4, -8),(5, -8)]⟩ ⟨2,[3,3],.no⟩ [lA,lB] none
def scD:Cd:= .co ⟨⟨1,4,1,0,0⟩, -80,0,[(1, -5),(2, -5),(3, -5),(4, -8),(5, -8)]⟩ ⟨2,[3,3],.no⟩ [lC,lM] none
theorem B22:cdM 0 0 0 0 0 0 0 0 0 0 0 0 none []=IV:=by kernel_rfl
theorem B21:cdM 0 0 1 0 0 0 0 0 0 0 0 0 none []=TL:=by kernel_rfl
theorem B20:cdM 1 0 11 0 0 0 3 3 3 0 0 0 none [lA,lB]=V3:=by kernel_rfl
theorem B1Z:cdM 1 0 12 0 0 0 3 3 3 0 0 0 none [lC,lM]=scD:=by kernel_rfl
theorem UH:IV.id=lA:=by kernel_rfl
theorem UG:TL.id=lB:=by kernel_rfl
theorem ZN:V3.id=lC:=by kernel_rfl
theorem A3s:scD.id=lD:=by kernel_rfl
theorem B1Y:scE.id=lE:=by kernel_rfl
theorem C3k:A1K 77=lM:=by kernel_rfl
end
section
variable {L n:Nat}
def RT (R:Rt) (f:Nat) (args:List AV) (v:AV):Prop:=(R.call f args [] λv H'=>I8 true H' depth v λ_ v'=>some (v',[]))=some (v,[])
theorem F4 {R:Rt} {f:Nat} {args args':List AV} {v:AV} {H:Hp} {K:AV→Am} (hc:RT R f args' v) (ha:Py true depth args args' H false):Ah R f args H K=K v:=by
 unfold Ah
 rw[ha]
 show Ai (R.call f args' [] _) K=K v
 rw[show((!false)=true) from rfl,hc];rfl
def gs4:List Cd:=[scD,V3,TL,IV]
theorem A3r:IV.Ok:=B22▸A1f (by simp)
theorem A3q:TL.Ok:=B21▸A1f (by simp)
theorem B1X:V3.Ok:=B20▸A1f (by simp[lA,lB])
theorem C03:scD.Ok:=B1Z▸A1f (by simp[lC,lM])
theorem C02:scE.Ok:=by
 obtain⟨h,hu⟩:=A3q
 exact⟨⟨⟨by decide,by decide,by decide,by decide,by decide,by decide,by decide,by decide,by decide,by decide⟩,h.c1,h.c2,h.r1,h.r2,h.ts⟩,hu⟩
theorem A0J:GOk gs4:=by
 refine⟨?_,?_,?_,by decide⟩
 ·intro c hc
  simp only[gs4,XQ,List.not_mem_nil,or_false] at hc
  rcases hc with rfl|rfl|rfl|rfl
  ·exact C03
  ·exact B1X
  ·exact A3q
  ·exact A3r
 ·intro c hc
  simp only[gs4,XQ,List.not_mem_nil,or_false] at hc
  rcases hc with rfl|rfl|rfl|rfl
  ·show[lC,lM].Nodup;decide
  ·show[lA,lB].Nodup;decide
  ·show([]:List (List UInt8)).Nodup;decide
  ·show([]:List (List UInt8)).Nodup;decide
 ·show[scD.id,V3.id,TL.id,IV.id].Nodup
  rw[UH,UG,ZN,A3s];decide
def L7:AV:= .list 4 (scD.cs++(V3.cs++(TL.cs++IV.cs)))
theorem RR:LA gs4 L7:= .inl (by
 show AV.list 4 _=AV.list 4 (gs4.flatMap Cd.cs)
 simp[gs4])
theorem of4 (hL:40000<L):∀H K,Ah (rt (L+20) (n+64)) E7 [L7] H K=K (.tup [.imap [(.string ⟨⟨lD⟩⟩,.agg scD.cs),(.string ⟨⟨lC⟩⟩,.agg V3.cs),(.string ⟨⟨lB⟩⟩,.agg TL.cs),(.string ⟨⟨lA⟩⟩,.agg IV.cs)],Bo true]):=by
 intro H K
 rw[IN (B89 (n:=n) A0J hL RR) (Ay (RR.fx H) Bl)]
 have e:gV gs4= .imap [(.string ⟨⟨lD⟩⟩,.agg scD.cs),(.string ⟨⟨lC⟩⟩,.agg V3.cs),(.string ⟨⟨lB⟩⟩,.agg TL.cs),(.string ⟨⟨lA⟩⟩,.agg IV.cs)]:=by
  have:gE gs4=[(lD,scD),(lC,V3),(lB,TL),(lA,IV)]:=by simp[gE,gs4,UH,UG,ZN,A3s]
  rw[gV,this];rfl
 rw[e]
theorem B02 (hL:40000<L):RT (rt (L+20) (n+65)) JX [L7] (FQ [lM]):=by
 unfold RT
 rw[VM];unfold Nq
 rw[of4 hL];kernel_rfl
theorem B5n (hL:40000<L):RT (rt (L+20) (n+65)) Hd [L7] (Bo true):=by
 unfold RT
 rw[Ss];unfold MF
 rw[of4 hL];kernel_rfl
theorem B5r (hL:40000<L):RT (rt (L+20) (n+65)) MJ [L7] (FQ [lD]):=by
 unfold RT
 rw[YI];unfold Qa
 rw[of4 hL];kernel_rfl
theorem C2H (hL:40000<L):RT (rt (L+20) (n+65)) E8 [L7,S lC] (FQ [lB,lA]):=by
 unfold RT
 rw[N0];unfold IF
 rw[of4 hL];kernel_rfl
theorem C2G (hL:40000<L):RT (rt (L+20) (n+65)) E8 [L7,S lD] (FQ [lB,lC,lA]):=by
 unfold RT
 rw[N0];unfold IF
 rw[of4 hL];kernel_rfl
theorem B5u (hL:40000<L):RT (rt (L+20) (n+65)) Ib [L7,S lC] (.tup [.agg V3.cs,Bo true]):=by
 unfold RT
 rw[Ts];unfold NK
 simp only[of4 hL];kernel_rfl
theorem B5t (hL:40000<L):RT (rt (L+20) (n+65)) Ib [L7,S lM] (.tup [.agg B8,Bo false]):=by
 unfold RT
 rw[Ts];unfold NK
 simp only[of4 hL];kernel_rfl
end
end Go.Abs
end
noncomputable section
end
noncomputable section
namespace Go.Abs
open Go.RowKit Go.Proofs
set_option maxRecDepth 100000
section
variable {L n:Nat}
section
variable {K:KV} {x:Am} {H:Hp} {z:Nat}
theorem A63 {cs:List AV} (w:Wf H) (hz:Aw H z=some (.cells true Ak B8)) (h1:cs.length=68) (h2:cs.all AV.one=true) (hK:∀H',(∀s q,s≠z→Aw H s=some q→Aw H' s=some q)→K (.agg cs) H'=x):
 (AI Ak Ac H λv7 H8=>Cb Ac v7 (.agg cs) H8 λH9=>Ap Ac v7 H9 λv11=>Cb Ac (.ptr z 0 0) v11 H9 λH12=>Ap Ac (.ptr z 0 0) H12 λv14=>K v14 H12)=x:=by
 obtain⟨H1,e1,m1,w1,kp1⟩:=DZ (e:=Ak) (zs:=B8) (vs:=cs) w h1
 rw[Ba (cs:=B8) rfl,B0 (cs:=B8) (vs:=cs) (A0 (by simp)) h1 rfl h2,←e1]
 obtain⟨z1, -⟩:=kp1 _ _ hz
 rw[Bf (cs:=cs) rfl (by rw[h1];rfl) m1,B0 z1 h1 rfl h2,Bf (cs:=cs) rfl (by rw[h1];rfl) (A8 z1)]
 exact hK _ λs q hs hl=>by rw[As hs];exact(kp1 _ _ hl).1
theorem A2g {a:Int} (h1: -100≤a) (h2:a≤100):IM a:=by unfold IM;omega
theorem A8C (hL:40000<L) {k:Int} (h1:1≤k) (h2:k≤2) {c:Cd} (hc:cdM 0 0 (k-1) 0 0 0 0 0 0 0 0 0 none []=c):CT (rt (L+20) (n+45)) DB [I k] (.agg c.cs):=by
 intro K hK
 rw[SD]
 unfold J4 Aq
 obtain⟨H1,z,e1,s1,l1,w1,k1⟩:=push Fw (.cells true Ak B8) (by simp)
 have b0:∀{K:AV→Am},Bg Bi [] K=K (.agg [I 0,I 0,I 0,I 0,I 0,I 0]):= λ{K}=>id rfl
 have b2:∀{K:AV→Am},Bg Bi [(0,1,(AV.v (.int .i64 0))),(1,1,(AV.v (.int .i64 0))),(2,1,I (k-1)),(3,1,(AV.v (.int .i64 0))),(4,1,(AV.v (.int .i64 0))),(5,1,(AV.v (.int .i64 0)))] K=K (.agg [I 0,I 0,I (k-1),I 0,I 0,I 0]):= λ{K}=>id rfl
 rw[Ba (cs:=B8) rfl,←s1,←e1,GN,Ca (by omega) (by omega),b2,b0]
 have z0:IM 0:=A2g (by decide) (by decide)
 refine A08 (n:=n) (y:=none) (l:=[]) hL w1 z0 z0 (A2g (by omega) (by omega)) z0 z0 z0 z0 z0 z0 z0 z0 z0 (λH' _=>⟨false,E1⟩) trivial (.inl (.inr ⟨rfl,rfl⟩)) (by decide) (by simp) ?_
 rw[hc]
 intro v H' sv nv w' kp fr
 refine A63 w' (kp _ _ l1) (Sj c) (Wu c (B3.one sv)) λH2 k2=> ?_
 have hz:∀s,Bh v s→s≠z:= λs hs=>by have:=fr s hs;have:=w1.lt l1;omega
 obtain⟨q,hq⟩:=A47 (D:=depth-2) (sv.kp λs q hs hl=>k2 s q (hz s hs) hl) nv
 exact hK _ _ ⟨q,OH (D:=depth-1) hq⟩
theorem A8D (hL:40000<L) {k:Int} (h1:1≤k) (h2:k≤9) {c:Cd} {l:List (List UInt8)} (hl2:l.length=2) (h32:∀s∈l,s.length=32) (hc:cdM 1 0 (9+k-1) 0 0 0 3 3 3 0 0 0 none l=c):CT (rt (L+20) (n+45)) EB [I k,FQ l] (.agg c.cs):=by
 intro K hK
 rw[SE]
 unfold J5 Aq
 obtain⟨H1,z,e1,s1,l1,w1,k1⟩:=push Fw (.cells true Ak B8) (by simp)
 have b0:∀{K:AV→Am},Bg Bi [(0,1,(AV.v (.int .i64 3))),(1,1,(AV.v (.int .i64 3))),(2,1,(AV.v (.int .i64 3))),(3,1,(AV.v (.int .i64 0))),(4,1,(AV.v (.int .i64 0))),(5,1,(AV.v (.int .i64 0)))] K=K (.agg [I 3,I 3,I 3,I 0,I 0,I 0]):= λ{K}=>id rfl
 have b2:∀{K:AV→Am},Bg Bi [(0,1,(AV.v (.int .i64 1))),(1,1,(AV.v (.int .i64 0))),(2,1,I (9+k-1)),(3,1,(AV.v (.int .i64 0))),(4,1,(AV.v (.int .i64 0))),(5,1,(AV.v (.int .i64 0)))] K=K (.agg [I 1,I 0,I (9+k-1),I 0,I 0,I 0]):= λ{K}=>id rfl
 have sub:∀{K:AV→Am},Go.Abs.Aj Ab .sub (I ((2:Nat):Int)) (.v (.int .i64 1)) K=K (I 1):= λ{K}=>by kernel_rfl
 have mul:∀{K:AV→Am},Go.Abs.Aj Ab .mul (.v (.int .i64 9)) (I 1) K=K (I 9):= λ{K}=>by kernel_rfl
 rw[Ba (cs:=B8) rfl,←s1,←e1,(Gp l).len,hl2,sub,mul,Co,Ca (by omega) (by omega),GN,Ca (by omega) (by omega),b2,b0]
 have z0:IM 0:=A2g (by decide) (by decide)
 have z3:IM 3:=A2g (by decide) (by decide)
 refine A08 (n:=n) (y:=none) (l:=l) hL w1 (A2g (by decide) (by decide)) z0 (A2g (by omega) (by omega)) z0 z0 z0 z3 z3 z3 z0 z0 z0 (λH' _=>⟨false,E1⟩) trivial (.inl (Gp l)) (by omega) h32 ?_
 rw[hc]
 intro v H' sv nv w' kp fr
 refine A63 w' (kp _ _ l1) (Sj c) (Wu c (B3.one sv)) λH2 k2=> ?_
 have hz:∀s,Bh v s→s≠z:= λs hs=>by have:=fr s hs;have:=w1.lt l1;omega
 obtain⟨q,hq⟩:=A47 (D:=depth-2) (sv.kp λs q hs hl=>k2 s q (hz s hs) hl) nv
 exact hK _ _ ⟨q,OH (D:=depth-1) hq⟩
end
def gs3:List Cd:=[IV,TL,scE]
def B2Y:AV:= .list 3 (IV.cs++(TL.cs++scE.cs))
theorem C15:GOk gs3:=by
 refine⟨?_,?_,?_,by decide⟩
 ·intro c hc
  simp only[gs3,XQ,List.not_mem_nil,or_false] at hc
  rcases hc with rfl|rfl|rfl
  ·exact A3r
  ·exact A3q
  ·exact C02
 ·intro c hc
  simp only[gs3,XQ,List.not_mem_nil,or_false] at hc
  rcases hc with rfl|rfl|rfl<;>(show([]:List (List UInt8)).Nodup;decide)
 ·show[IV.id,TL.id,scE.id].Nodup
  rw[UH,UG,B1Y];decide
theorem A3M:LA gs3 B2Y:= .inl (by
 show AV.list 3 _=AV.list 3 (gs3.flatMap Cd.cs)
 simp[gs3])
theorem of3 (hL:40000<L):∀H K,Ah (rt (L+20) (n+64)) E7 [B2Y] H K=K (.tup [.imap [(.string ⟨⟨lA⟩⟩,.agg IV.cs),(.string ⟨⟨lB⟩⟩,.agg TL.cs),(.string ⟨⟨lE⟩⟩,.agg scE.cs)],Bo true]):=by
 intro H K
 rw[IN (B89 (n:=n) C15 hL A3M) (Ay (A3M.fx H) Bl)]
 have e:gV gs3= .imap [(.string ⟨⟨lA⟩⟩,.agg IV.cs),(.string ⟨⟨lB⟩⟩,.agg TL.cs),(.string ⟨⟨lE⟩⟩,.agg scE.cs)]:=by
  have:gE gs3=[(lA,IV),(lB,TL),(lE,scE)]:=by simp[gE,gs3,UH,UG,B1Y]
  rw[gV,this];rfl
 rw[e]
def B2Z:AV:= .list 2 (IV.cs++IV.cs)
theorem A3N:LA [IV,IV] B2Z:= .inl (by
 show AV.list 2 _=AV.list 2 ([IV,IV].flatMap Cd.cs)
 simp)
theorem of2 (hL:40000<L):CT (rt (L+20) (n+64)) E7 [B2Z] (.tup [.imap [],Bo false]):=by
 intro K hK
 have ha:=A3N
 rw[VL]
 unfold RK Aq DW Cz
 have em:∀(H:Hp) (K:KV),Nf Ac H K=K (.mp (A7 H)) ((A7 H,.map false [] none)::H):= λH K=>by
  show Ij H (λs=>K (.mp s) ((s,.map false [] (A3I Ac.d))::H))=_
  rw[Cg];rfl
 have hid:=B40 (L:=L) (n:=n) hL A3r (show([]:List (List UInt8)).Nodup by decide)
 have ek:∀(F:Value→Am),NL (S IV.id) F=F (SV IV.id):= λF=>id rfl
 have q1:∀{K},Go.Abs.Aj Ad .eql (S IV.id) (S []) K=K (Bo false):= λ{K}=>by rw[Kz,decide_eq_false (XD _)]
 rw[em]
 simp only[Cm]
 have hl:=A0 (H:=[]) (x:= .map false [] none) (by simp)
 have wf:=BP (x:= .map false [] none) Fw
 generalize ((A7 [],Row.map false [] none)::([]:Hp))=H0 at hl wf
 generalize A7 []=r at hl
 have e0:(AV.v (.int .i64 0))=I ((0:Nat):Int):=rfl
 rw[ha.len,e0]
 show MT (L+20) (rt (L+20) (n+63)) K _ ((L+18)+1+1) _ _ _ _ _ H0=_
 rw[Qg]
 unfold MU Bu Aq DW Cz
 have i0:([IV,IV]:List Cd)[0]=IV:=rfl
 have i1:([IV,IV]:List Cd)[1]=IV:=rfl
 have a0:= λK=>ha.ia (K:=K) (i:=0) (by decide)
 have a1:= λK=>ha.ia (K:=K) (i:=1) (by decide)
 rw[i0] at a0
 rw[i1] at a1
 obtain⟨H1,e1,hc1,w1,k1⟩:=DZ (e:=Ak) (zs:=B8) (vs:=IV.cs) wf Cc
 rw[FR (by decide),Do,a0,A17,Ba (cs:=B8) rfl,B0 (cs:=B8) (vs:=IV.cs) (A0 (by simp)) Cc rfl J9,←e1,Bf rfl Cc.symm hc1,AZ hid (XX H1)]
 have hl1:=(k1 _ _ hl).1
 rw[ek,T6 (f:=cA') (b:=([]:List (List UInt8×Cd))) (λK=>TU hl1)]
 have fn:Ml ([]:List (List UInt8×Cd)) IV.id=none:=rfl
 rw[fn]
 simp only[]
 obtain⟨H2,e2,hc2,w2,k2⟩:=DZ (e:=Ak) (zs:=B8) (vs:=B8) w1 rfl
 rw[CJ,CI,Ba (cs:=B8) rfl]
 rw[show(Ac.zero:AV)= .agg B8 from rfl,B0 (cs:=B8) (vs:=B8) (A0 (by simp)) rfl rfl rfl,←e2]
 have hl2:=(k2 _ _ hl1).1
 have hc3:=(k2 _ _ hc1).1
 simp only[gT,BN,q1,QC]
 have hl2':Aw H2 r=some (.map false (Uo cA' ([]:List (List UInt8×Cd))) none):=hl2
 rw[BC,Bf rfl Cc.symm hc3,ek,Wo (f:=cA') (v:=IV) hl2',DH (by decide)]
 have hl3:Aw (upd H2 r (.map false (Uo cA' (K4 ([]:List (List UInt8×Cd)) IV.id IV)) none)) r=some (.map false (Uo cA' (K4 ([]:List (List UInt8×Cd)) IV.id IV)) none):=(FJ hl2').trans rfl
 have w3:=C7 (r:=r) (y:= .map false (Uo cA' (K4 ([]:List (List UInt8×Cd)) IV.id IV)) none) w2
 generalize upd H2 r (.map false (Uo cA' (K4 ([]:List (List UInt8×Cd)) IV.id IV)) none)=H3 at hl3 w3
 rw[Qg]
 unfold MU Bu Aq DW Cz
 obtain⟨H4,e4,hc4,w4,k4⟩:=DZ (e:=Ak) (zs:=B8) (vs:=IV.cs) w3 Cc
 rw[FR (by decide),Do,a1,A17,Ba (cs:=B8) rfl,B0 (cs:=B8) (vs:=IV.cs) (A0 (by simp)) Cc rfl J9,←e4,Bf rfl Cc.symm hc4,AZ hid (XX H4)]
 have hl4:=(k4 _ _ hl3).1
 have fn2:Ml (K4 ([]:List (List UInt8×Cd)) IV.id IV) IV.id=some IV:=by rw[Hv,if_pos rfl]
 rw[ek,T6 (f:=cA') (b:=K4 ([]:List (List UInt8×Cd)) IV.id IV) (λK=>TU hl4),fn2]
 simp only[]
 obtain⟨H5,e5,hc5,w5,k5⟩:=DZ (e:=Ak) (zs:=B8) (vs:=IV.cs) w4 Cc
 rw[CJ,CI,Ba (cs:=B8) rfl,B0 (cs:=B8) (vs:=IV.cs) (A0 (by simp)) Cc rfl J9,←e5]
 simp only[gFT,BN,Un]
 rw[Do,em]
 refine hK _ _ ⟨true,UW (D:=depth-1) (q:=true) (Ay (B7E (D:=depth-5) (es:=[]) (A0 (by simp))) (Ay (q:=false) E1 Bl))⟩
theorem B23 (hL:40000<L):RT (rt (L+20) (n+65)) Hd [B2Z] (Bo false):=by
 unfold RT
 rw[Ss];unfold MF
 rw[IN (of2 (n:=n) hL) (Ay (A3N.fx []) Bl)];kernel_rfl
theorem C05:RT (rt (L+20) (n+65)) Ks [.agg V3.cs,.agg V3.cs] (Bo true):=by unfold RT;kernel_rfl
theorem C2F:RT (rt (L+20) (n+2)) BS [FQ [lM],FQ [lM]] (Bo true):=by unfold RT;kernel_rfl
theorem C2E:RT (rt (L+20) (n+2)) BS [FQ [lD],FQ [lD]] (Bo true):=by unfold RT;kernel_rfl
theorem C2D:RT (rt (L+20) (n+2)) BS [FQ [lB,lA],FQ [lB,lA]] (Bo true):=by unfold RT;kernel_rfl
theorem C2C:RT (rt (L+20) (n+2)) BS [FQ [lB,lA,lC,lD],FQ [lB,lA,lC,lD]] (Bo true):=by unfold RT;kernel_rfl
end
section
variable {L n:Nat}
theorem B5s (hL:40000<L):RT (rt (L+20) (n+65)) MK [B2Y] (.list 1 [S lE,S lB]):=by
 unfold RT
 rw[YJ];unfold Qb Aq
 rw[of3 hL];kernel_rfl
end
end Go.Abs
end
