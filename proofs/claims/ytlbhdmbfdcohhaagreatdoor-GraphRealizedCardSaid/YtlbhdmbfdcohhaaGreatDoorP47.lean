import Derived.Test.YtlbhdmbfdcohhaaGreatDoorP45
import Derived.Test.YtlbhdmbfdcohhaaGreatDoorP46
set_option linter.all false
set_option maxHeartbeats 100000000
noncomputable section
namespace Go.Abs
open Go.RowKit Go.Proofs
set_option maxRecDepth 100000
section
variable {L n:Nat}
def Cd.csP (c:Cd) (P:AV):List AV:=match c with
 | .re b u=>Dy 1 b.m (uu u) (qn b.c) (qd b.c) (EY b.ts) (qn b.r) (qd b.r) P 0 AP AP u0 r0 0
 | .co b p _ none=>Dy 2 b.m (uu p.out) (qn b.c) (qd b.c) (EY b.ts) (qn b.r) (qd b.r) P p.id (BA p.ks) (BQ p.xs) (uu p.out) r0 0
 | .co b p _ (some (k,vd))=>Dy 3 b.m (uu p.out) (qn b.c) (qd b.c) (EY b.ts) (qn b.r) (qd b.r) P p.id (BA p.ks) (BQ p.xs) (uu p.out) (rr k) vd
theorem C1w (c:Cd):c.csP (FQ c.ps)=c.cs:=by
 match c with
 | .re b u=>rfl
 | .co b p ps none=>rfl
 | .co b p ps (some (k,vd))=>rfl
def cbM (x1 x2 x3 x4 x5:Int) (fs:List Int):CB:=⟨⟨1+pk x1 3,1+pk x2 9,1+pk x3 4,pk x4 50,pk x5 30⟩,pk (x3.tdiv 4) 161-80,pk (x4.tdiv 50) 9,IS fs 6⟩
def cdM (x0 x1 x2 x3 x4 x5 f0 f1 f2 f3 f4 f5:Int) (y:Y4) (l:List (List UInt8)):Cd:=
 if pk x0 3=0 then .re (cbM x1 x2 x3 x4 x5 [f0,f1,f2,f3,f4,f5]) (pk (x5.tdiv 30) 7).toNat
 else .co (cbM x1 x2 x3 x4 x5 [f0,f1,f2,f3,f4,f5]) (Za [f0,f1,f2] (x2.tdiv 9) y) (psM x1 l (Za [f0,f1,f2] (x2.tdiv 9) y).ks.length)
  (if pk x0 3=1 then none else some (1+(pk (x0.tdiv 3) 3).toNat,1+pk (x0.tdiv 9) 3))
theorem A1f {x0 x1 x2 x3 x4 x5 f0 f1 f2 f3 f4 f5:Int} {y:Y4} {l:List (List UInt8)} (h32:∀s∈l,s.length=32):(cdM x0 x1 x2 x3 x4 x5 f0 f1 f2 f3 f4 f5 y l).Ok:=by
 have p1:=DI (c:=x1) (n:=3) (by decide)
 have p2:=DI (c:=x2) (n:=9) (by decide)
 have p3:=DI (c:=x3) (n:=4) (by decide)
 have p4:=DI (c:=x4) (n:=50) (by decide)
 have p5:=DI (c:=x5) (n:=30) (by decide)
 have p6:=DI (c:=x3.tdiv 4) (n:=161) (by decide)
 have p7:=DI (c:=x4.tdiv 50) (n:=9) (by decide)
 have p8:=DI (c:=x5.tdiv 30) (n:=7) (by decide)
 have p9:=DI (c:=x0.tdiv 3) (n:=3) (by decide)
 have pa:=DI (c:=x0.tdiv 9) (n:=3) (by decide)
 have hb:(cbM x1 x2 x3 x4 x5 [f0,f1,f2,f3,f4,f5]).Ok:=by
  refine⟨?_,?_,?_,?_,?_,(A8A _ 6 (by omega)).1⟩
  ·refine⟨?_,?_,?_,?_,?_,?_,?_,?_,?_,?_⟩
   all_goals (simp only[cbM];omega)
  all_goals (simp only[cbM];omega)
 unfold cdM
 by_cases h:pk x0 3=0
 ·rw[if_pos h]
  exact⟨hb,by omega⟩
 ·rw[if_neg h]
  refine⟨hb,A7i rfl,V8 _,C0z h32 _,?_⟩
  by_cases h1:pk x0 3=1
  ·rw[if_pos h1];exact trivial
  ·rw[if_neg h1]
   exact⟨by omega,by omega,by omega⟩
theorem okI {z:Int} {H:Hp} {K:Am}:QG (AU (some (I z,H)) (I z)) K=K:=QF rfl
theorem C51 {k:IntKind} {z:Int}:AV.one (.v (.int k z))=true:=rfl
theorem C4Z {l:List UInt8}:AV.one (S l)=true:=rfl
theorem C50:AV.one (.v (.slice none 0 0))=true:=rfl
theorem Rn (ts:YT):AV.one (EY ts)=true:=by cases ts<;>rfl
section
variable {K:KV} {x:Am} {H0 H H':Hp} {b1 b2 r z:Nat} {X F:List AV} {ps l:List (List UInt8)} {v a2 a3:AV} {cR:AV→List AV} {y:Y4} {x0 x1 x2 x3 x4 x5 f0 f1 f2 f3 f4 f5:Int}
theorem NW {kd:Int} {m:ND} {u o:UD} {ca cb ra rb:List UInt8} {T P ins nds:AV} {id vd:Int} {rd:RD} (h1:AV.one T=true) (h2:AV.one P=true) (h3:AV.one ins=true) (h4:AV.one nds=true):(Dy kd m u ca cb T ra rb P id ins nds o rd vd).all AV.one=true:=by
 simp only[l2j,List.all_nil,C51,C4Z,C50,h1,h2,h3,h4,l16,l1b]
theorem A5m (h:Mc H0 b1 b2 r z X F H) {cs:List AV} (hr:Aw H r=some (.cells true Ak cs)) (h1:cs.length=68) (h2:cs.all AV.one=true) (hK:∀H',Wf H'→(∀s q,s≠z→Aw H s=some q→Aw H' s=some q)→K (.agg cs) H'=x):
 (Ap Ac (.ptr r 0 0) H λv86=>
  Cb Ac (.ptr z 0 0) v86 H λH87=>
  Ap Ac (.ptr z 0 0) H87 λv89=>
  K v89 H87)=x:=by
 obtain⟨c0,c1,c2⟩:=h.hz
 rw[Bf (cs:=cs) rfl (by rw[h1];rfl) hr,B0 c2 (by rw[c1,h1]) (by rw[c1];rfl) h2,Bf (cs:=cs) rfl (by rw[h1];rfl) (A8 c2)]
 exact hK _ (C7 h.wf) λs q hs hl=>by rw[As hs];exact hl
theorem push {H:Hp} (w:Wf H) (x:Row) (hx:x≠.gone):∃H' s,H'=(s,x)::H∧s=A7 H∧Aw H' s=some x∧Wf H'∧∀t q,Aw H t=some q→Aw H' t=some q∧t≠s:=
 ⟨_,_,rfl,rfl,A0 hx,BP w,λt q h=>⟨Bn (w.lt h) h,by have:=w.lt h;omega⟩⟩
theorem C12 {b:Nat} {K:AV→Am}:B1 Bi (.ptr b 0 0) (.v (.int .i64 0)) K=K (.ptr b 0 0):=Dx (z:=0) 0 rfl rfl (by decide)
theorem C5l {b:Nat} {K:AV→Am}:B1 Bi (.ptr b 0 0) (.v (.int .i64 1)) K=K (.ptr b 1 0):=Dx (z:=1) 1 rfl rfl (by decide)
theorem C5k {b:Nat} {K:AV→Am}:B1 Bi (.ptr b 0 0) (.v (.int .i64 2)) K=K (.ptr b 2 0):=Dx (z:=2) 2 rfl rfl (by decide)
theorem C5j {b:Nat} {K:AV→Am}:B1 Bi (.ptr b 0 0) (.v (.int .i64 3)) K=K (.ptr b 3 0):=Dx (z:=3) 3 rfl rfl (by decide)
theorem C5i {b:Nat} {K:AV→Am}:B1 Bi (.ptr b 0 0) (.v (.int .i64 4)) K=K (.ptr b 4 0):=Dx (z:=4) 4 rfl rfl (by decide)
theorem C5h {b:Nat} {K:AV→Am}:B1 Bi (.ptr b 0 0) (.v (.int .i64 5)) K=K (.ptr b 5 0):=Dx (z:=5) 5 rfl rfl (by decide)
theorem rd6 {H:Hp} {b:Nat} {a0 a1 a2 a3 a4 a5:Int} (h:Aw H b=some (.cells true Gx [I a0,I a1,I a2,I a3,I a4,I a5])):
 (∀{K},Ap Ab (.ptr b 0 0) H K=K (I a0))∧(∀{K},Ap Ab (.ptr b 1 0) H K=K (I a1))∧(∀{K},Ap Ab (.ptr b 2 0) H K=K (I a2))∧(∀{K},Ap Ab (.ptr b 3 0) H K=K (I a3))∧(∀{K},Ap Ab (.ptr b 4 0) H K=K (I a4))∧(∀{K},Ap Ab (.ptr b 5 0) H K=K (I a5)):=
 ⟨λ{K}=>AW (p:=0) rfl h (by simp),λ{K}=>AW (p:=1) rfl h (by simp),λ{K}=>AW (p:=2) rfl h (by simp),λ{K}=>AW (p:=3) rfl h (by simp),λ{K}=>AW (p:=4) rfl h (by simp),λ{K}=>AW (p:=5) rfl h (by simp)⟩
theorem B1S (mc:Mc H0 b1 b2 r z X F H) {cs cs' vs:List AV} (hr:Aw H r=some (.cells true Ak cs)) {i:TI} {p:Nat} (hcs:cs.length=68) (hp:p+vs.length≤68) (hz:i.size=vs.length) (h1:vs.all AV.one=true) (es:splice cs p vs=cs'):
 ∃H',(∀K:Hp→Am,Cb i (.ptr r p 0) (.agg vs) H K=K H')∧Mc H0 b1 b2 r z X F H'∧Aw H' r=some (.cells true Ak cs')∧(∀s q,s≠r→Aw H s=some q→Aw H' s=some q):=
 ⟨_,λK=>X6 hr (by rw[hcs];exact hp) hz h1,mc.upd _,by rw[es];exact A8 hr,λs q hs hl=>by rw[As hs];exact hl⟩
theorem A08 (hL:40000<L) (w:Wf H0) (i0:IM x0) (i1:IM x1) (i2:IM x2) (i3:IM x3) (i4:IM x4) (i5:IM x5) (j0:IM f0) (j1:IM f1) (j2:IM f2) (j3:IM f3) (j4:IM f4) (j5:IM f5)
 (hy:YA H0 y a2) (hyI:yI y) (hl:PL H0 l a3) (hb:l.length<1000) (h32:∀s∈l,s.length=32)
 (hK:∀v H',B3 H' AL 1 v (cdM x0 x1 x2 x3 x4 x5 f0 f1 f2 f3 f4 f5 y l).ps.length (BB (cdM x0 x1 x2 x3 x4 x5 f0 f1 f2 f3 f4 f5 y l).ps)→((cdM x0 x1 x2 x3 x4 x5 f0 f1 f2 f3 f4 f5 y l).ps=[]→v=AP)→Wf H'→(∀s q,Aw H0 s=some q→Aw H' s=some q)→(∀s,Bh v s→A7 H0≤s)→
  K (.agg ((cdM x0 x1 x2 x3 x4 x5 f0 f1 f2 f3 f4 f5 y l).csP v)) H'=x):
 (rt (L+20) (n+44)).call Ln [.agg [I x0,I x1,I x2,I x3,I x4,I x5],.agg [I f0,I f1,I f2,I f3,I f4,I f5],a2,a3] H0 K=x:=by
 rw[A0j]
 unfold R7 Aq DW
 obtain⟨H1,b1,e1,s1,l1,w1,k1⟩:=push w (.cells true Gx [I x0,I x1,I x2,I x3,I x4,I x5]) (by simp)
 rw[EG (cs:=[I x0,I x1,I x2,I x3,I x4,I x5]) rfl,←s1,←e1]
 obtain⟨H2,b2,e2,s2,l2,w2,k2⟩:=push w1 (.cells true Gx [I f0,I f1,I f2,I f3,I f4,I f5]) (by simp)
 rw[EG (cs:=[I f0,I f1,I f2,I f3,I f4,I f5]) rfl,←s2,←e2]
 obtain⟨H3,z,e3,s3,l3,w3,k3⟩:=push w2 (.cells true Ak B8) (by simp)
 rw[Ba (cs:=B8) rfl,←s3,←e3]
 obtain⟨H4,r,e4,s4,l4,w4,k4⟩:=push w3 (.cells true Ak B8) (by simp)
 have m1:=k2 _ _ l1
 have m2:=k3 _ _ m1.1
 have m3:=k3 _ _ l2
 have q1:=k4 _ _ m2.1
 have q2:=k4 _ _ m3.1
 have q3:=k4 _ _ l3
 have g1:A7 H0≤b1:=by omega
 have g2:A7 H0≤b2:=by have:=w1.lt l1;omega
 have g3:A7 H0≤z:=by have:=w2.lt l2;omega
 have g4:A7 H0≤r:=by have:=w3.lt l3;omega
 have kp0:∀s q,Aw H0 s=some q→Aw H4 s=some q:= λs q hs=>(k4 _ _ (k3 _ _ (k2 _ _ (k1 _ _ hs).1).1).1).1
 clear e1 e2 e3 s1 s2 s3 k1 k2 k3 m1 m3 l1 l2 w1 w2
 have p0:=DI (c:=x0) (n:=3) (by decide)
 have p1:=DI (c:=x1) (n:=3) (by decide)
 have p2:=DI (c:=x2) (n:=9) (by decide)
 have p3:=DI (c:=x3) (n:=4) (by decide)
 have c0:∀{H K},Ah (rt (L+20) (n+43)) Bw [I x0,.v (.int .i64 3)] H K=K (I (pk x0 3)):= λ{H K}=>JI (n:=n+42) i0 (by decide) (by decide) H K
 have c1:∀{H K},Ah (rt (L+20) (n+43)) Bw [I x1,.v (.int .i64 3)] H K=K (I (pk x1 3)):= λ{H K}=>JI (n:=n+42) i1 (by decide) (by decide) H K
 have c2:∀{H K},Ah (rt (L+20) (n+43)) Bw [I x2,.v (.int .i64 9)] H K=K (I (pk x2 9)):= λ{H K}=>JI (n:=n+42) i2 (by decide) (by decide) H K
 have c3:∀{H K},Ah (rt (L+20) (n+43)) Bw [I x3,.v (.int .i64 4)] H K=K (I (pk x3 4)):= λ{H K}=>JI (n:=n+42) i3 (by decide) (by decide) H K
 have c4:∀{H K},Ah (rt (L+20) (n+43)) Bw [I x4,.v (.int .i64 50)] H K=K (I (pk x4 50)):= λ{H K}=>JI (n:=n+42) i4 (by decide) (by decide) H K
 have c5:∀{H K},Ah (rt (L+20) (n+43)) Bw [I x5,.v (.int .i64 30)] H K=K (I (pk x5 30)):= λ{H K}=>JI (n:=n+42) i5 (by decide) (by decide) H K
 have a0:∀{K:AV→Am},Go.Abs.Aj Ab .add (.v (.int .i64 1)) (I (pk x0 3)) K=K (I (1+pk x0 3)):= λ{K}=>by rw[Co,Ca (by omega) (by omega)]
 have a1:∀{K:AV→Am},Go.Abs.Aj Ab .add (.v (.int .i64 1)) (I (pk x1 3)) K=K (I (1+pk x1 3)):= λ{K}=>by rw[Co,Ca (by omega) (by omega)]
 have a2':∀{K:AV→Am},Go.Abs.Aj Ab .add (.v (.int .i64 1)) (I (pk x2 9)) K=K (I (1+pk x2 9)):= λ{K}=>by rw[Co,Ca (by omega) (by omega)]
 have a3':∀{K:AV→Am},Go.Abs.Aj Ab .add (.v (.int .i64 1)) (I (pk x3 4)) K=K (I (1+pk x3 4)):= λ{K}=>by rw[Co,Ca (by omega) (by omega)]
 obtain⟨d0,d1,d2,d3,d4,d5⟩:=rd6 m2.1
 simp only[C12,C5l,C5k,C5j,C5i,C5h,d0,d1,d2,d3,d4,d5,c0,c1,c2,c3,c4,c5,a0,a1,a2',a3',BK]
 clear d0 d1 d2 d3 d4 d5
 have bd:∀{a b c d e f:Int} {K:AV→Am},Bg Ac [(0,1,I a),(1,1,I b),(2,1,I c),(3,1,I d),(4,1,I e),(5,1,I f)] K=K (.agg (Dy a ⟨b,c,d,e,f⟩ u0 [] [] AP [] [] AP 0 AP AP u0 r0 0)):= λ{a b c d e f K}=>_root_.id rfl
 rw[bd,BK,Ba (cs:=B8) rfl,BN,←s4,←e4,B0 (vs:=Dy (1+pk x0 3) ⟨1+pk x1 3,1+pk x2 9,1+pk x3 4,pk x4 50,pk x5 30⟩ u0 [] [] AP [] [] AP 0 AP AP u0 r0 0) l4 rfl rfl rfl,BN]
 clear e4 s4
 obtain⟨d0,d1,d2,d3,d4,d5⟩:=rd6 q1.1
 simp only[d0,d1,d2,d3,d4,d5,c0,c1,c2,c3,c4,c5,okI]
 clear d0 d1 d2 d3 d4 d5 c0 c1 c2 c3 c4 c5 a0 a1 a2' a3' bd
 have mc:Mc H0 b1 b2 r z [I x0,I x1,I x2,I x3,I x4,I x5] [I f0,I f1,I f2,I f3,I f4,I f5] H4:=⟨q1.1,q2.1,⟨_,rfl,q3.1⟩,w4,q1.2,q2.2,q3.2,g1,g2,g4,g3,w,kp0⟩
 have mc5:=mc.upd (.cells true Ak (Dy (1+pk x0 3) ⟨1+pk x1 3,1+pk x2 9,1+pk x3 4,pk x4 50,pk x5 30⟩ u0 [] [] AP [] [] AP 0 AP AP u0 r0 0))
 have r5:=A8 (q:=true) (e:=Ak) (cs:=Dy (1+pk x0 3) ⟨1+pk x1 3,1+pk x2 9,1+pk x3 4,pk x4 50,pk x5 30⟩ u0 [] [] AP [] [] AP 0 AP AP u0 r0 0) l4
 generalize Go.Abs.upd H4 r (.cells true Ak (Dy (1+pk x0 3) ⟨1+pk x1 3,1+pk x2 9,1+pk x3 4,pk x4 50,pk x5 30⟩ u0 [] [] AP [] [] AP 0 AP AP u0 r0 0))=H5 at mc5 r5
 clear mc kp0 q1 q2 q3 k4 l4 w4 l3 w3 m2 g1 g2 g3 g4 H4 H3 H2 H1
 have m08:∀{H K},Ah (rt (L+20) (n+43)) NO [I (x3.tdiv 4),I (x4.tdiv 50),.agg [I f0,I f1,I f2,I f3,I f4,I f5]] H K=K (.agg [S (qn (pk (x3.tdiv 4) 161-80)),S (qd (pk (x3.tdiv 4) 161-80)),EY (IS [f0,f1,f2,f3,f4,f5] 6),S (qn (pk (x4.tdiv 50) 9)),S (qd (pk (x4.tdiv 50) 9))]):= λ{H K}=>
  AZ (B2x (n:=n+2) (xs:=[f0,f1,f2,f3,f4,f5]) (by omega) (K7 i3 (by decide)) (K7 i4 (by decide)) rfl (by simp[j0,j1,j2,j3,j4,j5]))
   (Ay (q:=false) E1 (Ay (q:=false) E1 (Ay (OH (D:=depth-1) (J6 (λz:Int=>Value.int .i64 z) [f0,f1,f2,f3,f4,f5])) Bl)))
 have lF:∀{K},Ap Bi (.ptr b2 0 0) H5 K=K (.agg [I f0,I f1,I f2,I f3,I f4,I f5]):= λ{K}=>Bf rfl rfl mc5.h2
 obtain⟨d0,d1,d2,d3,d4,d5⟩:=rd6 mc5.h1
 obtain⟨H6,st6,mc6,r6, -⟩:=B1S (i:=DD) (p:=26) (vs:=[S (qn (pk (x3.tdiv 4) 161-80)),S (qd (pk (x3.tdiv 4) 161-80)),EY (IS [f0,f1,f2,f3,f4,f5] 6),S (qn (pk (x4.tdiv 50) 9)),S (qd (pk (x4.tdiv 50) 9))]) mc5 r5 rfl (by show 26+5≤68;decide) rfl (by show(true&&(true&&(AV.one (EY (IS [f0,f1,f2,f3,f4,f5] 6))&&(true&&(true&&true)))))=true;rw[Rn];rfl)
  (cs':=Dy (1+pk x0 3) ⟨1+pk x1 3,1+pk x2 9,1+pk x3 4,pk x4 50,pk x5 30⟩ u0 (qn (pk (x3.tdiv 4) 161-80)) (qd (pk (x3.tdiv 4) 161-80)) (EY (IS [f0,f1,f2,f3,f4,f5] 6)) (qn (pk (x4.tdiv 50) 9)) (qd (pk (x4.tdiv 50) 9)) AP 0 AP AP u0 r0 0) rfl
 rw[d3,XN i3 (by decide),d4,XN i4 (by decide),lF,m08,Ux,st6]
 clear d0 d1 d2 d3 d4 d5 lF st6 mc5 r5 m08
 have hun:∀{H K},Ah (rt (L+20) (n+43)) E3 [I (x5.tdiv 30)] H K=K (.agg (BW (uu (pk (x5.tdiv 30) 7).toNat))):= λ{H K}=>A79 (n:=n+1) (K7 i5 (by decide)) H K
 obtain⟨d0,d1,d2,d3,d4,d5⟩:=rd6 mc6.h1
 obtain⟨H7,st7,mc7,r7, -⟩:=B1S (i:=Ag) (p:=6) (vs:=BW (uu (pk (x5.tdiv 30) 7).toNat)) mc6 r6 rfl (by show 6+20≤68;decide) rfl rfl
  (cs':=Dy (1+pk x0 3) ⟨1+pk x1 3,1+pk x2 9,1+pk x3 4,pk x4 50,pk x5 30⟩ (uu (pk (x5.tdiv 30) 7).toNat) (qn (pk (x3.tdiv 4) 161-80)) (qd (pk (x3.tdiv 4) 161-80)) (EY (IS [f0,f1,f2,f3,f4,f5] 6)) (qn (pk (x4.tdiv 50) 9)) (qd (pk (x4.tdiv 50) 9)) AP 0 AP AP u0 r0 0) rfl
 have lk:∀{K},Ap Ab (.ptr r 0 0) H7 K=K (I (1+pk x0 3)):= λ{K}=>AW (p:=0) rfl r7 (show 0<68 by decide)
 rw[d5,XN i5 (by decide),hun,Ux,st7,Ux,lk,CG]
 clear d0 d1 d2 d3 d4 d5 st7 mc6 r6 hun lk
 by_cases h0:pk x0 3=0
 ·have ecd:cdM x0 x1 x2 x3 x4 x5 f0 f1 f2 f3 f4 f5 y l= .re (cbM x1 x2 x3 x4 x5 [f0,f1,f2,f3,f4,f5]) (pk (x5.tdiv 30) 7).toNat:=if_pos h0
  have e1:1+pk x0 3=1:=by omega
  rw[decide_eq_true e1,Do]
  rw[ecd] at hK
  rw[e1] at r7
  refine A5m mc7 r7 rfl (NW (Rn _) rfl rfl rfl) λH' w' kp=> ?_
  exact hK AP H' (.inl ⟨rfl,rfl,rfl⟩) (λ_=>rfl) w' (λs q hs=>kp s q (by have:=mc7.w0.lt hs;have:=mc7.f4;omega) (mc7.kp s q hs)) (λs ⟨_,_,_,h⟩=>by cases h)
 ·have ecd:cdM x0 x1 x2 x3 x4 x5 f0 f1 f2 f3 f4 f5 y l= .co (cbM x1 x2 x3 x4 x5 [f0,f1,f2,f3,f4,f5]) (Za [f0,f1,f2] (x2.tdiv 9) y) (psM x1 l (Za [f0,f1,f2] (x2.tdiv 9) y).ks.length) (if pk x0 3=1 then none else some (1+(pk (x0.tdiv 3) 3).toNat,1+pk (x0.tdiv 9) 3)):=if_neg h0
  rw[ecd] at hK
  clear ecd
  have m09:∀{K},Ah (rt (L+20) (n+43)) NN [.agg [I f0,I f1,I f2],I (x2.tdiv 9),a2,.v (.bool true)] H7 K=K (.agg (Br (Za [f0,f1,f2] (x2.tdiv 9) y).id (BA (Za [f0,f1,f2] (x2.tdiv 9) y).ks) (BQ (Za [f0,f1,f2] (x2.tdiv 9) y).xs) (uu (Za [f0,f1,f2] (x2.tdiv 9) y).out))):= λ{K}=>by
   obtain⟨q,hq⟩:=hy H7 mc7.kp
   exact AZ (B2w (n:=n) (ins:=[f0,f1,f2]) (by omega) rfl (by simp[j0,j1,j2]) (K7 i2 (by decide)) hyI) (Ay (OH (D:=depth-1) (J6 (λz:Int=>Value.int .i64 z) [f0,f1,f2])) (Ay (q:=false) E1 (Ay hq (Ay (q:=false) E1 Bl))))
  have hp:=A7i (ins:=[f0,f1,f2]) (count:=x2.tdiv 9) (y:=y) rfl
  generalize Za [f0,f1,f2] (x2.tdiv 9) y=p at hK m09 hp
  have e1:¬(1+pk x0 3=1):=by omega
  rw[decide_eq_false e1,BC]
  obtain⟨g0,g1,g2, -, -, -⟩:=rd6 mc7.h2
  obtain⟨d0,d1,d2, -, -, -⟩:=rd6 mc7.h1
  have b3:∀{K:AV→Am},Bg Od [(0,1,I f0),(1,1,I f1),(2,1,I f2)] K=K (.agg [I f0,I f1,I f2]):= λ{K}=>_root_.id rfl
  obtain⟨H8,st8,mc8,r8, -⟩:=B1S (i:=A5) (p:=32) (vs:=Br p.id (BA p.ks) (BQ p.xs) (uu p.out)) mc7 r7 rfl (by show 32+23≤68;decide) rfl (A2A rfl rfl)
   (cs':=Dy (1+pk x0 3) ⟨1+pk x1 3,1+pk x2 9,1+pk x3 4,pk x4 50,pk x5 30⟩ (uu (pk (x5.tdiv 30) 7).toNat) (qn (pk (x3.tdiv 4) 161-80)) (qd (pk (x3.tdiv 4) 161-80)) (EY (IS [f0,f1,f2,f3,f4,f5] 6)) (qn (pk (x4.tdiv 50) 9)) (qd (pk (x4.tdiv 50) 9)) AP p.id (BA p.ks) (BQ p.xs) (uu p.out) r0 0) rfl
  have lu:∀{K},Ap Ag (.ptr r 35 0) H8 K=K (.agg (BW (uu p.out))):= λ{K}=>EF (p:=35) rfl r8 (show 55≤68 by decide)
  obtain⟨H9,st9,mc9,r9, -⟩:=B1S (i:=Ag) (p:=6) (vs:=BW (uu p.out)) mc8 r8 rfl (by show 6+20≤68;decide) rfl rfl
   (cs':=Dy (1+pk x0 3) ⟨1+pk x1 3,1+pk x2 9,1+pk x3 4,pk x4 50,pk x5 30⟩ (uu p.out) (qn (pk (x3.tdiv 4) 161-80)) (qd (pk (x3.tdiv 4) 161-80)) (EY (IS [f0,f1,f2,f3,f4,f5] 6)) (qn (pk (x4.tdiv 50) 9)) (qd (pk (x4.tdiv 50) 9)) AP p.id (BA p.ks) (BQ p.xs) (uu p.out) r0 0) rfl
  have f35:∀{K:AV→Am},AH 3 (.ptr r 32 0) K=K (.ptr r 35 0):= λ{K}=>by rw[fA]
  rw[g0,g1,g2,b3,d2,XN i2 (by decide),m09,Ux,st8,Ux,f35,lu,Ux,st9]
  clear g0 g1 g2 d0 d1 d2 b3 st8 mc8 r8 lu st9 f35 m09 mc7 r7
  refine HW λk79 h79=> ?_
  refine HW λk108 h108=> ?_
  have hc:CR (λv=>Dy (1+pk x0 3) ⟨1+pk x1 3,1+pk x2 9,1+pk x3 4,pk x4 50,pk x5 30⟩ (uu p.out) (qn (pk (x3.tdiv 4) 161-80)) (qd (pk (x3.tdiv 4) 161-80)) (EY (IS [f0,f1,f2,f3,f4,f5] 6)) (qn (pk (x4.tdiv 50) 9)) (qd (pk (x4.tdiv 50) 9)) v p.id (BA p.ks) (BQ p.xs) (uu p.out) r0 0) p.ks:=⟨λ_=>rfl,λ_ _=>rfl,λ_=>rfl,λ_=>rfl⟩
  refine C2W (n:=n) (l:=l) hL hc i1 hp.k3 hl hb h32 ?_ (L+20) 0 AP _ _ H9 (by omega) (by have:=hp.k3;omega) ⟨mc9,r9,.inl ⟨rfl,rfl,rfl⟩,λ_=>rfl,λs ⟨_,_,_,h⟩=>by cases h⟩
  intro v H hh
  rw[h108,h79]
  clear h108 h79 mc9 r9
  refine HW λk84 h84=> ?_
  have hk84:∀(cs:List AV) (Hx:Hp),Mc H0 b1 b2 r z [I x0,I x1,I x2,I x3,I x4,I x5] [I f0,I f1,I f2,I f3,I f4,I f5] Hx→Aw Hx r=some (.cells true Ak cs)→cs.length=68→cs.all AV.one=true→cs=(Cd.co (cbM x1 x2 x3 x4 x5 [f0,f1,f2,f3,f4,f5]) p (psM x1 l p.ks.length) (if pk x0 3=1 then none else some (1+(pk (x0.tdiv 3) 3).toNat,1+pk (x0.tdiv 9) 3))).csP v→(∀s q,s≠r→Aw H s=some q→Aw Hx s=some q)→k84 Hx=x:=by
   intro cs Hx mcx rx c1 c2 ecs kx
   rw[h84]
   refine A5m mcx rx c1 c2 λH' w' kp=> ?_
   rw[ecs]
   refine hK v H' ?_ hh.nv w' (λs q hs=>kp s q (by have:=mcx.w0.lt hs;have:=mcx.f4;omega) (mcx.kp s q hs)) (λs hs=>(hh.fr s hs).1)
   exact hh.sv.kp λs q hs hl=>kp s q (hh.fr s hs).2.2.2.2 (kx s q (hh.fr s hs).2.2.2.1 hl)
  clear h84 hK
  have lk:∀{K},Ap Ab (.ptr r 0 0) H K=K (I (1+pk x0 3)):= λ{K}=>AW (p:=0) rfl hh.hr (show 0<68 by decide)
  rw[Ux,lk,CG]
  by_cases h1:pk x0 3=1
  ·have e3:¬(1+pk x0 3=3):=by omega
   rw[decide_eq_false e3,BC]
   rw[if_pos h1] at hk84
   have e2:1+pk x0 3=2:=by omega
   have hr:=hh.hr
   rw[e2] at hr
   exact hk84 _ H hh.mc hr rfl (NW (Rn _) (B3.one hh.sv) rfl rfl) rfl (λs q _ h=>h)
  ·have e3:1+pk x0 3=3:=by omega
   have pv:=DI (c:=x0.tdiv 9) (n:=3) (by decide)
   rw[decide_eq_true e3,Do]
   rw[if_neg h1] at hk84
   have hr:=hh.hr
   rw[e3] at hr
   have hru:∀{H K},Ah (rt (L+20) (n+43)) HZ [I (x0.tdiv 3)] H K=K (.agg (rr (1+(pk (x0.tdiv 3) 3).toNat)).cs):= λ{H K}=>B5S (n:=n+41) (K7 i0 (by decide)) H K
   have hpk:∀{H K},Ah (rt (L+20) (n+43)) Bw [I (x0.tdiv 9),.v (.int .i64 3)] H K=K (I (pk (x0.tdiv 9) 3)):= λ{H K}=>JI (n:=n+42) (K7 i0 (by decide)) (by decide) (by decide) H K
   have ad:∀{K:AV→Am},Go.Abs.Aj Ab .add (.v (.int .i64 1)) (I (pk (x0.tdiv 9) 3)) K=K (I (1+pk (x0.tdiv 9) 3)):= λ{K}=>by rw[Co,Ca (by omega) (by omega)]
   obtain⟨d0, -⟩:=rd6 hh.mc.h1
   obtain⟨HA,stA,mcA,rA,kA⟩:=B1S (i:=Cj) (p:=55) (vs:=(rr (1+(pk (x0.tdiv 3) 3).toNat)).cs) hh.mc hr rfl (by show 55+9≤68;decide) rfl rfl
    (cs':=Dy 3 ⟨1+pk x1 3,1+pk x2 9,1+pk x3 4,pk x4 50,pk x5 30⟩ (uu p.out) (qn (pk (x3.tdiv 4) 161-80)) (qd (pk (x3.tdiv 4) 161-80)) (EY (IS [f0,f1,f2,f3,f4,f5] 6)) (qn (pk (x4.tdiv 50) 9)) (qd (pk (x4.tdiv 50) 9)) v p.id (BA p.ks) (BQ p.xs) (uu p.out) (rr (1+(pk (x0.tdiv 3) 3).toNat)) 0) rfl
   obtain⟨d0', -⟩:=rd6 mcA.h1
   rw[C12,d0,XN i0 (by decide),hru,Ux,stA,C12,d0',XN i0 (by decide),hpk,ad,Ux,E9 rA (show 64<68 by decide) rfl rfl rfl]
   exact hk84 _ _ (mcA.upd _) (A8 rA) rfl (NW (Rn _) (B3.one hh.sv) rfl rfl) rfl (λs q hs h=>by rw[As hs];exact kA s q hs h)
end
end
section
variable {L n:Nat}
theorem B0l {f:AV→(Bool→AV→Am)→Am}:∀(l m:List AV) (K:Bool→List AV→Am),Hf f (l++m) K=Hf f l λq l'=>Hf f m λq' m'=>K (q||q') (l'++m'):=by
 intro l
 induction l with
 |nil=>intro m K;rfl
 |cons a l ih=>
  intro m K
  have e:∀(l:List AV) (K:Bool→List AV→Am),Hf f (a::l) K=f a λq a'=>Hf f l λq' l'=>K (@Bool.rec (λ_=>Bool) q' true q) (a'::l'):= λ_ _=>rfl
  rw[List.cons_append,e,e]
  congr 1
  funext q a'
  rw[ih]
  congr 1
  funext q1 l1
  congr 1
  funext q2 l2
  cases q<;>rfl
theorem A99 {b:Bool} {D:Nat} {l l' m m':List AV} {H:Hp} {q q':Bool} (h:Py b D l l' H q) (k:Py b D m m' H q'):Py b D (l++m) (l'++m') H (q||q'):= λK=>by
 rw[B0l,h,k]
def A5K:AV→Bool
 | .v _=>true
 | .list _ _=>true
 |_=>false
theorem A98 {D:Nat} {H:Hp}:∀l:List AV,l.all A5K=true→Py true D l l H false:=by
 intro l
 induction l with
 |nil=>intro _;exact Bl
 |cons a l ih=>
  intro h
  simp only[l2j,Iv] at h
  have h2:=ih h.2
  cases a with
  |v x=>exact Ay (q:=false) E1 h2
  |list n cs=>exact Ay (q:=false) NM h2
  |_=>cases h.1
theorem A3l (ts:YT):A5K (EY ts)=true:=by cases ts<;>rfl
theorem B0y {k:IntKind} {z:Int}:A5K (.v (.int k z))=true:=rfl
theorem A2K {l:List UInt8}:A5K (S l)=true:=rfl
theorem C1e:A5K (.v (.slice none 0 0))=true:=rfl
theorem C41 {n:Nat} {l:List AV}:A5K (.list n l)=true:=rfl
theorem B0X (c:Cd):∃A B:List AV,(∀P,c.csP P=A++P::B)∧A.all A5K=true∧B.all A5K=true:=by
 match c with
 | .re b u=>
  refine⟨((Cd.re b u).csP AP).take 31,((Cd.re b u).csP AP).drop 32,λ_=>rfl,?_,?_⟩
  ·simp only[Cd.csP,List.take_succ_cons,List.take_zero,l2j,List.all_nil,B0y,A2K,A3l,l1b,l16]
  ·simp only[Cd.csP,List.drop_succ_cons,l1n,l2j,List.all_nil,B0y,A2K,C1e,l1b,l16]
 | .co b p ps none=>
  refine⟨((Cd.co b p ps none).csP AP).take 31,((Cd.co b p ps none).csP AP).drop 32,λ_=>rfl,?_,?_⟩
  ·simp only[Cd.csP,List.take_succ_cons,List.take_zero,l2j,List.all_nil,B0y,A2K,A3l,l1b,l16]
  ·simp only[Cd.csP,List.drop_succ_cons,l1n,l2j,List.all_nil,B0y,A2K,C1e,C41,l1b,l16]
 | .co b p ps (some (k,vd))=>
  refine⟨((Cd.co b p ps (some (k,vd))).csP AP).take 31,((Cd.co b p ps (some (k,vd))).csP AP).drop 32,λ_=>rfl,?_,?_⟩
  ·simp only[Cd.csP,List.take_succ_cons,List.take_zero,l2j,List.all_nil,B0y,A2K,A3l,l1b,l16]
  ·simp only[Cd.csP,List.drop_succ_cons,l1n,l2j,List.all_nil,B0y,A2K,C1e,C41,l1b,l16]
theorem Wu (c:Cd) {P:AV} (h:AV.one P=true):(c.csP P).all AV.one=true:=by
 match c with
 | .re b u=>exact NW (Rn _) h rfl rfl
 | .co b p ps none=>exact NW (Rn _) h rfl rfl
 | .co b p ps (some (k,vd))=>exact NW (Rn _) h rfl rfl
theorem Sj (c:Cd) {P:AV}:(c.csP P).length=68:=by
 match c with
 | .re b u=>rfl
 | .co b p ps none=>rfl
 | .co b p ps (some (k,vd))=>rfl
section
variable {H H':Hp} {v:AV} {l:List (List UInt8)} {D:Nat} {b:Bool}
theorem A9a (h:B3 H AL 1 v l.length (BB l)) (h0:l=[]→v=AP):∃q,Fx b (D+1) v (FQ l) H q:=by
 rcases h with⟨rfl,h2,_⟩|⟨r,q,rfl,h2,h3⟩
 ·cases l with
  |nil=>exact⟨false,E1⟩
  |cons a l=>simp at h2
 ·cases l with
  |nil=>have:=h0 rfl;cases this
  |cons a l=>
   refine⟨true,?_⟩
   show Fx b (D+1) _ (.list (a::l).length (BB (a::l))) H true
   exact VZ (q':=false) h2 h3 (J6 (λs=>Value.string ⟨⟨s⟩⟩) (a::l))
theorem A47 {c:Cd} (h:B3 H AL 1 v c.ps.length (BB c.ps)) (h0:c.ps=[]→v=AP):∃q,Py true (D+1) (c.csP v) c.cs H q:=by
 obtain⟨q,hq⟩:=A9a (D:=D) (b:=true) h h0
 obtain⟨A,B,e,f1,f2⟩:=B0X c
 rw[←C1w c,e,e]
 exact⟨_,A99 (A98 A f1) (Ay hq (A98 B f2))⟩
abbrev GV:=List (Cd×AV)
def gvC (g:GV):List AV:=g.flatMap λp=>p.1.csP p.2
structure GvOk (g:GV) (H:Hp):Prop where
 sl:∀p∈g,B3 H AL 1 p.2 p.1.ps.length (BB p.1.ps)
 nl:∀p∈g,p.1.ps=[]→p.2=AP
theorem C3L {g:GV} (h:GvOk g H):∃q,Py true (D+1) (gvC g) ((g.map Prod.fst).flatMap Cd.cs) H q:=by
 induction g with
 |nil=>exact⟨_,Bl⟩
 |cons p g ih=>
  obtain⟨q1,h1⟩:=ih ⟨λr hr=>h.sl r (by simp[hr]),λr hr=>h.nl r (by simp[hr])⟩
  obtain⟨q2,h2⟩:=A47 (D:=D) (h.sl p (by simp)) (h.nl p (by simp))
  exact⟨_,A99 h2 h1⟩
def A0z (gs:List Cd):AV:=match gs with
 |[]=>AP
 |c::gs=> .list (c::gs).length ((c::gs).flatMap Cd.cs)
theorem B6h (gs:List Cd):LA gs (A0z gs):=by cases gs with|nil=>exact .inr ⟨rfl,rfl⟩|cons _ _=>exact .inl rfl
theorem C14 {g:GV} {lv:AV} (h:GvOk g H) (hl:B3 H Ak 68 lv g.length (gvC g)) (h0:g=[]→lv=AP):∃q,Fx true (D+2) lv (A0z (g.map Prod.fst)) H q:=by
 rcases hl with⟨rfl,h2,_⟩|⟨r,q,rfl,h2,h3⟩
 ·cases g with
  |nil=>exact⟨false,E1⟩
  |cons a l=>simp at h2
 ·cases g with
  |nil=>have:=h0 rfl;cases this
  |cons p g=>
   obtain⟨q1,h1⟩:=C3L (D:=D) h
   refine⟨true,?_⟩
   have e:A0z ((p::g).map Prod.fst)= .list (p::g).length (((p::g).map Prod.fst).flatMap Cd.cs):=by
    show AV.list _ _=_
    rw[show(p.1::g.map Prod.fst).length=(p::g).length by simp];rfl
   rw[e]
   exact VZ h2 h3 h1
end
structure Y7 where
 (y0 y1 y2 y3 y4 y5 y6:Int)
def Y7.cs (y:Y7):List AV:=[I y.y0,I y.y1,I y.y2,I y.y3,I y.y4,I y.y5,I y.y6]
def Y7.Ok (y:Y7):Prop:=IM y.y0∧IM y.y1∧IM y.y2∧IM y.y3∧IM y.y4∧IM y.y5∧IM y.y6
def paM (ids:List (List UInt8)) (y6:Int):Nat→List (List UInt8)
 |0=>[]
 |k+1=>if 0<ids.length∧pk (y6.fdiv (2^(4*k))) 16<14 then paM ids y6 k++[ids.getD ((pk (y6.fdiv (2^(4*k))) 16).toNat%ids.length) []] else paM ids y6 k
theorem A8O {ids:List (List UInt8)} {y6:Int}:∀k,∀s∈paM ids y6 k,s∈ids:=by
 intro k
 induction k with
 |zero=>intro s hs;simp[paM] at hs
 |succ k ih=>
  intro s hs
  unfold paM at hs
  split at hs
  ·rename_i h
   rcases l2e.1 hs with hs|hs
   ·exact ih s hs
   ·rw[l2f] at hs;subst hs
    have:=Nat.mod_lt (pk (y6.fdiv (2^(4*k))) 16).toNat h.1
    rw[Tw,Jw this]
    exact Qu this
  ·exact ih s hs
theorem A8P {ids:List (List UInt8)} {y6:Int}:∀k,(paM ids y6 k).length≤k:=by
 intro k
 induction k with
 |zero=>simp[paM]
 |succ k ih=>
  unfold paM
  split
  ·simp;omega
  ·omega
def kdM (i:Nat) (y:Y7):Int:=if i<2∧0<pk (y.y0.tdiv 3) 4 then 0 else y.y0
def cM (i:Nat) (y:Y7) (ids:List (List UInt8)):Cd:=cdM (kdM i y) y.y1 y.y2 y.y3 y.y4 y.y5 y.y1 y.y2 y.y3 y.y4 y.y5 y.y6 (some (y.y3,y.y4,y.y5,y.y6)) (paM ids y.y6 3)
def Nj (xs:List Y7):Nat→List Cd
 |0=>[]
 |i+1=>
  if(cM i (xs.getD i ⟨0,0,0,0,0,0,0⟩) ((Nj xs i).map Cd.id)).ps.Nodup∧(cM i (xs.getD i ⟨0,0,0,0,0,0,0⟩) ((Nj xs i).map Cd.id)).id∉(Nj xs i).map Cd.id
  then Nj xs i++[cM i (xs.getD i ⟨0,0,0,0,0,0,0⟩) ((Nj xs i).map Cd.id)] else Nj xs i
theorem B7M {i:Nat} {y:Y7} {gs:List Cd}:(cM i y (gs.map Cd.id)).Ok:=by
 refine A1f λs hs=> ?_
 obtain⟨c,_,rfl⟩:=l2a.1 (A8O _ s hs)
 exact A49 c
theorem B3i (xs:List Y7):∀i,i≤8→GOk (Nj xs i)∧(Nj xs i).length≤i:=by
 intro i
 induction i with
 |zero=>intro _;exact⟨⟨by simp[Nj],by simp[Nj],by simp[Nj],by simp[Nj]⟩,by simp[Nj]⟩
 |succ i ih=>
  intro hi
  obtain⟨h,hlen⟩:=ih (by omega)
  unfold Nj
  split
  ·rename_i hc
   refine⟨⟨λc hm=> ?_,λc hm=> ?_,?_,by simp;omega⟩,by simp;omega⟩
   ·rcases l2e.1 hm with hm|hm
    ·exact h.ok c hm
    ·rw[l2f] at hm;subst hm;exact B7M
   ·rcases l2e.1 hm with hm|hm
    ·exact h.nd c hm
    ·rw[l2f] at hm;subst hm;exact hc.1
   ·rw[l01,List.nodup_append]
    refine⟨h.ids,by simp,λa ha b hb e=> ?_⟩
    obtain⟨c',hc',rfl⟩:=l2a.1 hb
    rw[l2f] at hc';subst hc'
    exact hc.2 (e▸ha)
  ·exact⟨h,by omega⟩
theorem B41 {c:Cd} (h:c.Ok):c.ps.length≤3:=by
 match c,h with
 | .re b u,_=>simp[Cd.ps]
 | .co b p ps none,⟨_,hp,h1,_⟩=>show ps.length≤3;rw[h1];exact hp.k3
 | .co b p ps (some _),⟨_,hp,h1,_⟩=>show ps.length≤3;rw[h1];exact hp.k3
end
section
variable {L n:Nat}
theorem B3w {a:Int} {k:Nat} (h:IM a) (hk:k<3):IM (a.fdiv (2^(4*k))):=by
 unfold IM at h⊢
 have e:a.fdiv (2^(4*k))=a/(2^(4*k)):=Int.fdiv_eq_ediv_of_nonneg _ (Int.le_of_lt (Int.pow_pos (by decide)))
 rw[e]
 obtain rfl|rfl|rfl:k=0∨k=1∨k=2:=by omega
 ·rw[show(2:Int)^(4*0)=1 by decide];omega
 ·rw[show(2:Int)^(4*1)=16 by decide];omega
 ·rw[show(2:Int)^(4*2)=256 by decide];omega
theorem C2z {j:TI} {K:AV→Am} {a:Int} {k:Nat} (hk:k≤64):Go.Abs.Aj j .shr (I a) (I k) K=K (I (a.fdiv (2^k))):=by
 have:Go.Abs.Aj j .shr (I a) (I k) K=ck (YL 0 (k:Int)) (fI (a.fdiv (2^(min (k:Int).toNat 64))) λz=>K (.v (.int .i64 z))):=rfl
 rw[this,QT,WB,l1x hk]
 have h1:YL 0 (k:Int)=true:=by rw[Jc];simp
 rw[h1];rfl
theorem rd7 {H:Hp} {b:Nat} {y:Y7} (h:Aw H b=some (.cells true TJ y.cs)):
 (∀{K},Ap Ab (.ptr b 0 0) H K=K (I y.y0))∧(∀{K},Ap Ab (.ptr b 1 0) H K=K (I y.y1))∧(∀{K},Ap Ab (.ptr b 2 0) H K=K (I y.y2))∧(∀{K},Ap Ab (.ptr b 3 0) H K=K (I y.y3))∧(∀{K},Ap Ab (.ptr b 4 0) H K=K (I y.y4))∧(∀{K},Ap Ab (.ptr b 5 0) H K=K (I y.y5))∧(∀{K},Ap Ab (.ptr b 6 0) H K=K (I y.y6)):=
 ⟨λ{K}=>AW (p:=0) rfl h (by simp[Y7.cs]),λ{K}=>AW (p:=1) rfl h (by simp[Y7.cs]),λ{K}=>AW (p:=2) rfl h (by simp[Y7.cs]),λ{K}=>AW (p:=3) rfl h (by simp[Y7.cs]),λ{K}=>AW (p:=4) rfl h (by simp[Y7.cs]),λ{K}=>AW (p:=5) rfl h (by simp[Y7.cs]),λ{K}=>AW (p:=6) rfl h (by simp[Y7.cs])⟩
theorem C3x {b:Nat} {K:AV→Am}:B1 BI (.ptr b 0 0) (.v (.int .i64 0)) K=K (.ptr b 0 0):=Dx (z:=0) 0 rfl rfl (by decide)
theorem C5g {b:Nat} {K:AV→Am}:B1 BI (.ptr b 0 0) (.v (.int .i64 1)) K=K (.ptr b 1 0):=Dx (z:=1) 1 rfl rfl (by decide)
theorem C5f {b:Nat} {K:AV→Am}:B1 BI (.ptr b 0 0) (.v (.int .i64 2)) K=K (.ptr b 2 0):=Dx (z:=2) 2 rfl rfl (by decide)
theorem C5e {b:Nat} {K:AV→Am}:B1 BI (.ptr b 0 0) (.v (.int .i64 3)) K=K (.ptr b 3 0):=Dx (z:=3) 3 rfl rfl (by decide)
theorem C5d {b:Nat} {K:AV→Am}:B1 BI (.ptr b 0 0) (.v (.int .i64 4)) K=K (.ptr b 4 0):=Dx (z:=4) 4 rfl rfl (by decide)
theorem C5c {b:Nat} {K:AV→Am}:B1 BI (.ptr b 0 0) (.v (.int .i64 5)) K=K (.ptr b 5 0):=Dx (z:=5) 5 rfl rfl (by decide)
theorem C3w {b:Nat} {K:AV→Am}:B1 BI (.ptr b 0 0) (.v (.int .i64 6)) K=K (.ptr b 6 0):=Dx (z:=6) 6 rfl rfl (by decide)
structure Pa (H0:Hp) (ps:List (List UInt8)) (u:AV) (H:Hp):Prop where
 sl:B3 H AL 1 u ps.length (BB ps)
 nl:ps=[]→u=AP
 fr:∀s,Bh u s→A7 H0≤s
 wf:Wf H
 w0:Wf H0
 nx:A7 H0≤A7 H
 kp:∀s q,Aw H0 s=some q→Aw H s=some q
section
variable {K:KV} {x:Am} {H0 H H':Hp} {y:Y7} {ids:List (List UInt8)} {a0 lv iv kd:AV} {q7 i:Nat}
theorem C2Y {k125:AV→AV→AV→AV→AV→AV→AV→AV→Hp→Am} (hL:100<L) (h6:IM y.y6) (hq:Aw H0 q7=some (.cells true TJ y.cs)) (hi:B3 H0 AL 1 iv ids.length (BB ids)) (hb:ids.length<100)
 (hfin:∀u k H,Pa H0 (paM ids y.y6 3) u H→k125 a0 lv iv (I i) (.ptr q7 0 0) kd u k H=x):
 ∀(f k:Nat) (u:AV) (H:Hp),k≤3→3-k<f→Pa H0 (paM ids y.y6 k) u H→
 Mw (L+20) (rt (L+20) (n+64)) K k125 f a0 lv iv (I i) (.ptr q7 0 0) kd u (I k) H=x:=by
 intro f
 induction f with
 |zero=>intro k u H _ h;omega
 |succ f ih=>
  intro k u H hk hf hh
  rw[Yi]
  unfold PB AR Aq Cz
  have e3:(AV.v (.int .i64 3))=I ((3:Nat):Int):=rfl
  have hiH:=hi.kp λs q _=>hh.kp s q
  rw[e3]
  by_cases h:k<3
  ·rw[FR (by omega)]
   simp only[gT,BN,IJ (t:=Ae) rfl hiH,DQ]
   by_cases h0:0<ids.length
   ·have hm:=Nat.mod_lt (pk (y.y6.fdiv (2^(4*k))) 16).toNat h0
    have pr:=DI (c:=y.y6.fdiv (2^(4*k))) (n:=16) (by decide)
    obtain⟨-, -, -, -, -, -,d6⟩:=rd7 (hh.kp _ _ hq)
    have ml:∀{K:AV→Am},Go.Abs.Aj Ab .mul (.v (.int .i64 4)) (I (k:Int)) K=K (I ((4*k:Nat):Int)):= λ{K}=>by
     rw[Ni,Ca (by omega) (by omega)];rw[show(4:Int)*(k:Int)=((4*k:Nat):Int) by omega]
    have hpk:∀{H K},Ah (rt (L+20) (n+64)) Jx [I (y.y6.fdiv (2^(4*k))),.v (.int .i64 16)] H K=K (I (pk (y.y6.fdiv (2^(4*k))) 16)):= λ{H K}=>A5b (n:=n+63) (B3w h6 h) (by decide) (by decide) H K
    have ad:∀{K:AV→Am},Go.Abs.Aj Ab .add (I k) (.v (.int .i64 1)) K=K (I ((k+1:Nat):Int)):= λ{K}=>DH (by omega)
    rw[decide_eq_true (by omega),Un,Do]
    simp only[Cm]
    rw[C3w,d6,ml,C2z (by omega),hpk,Dj]
    have e1:paM ids y.y6 (k+1)=if 0<ids.length∧pk (y.y6.fdiv (2^(4*k))) 16<14 then paM ids y.y6 k++[ids.getD ((pk (y.y6.fdiv (2^(4*k))) 16).toNat%ids.length) []] else paM ids y.y6 k:=rfl
    by_cases h14:pk (y.y6.fdiv (2^(4*k))) 16<14
    ·rw[if_pos ⟨h0,h14⟩] at e1
     have hpl:PL H ids iv:= .inr hiH
     obtain⟨p,g1,g2⟩:=hpl.at2 hm
     have rm:∀{K:AV→Am},Go.Abs.Aj Ab .rem (I (pk (y.y6.fdiv (2^(4*k))) 16)) (I (ids.length:Int)) K=K (I (((pk (y.y6.fdiv (2^(4*k))) 16).toNat%ids.length:Nat):Int)):= λ{K}=>by
      rw[T9 (by omega),Int.tmod_eq_emod_of_nonneg pr.1]
      have:(pk (y.y6.fdiv (2^(4*k))) 16)=(((pk (y.y6.fdiv (2^(4*k))) 16).toNat:Nat):Int):=by omega
      rw[this,WB];rfl
     have hln:=A8P (ids:=ids) (y6:=y.y6) k
     obtain⟨u',H',a1,a2,a3,a4,a5,a6⟩:=A68 (ie:=Ad) (i2:=Ae) (ys:=BB [ids[(pk (y.y6.fdiv (2^(4*k))) 16).toNat%ids.length]]) hh.sl hh.wf rfl rfl (by decide) rfl (λ_=>rfl) (by show(_+1)*16≤_;omega) (by omega)
     have e2:ids.getD ((pk (y.y6.fdiv (2^(4*k))) 16).toNat%ids.length) []=ids[(pk (y.y6.fdiv (2^(4*k))) 16).toNat%ids.length]:=by simp[List.getD,Jw hm]
     rw[e2] at e1
     have g0:=hh.nx
     rw[decide_eq_true h14,Do,rm,g1,g2,Ww,a1,ad]
     refine ih (k+1) u' H' (by omega) (by omega) ⟨?_,λe=> ?_,λs hs=> ?_,a3,hh.w0,by omega,λs q hs=> ?_⟩
     ·rw[e1,F5]
      have:BB (paM ids y.y6 k++[ids[(pk (y.y6.fdiv (2^(4*k))) 16).toNat%ids.length]])=BB (paM ids y.y6 k)++BB [ids[(pk (y.y6.fdiv (2^(4*k))) 16).toNat%ids.length]]:=by simp[BB]
      rw[this]
      exact a2
     ·rw[e1] at e;simp at e
     ·have:=a6 s hs;omega
     ·exact a5 _ _ (hh.kp s q hs) λe=>by have:=hh.fr s e;have:=hh.w0.lt hs;omega
    ·rw[if_neg λhc=>h14 hc.2] at e1
     rw[decide_eq_false h14,BC,ad]
     exact ih (k+1) u H (by omega) (by omega) (by rw[e1];exact hh)
   ·rw[decide_eq_false (by omega),Un,BC]
    have e0:∀k,paM ids y.y6 k=[]:=by
     intro k
     induction k with
     |zero=>rfl
     |succ k ihk=>unfold paM;rw[if_neg λhc=>h0 hc.1];exact ihk
    refine hfin u _ H ?_
    rw[e0] at hh⊢
    exact hh
  ·have:k=3:=by omega
   subst this
   rw[FT (by omega)]
   simp only[gTF,BN,QC]
   rw[BC]
   exact hfin u _ H hh
end
end
section
variable {L n:Nat}
structure Gm (g:GV) (lv iv:AV) (H:Hp):Prop where
 gv:GvOk g H
 sl:B3 H Ak 68 lv g.length (gvC g)
 nl:g=[]→lv=AP
 si:B3 H AL 1 iv g.length (BB ((g.map Prod.fst).map Cd.id))
 ni:g=[]→iv=AP
 dl:∀s,Bh lv s→¬Bh iv s∧∀p∈g,¬Bh p.2 s
 di:∀s,Bh iv s→∀p∈g,¬Bh p.2 s
 wf:Wf H
section
variable {K:KV} {x:Am} {H0 H H':Hp} {g:GV} {lv iv a0:AV} {c:Cd} {v:AV}
theorem Gm.grow (h:Gm g lv iv H) (wf:Wf H') (kp:∀s q,Aw H s=some q→Aw H' s=some q):Gm g lv iv H':=
 ⟨⟨λp hp=>(h.gv.sl p hp).kp λs q _=>kp s q,h.gv.nl⟩,h.sl.kp λs q _=>kp s q,h.nl,h.si.kp λs q _=>kp s q,h.ni,h.dl,h.di,wf⟩
theorem Gm.lti (h:Gm g lv iv H) {s:Nat} (hs:Bh iv s):s<A7 H:=h.si.lt h.wf hs
theorem Gm.ltl (h:Gm g lv iv H) {s:Nat} (hs:Bh lv s):s<A7 H:=h.sl.lt h.wf hs
theorem Gm.ltp (h:Gm g lv iv H) {s:Nat} {p:Cd×AV} (hp:p∈g) (hs:Bh p.2 s):s<A7 H:=(h.gv.sl p hp).lt h.wf hs
theorem C5x {cs:List AV} {H:Hp} {K:KV} (hl:cs.length=68) (h1:cs.all AV.one=true):Fp Ak 68 Ac 1 [(0,68,.agg cs)] H K=K (.sl 68 (A7 H) 0 1) ((A7 H,.cells false Ak cs)::H):=by
 have e1:Fp Ak 68 Ac 1 [(0,68,.agg cs)] H K=Gv (.agg cs) λvs=>Hw vs 0 λn=>ck (Nat.beq n 68) (ck (PK vs) (EH 0 vs B8 λcs'=>Ij H λs=>K (.sl 68 s 0 1) ((s,.cells false Ak cs')::H))):=_root_.id rfl
 have hc:B7 (.agg cs)=cs:=rfl
 rw[e1,Dq,hc,C4,hl,G9,h1]
 show EH 0 cs B8 _=_
 rw[Mk _ _ _ _ (by rw[hl];decide),UF _ _ (by rw[hl];rfl),Cg]
theorem Gm.add (h:Gm g lv iv H) (hv:B3 H AL 1 v c.ps.length (BB c.ps)) (hn:c.ps=[]→v=AP) (hd:∀s,Bh v s→¬Bh lv s∧¬Bh iv s) (hb:g.length<100):
 ∃lv' H1 iv' H2,(∀K:KV,(Fp Ak 68 Ac 1 [(0,68,.agg (c.csP v))] H λv1 H1=>Ea Ak 68 Ac AG lv v1 H1 K)=K lv' H1)∧
  (∀K:KV,(Fp AL 1 Ad 1 [(0,1,S c.id)] H1 λv1 H2=>Ea AL 1 Ad Ae iv v1 H2 K)=K iv' H2)∧Gm (g++[(c,v)]) lv' iv' H2:=by
 obtain⟨lv',H1,a1,a2,a3,a4,a5,a6⟩:=A68 (ie:=Ac) (i2:=AG) (ys:=c.csP v) h.sl h.wf (Sj c) (Wu c (B3.one hv)) (by decide) rfl (λ_=>rfl) (by show(_+1)*800≤_;omega) (by omega)
 have si1:B3 H1 AL 1 iv g.length (BB ((g.map Prod.fst).map Cd.id)):=h.si.kp λs q hs hl=>a5 s q hl (λe=>(h.dl s e).1 hs)
 obtain⟨iv',H2,b1,b2,b3,b4,b5,b6⟩:=A68 (ie:=Ad) (i2:=Ae) (ys:=BB [c.id]) si1 a3 rfl rfl (by decide) rfl (λ_=>rfl) (by show(_+1)*16≤_;omega) (by omega)
 have kp:∀s q,¬Bh lv s→¬Bh iv s→Aw H s=some q→Aw H2 s=some q:= λs q h1 h2 hs=>b5 _ _ (a5 _ _ hs h1) h2
 refine⟨lv',H1,iv',H2,λK=>by rw[C5x (Sj c) (Wu c (B3.one hv))];exact a1 K,λK=>by rw[Ww];exact b1 K,⟨λp hp=> ?_,λp hp=> ?_⟩,?_,λe=>by simp at e,?_,λe=>by simp at e,λs hs=>⟨λe=> ?_,λp hp e=> ?_⟩,λs hs p hp e=> ?_,b3⟩
 ·rcases l2e.1 hp with hp|hp
  ·exact(h.gv.sl p hp).kp λs q hs=>kp s q (λe=>(h.dl s e).2 p hp hs) (λe=>h.di s e p hp hs)
  ·rw[l2f] at hp;subst hp
   exact hv.kp λs q hs=>kp s q (hd s hs).1 (hd s hs).2
 ·rcases l2e.1 hp with hp|hp
  ·exact h.gv.nl p hp
  ·rw[l2f] at hp;subst hp;exact hn
 ·have e1:gvC (g++[(c,v)])=gvC g++c.csP v:=by simp[gvC]
  rw[e1,F5]
  exact B3.kp a2 λs q hs hl=>b5 s q hl λe=>by have:=a6 s hs;have:=h.lti e;omega
 ·have e1:BB (((g++[(c,v)]).map Prod.fst).map Cd.id)=BB ((g.map Prod.fst).map Cd.id)++BB [c.id]:=by simp[BB]
  rw[e1,F5]
  exact b2
 ·have:=b6 s e
  have:=B3.lt a2 a3 hs
  omega
 ·have:=a6 s hs
  rcases l2e.1 hp with hp|hp
  ·have:=h.ltp hp e;omega
  ·rw[l2f] at hp;subst hp
   have:=hv.lt h.wf e;omega
 ·have:=b6 s hs
  rcases l2e.1 hp with hp|hp
  ·have:=h.ltp hp e;omega
  ·rw[l2f] at hp;subst hp
   have:=hv.lt h.wf e;omega
def XA (xs:List Y7) (a:AV):Prop:=a= .list xs.length (xs.flatMap Y7.cs)∨(xs=[]∧a=AP)
theorem XA.len {xs:List Y7} {a:AV} {K:AV→Am} (h:XA xs a):AM JF a K=K (I xs.length):=by
 rcases h with rfl|⟨rfl,rfl⟩<;>exact _root_.id rfl
theorem XA.ia {xs:List Y7} {a:AV} {i:Nat} {K:AV→Am} (h:XA xs a) (hi:i<xs.length):B1 JF a (I i) K=K (.iptr xs[i].cs):=by
 rcases h with rfl|⟨rfl,rfl⟩
 ·exact A18 (f:=Y7.cs) rfl (λ_=>rfl) hi
 ·simp at hi
end
end
section
variable {L n:Nat}
section
variable {K:KV} {x:Am} {xs:List Y7} {a0:AV}
theorem b6 {a b c d e f:Int} {K:AV→Am}:Bg Bi [(0,1,I a),(1,1,I b),(2,1,I c),(3,1,I d),(4,1,I e),(5,1,I f)] K=K (.agg [I a,I b,I c,I d,I e,I f]):=id rfl
theorem b4 {a b c d:Int} {K:AV→Am}:Bg BX [(0,1,I a),(1,1,I b),(2,1,I c),(3,1,I d)] K=K (.agg [I a,I b,I c,I d]):=id rfl
theorem bs4 {a b c d:Int} {H:Hp} {K:KV}:Fp Fs 4 BX 1 [(0,4,.agg [I a,I b,I c,I d])] H K=K (.sl 4 (A7 H) 0 1) ((A7 H,.cells false Fs [I a,I b,I c,I d])::H):=by
 have e:Fp Fs 4 BX 1 [(0,4,.agg [I a,I b,I c,I d])] H K=Ij H (λs=>K (.sl 4 s 0 1) ((s,.cells false Fs [I a,I b,I c,I d])::H)):=_root_.id rfl
 rw[e,Cg]
theorem C3a {k4:AV→Hp→Am} (hL:40000<L) (hx:XA xs a0) (hok:∀y∈xs,y.Ok)
 (hfin:∀g lv iv H,g.map Prod.fst=Nj xs (min 8 xs.length)→Gm g lv iv H→k4 lv H=x):
 ∀(f i:Nat) (g:GV) (lv iv:AV) (H:Hp) (d0 d1 d2 d3:AV),i≤min 8 xs.length→min 8 xs.length-i<f→g.map Prod.fst=Nj xs i→Gm g lv iv H→
 Mx (L+20) (rt (L+20) (n+64)) K k4 f a0 lv iv (I i) d0 d1 d2 d3 H=x:=by
 intro f
 induction f with
 |zero=>intro i g lv iv H d0 d1 d2 d3 _ h;omega
 |succ f ih=>
  intro i g lv iv H d0 d1 d2 d3 hi hf hg hh
  rw[Yj]
  unfold PC AR Aq Cz
  have e8:(AV.v (.int .i64 8))=I ((8:Nat):Int):=rfl
  rw[hx.len,e8]
  by_cases h:i<min 8 xs.length
  ·have hlt:i<xs.length:=by omega
   obtain⟨y,hy⟩:∃y,xs[i]=y:=⟨_,rfl⟩
   have hyo:=hok _ (Qu hlt)
   have hgd:xs.getD i ⟨0,0,0,0,0,0,0⟩=y:=by rw[←hy];simp[List.getD,Jw hlt]
   rw[hy] at hyo
   obtain⟨o0,o1,o2,o3,o4,o5,o6⟩:=hyo
   rw[FR (by omega)]
   simp only[gT,BN]
   rw[FR (by omega),BN,Un,Do]
   refine HW λk23 h23=> ?_
   refine HW λk34 h34=> ?_
   have gsl:(Nj xs i).length=g.length:=by rw[←hg,l1u]
   have g8:=(B3i xs i (by omega)).2
   have es:Nj xs (i+1)=if(cM i y ((Nj xs i).map Cd.id)).ps.Nodup∧(cM i y ((Nj xs i).map Cd.id)).id∉(Nj xs i).map Cd.id then Nj xs i++[cM i y ((Nj xs i).map Cd.id)] else Nj xs i:=by
    have:Nj xs (i+1)=if(cM i (xs.getD i ⟨0,0,0,0,0,0,0⟩) ((Nj xs i).map Cd.id)).ps.Nodup∧(cM i (xs.getD i ⟨0,0,0,0,0,0,0⟩) ((Nj xs i).map Cd.id)).id∉(Nj xs i).map Cd.id
     then Nj xs i++[cM i (xs.getD i ⟨0,0,0,0,0,0,0⟩) ((Nj xs i).map Cd.id)] else Nj xs i:=rfl
    rw[this,hgd]
   have hk34:∀g' lv' iv' q kd u k H',g'.map Prod.fst=Nj xs (i+1)→Gm g' lv' iv' H'→k34 a0 lv' iv' (I i) q kd u k H'=x:=by
    intro g' lv' iv' q kd u k H' h1 h2
    have ad:∀{K:AV→Am},Go.Abs.Aj Ab .add (I i) (.v (.int .i64 1)) K=K (I ((i+1:Nat):Int)):= λ{K}=>DH (by omega)
    rw[h34,h23]
    simp only[ad]
    exact ih (i+1) g' lv' iv' H' q kd u k (by omega) (by omega) h1 h2
   clear h23 h34 ih hfin
   have l7:∀{H} {K:AV→Am},Ap BI (.iptr y.cs) H K=K (.agg y.cs):= λ{H K}=>_root_.id rfl
   obtain⟨H1,e1,m1,w1,kp1⟩:=DZ (e:=TJ) (zs:=[zI,zI,zI,zI,zI,zI,zI]) (vs:=y.cs) hh.wf rfl
   rw[hx.ia hlt,hy,l7,Ba (cs:=[zI,zI,zI,zI,zI,zI,zI]) rfl,B0 (cs:=[zI,zI,zI,zI,zI,zI,zI]) (vs:=y.cs) (A0 (by simp)) rfl rfl rfl,←e1]
   have h1:=hh.grow w1 λs q hs=>(kp1 s q hs).1
   generalize A7 H=q7 at m1
   clear e1 kp1 hh
   obtain⟨d0', -⟩:=rd7 m1
   rw[C3x,d0']
   refine HW λk52 h52=> ?_
   have hk52:k52 (I (kdM i y)) H1=x:=by
    rw[h52]
    clear h52
    refine HW λk55 h55=> ?_
    refine HW λk125 h125=> ?_
    have hsi:=h1.si
    rw[hg] at hsi
    have hil:((Nj xs i).map Cd.id).length=g.length:=by rw[l1u,gsl]
    refine C2Y (n:=n) (ids:=(Nj xs i).map Cd.id) (by omega) o6 m1 (by rw[hil];exact hsi) (by rw[hil];omega) (λu k H2 hp=> ?_) (L+20) 0 AP H1 (by omega) (by omega) ⟨.inl ⟨rfl,rfl,rfl⟩,λ_=>rfl,(λs hs=>by obtain⟨_,_,_,h⟩:=hs;cases h),w1,w1,NV _,λ_ _ h=>h⟩
    rw[h125,h55]
    clear h125 h55
    obtain⟨-,r1,r2,r3,r4,r5,r6⟩:=rd7 (hp.kp _ _ m1)
    simp only[C5g,C5f,C5e,C5d,C5c,C3w,r1,r2,r3,r4,r5,r6]
    rw[b6,b6,b4,bs4]
    obtain⟨H3,s3,e3,es3,m3,w3,kp3⟩:=push hp.wf (.cells false Fs [I y.y3,I y.y4,I y.y5,I y.y6]) (by simp)
    rw[←es3,←e3]
    have hkd:IM (kdM i y):=by
     unfold kdM
     split
     ·unfold IM;omega
     ·exact o0
    have hya:YA H3 (some (y.y3,y.y4,y.y5,y.y6)) (.sl 4 s3 0 1):= λH' kp=>⟨true,VZ (D:=depth-1) (q':=false) (kp _ _ m3) rfl (J6 (λz:Int=>Value.int .i64 z) [y.y3,y.y4,y.y5,y.y6])⟩
    have hpl:PL H3 (paM ((Nj xs i).map Cd.id) y.y6 3) u:= .inr (hp.sl.kp λs q _ hs=>(kp3 _ _ hs).1)
    have h3:=h1.grow w3 λs q hs=>(kp3 _ _ (hp.kp s q hs)).1
    have hpm:=A8P (ids:=(Nj xs i).map Cd.id) (y6:=y.y6) 3
    clear r1 r2 r3 r4 r5 r6 e3 es3 m3 h1
    have h32:∀s∈paM ((Nj xs i).map Cd.id) y.y6 3,s.length=32:= λs hs=>by
     obtain⟨c,_,rfl⟩:=l2a.1 (A8O _ s hs)
     exact A49 c
    refine A08 (n:=n+20) (y:=some (y.y3,y.y4,y.y5,y.y6)) hL w3 hkd o1 o2 o3 o4 o5 o1 o2 o3 o4 o5 o6 hya ⟨o3,o4,o5,o6⟩ hpl (by omega) h32 ?_
    show∀v H',B3 H' AL 1 v (cM i y ((Nj xs i).map Cd.id)).ps.length (BB (cM i y ((Nj xs i).map Cd.id)).ps)→((cM i y ((Nj xs i).map Cd.id)).ps=[]→v=AP)→Wf H'→(∀s q,Aw H3 s=some q→Aw H' s=some q)→(∀s,Bh v s→A7 H3≤s)→_
    intro v H4 sv nv w4 kp4 fr4
    have cok:(cM i y ((Nj xs i).map Cd.id)).Ok:=B7M
    have ec:cdM (kdM i y) y.y1 y.y2 y.y3 y.y4 y.y5 y.y1 y.y2 y.y3 y.y4 y.y5 y.y6 (some (y.y3,y.y4,y.y5,y.y6)) (paM ((Nj xs i).map Cd.id) y.y6 3)=cM i y ((Nj xs i).map Cd.id):=rfl
    rw[ec]
    generalize cM i y ((Nj xs i).map Cd.id)=c at sv nv cok es⊢
    have h4:=h3.grow w4 kp4
    have hd:∀s,Bh v s→¬Bh lv s∧¬Bh iv s:= λs hs=>⟨λe=>by have:=h3.ltl e;have:=fr4 s hs;omega,λe=>by have:=h3.lti e;have:=fr4 s hs;omega⟩
    obtain⟨H5,e5,m5,w5,kp5⟩:=DZ (e:=Ak) (zs:=B8) (vs:=c.csP v) w4 (Sj c)
    rw[Ba (cs:=B8) rfl,B0 (cs:=B8) (vs:=c.csP v) (A0 (by simp)) (Sj c) rfl (Wu c (B3.one sv)),←e5]
    have h5:=h4.grow w5 λs q hs=>(kp5 s q hs).1
    have sv5:=B3.kp sv λs q _ hs=>(kp5 s q hs).1
    generalize A7 H4=r at m5
    have lc:∀{K},Ap Ac (.ptr r 0 0) H5 K=K (.agg (c.csP v)):= λ{K}=>Bf rfl (by rw[Sj];rfl) m5
    clear e5 kp5 h4 h3 sv kp4 fr4 m5
    have hlen:((Nj xs i).map Cd.id).length<1000:=by rw[hil];omega
    have hne:([]:List UInt8)∉(Nj xs i).map Cd.id:= λe=>by
     obtain⟨d,_,hd⟩:=l2a.1 e
     exact XD d hd
    have has:∀{s:List UInt8} {K},Ah (rt (L+20) (n+64)) HD [iv,S s] H5 K=K (VX s ((Nj xs i).map Cd.id) 0):= λ{s K}=>by
     have si5:=h5.si
     rw[hg,←hil] at si5
     have ni5:(Nj xs i).map Cd.id=[]→iv=AP:= λe=>h5.ni (by
      have:g.length=0:=by rw[←hil,e];rfl
      exact l1s this)
     obtain⟨q,hq⟩:=A9a (D:=depth-1) (b:=true) si5 ni5
     exact AZ (B2A (L:=L) (n:=n+63) (s:=s) (Gp ((Nj xs i).map Cd.id)) hlen (by omega)) (Ay hq (Ay (q:=false) E1 Bl))
    obtain⟨qc,hqc⟩:=A47 (D:=depth-2) sv5 nv
    by_cases hnd:c.ps.Nodup
    ·have hid:∀{K},Ah (rt (L+20) (n+64)) Gb [.agg (c.csP v)] H5 K=K (S c.id):= λ{K}=>AZ (A8b (n:=n) hL cok hnd) (Ay (OH (D:=depth-1) hqc) Bl)
     rw[lc,hid,has]
     by_cases hm:c.id∈(Nj xs i).map Cd.id
     ·obtain⟨k,hk, -, -,e⟩:=A0I _ 0 hm
      rw[if_neg λhc=>hc.2 hm] at es
      rw[e,CJ,CI,X9,decide_eq_false (XD c),Bool.not_false]
      simp only[gT,BN,Xj,Un]
      rw[BC]
      exact hk34 g lv iv _ _ _ _ H5 (by rw[es];exact hg) h5
     ·rw[if_pos ⟨hnd,hm⟩] at es
      obtain⟨lv',H6,iv',H7,b1,b2,b3⟩:=h5.add sv5 nv hd (by omega)
      rw[VW _ 0 hm,CJ,CI,X9,decide_eq_false (XD c),Bool.not_false]
      simp only[gT,BN,ntF,Un]
      rw[Do,lc,b1,b2]
      exact hk34 (g++[(c,v)]) lv' iv' _ _ _ _ H7 (by rw[es,l01,hg];rfl) b3
    ·have hid:∀{K},Ah (rt (L+20) (n+64)) Gb [.agg (c.csP v)] H5 K=K (S []):= λ{K}=>AZ (B6Y (n:=n) hL cok hnd) (Ay (OH (D:=depth-1) hqc) Bl)
     rw[if_neg λhc=>hnd hc.1] at es
     rw[lc,hid,has,VW _ 0 hne,CJ,CI,X9,decide_eq_true rfl,Bool.not_true]
     simp only[gTF,BN,QC]
     rw[BC]
     exact hk34 g lv iv _ _ _ _ H5 (by rw[es];exact hg) h5
   have e2:(AV.v (.int .i64 2))=I ((2:Nat):Int):=rfl
   rw[e2]
   by_cases hi2:i<2
   ·have hpk:∀{H K},Ah (rt (L+20) (n+64)) Jx [I (y.y0.tdiv 3),.v (.int .i64 4)] H K=K (I (pk (y.y0.tdiv 3) 4)):= λ{H K}=>A5b (n:=n+63) (K7 o0 (by decide)) (by decide) (by decide) H K
    rw[FR (by omega)]
    simp only[gT,BN,C3x,d0',XN o0 (show(1:Int)≤3 by decide),hpk,DQ,Un]
    by_cases h0:0<pk (y.y0.tdiv 3) 4
    ·rw[decide_eq_true h0,Do]
     have e:kdM i y=0:=if_pos ⟨hi2,h0⟩
     rw[e] at hk52
     exact hk52
    ·rw[decide_eq_false h0,BC]
     have e:kdM i y=y.y0:=if_neg λhc=>h0 hc.2
     rw[e] at hk52
     exact hk52
   ·rw[FT (by omega)]
    simp only[gTF,BN,gU,QC]
    rw[BC]
    have e:kdM i y=y.y0:=if_neg λhc=>hi2 hc.1
    rw[e] at hk52
    exact hk52
  ·have:i=min 8 xs.length:=by omega
   subst this
   by_cases h8:xs.length≤8
   ·rw[FT (by omega)]
    simp only[gTF,BN,QC]
    rw[BC]
    exact hfin g lv iv H hg hh
   ·rw[FR (by omega)]
    simp only[gT,BN]
    rw[FT (by omega),BN,Un,BC]
    exact hfin g lv iv H hg hh
theorem B2v (hL:40000<L) (hx:XA xs a0) (hok:∀y∈xs,y.Ok):CT (rt (L+20) (n+65)) RY [a0] (A0z (Nj xs (min 8 xs.length))):=by
 intro K hK
 rw[A0f]
 unfold Rx Aq
 simp only[Cm]
 refine C3a hL hx hok (λg lv iv H hg hh=> ?_) (L+20) 0 [] AP AP [] _ _ _ _ (by omega) (by omega) rfl ⟨⟨(λp hp=>by cases hp),(λp hp=>by cases hp)⟩,.inl ⟨rfl,rfl,rfl⟩,λ_=>rfl,.inl ⟨rfl,rfl,rfl⟩,λ_=>rfl,(λs hs=>by obtain⟨_,_,_,h⟩:=hs;cases h),(λs hs=>by obtain⟨_,_,_,h⟩:=hs;cases h),Fw⟩
 refine hK _ _ ?_
 rw[←hg]
 exact C14 (D:=depth-2) hh.gv hh.sl hh.nl
end
end
end Go.Abs
end
