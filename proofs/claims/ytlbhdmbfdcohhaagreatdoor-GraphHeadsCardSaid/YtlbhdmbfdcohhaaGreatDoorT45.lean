import Derived.Test.YtlbhdmbfdcohhaaGreatDoorT22
import Derived.Test.YtlbhdmbfdcohhaaGreatDoorT42
import Derived.Test.YtlbhdmbfdcohhaaGreatDoorT43
import Derived.Test.YtlbhdmbfdcohhaaGreatDoorT44
set_option linter.all false
set_option maxHeartbeats 100000000
noncomputable section
namespace Go.Abs
open Go.RowKit Go.Proofs
set_option maxRecDepth 100000
section
variable {L n:Nat}
def PL (H:Hp) (l:List (List UInt8)) (a:AV):Prop:=SA l a∨Bu H Ar 1 a l.length (AL l)
section
variable {H H':Hp} {l:List (List UInt8)} {a:AV} {K:AV→Aj}
theorem PL.len (h:PL H l a):AR Ac a K=K (I l.length):=by
 rcases h with h|h
 ·exact h.len
 ·exact JH (t:=Ac) rfl h
theorem B32 {i:Nat} (h:Bu H Ar 1 a l.length (AL l)) (hi:i<l.length):(BA Ac a (I i) λp=>Au Ae p H K)=K (S l[i]):=by
 rcases h with⟨_,h2,_⟩|⟨r,q,rfl,h2,h3⟩
 ·omega
 ·have e1:∀K:AV→Aj,BA Ac (.sl 1 r 0 l.length) (I (i:Int)) K=iN (i:Int) λm=>ck (Nat.blt m l.length) (fN (Nat.add 0 (Nat.mul m 1)) λp=>K (.ptr r p 0)):= λK=>_root_.id rfl
  rw[e1,JD,Dt]
  have h3:Nat.blt i l.length=true:=by rw[UM];exact hi
  rw[h3]
  show Au Ae (.ptr r (0+i*1) 0) H K=_
  rw[KN,l28,AK rfl h2 (by simp[AL];exact hi),Nj hi]
theorem PL.at (h:PL H l a) {i:Nat} (hi:i<l.length):(BA Ac a (I i) λp=>Au Ae p H K)=K (S l[i]):=by
 rcases h with h|h
 ·rw[h.ia hi,Gf]
 ·exact B32 h hi
theorem PL.at2 (h:PL H l a) {i:Nat} (hi:i<l.length):∃p,(∀K:AV→Aj,BA Ac a (I i) K=K p)∧∀K:AV→Aj,Au Ae p H K=K (S l[i]):=by
 rcases h with h|h
 ·exact⟨_,λK=>h.ia hi,λK=>Gf⟩
 ·rcases h with⟨_,h2,_⟩|⟨r,q,rfl,h2,h3⟩
  ·omega
  ·refine⟨.ptr r i 0,λK=> ?_,λK=>by rw[AK rfl h2 (by simp[AL];exact hi),Nj hi]⟩
   have e1:∀K:AV→Aj,BA Ac (.sl 1 r 0 l.length) (I (i:Int)) K=iN (i:Int) λm=>ck (Nat.blt m l.length) (fN (Nat.add 0 (Nat.mul m 1)) λp=>K (.ptr r p 0)):= λK=>_root_.id rfl
   rw[e1,JD,Dt]
   have h3:Nat.blt i l.length=true:=by rw[UM];exact hi
   rw[h3]
   show K (.ptr r (0+i*1) 0)=_
   rw[KN,l28]
theorem PL.kp (h:PL H l a) (k:∀s x,Aq H s=some x→Aq H' s=some x):PL H' l a:=by
 rcases h with h|h
 ·exact .inl h
 ·exact .inr (h.kp λs x _=>k s x)
end
def YA (H:Hp) (y:Y4) (a:AV):Prop:=∀H',(∀s x,Aq H s=some x→Aq H' s=some x)→∃q,Fx true depth a (yA y) H' q
def Xa (i:Int) (p:List UInt8) (ps:List (List UInt8)):List UInt8:=ps.foldl (λp q=>if q=p then A31 (-1-i) else p) p
def psM (x1:Int) (l:List (List UInt8)):Nat→List (List UInt8)
 |0=>[]
 |i+1=>psM x1 l i++[Xa i (if h:i<l.length then l[i] else A31 (pk (x1.tdiv 3) 1000+i)) (psM x1 l i)]
theorem WX {x1:Int} {l:List (List UInt8)}:∀i,(psM x1 l i).length=i:=by
 intro i
 induction i with
 |zero=>rfl
 |succ i ih=>simp[psM,ih]
theorem A6x (c:Int):(A31 c).length=32:=Uw _ 8
theorem B1k {i:Int}:∀(ps:List (List UInt8)) (p:List UInt8),p.length=32→(Xa i p ps).length=32:=by
 intro ps
 induction ps with
 |nil=>intro p h;exact h
 |cons q ps ih=>
  intro p h
  show(Xa i (if q=p then A31 (-1-i) else p) ps).length=32
  by_cases hq:q=p
  ·rw[if_pos hq];exact ih _ (A6x _)
  ·rw[if_neg hq];exact ih _ h
theorem C23 {x1:Int} {l:List (List UInt8)} (hl:∀s∈l,s.length=32):∀i,∀s∈psM x1 l i,s.length=32:=by
 intro i
 induction i with
 |zero=>intro s hs;simp[psM] at hs
 |succ i ih=>
  intro s hs
  rcases YD.1 hs with hs|hs
  ·exact ih s hs
  ·rw[Zo] at hs;subst hs
   apply B1k
   by_cases h:i<l.length
   ·rw[dif_pos h];exact hl _ (QN h)
   ·rw[dif_neg h];exact A6x _
theorem LL {a b:Int} (h:Lc a) (hb:1≤b):Lc (a.tdiv b):=by
 unfold Lc at h⊢
 by_cases h0:0≤a
 ·have h1:=Int.tdiv_nonneg h0 (by omega:0≤b)
  have h2:a.tdiv b≤a:=Int.tdiv_le_self b h0
  omega
 ·have e:a.tdiv b= -((-a).tdiv b):=by rw[Int.neg_tdiv,Int.neg_neg]
  have h1:=Int.tdiv_nonneg (by omega:0≤ -a) (by omega:0≤b)
  have h2:(-a).tdiv b≤ -a:=Int.tdiv_le_self b (by omega)
  omega
theorem Zk {a b:Int} {K:AV→Aj} (h:Lc a) (hb:1≤b):Go.Abs.Al Ab .quo (I a) (.v (.int .i64 b)) K=K (I (a.tdiv b)):=by
 have h1:=LL h hb
 rw[B5f (by omega),Cl h1.1 h1.2]
structure Mc (H0:Hp) (b1 b2 r z:Nat) (X F:List AV) (H:Hp):Prop where
 h1:Aq H b1=some (.cells true HJ X)
 h2:Aq H b2=some (.cells true HJ F)
 hz:∃cs,cs.length=68∧Aq H z=some (.cells true Ak cs)
 wf:Wf H
 n1:b1≠r
 n2:b2≠r
 nz:z≠r
 f1:A2 H0≤b1
 f2:A2 H0≤b2
 f3:A2 H0≤r
 f4:A2 H0≤z
 w0:Wf H0
 kp:∀s x,Aq H0 s=some x→Aq H s=some x
section
variable {K:KV} {x:Aj} {H0 H H':Hp} {b1 b2 r z:Nat} {X F:List AV} {ps l:List (List UInt8)} {v a3:AV} {cR:AV→List AV}
theorem Mc.upd (h:Mc H0 b1 b2 r z X F H) (y:Row):Mc H0 b1 b2 r z X F (upd H r y):=by
 obtain⟨cs,c1,c2⟩:=h.hz
 exact⟨by rw[Ap h.n1];exact h.h1,by rw[Ap h.n2];exact h.h2,⟨cs,c1,by rw[Ap h.nz];exact c2⟩,BH h.wf,h.n1,h.n2,h.nz,h.f1,h.f2,h.f3,h.f4,h.w0,λs x hs=>by
  have:=h.w0.lt hs
  have:=h.f3
  rw[Ap (by omega)];exact h.kp s x hs⟩
structure Pl (H0:Hp) (b1 b2 r z:Nat) (X F:List AV) (cR:AV→List AV) (ps:List (List UInt8)) (v:AV) (H:Hp):Prop where
 mc:Mc H0 b1 b2 r z X F H
 hr:Aq H r=some (.cells true Ak (cR v))
 sv:Bu H Ar 1 v ps.length (AL ps)
 nv:ps=[]→v=AA
 fr:∀s,AF v s→A2 H0≤s∧s≠b1∧s≠b2∧s≠r∧s≠z
structure CR (cR:AV→List AV) (ks:List Nat):Prop where
 len:∀v,(cR v).length=68
 set:∀v v',(cR v).set 31 v'=cR v'
 get:∀v,(cR v).getD 31 .dk=v
 ins:∀v,(cR v).getD 33 .dk=BJ ks
theorem C4I {k154:AV→AV→AV→AV→AV→AV→AV→Hp→Aj} {ks:List Nat} (hL:40000<L) (hc:CR cR ks) {i:Nat} (hi:i<3) (hh:Pl H0 b1 b2 r z X F cR ps v H) (hb:ps.length≤3):
 ∀(f k:Nat) (p:List UInt8),k≤ps.length→ps.length-k<f→k154 a3 (.ptr b1 0 0) (.ptr z 0 0) (.ptr r 0 0) (I i) (S (Xa i p (ps.drop k))) (I ps.length) H=x→
 NS (L+20) (rt (L+20) (n+43)) K k154 f a3 (.ptr b1 0 0) (.ptr z 0 0) (.ptr r 0 0) (I i) (S p) (I k) H=x:=by
 intro f
 induction f with
 |zero=>intro k p _ h;omega
 |succ f ih=>
  intro k p hk hf hx
  rw[ZG]
  unfold QZ Av
  have l31:∀{K},Au Ac (.ptr r 31 0) H K=K v:= λ{K}=>by rw[AK (p:=31) rfl hh.hr (by rw[hc.len];decide),hc.get]
  rw[VT,l31,JH (t:=Ac) rfl hh.sv]
  by_cases h:k<ps.length
  ·rw[FL (by omega),Dc]
   simp only[BW]
   have ad:∀{K:AV→Aj},Go.Abs.Al Ab .add (I k) (.v (.int .i64 1)) K=K (I ((k+1:Nat):Int)):= λ{K}=>Dv (by omega)
   have sb:∀{K:AV→Aj},Go.Abs.Al Ab .sub (.v (.int .i64 (-1))) (I (i:Int)) K=K (I (-1-(i:Int))):= λ{K}=>by rw[Hn,Cl (by omega) (by omega)]
   have pa:∀{K:AV→Aj},Ai (rt (L+20) (n+43)) Ge [I (-1-(i:Int))] H K=K (S (A31 (-1-(i:Int)))):= λ{K}=>A1s (n:=n+23) hL (by omega) (by omega) H K
   have ed:ps.drop k=ps[k]::ps.drop (k+1):=l11 h
   rw[ed] at hx
   have hx':k154 a3 (.ptr b1 0 0) (.ptr z 0 0) (.ptr r 0 0) (I i) (S (Xa i (if ps[k]=p then A31 (-1-i) else p) (ps.drop (k+1)))) (I ps.length) H=x:=hx
   rw[VT,l31,B32 hh.sv h,LB]
   by_cases hq:ps[k]=p
   ·rw[decide_eq_true hq,Dc,sb,pa,ad]
    rw[if_pos hq] at hx'
    exact ih (k+1) _ (by omega) (by omega) hx'
   ·rw[decide_eq_false hq,Bx,ad]
    rw[if_neg hq] at hx'
    exact ih (k+1) _ (by omega) (by omega) hx'
  ·have:k=ps.length:=by omega
   subst this
   rw[List.drop_length] at hx
   rw[FE (by omega),Bx]
   exact hx
theorem C4J {k108:AV→AV→AV→Hp→Aj} {ks:List Nat} {x0 x1 x2 x3 x4 x5:Int} (hL:40000<L) (hc:CR cR ks) (h1:Lc x1) (hks:ks.length≤3) (hl:PL H0 l a3) (hb:l.length<1000) (h32:∀s∈l,s.length=32)
 (hfin:∀v H,Pl H0 b1 b2 r z [I x0,I x1,I x2,I x3,I x4,I x5] F cR (psM x1 l ks.length) v H→k108 (.ptr b1 0 0) (.ptr z 0 0) (.ptr r 0 0) H=x):
 ∀(f i:Nat) (v d0 d1:AV) (H:Hp),i≤ks.length→ks.length-i<f→Pl H0 b1 b2 r z [I x0,I x1,I x2,I x3,I x4,I x5] F cR (psM x1 l i) v H→
 NT (L+20) (rt (L+20) (n+43)) K k108 f a3 (.ptr b1 0 0) (.ptr z 0 0) (.ptr r 0 0) (I i) d0 d1 H=x:=by
 intro f
 induction f with
 |zero=>intro i v d0 d1 H _ h;omega
 |succ f ih=>
  intro i v d0 d1 H hi hf hh
  rw[ZH]
  unfold Ra Bh Av D3
  have l33:∀{K},Au Am (.ptr r 33 0) H K=K (BJ ks):= λ{K}=>by rw[AK (p:=33) rfl hh.hr (by rw[hc.len];decide),hc.ins]
  have fa:∀{K:AV→Aj},AN 1 (.ptr r 32 0) K=K (.ptr r 33 0):= λ{K}=>by rw[fA]
  rw[VT,fa,l33,O0]
  by_cases h:i<ks.length
  ·have pr:=EZ (c:=x1.tdiv 3) (n:=1000) (by decide)
   have ia:∀{K:AV→Aj},BA Bq (.ptr b1 0 0) (.v (.int .i64 1)) K=K (.ptr b1 1 0):= λ{K}=>Ec (z:=1) 1 rfl rfl (by decide)
   have d1:∀{K:AV→Aj},Au Ab (.ptr b1 1 0) H K=K (I x1):= λ{K}=>AK (p:=1) rfl hh.mc.h1 (by simp)
   have pk1:∀{H K},Ai (rt (L+20) (n+43)) B6 [I (x1.tdiv 3),.v (.int .i64 1000)] H K=K (I (pk (x1.tdiv 3) 1000)):= λ{H K}=>KJ (n:=n+42) (LL h1 (by decide)) (by decide) (by decide) H K
   have ad:∀{K:AV→Aj},Go.Abs.Al Ab .add (I (pk (x1.tdiv 3) 1000)) (I (i:Int)) K=K (I (pk (x1.tdiv 3) 1000+i)):= λ{K}=>by rw[CG,Cl (by omega) (by omega)]
   have pa:∀{K:AV→Aj},Ai (rt (L+20) (n+43)) Ge [I (pk (x1.tdiv 3) 1000+i)] H K=K (S (A31 (pk (x1.tdiv 3) 1000+i))):= λ{K}=>A1s (n:=n+23) hL (by omega) (by omega) H K
   rw[FL (by omega),Dc,ia,d1,Zk h1 (by decide),pk1,ad,pa]
   refine Lw λk132 h132=> ?_
   have hk:∀p:List UInt8,p=(if h:i<l.length then l[i] else A31 (pk (x1.tdiv 3) 1000+i))→k132 (S p) H=x:=by
    intro p hp
    rw[h132]
    simp only[BW]
    refine C4I hL hc (by omega) hh (by rw[WX];omega) (L+20) 0 p (by omega) (by rw[WX];omega) ?_
    rw[l1n]
    have l31:∀{K},Au Ac (.ptr r 31 0) H K=K v:= λ{K}=>by rw[AK (p:=31) rfl hh.hr (by rw[hc.len];decide),hc.get]
    obtain⟨v',H',a1,a2,a3',a4,a5,a6⟩:=A7p (ie:=Ae) (i2:=Ac) (ys:=AL [Xa i p (psM x1 l i)]) hh.sv hh.mc.wf rfl rfl (by decide) rfl (λ_=>rfl) (by rw[WX];show(i+1)*16≤_;omega) (by rw[WX];omega)
    obtain⟨cs,c1,c2⟩:=hh.mc.hz
    have hr':=a5 _ _ hh.hr λe=>(hh.fr _ e).2.2.2.1 rfl
    have q1:=hh.mc.wf.lt hh.mc.h1
    have q2:=hh.mc.wf.lt hh.mc.h2
    have q3:=hh.mc.wf.lt hh.hr
    have q4:=hh.mc.wf.lt c2
    have q0:=hh.mc.f1
    rw[VT,l31,XJ,a1,VT,E4 hr' (by rw[hc.len];decide) rfl (Bu.cell a2) (Bu.one a2),hc.set,Dv (by omega)]
    have ps1:psM x1 l (i+1)=psM x1 l i++[Xa i p (psM x1 l i)]:=by rw[hp];rfl
    refine ih (i+1) v' _ _ _ (by omega) (by omega) ⟨?_,A9 hr',?_,λe=> ?_,λs hs=> ?_⟩
    ·refine⟨by rw[Ap hh.mc.n1];exact a5 _ _ hh.mc.h1 (λe=>(hh.fr _ e).2.1 rfl),by rw[Ap hh.mc.n2];exact a5 _ _ hh.mc.h2 (λe=>(hh.fr _ e).2.2.1 rfl),⟨cs,c1,by rw[Ap hh.mc.nz];exact a5 _ _ c2 (λe=>(hh.fr _ e).2.2.2.2 rfl)⟩,BH a3',hh.mc.n1,hh.mc.n2,hh.mc.nz,hh.mc.f1,hh.mc.f2,hh.mc.f3,hh.mc.f4,hh.mc.w0,λs x hs=> ?_⟩
     have g1:=hh.mc.w0.lt hs
     have g2:=hh.mc.f3
     rw[Ap (by omega)]
     exact a5 _ _ (hh.mc.kp s x hs) (λe=>by have:=(hh.fr _ e).1;omega)
    ·rw[ps1,XA2]
     have:AL (psM x1 l i++[Xa i p (psM x1 l i)])=AL (psM x1 l i)++AL [Xa i p (psM x1 l i)]:=by simp[AL]
     rw[this]
     refine Bu.kp a2 λs x hs hl=> ?_
     have:=a6 s hs
     rw[Ap (by omega)];exact hl
    ·rw[ps1] at e;simp at e
    ·have:=a6 s hs
     omega
   clear h132
   have hpl:=hl.kp hh.mc.kp
   rw[hpl.len]
   by_cases h3:i<l.length
   ·obtain⟨p,g1,g2⟩:=hpl.at2 h3
    have e32:∀{K:AV→Aj},Go.Abs.Al Ab .eql (I ((l[i].length:Nat):Int)) (.v (.int .i64 32)) K=K (Bo true):= λ{K}=>by
     rw[Do,h32 _ (QN h3)];rfl
    rw[FL (by omega)]
    simp only[gT,Cu,g1,g2,NH (t:=Ae) rfl,e32,Wz]
    rw[Dc]
    exact hk _ (by rw[dif_pos h3])
   ·rw[FE (by omega)]
    simp only[gTF,Cu,V3]
    rw[Bx]
    exact hk _ (by rw[dif_neg h3])
  ·have:i=ks.length:=by omega
   subst this
   rw[FE (by omega),Bx]
   exact hfin v H hh
end
end
section
variable {L n:Nat}
def Cd.csP (c:Cd) (P:AV):List AV:=match c with
 | .re b u=>Ee 1 b.m (uu u) (qn b.c) (qd b.c) (FJ b.ts) (qn b.r) (qd b.r) P 0 AA AA u0 r0 0
 | .co b p _ none=>Ee 2 b.m (uu p.out) (qn b.c) (qd b.c) (FJ b.ts) (qn b.r) (qd b.r) P p.id (BJ p.ks) (Cc p.xs) (uu p.out) r0 0
 | .co b p _ (some (k,vd))=>Ee 3 b.m (uu p.out) (qn b.c) (qd b.c) (FJ b.ts) (qn b.r) (qd b.r) P p.id (BJ p.ks) (Cc p.xs) (uu p.out) (rr k) vd
theorem C39 (c:Cd):c.csP (DV c.ps)=c.cs:=by
 match c with
 | .re b u=>rfl
 | .co b p ps none=>rfl
 | .co b p ps (some (k,vd))=>rfl
def cbM (x1 x2 x3 x4 x5:Int) (fs:List Int):CB:=⟨⟨1+pk x1 3,1+pk x2 9,1+pk x3 4,pk x4 50,pk x5 30⟩,pk (x3.tdiv 4) 161-80,pk (x4.tdiv 50) 9,JP fs 6⟩
def cdM (x0 x1 x2 x3 x4 x5 f0 f1 f2 f3 f4 f5:Int) (y:Y4) (l:List (List UInt8)):Cd:=
 if pk x0 3=0 then .re (cbM x1 x2 x3 x4 x5 [f0,f1,f2,f3,f4,f5]) (pk (x5.tdiv 30) 7).toNat
 else .co (cbM x1 x2 x3 x4 x5 [f0,f1,f2,f3,f4,f5]) (prM [f0,f1,f2] (x2.tdiv 9) y) (psM x1 l (prM [f0,f1,f2] (x2.tdiv 9) y).ks.length)
  (if pk x0 3=1 then none else some (1+(pk (x0.tdiv 3) 3).toNat,1+pk (x0.tdiv 9) 3))
theorem A2s {x0 x1 x2 x3 x4 x5 f0 f1 f2 f3 f4 f5:Int} {y:Y4} {l:List (List UInt8)} (h32:∀s∈l,s.length=32):(cdM x0 x1 x2 x3 x4 x5 f0 f1 f2 f3 f4 f5 y l).Ok:=by
 have p1:=EZ (c:=x1) (n:=3) (by decide)
 have p2:=EZ (c:=x2) (n:=9) (by decide)
 have p3:=EZ (c:=x3) (n:=4) (by decide)
 have p4:=EZ (c:=x4) (n:=50) (by decide)
 have p5:=EZ (c:=x5) (n:=30) (by decide)
 have p6:=EZ (c:=x3.tdiv 4) (n:=161) (by decide)
 have p7:=EZ (c:=x4.tdiv 50) (n:=9) (by decide)
 have p8:=EZ (c:=x5.tdiv 30) (n:=7) (by decide)
 have p9:=EZ (c:=x0.tdiv 3) (n:=3) (by decide)
 have pa:=EZ (c:=x0.tdiv 9) (n:=3) (by decide)
 have hb:(cbM x1 x2 x3 x4 x5 [f0,f1,f2,f3,f4,f5]).Ok:=by
  refine⟨?_,?_,?_,?_,?_,(A9K _ 6 (by omega)).1⟩
  ·refine⟨?_,?_,?_,?_,?_,?_,?_,?_,?_,?_⟩
   all_goals (simp only[cbM];omega)
  all_goals (simp only[cbM];omega)
 unfold cdM
 by_cases h:pk x0 3=0
 ·rw[if_pos h]
  exact⟨hb,by omega⟩
 ·rw[if_neg h]
  refine⟨hb,A8u rfl,WX _,C23 h32 _,?_⟩
  by_cases h1:pk x0 3=1
  ·rw[if_pos h1];exact trivial
  ·rw[if_neg h1]
   exact⟨by omega,by omega,by omega⟩
theorem okI {z:Int} {H:Hp} {K:Aj}:Pw (AX (some (I z,H)) (I z)) K=K:=RS rfl
theorem C73 {k:IntKind} {z:Int}:AV.one (.v (.int k z))=true:=rfl
theorem C71 {l:List UInt8}:AV.one (S l)=true:=rfl
theorem C72:AV.one (.v (.slice none 0 0))=true:=rfl
theorem SC (ts:Tms):AV.one (FJ ts)=true:=by cases ts<;>rfl
section
variable {K:KV} {x:Aj} {H0 H H':Hp} {b1 b2 r z:Nat} {X F:List AV} {ps l:List (List UInt8)} {v a2 a3:AV} {cR:AV→List AV} {y:Y4} {x0 x1 x2 x3 x4 x5 f0 f1 f2 f3 f4 f5:Int}
theorem Pz {kd:Int} {m:ND} {u o:UD} {ca cb ra rb:List UInt8} {T P ins nds:AV} {id vd:Int} {rd:RD} (h1:AV.one T=true) (h2:AV.one P=true) (h3:AV.one ins=true) (h4:AV.one nds=true):(Ee kd m u ca cb T ra rb P id ins nds o rd vd).all AV.one=true:=by
 simp only[l2j,List.all_nil,C73,C71,C72,h1,h2,h3,h4,l16,l1b]
theorem A6B (h:Mc H0 b1 b2 r z X F H) {cs:List AV} (hr:Aq H r=some (.cells true Ak cs)) (h1:cs.length=68) (h2:cs.all AV.one=true) (hK:∀H',Wf H'→(∀s q,s≠z→Aq H s=some q→Aq H' s=some q)→K (.agg cs) H'=x):
 (Au Ad (.ptr r 0 0) H λv86=>
  CI Ad (.ptr z 0 0) v86 H λH87=>
  Au Ad (.ptr z 0 0) H87 λv89=>
  K v89 H87)=x:=by
 obtain⟨c0,c1,c2⟩:=h.hz
 rw[Br (cs:=cs) rfl (by rw[h1];rfl) hr,B8 c2 (by rw[c1,h1]) (by rw[c1];rfl) h2,Br (cs:=cs) rfl (by rw[h1];rfl) (A9 c2)]
 exact hK _ (BH h.wf) λs q hs hl=>by rw[Ap hs];exact hl
theorem push {H:Hp} (w:Wf H) (x:Row) (hx:x≠.gone):∃H' s,H'=(s,x)::H∧s=A2 H∧Aq H' s=some x∧Wf H'∧∀t q,Aq H t=some q→Aq H' t=some q∧t≠s:=
 ⟨_,_,rfl,rfl,A1 hx,Bj w,λt q h=>⟨AM (w.lt h) h,by have:=w.lt h;omega⟩⟩
theorem C2B {b:Nat} {K:AV→Aj}:BA Bq (.ptr b 0 0) (.v (.int .i64 0)) K=K (.ptr b 0 0):=Ec (z:=0) 0 rfl rfl (by decide)
theorem C7n {b:Nat} {K:AV→Aj}:BA Bq (.ptr b 0 0) (.v (.int .i64 1)) K=K (.ptr b 1 0):=Ec (z:=1) 1 rfl rfl (by decide)
theorem C7m {b:Nat} {K:AV→Aj}:BA Bq (.ptr b 0 0) (.v (.int .i64 2)) K=K (.ptr b 2 0):=Ec (z:=2) 2 rfl rfl (by decide)
theorem C7l {b:Nat} {K:AV→Aj}:BA Bq (.ptr b 0 0) (.v (.int .i64 3)) K=K (.ptr b 3 0):=Ec (z:=3) 3 rfl rfl (by decide)
theorem C7k {b:Nat} {K:AV→Aj}:BA Bq (.ptr b 0 0) (.v (.int .i64 4)) K=K (.ptr b 4 0):=Ec (z:=4) 4 rfl rfl (by decide)
theorem C7j {b:Nat} {K:AV→Aj}:BA Bq (.ptr b 0 0) (.v (.int .i64 5)) K=K (.ptr b 5 0):=Ec (z:=5) 5 rfl rfl (by decide)
theorem rd6 {H:Hp} {b:Nat} {a0 a1 a2 a3 a4 a5:Int} (h:Aq H b=some (.cells true HJ [I a0,I a1,I a2,I a3,I a4,I a5])):
 (∀{K},Au Ab (.ptr b 0 0) H K=K (I a0))∧(∀{K},Au Ab (.ptr b 1 0) H K=K (I a1))∧(∀{K},Au Ab (.ptr b 2 0) H K=K (I a2))∧(∀{K},Au Ab (.ptr b 3 0) H K=K (I a3))∧(∀{K},Au Ab (.ptr b 4 0) H K=K (I a4))∧(∀{K},Au Ab (.ptr b 5 0) H K=K (I a5)):=
 ⟨λ{K}=>AK (p:=0) rfl h (by simp),λ{K}=>AK (p:=1) rfl h (by simp),λ{K}=>AK (p:=2) rfl h (by simp),λ{K}=>AK (p:=3) rfl h (by simp),λ{K}=>AK (p:=4) rfl h (by simp),λ{K}=>AK (p:=5) rfl h (by simp)⟩
theorem B2Z (mc:Mc H0 b1 b2 r z X F H) {cs cs' vs:List AV} (hr:Aq H r=some (.cells true Ak cs)) {i:TI} {p:Nat} (hcs:cs.length=68) (hp:p+vs.length≤68) (hz:i.size=vs.length) (h1:vs.all AV.one=true) (es:splice cs p vs=cs'):
 ∃H',(∀K:Hp→Aj,CI i (.ptr r p 0) (.agg vs) H K=K H')∧Mc H0 b1 b2 r z X F H'∧Aq H' r=some (.cells true Ak cs')∧(∀s q,s≠r→Aq H s=some q→Aq H' s=some q):=
 ⟨_,λK=>YV hr (by rw[hcs];exact hp) hz h1,mc.upd _,by rw[es];exact A9 hr,λs q hs hl=>by rw[Ap hs];exact hl⟩
theorem A1t (hL:40000<L) (w:Wf H0) (i0:Lc x0) (i1:Lc x1) (i2:Lc x2) (i3:Lc x3) (i4:Lc x4) (i5:Lc x5) (j0:Lc f0) (j1:Lc f1) (j2:Lc f2) (j3:Lc f3) (j4:Lc f4) (j5:Lc f5)
 (hy:YA H0 y a2) (hyI:yI y) (hl:PL H0 l a3) (hb:l.length<1000) (h32:∀s∈l,s.length=32)
 (hK:∀v H',Bu H' Ar 1 v (cdM x0 x1 x2 x3 x4 x5 f0 f1 f2 f3 f4 f5 y l).ps.length (AL (cdM x0 x1 x2 x3 x4 x5 f0 f1 f2 f3 f4 f5 y l).ps)→((cdM x0 x1 x2 x3 x4 x5 f0 f1 f2 f3 f4 f5 y l).ps=[]→v=AA)→Wf H'→(∀s q,Aq H0 s=some q→Aq H' s=some q)→(∀s,AF v s→A2 H0≤s)→
  K (.agg ((cdM x0 x1 x2 x3 x4 x5 f0 f1 f2 f3 f4 f5 y l).csP v)) H'=x):
 (rt (L+20) (n+44)).call MJ [.agg [I x0,I x1,I x2,I x3,I x4,I x5],.agg [I f0,I f1,I f2,I f3,I f4,I f5],a2,a3] H0 K=x:=by
 rw[A1D]
 unfold SQ Av Gr
 obtain⟨H1,b1,e1,s1,l1,w1,k1⟩:=push w (.cells true HJ [I x0,I x1,I x2,I x3,I x4,I x5]) (by simp)
 rw[Fz (cs:=[I x0,I x1,I x2,I x3,I x4,I x5]) rfl,←s1,←e1]
 obtain⟨H2,b2,e2,s2,l2,w2,k2⟩:=push w1 (.cells true HJ [I f0,I f1,I f2,I f3,I f4,I f5]) (by simp)
 rw[Fz (cs:=[I f0,I f1,I f2,I f3,I f4,I f5]) rfl,←s2,←e2]
 obtain⟨H3,z,e3,s3,l3,w3,k3⟩:=push w2 (.cells true Ak BL) (by simp)
 rw[Bi (cs:=BL) rfl,←s3,←e3]
 obtain⟨H4,r,e4,s4,l4,w4,k4⟩:=push w3 (.cells true Ak BL) (by simp)
 have m1:=k2 _ _ l1
 have m2:=k3 _ _ m1.1
 have m3:=k3 _ _ l2
 have q1:=k4 _ _ m2.1
 have q2:=k4 _ _ m3.1
 have q3:=k4 _ _ l3
 have g1:A2 H0≤b1:=by omega
 have g2:A2 H0≤b2:=by have:=w1.lt l1;omega
 have g3:A2 H0≤z:=by have:=w2.lt l2;omega
 have g4:A2 H0≤r:=by have:=w3.lt l3;omega
 have kp0:∀s q,Aq H0 s=some q→Aq H4 s=some q:= λs q hs=>(k4 _ _ (k3 _ _ (k2 _ _ (k1 _ _ hs).1).1).1).1
 clear e1 e2 e3 s1 s2 s3 k1 k2 k3 m1 m3 l1 l2 w1 w2
 have p0:=EZ (c:=x0) (n:=3) (by decide)
 have p1:=EZ (c:=x1) (n:=3) (by decide)
 have p2:=EZ (c:=x2) (n:=9) (by decide)
 have p3:=EZ (c:=x3) (n:=4) (by decide)
 have c0:∀{H K},Ai (rt (L+20) (n+43)) B6 [I x0,.v (.int .i64 3)] H K=K (I (pk x0 3)):= λ{H K}=>KJ (n:=n+42) i0 (by decide) (by decide) H K
 have c1:∀{H K},Ai (rt (L+20) (n+43)) B6 [I x1,.v (.int .i64 3)] H K=K (I (pk x1 3)):= λ{H K}=>KJ (n:=n+42) i1 (by decide) (by decide) H K
 have c2:∀{H K},Ai (rt (L+20) (n+43)) B6 [I x2,.v (.int .i64 9)] H K=K (I (pk x2 9)):= λ{H K}=>KJ (n:=n+42) i2 (by decide) (by decide) H K
 have c3:∀{H K},Ai (rt (L+20) (n+43)) B6 [I x3,.v (.int .i64 4)] H K=K (I (pk x3 4)):= λ{H K}=>KJ (n:=n+42) i3 (by decide) (by decide) H K
 have c4:∀{H K},Ai (rt (L+20) (n+43)) B6 [I x4,.v (.int .i64 50)] H K=K (I (pk x4 50)):= λ{H K}=>KJ (n:=n+42) i4 (by decide) (by decide) H K
 have c5:∀{H K},Ai (rt (L+20) (n+43)) B6 [I x5,.v (.int .i64 30)] H K=K (I (pk x5 30)):= λ{H K}=>KJ (n:=n+42) i5 (by decide) (by decide) H K
 have a0:∀{K:AV→Aj},Go.Abs.Al Ab .add (.v (.int .i64 1)) (I (pk x0 3)) K=K (I (1+pk x0 3)):= λ{K}=>by rw[CG,Cl (by omega) (by omega)]
 have a1:∀{K:AV→Aj},Go.Abs.Al Ab .add (.v (.int .i64 1)) (I (pk x1 3)) K=K (I (1+pk x1 3)):= λ{K}=>by rw[CG,Cl (by omega) (by omega)]
 have a2':∀{K:AV→Aj},Go.Abs.Al Ab .add (.v (.int .i64 1)) (I (pk x2 9)) K=K (I (1+pk x2 9)):= λ{K}=>by rw[CG,Cl (by omega) (by omega)]
 have a3':∀{K:AV→Aj},Go.Abs.Al Ab .add (.v (.int .i64 1)) (I (pk x3 4)) K=K (I (1+pk x3 4)):= λ{K}=>by rw[CG,Cl (by omega) (by omega)]
 obtain⟨d0,d1,d2,d3,d4,d5⟩:=rd6 m2.1
 simp only[C2B,C7n,C7m,C7l,C7k,C7j,d0,d1,d2,d3,d4,d5,c0,c1,c2,c3,c4,c5,a0,a1,a2',a3',BK]
 clear d0 d1 d2 d3 d4 d5
 have bd:∀{a b c d e f:Int} {K:AV→Aj},B4 Ad [(0,1,I a),(1,1,I b),(2,1,I c),(3,1,I d),(4,1,I e),(5,1,I f)] K=K (.agg (Ee a ⟨b,c,d,e,f⟩ u0 [] [] AA [] [] AA 0 AA AA u0 r0 0)):= λ{a b c d e f K}=>_root_.id rfl
 rw[bd,BK,Bi (cs:=BL) rfl,Cu,←s4,←e4,B8 (vs:=Ee (1+pk x0 3) ⟨1+pk x1 3,1+pk x2 9,1+pk x3 4,pk x4 50,pk x5 30⟩ u0 [] [] AA [] [] AA 0 AA AA u0 r0 0) l4 rfl rfl rfl,Cu]
 clear e4 s4
 obtain⟨d0,d1,d2,d3,d4,d5⟩:=rd6 q1.1
 simp only[d0,d1,d2,d3,d4,d5,c0,c1,c2,c3,c4,c5,okI]
 clear d0 d1 d2 d3 d4 d5 c0 c1 c2 c3 c4 c5 a0 a1 a2' a3' bd
 have mc:Mc H0 b1 b2 r z [I x0,I x1,I x2,I x3,I x4,I x5] [I f0,I f1,I f2,I f3,I f4,I f5] H4:=⟨q1.1,q2.1,⟨_,rfl,q3.1⟩,w4,q1.2,q2.2,q3.2,g1,g2,g4,g3,w,kp0⟩
 have mc5:=mc.upd (.cells true Ak (Ee (1+pk x0 3) ⟨1+pk x1 3,1+pk x2 9,1+pk x3 4,pk x4 50,pk x5 30⟩ u0 [] [] AA [] [] AA 0 AA AA u0 r0 0))
 have r5:=A9 (q:=true) (e:=Ak) (cs:=Ee (1+pk x0 3) ⟨1+pk x1 3,1+pk x2 9,1+pk x3 4,pk x4 50,pk x5 30⟩ u0 [] [] AA [] [] AA 0 AA AA u0 r0 0) l4
 generalize Go.Abs.upd H4 r (.cells true Ak (Ee (1+pk x0 3) ⟨1+pk x1 3,1+pk x2 9,1+pk x3 4,pk x4 50,pk x5 30⟩ u0 [] [] AA [] [] AA 0 AA AA u0 r0 0))=H5 at mc5 r5
 clear mc kp0 q1 q2 q3 k4 l4 w4 l3 w3 m2 g1 g2 g3 g4 H4 H3 H2 H1
 have m08:∀{H K},Ai (rt (L+20) (n+43)) Pm [I (x3.tdiv 4),I (x4.tdiv 50),.agg [I f0,I f1,I f2,I f3,I f4,I f5]] H K=K (.agg [S (qn (pk (x3.tdiv 4) 161-80)),S (qd (pk (x3.tdiv 4) 161-80)),FJ (JP [f0,f1,f2,f3,f4,f5] 6),S (qn (pk (x4.tdiv 50) 9)),S (qd (pk (x4.tdiv 50) 9))]):= λ{H K}=>
  AT (B3D (n:=n+2) (xs:=[f0,f1,f2,f3,f4,f5]) (by omega) (LL i3 (by decide)) (LL i4 (by decide)) rfl (by simp[j0,j1,j2,j3,j4,j5]))
   (Ax (q:=false) D1 (Ax (q:=false) D1 (Ax (Qn (D:=depth-1) (K9 (λz:Int=>Value.int .i64 z) [f0,f1,f2,f3,f4,f5])) Ba)))
 have lF:∀{K},Au Bq (.ptr b2 0 0) H5 K=K (.agg [I f0,I f1,I f2,I f3,I f4,I f5]):= λ{K}=>Br rfl rfl mc5.h2
 obtain⟨d0,d1,d2,d3,d4,d5⟩:=rd6 mc5.h1
 obtain⟨H6,st6,mc6,r6, -⟩:=B2Z (i:=E1) (p:=26) (vs:=[S (qn (pk (x3.tdiv 4) 161-80)),S (qd (pk (x3.tdiv 4) 161-80)),FJ (JP [f0,f1,f2,f3,f4,f5] 6),S (qn (pk (x4.tdiv 50) 9)),S (qd (pk (x4.tdiv 50) 9))]) mc5 r5 rfl (by show 26+5≤68;decide) rfl (by show(true&&(true&&(AV.one (FJ (JP [f0,f1,f2,f3,f4,f5] 6))&&(true&&(true&&true)))))=true;rw[SC];rfl)
  (cs':=Ee (1+pk x0 3) ⟨1+pk x1 3,1+pk x2 9,1+pk x3 4,pk x4 50,pk x5 30⟩ u0 (qn (pk (x3.tdiv 4) 161-80)) (qd (pk (x3.tdiv 4) 161-80)) (FJ (JP [f0,f1,f2,f3,f4,f5] 6)) (qn (pk (x4.tdiv 50) 9)) (qd (pk (x4.tdiv 50) 9)) AA 0 AA AA u0 r0 0) rfl
 rw[d3,Zk i3 (by decide),d4,Zk i4 (by decide),lF,m08,VT,st6]
 clear d0 d1 d2 d3 d4 d5 lF st6 mc5 r5 m08
 have hun:∀{H K},Ai (rt (L+20) (n+43)) Fk [I (x5.tdiv 30)] H K=K (.agg (Cm (uu (pk (x5.tdiv 30) 7).toNat))):= λ{H K}=>A8l (n:=n+1) (LL i5 (by decide)) H K
 obtain⟨d0,d1,d2,d3,d4,d5⟩:=rd6 mc6.h1
 obtain⟨H7,st7,mc7,r7, -⟩:=B2Z (i:=Af) (p:=6) (vs:=Cm (uu (pk (x5.tdiv 30) 7).toNat)) mc6 r6 rfl (by show 6+20≤68;decide) rfl rfl
  (cs':=Ee (1+pk x0 3) ⟨1+pk x1 3,1+pk x2 9,1+pk x3 4,pk x4 50,pk x5 30⟩ (uu (pk (x5.tdiv 30) 7).toNat) (qn (pk (x3.tdiv 4) 161-80)) (qd (pk (x3.tdiv 4) 161-80)) (FJ (JP [f0,f1,f2,f3,f4,f5] 6)) (qn (pk (x4.tdiv 50) 9)) (qd (pk (x4.tdiv 50) 9)) AA 0 AA AA u0 r0 0) rfl
 have lk:∀{K},Au Ab (.ptr r 0 0) H7 K=K (I (1+pk x0 3)):= λ{K}=>AK (p:=0) rfl r7 (show 0<68 by decide)
 rw[d5,Zk i5 (by decide),hun,VT,st7,VT,lk,Do]
 clear d0 d1 d2 d3 d4 d5 st7 mc6 r6 hun lk
 by_cases h0:pk x0 3=0
 ·have ecd:cdM x0 x1 x2 x3 x4 x5 f0 f1 f2 f3 f4 f5 y l= .re (cbM x1 x2 x3 x4 x5 [f0,f1,f2,f3,f4,f5]) (pk (x5.tdiv 30) 7).toNat:=if_pos h0
  have e1:1+pk x0 3=1:=by omega
  rw[decide_eq_true e1,Dc]
  rw[ecd] at hK
  rw[e1] at r7
  refine A6B mc7 r7 rfl (Pz (SC _) rfl rfl rfl) λH' w' kp=> ?_
  exact hK AA H' (.inl ⟨rfl,rfl,rfl⟩) (λ_=>rfl) w' (λs q hs=>kp s q (by have:=mc7.w0.lt hs;have:=mc7.f4;omega) (mc7.kp s q hs)) (λs ⟨_,_,_,h⟩=>by cases h)
 ·have ecd:cdM x0 x1 x2 x3 x4 x5 f0 f1 f2 f3 f4 f5 y l= .co (cbM x1 x2 x3 x4 x5 [f0,f1,f2,f3,f4,f5]) (prM [f0,f1,f2] (x2.tdiv 9) y) (psM x1 l (prM [f0,f1,f2] (x2.tdiv 9) y).ks.length) (if pk x0 3=1 then none else some (1+(pk (x0.tdiv 3) 3).toNat,1+pk (x0.tdiv 9) 3)):=if_neg h0
  rw[ecd] at hK
  clear ecd
  have m09:∀{K},Ai (rt (L+20) (n+43)) Pk [.agg [I f0,I f1,I f2],I (x2.tdiv 9),a2,.v (.bool true)] H7 K=K (.agg (B1 (prM [f0,f1,f2] (x2.tdiv 9) y).id (BJ (prM [f0,f1,f2] (x2.tdiv 9) y).ks) (Cc (prM [f0,f1,f2] (x2.tdiv 9) y).xs) (uu (prM [f0,f1,f2] (x2.tdiv 9) y).out))):= λ{K}=>by
   obtain⟨q,hq⟩:=hy H7 mc7.kp
   exact AT (B3C (n:=n) (ins:=[f0,f1,f2]) (by omega) rfl (by simp[j0,j1,j2]) (LL i2 (by decide)) hyI) (Ax (Qn (D:=depth-1) (K9 (λz:Int=>Value.int .i64 z) [f0,f1,f2])) (Ax (q:=false) D1 (Ax hq (Ax (q:=false) D1 Ba))))
  have hp:=A8u (ins:=[f0,f1,f2]) (count:=x2.tdiv 9) (y:=y) rfl
  generalize prM [f0,f1,f2] (x2.tdiv 9) y=p at hK m09 hp
  have e1:¬(1+pk x0 3=1):=by omega
  rw[decide_eq_false e1,Bx]
  obtain⟨g0,g1,g2, -, -, -⟩:=rd6 mc7.h2
  obtain⟨d0,d1,d2, -, -, -⟩:=rd6 mc7.h1
  have b3:∀{K:AV→Aj},B4 PF [(0,1,I f0),(1,1,I f1),(2,1,I f2)] K=K (.agg [I f0,I f1,I f2]):= λ{K}=>_root_.id rfl
  obtain⟨H8,st8,mc8,r8, -⟩:=B2Z (i:=A8) (p:=32) (vs:=B1 p.id (BJ p.ks) (Cc p.xs) (uu p.out)) mc7 r7 rfl (by show 32+23≤68;decide) rfl (A3H rfl rfl)
   (cs':=Ee (1+pk x0 3) ⟨1+pk x1 3,1+pk x2 9,1+pk x3 4,pk x4 50,pk x5 30⟩ (uu (pk (x5.tdiv 30) 7).toNat) (qn (pk (x3.tdiv 4) 161-80)) (qd (pk (x3.tdiv 4) 161-80)) (FJ (JP [f0,f1,f2,f3,f4,f5] 6)) (qn (pk (x4.tdiv 50) 9)) (qd (pk (x4.tdiv 50) 9)) AA p.id (BJ p.ks) (Cc p.xs) (uu p.out) r0 0) rfl
  have lu:∀{K},Au Af (.ptr r 35 0) H8 K=K (.agg (Cm (uu p.out))):= λ{K}=>Fy (p:=35) rfl r8 (show 55≤68 by decide)
  obtain⟨H9,st9,mc9,r9, -⟩:=B2Z (i:=Af) (p:=6) (vs:=Cm (uu p.out)) mc8 r8 rfl (by show 6+20≤68;decide) rfl rfl
   (cs':=Ee (1+pk x0 3) ⟨1+pk x1 3,1+pk x2 9,1+pk x3 4,pk x4 50,pk x5 30⟩ (uu p.out) (qn (pk (x3.tdiv 4) 161-80)) (qd (pk (x3.tdiv 4) 161-80)) (FJ (JP [f0,f1,f2,f3,f4,f5] 6)) (qn (pk (x4.tdiv 50) 9)) (qd (pk (x4.tdiv 50) 9)) AA p.id (BJ p.ks) (Cc p.xs) (uu p.out) r0 0) rfl
  have f35:∀{K:AV→Aj},AN 3 (.ptr r 32 0) K=K (.ptr r 35 0):= λ{K}=>by rw[fA]
  rw[g0,g1,g2,b3,d2,Zk i2 (by decide),m09,VT,st8,VT,f35,lu,VT,st9]
  clear g0 g1 g2 d0 d1 d2 b3 st8 mc8 r8 lu st9 f35 m09 mc7 r7
  refine Lw λk79 h79=> ?_
  refine Lw λk108 h108=> ?_
  have hc:CR (λv=>Ee (1+pk x0 3) ⟨1+pk x1 3,1+pk x2 9,1+pk x3 4,pk x4 50,pk x5 30⟩ (uu p.out) (qn (pk (x3.tdiv 4) 161-80)) (qd (pk (x3.tdiv 4) 161-80)) (FJ (JP [f0,f1,f2,f3,f4,f5] 6)) (qn (pk (x4.tdiv 50) 9)) (qd (pk (x4.tdiv 50) 9)) v p.id (BJ p.ks) (Cc p.xs) (uu p.out) r0 0) p.ks:=⟨λ_=>rfl,λ_ _=>rfl,λ_=>rfl,λ_=>rfl⟩
  refine C4J (n:=n) (l:=l) hL hc i1 hp.k3 hl hb h32 ?_ (L+20) 0 AA _ _ H9 (by omega) (by have:=hp.k3;omega) ⟨mc9,r9,.inl ⟨rfl,rfl,rfl⟩,λ_=>rfl,λs ⟨_,_,_,h⟩=>by cases h⟩
  intro v H hh
  rw[h108,h79]
  clear h108 h79 mc9 r9
  refine Lw λk84 h84=> ?_
  have hk84:∀(cs:List AV) (Hx:Hp),Mc H0 b1 b2 r z [I x0,I x1,I x2,I x3,I x4,I x5] [I f0,I f1,I f2,I f3,I f4,I f5] Hx→Aq Hx r=some (.cells true Ak cs)→cs.length=68→cs.all AV.one=true→cs=(Cd.co (cbM x1 x2 x3 x4 x5 [f0,f1,f2,f3,f4,f5]) p (psM x1 l p.ks.length) (if pk x0 3=1 then none else some (1+(pk (x0.tdiv 3) 3).toNat,1+pk (x0.tdiv 9) 3))).csP v→(∀s q,s≠r→Aq H s=some q→Aq Hx s=some q)→k84 Hx=x:=by
   intro cs Hx mcx rx c1 c2 ecs kx
   rw[h84]
   refine A6B mcx rx c1 c2 λH' w' kp=> ?_
   rw[ecs]
   refine hK v H' ?_ hh.nv w' (λs q hs=>kp s q (by have:=mcx.w0.lt hs;have:=mcx.f4;omega) (mcx.kp s q hs)) (λs hs=>(hh.fr s hs).1)
   exact hh.sv.kp λs q hs hl=>kp s q (hh.fr s hs).2.2.2.2 (kx s q (hh.fr s hs).2.2.2.1 hl)
  clear h84 hK
  have lk:∀{K},Au Ab (.ptr r 0 0) H K=K (I (1+pk x0 3)):= λ{K}=>AK (p:=0) rfl hh.hr (show 0<68 by decide)
  rw[VT,lk,Do]
  by_cases h1:pk x0 3=1
  ·have e3:¬(1+pk x0 3=3):=by omega
   rw[decide_eq_false e3,Bx]
   rw[if_pos h1] at hk84
   have e2:1+pk x0 3=2:=by omega
   have hr:=hh.hr
   rw[e2] at hr
   exact hk84 _ H hh.mc hr rfl (Pz (SC _) (Bu.one hh.sv) rfl rfl) rfl (λs q _ h=>h)
  ·have e3:1+pk x0 3=3:=by omega
   have pv:=EZ (c:=x0.tdiv 9) (n:=3) (by decide)
   rw[decide_eq_true e3,Dc]
   rw[if_neg h1] at hk84
   have hr:=hh.hr
   rw[e3] at hr
   have hru:∀{H K},Ai (rt (L+20) (n+43)) Ja [I (x0.tdiv 3)] H K=K (.agg (rr (1+(pk (x0.tdiv 3) 3).toNat)).cs):= λ{H K}=>B7p (n:=n+41) (LL i0 (by decide)) H K
   have hpk:∀{H K},Ai (rt (L+20) (n+43)) B6 [I (x0.tdiv 9),.v (.int .i64 3)] H K=K (I (pk (x0.tdiv 9) 3)):= λ{H K}=>KJ (n:=n+42) (LL i0 (by decide)) (by decide) (by decide) H K
   have ad:∀{K:AV→Aj},Go.Abs.Al Ab .add (.v (.int .i64 1)) (I (pk (x0.tdiv 9) 3)) K=K (I (1+pk (x0.tdiv 9) 3)):= λ{K}=>by rw[CG,Cl (by omega) (by omega)]
   obtain⟨d0, -⟩:=rd6 hh.mc.h1
   obtain⟨HA,stA,mcA,rA,kA⟩:=B2Z (i:=C8) (p:=55) (vs:=(rr (1+(pk (x0.tdiv 3) 3).toNat)).cs) hh.mc hr rfl (by show 55+9≤68;decide) rfl rfl
    (cs':=Ee 3 ⟨1+pk x1 3,1+pk x2 9,1+pk x3 4,pk x4 50,pk x5 30⟩ (uu p.out) (qn (pk (x3.tdiv 4) 161-80)) (qd (pk (x3.tdiv 4) 161-80)) (FJ (JP [f0,f1,f2,f3,f4,f5] 6)) (qn (pk (x4.tdiv 50) 9)) (qd (pk (x4.tdiv 50) 9)) v p.id (BJ p.ks) (Cc p.xs) (uu p.out) (rr (1+(pk (x0.tdiv 3) 3).toNat)) 0) rfl
   obtain⟨d0', -⟩:=rd6 mcA.h1
   rw[C2B,d0,Zk i0 (by decide),hru,VT,stA,C2B,d0',Zk i0 (by decide),hpk,ad,VT,E4 rA (show 64<68 by decide) rfl rfl rfl]
   exact hk84 _ _ (mcA.upd _) (A9 rA) rfl (Pz (SC _) (Bu.one hh.sv) rfl rfl) rfl (λs q hs h=>by rw[Ap hs];exact kA s q hs h)
end
end
section
variable {L n:Nat}
theorem B1p {f:AV→(Bool→AV→Aj)→Aj}:∀(l m:List AV) (K:Bool→List AV→Aj),Hz f (l++m) K=Hz f l λq l'=>Hz f m λq' m'=>K (q||q') (l'++m'):=by
 intro l
 induction l with
 |nil=>intro m K;rfl
 |cons a l ih=>
  intro m K
  have e:∀(l:List AV) (K:Bool→List AV→Aj),Hz f (a::l) K=f a λq a'=>Hz f l λq' l'=>K (@Bool.rec (λ_=>Bool) q' true q) (a'::l'):= λ_ _=>rfl
  rw[List.cons_append,e,e]
  congr 1
  funext q a'
  rw[ih]
  congr 1
  funext q1 l1
  congr 1
  funext q2 l2
  cases q<;>rfl
theorem B0g {b:Bool} {D:Nat} {l l' m m':List AV} {H:Hp} {q q':Bool} (h:OV b D l l' H q) (k:OV b D m m' H q'):OV b D (l++m) (l'++m') H (q||q'):= λK=>by
 rw[B1p,h,k]
def A6Y:AV→Bool
 | .v _=>true
 | .list _ _=>true
 |_=>false
theorem B0f {D:Nat} {H:Hp}:∀l:List AV,l.all A6Y=true→OV true D l l H false:=by
 intro l
 induction l with
 |nil=>intro _;exact Ba
 |cons a l ih=>
  intro h
  simp only[l2j,Jq] at h
  have h2:=ih h.2
  cases a with
  |v x=>exact Ax (q:=false) D1 h2
  |list n cs=>exact Ax (q:=false) Pj h2
  |_=>cases h.1
theorem A4u (ts:Tms):A6Y (FJ ts)=true:=by cases ts<;>rfl
theorem B1A {k:IntKind} {z:Int}:A6Y (.v (.int k z))=true:=rfl
theorem A3U {l:List UInt8}:A6Y (S l)=true:=rfl
theorem C2M:A6Y (.v (.slice none 0 0))=true:=rfl
theorem C5U {n:Nat} {l:List AV}:A6Y (.list n l)=true:=rfl
theorem B21 (c:Cd):∃A B:List AV,(∀P,c.csP P=A++P::B)∧A.all A6Y=true∧B.all A6Y=true:=by
 match c with
 | .re b u=>
  refine⟨((Cd.re b u).csP AA).take 31,((Cd.re b u).csP AA).drop 32,λ_=>rfl,?_,?_⟩
  ·simp only[Cd.csP,List.take_succ_cons,List.take_zero,l2j,List.all_nil,B1A,A3U,A4u,l1b,l16]
  ·simp only[Cd.csP,List.drop_succ_cons,l1n,l2j,List.all_nil,B1A,A3U,C2M,l1b,l16]
 | .co b p ps none=>
  refine⟨((Cd.co b p ps none).csP AA).take 31,((Cd.co b p ps none).csP AA).drop 32,λ_=>rfl,?_,?_⟩
  ·simp only[Cd.csP,List.take_succ_cons,List.take_zero,l2j,List.all_nil,B1A,A3U,A4u,l1b,l16]
  ·simp only[Cd.csP,List.drop_succ_cons,l1n,l2j,List.all_nil,B1A,A3U,C2M,C5U,l1b,l16]
 | .co b p ps (some (k,vd))=>
  refine⟨((Cd.co b p ps (some (k,vd))).csP AA).take 31,((Cd.co b p ps (some (k,vd))).csP AA).drop 32,λ_=>rfl,?_,?_⟩
  ·simp only[Cd.csP,List.take_succ_cons,List.take_zero,l2j,List.all_nil,B1A,A3U,A4u,l1b,l16]
  ·simp only[Cd.csP,List.drop_succ_cons,l1n,l2j,List.all_nil,B1A,A3U,C2M,C5U,l1b,l16]
theorem XG (c:Cd) {P:AV} (h:AV.one P=true):(c.csP P).all AV.one=true:=by
 match c with
 | .re b u=>exact Pz (SC _) h rfl rfl
 | .co b p ps none=>exact Pz (SC _) h rfl rfl
 | .co b p ps (some (k,vd))=>exact Pz (SC _) h rfl rfl
theorem Tx (c:Cd) {P:AV}:(c.csP P).length=68:=by
 match c with
 | .re b u=>rfl
 | .co b p ps none=>rfl
 | .co b p ps (some (k,vd))=>rfl
section
variable {H H':Hp} {v:AV} {l:List (List UInt8)} {D:Nat} {b:Bool}
theorem Xy (h:Bu H Ar 1 v l.length (AL l)) (h0:l=[]→v=AA):∃q,Fx b (D+1) v (DV l) H q:=by
 rcases h with⟨rfl,h2,_⟩|⟨r,q,rfl,h2,h3⟩
 ·cases l with
  |nil=>exact⟨false,D1⟩
  |cons a l=>simp at h2
 ·cases l with
  |nil=>have:=h0 rfl;cases this
  |cons a l=>
   refine⟨true,?_⟩
   show Fx b (D+1) _ (.list (a::l).length (AL (a::l))) H true
   exact Xz (q':=false) h2 h3 (K9 (λs=>Value.string ⟨⟨s⟩⟩) (a::l))
theorem A5k {c:Cd} (h:Bu H Ar 1 v c.ps.length (AL c.ps)) (h0:c.ps=[]→v=AA):∃q,OV true (D+1) (c.csP v) c.cs H q:=by
 obtain⟨q,hq⟩:=Xy (D:=D) (b:=true) h h0
 obtain⟨A,B,e,f1,f2⟩:=B21 c
 rw[←C39 c,e,e]
 exact⟨_,B0g (B0f A f1) (Ax hq (B0f B f2))⟩
abbrev GV:=List (Cd×AV)
def gvC (g:GV):List AV:=g.flatMap λp=>p.1.csP p.2
structure GvOk (g:GV) (H:Hp):Prop where
 sl:∀p∈g,Bu H Ar 1 p.2 p.1.ps.length (AL p.1.ps)
 nl:∀p∈g,p.1.ps=[]→p.2=AA
theorem C5D {g:GV} (h:GvOk g H):∃q,OV true (D+1) (gvC g) ((g.map Prod.fst).flatMap Cd.cs) H q:=by
 induction g with
 |nil=>exact⟨_,Ba⟩
 |cons p g ih=>
  obtain⟨q1,h1⟩:=ih ⟨λr hr=>h.sl r (by simp[hr]),λr hr=>h.nl r (by simp[hr])⟩
  obtain⟨q2,h2⟩:=A5k (D:=D) (h.sl p (by simp)) (h.nl p (by simp))
  exact⟨_,B0g h2 h1⟩
def A8I (gs:List Cd):AV:=match gs with
 |[]=>AA
 |c::gs=> .list (c::gs).length ((c::gs).flatMap Cd.cs)
theorem B7M (gs:List Cd):LA gs (A8I gs):=by cases gs with|nil=>exact .inr ⟨rfl,rfl⟩|cons _ _=>exact .inl rfl
theorem C2D {g:GV} {lv:AV} (h:GvOk g H) (hl:Bu H Ak 68 lv g.length (gvC g)) (h0:g=[]→lv=AA):∃q,Fx true (D+2) lv (A8I (g.map Prod.fst)) H q:=by
 rcases hl with⟨rfl,h2,_⟩|⟨r,q,rfl,h2,h3⟩
 ·cases g with
  |nil=>exact⟨false,D1⟩
  |cons a l=>simp at h2
 ·cases g with
  |nil=>have:=h0 rfl;cases this
  |cons p g=>
   obtain⟨q1,h1⟩:=C5D (D:=D) h
   refine⟨true,?_⟩
   have e:A8I ((p::g).map Prod.fst)= .list (p::g).length (((p::g).map Prod.fst).flatMap Cd.cs):=by
    show AV.list _ _=_
    rw[show(p.1::g.map Prod.fst).length=(p::g).length by simp];rfl
   rw[e]
   exact Xz h2 h3 h1
end
structure Y7 where
 (y0 y1 y2 y3 y4 y5 y6:Int)
def Y7.cs (y:Y7):List AV:=[I y.y0,I y.y1,I y.y2,I y.y3,I y.y4,I y.y5,I y.y6]
def Y7.Ok (y:Y7):Prop:=Lc y.y0∧Lc y.y1∧Lc y.y2∧Lc y.y3∧Lc y.y4∧Lc y.y5∧Lc y.y6
def paM (ids:List (List UInt8)) (y6:Int):Nat→List (List UInt8)
 |0=>[]
 |k+1=>if 0<ids.length∧pk (y6.fdiv (2^(4*k))) 16<14 then paM ids y6 k++[ids.getD ((pk (y6.fdiv (2^(4*k))) 16).toNat%ids.length) []] else paM ids y6 k
theorem B00 {ids:List (List UInt8)} {y6:Int}:∀k,∀s∈paM ids y6 k,s∈ids:=by
 intro k
 induction k with
 |zero=>intro s hs;simp[paM] at hs
 |succ k ih=>
  intro s hs
  unfold paM at hs
  split at hs
  ·rename_i h
   rcases YD.1 hs with hs|hs
   ·exact ih s hs
   ·rw[Zo] at hs;subst hs
    have:=Nat.mod_lt (pk (y6.fdiv (2^(4*k))) 16).toNat h.1
    rw[Ua,Kn this]
    exact QN this
  ·exact ih s hs
theorem B01 {ids:List (List UInt8)} {y6:Int}:∀k,(paM ids y6 k).length≤k:=by
 intro k
 induction k with
 |zero=>simp[paM]
 |succ k ih=>
  unfold paM
  split
  ·simp;omega
  ·omega
def kdM (i:Nat) (y:Y7):Int:=if i<2∧0<pk (y.y0.tdiv 3) 4 then 0 else y.y0
def cM (i:Nat) (y:Y7) (ids:List (List UInt8)):Cd:=cdM (kdM i y) y.y1 y.y2 y.y3 y.y4 y.y5 y.y1 y.y2 y.y3 y.y4 y.y5 y.y6 (some (y.y3,y.y4,y.y5,y.y6)) (paM ids y.y6 3)
def OA (xs:List Y7):Nat→List Cd
 |0=>[]
 |i+1=>
  if(cM i (xs.getD i ⟨0,0,0,0,0,0,0⟩) ((OA xs i).map Cd.id)).ps.Nodup∧(cM i (xs.getD i ⟨0,0,0,0,0,0,0⟩) ((OA xs i).map Cd.id)).id∉(OA xs i).map Cd.id
  then OA xs i++[cM i (xs.getD i ⟨0,0,0,0,0,0,0⟩) ((OA xs i).map Cd.id)] else OA xs i
theorem B9k {i:Nat} {y:Y7} {gs:List Cd}:(cM i y (gs.map Cd.id)).Ok:=by
 refine A2s λs hs=> ?_
 obtain⟨c,_,rfl⟩:=Zp.1 (B00 _ s hs)
 exact A9h c
theorem B4A (xs:List Y7):∀i,i≤8→GOk (OA xs i)∧(OA xs i).length≤i:=by
 intro i
 induction i with
 |zero=>intro _;exact⟨⟨by simp[OA],by simp[OA],by simp[OA],by simp[OA]⟩,by simp[OA]⟩
 |succ i ih=>
  intro hi
  obtain⟨h,hlen⟩:=ih (by omega)
  unfold OA
  split
  ·rename_i hc
   refine⟨⟨λc hm=> ?_,λc hm=> ?_,?_,by simp;omega⟩,by simp;omega⟩
   ·rcases YD.1 hm with hm|hm
    ·exact h.ok c hm
    ·rw[Zo] at hm;subst hm;exact B9k
   ·rcases YD.1 hm with hm|hm
    ·exact h.nd c hm
    ·rw[Zo] at hm;subst hm;exact hc.1
   ·rw[YG,List.nodup_append]
    refine⟨h.ids,by simp,λa ha b hb e=> ?_⟩
    obtain⟨c',hc',rfl⟩:=Zp.1 hb
    rw[Zo] at hc';subst hc'
    exact hc.2 (e▸ha)
  ·exact⟨h,by omega⟩
theorem B5n {c:Cd} (h:c.Ok):c.ps.length≤3:=by
 match c,h with
 | .re b u,_=>simp[Cd.ps]
 | .co b p ps none,⟨_,hp,h1,_⟩=>show ps.length≤3;rw[h1];exact hp.k3
 | .co b p ps (some _),⟨_,hp,h1,_⟩=>show ps.length≤3;rw[h1];exact hp.k3
end
section
variable {L n:Nat}
abbrev Bp:=List UInt8
section
variable {gs:List Cd} {b:List (Bp×Unit)} {p:Bp} {ids:List Bp}
theorem B1d:∀b:List (Bp×Unit),(G6 b p ()).map Prod.fst=if p∈b.map Prod.fst then b.map Prod.fst else b.map Prod.fst++[p]:=by
 intro b
 induction b with
 |nil=>rfl
 |cons e b ih=>
  unfold G6
  by_cases h:e.1=p
  ·simp[h]
  ·rw[if_neg h,Vu,ih,Vu]
   have hm:(p∈e.1::b.map Prod.fst)↔p∈b.map Prod.fst:=by simp[Ne.symm h]
   by_cases h2:p∈b.map Prod.fst
   ·rw[if_pos h2,if_pos (hm.2 h2)]
   ·rw[if_neg h2,if_neg (λh3=>h2 (hm.1 h3))];rfl
theorem A4s {H:Hp} {K:AV→Aj}:Ai (rt (L+20) (n+1)) F5 [gV gs,S p] H K=K (Bo (decide (p∈gs.map Cd.id))):=by
 refine AT (λK hK=> ?_) (Ax A0w (Ax (q:=false) D1 Ba))
 rw[RY]
 unfold J0
 have ek:∀(F:Value→Aj),Ix (S p) F=F (SV p):= λF=>id rfl
 rw[ek,Rx (f:=Kt) (b:=gE gs) (λK=>id rfl)]
 by_cases h:p∈gs.map Cd.id
 ·obtain⟨c,hc⟩:∃c,JK (gE gs) p=some c:=by
   rcases B8h (gs:=gs) (s:=p) with⟨_,k,hk,h1,_⟩|⟨h1,_⟩
   ·exact⟨_,h1⟩
   ·exact absurd h h1
  rw[hc]
  simp only[]
  rw[CZ,CY,Bi (cs:=BL) rfl,B8 (cs:=BL) (vs:=c.cs) (A1 (by simp)) CD rfl KB]
  rw[decide_eq_true h] at hK⊢
  exact hK _ _ λb=>⟨false,D1⟩
 ·rw[A27 (by rw[A55];exact h)]
  simp only[]
  rw[CZ,CY,Bi (cs:=BL) rfl,show(Ad.zero:AV)= .agg BL from rfl,B8 (cs:=BL) (vs:=BL) (A1 (by simp)) rfl rfl rfl]
  rw[decide_eq_false h] at hK⊢
  exact hK _ _ λb=>⟨false,D1⟩
end
section
variable {gs:List Cd} {ids:List Bp}
theorem B3U:∀l:List Bp,pl 6 (DV l)=true:=by
 intro l
 cases l with
 |nil=>rfl
 |cons a l=>
  show(AL (a::l)).all (pl 5)=true
  rw[HF]
  intro y hy
  obtain⟨s,_,rfl⟩:=Zp.1 hy
  rfl
theorem B5e {ty:Nat} {es:List (Value×AV)} {H:Hp} {K:KV}:DS ty (.imap es) H K=K (.ptr (A2 H) 0 0) ((A2 H,.cells true ty [.imap es])::H):=by
 unfold DS
 rw[CQ,Gk,Ca];rfl
end
abbrev B8p (gs:List Cd):AV:= .fn (.func Cw) [] [.iptr [gV gs]]
end
end Go.Abs
end
