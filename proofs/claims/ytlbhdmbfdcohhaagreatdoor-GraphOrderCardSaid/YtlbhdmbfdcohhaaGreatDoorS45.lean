import Derived.Test.YtlbhdmbfdcohhaaGreatDoorS22
import Derived.Test.YtlbhdmbfdcohhaaGreatDoorS42
import Derived.Test.YtlbhdmbfdcohhaaGreatDoorS43
import Derived.Test.YtlbhdmbfdcohhaaGreatDoorS44
set_option linter.all false
set_option maxHeartbeats 100000000
noncomputable section
namespace Go.Abs
open Go.RowKit Go.Proofs
set_option maxRecDepth 100000
section
variable {L n:Nat}
def PL (H:Hp) (l:List (List UInt8)) (a:AV):Prop:=SA l a∨Bv H Au 1 a l.length (AK l)
section
variable {H H':Hp} {l:List (List UInt8)} {a:AV} {K:AV→Aj}
theorem PL.len (h:PL H l a):AQ Ac a K=K (I l.length):=by
 rcases h with h|h
 ·exact h.len
 ·exact JI (t:=Ac) rfl h
theorem B35 {i:Nat} (h:Bv H Au 1 a l.length (AK l)) (hi:i<l.length):(B9 Ac a (I i) λp=>Ar Ae p H K)=K (S l[i]):=by
 rcases h with⟨_,h2,_⟩|⟨r,q,rfl,h2,h3⟩
 ·omega
 ·have e1:∀K:AV→Aj,B9 Ac (.sl 1 r 0 l.length) (I (i:Int)) K=iN (i:Int) λm=>ck (Nat.blt m l.length) (fN (Nat.add 0 (Nat.mul m 1)) λp=>K (.ptr r p 0)):= λK=>_root_.id rfl
  rw[e1,Jn,Di]
  have h3:Nat.blt i l.length=true:=by rw[UK];exact hi
  rw[h3]
  show Ar Ae (.ptr r (0+i*1) 0) H K=_
  rw[KF,l28,AP rfl h2 (by simp[AK];exact hi),Nj hi]
theorem PL.at (h:PL H l a) {i:Nat} (hi:i<l.length):(B9 Ac a (I i) λp=>Ar Ae p H K)=K (S l[i]):=by
 rcases h with h|h
 ·rw[h.ia hi,Gt]
 ·exact B35 h hi
theorem PL.at2 (h:PL H l a) {i:Nat} (hi:i<l.length):∃p,(∀K:AV→Aj,B9 Ac a (I i) K=K p)∧∀K:AV→Aj,Ar Ae p H K=K (S l[i]):=by
 rcases h with h|h
 ·exact⟨_,λK=>h.ia hi,λK=>Gt⟩
 ·rcases h with⟨_,h2,_⟩|⟨r,q,rfl,h2,h3⟩
  ·omega
  ·refine⟨.ptr r i 0,λK=> ?_,λK=>by rw[AP rfl h2 (by simp[AK];exact hi),Nj hi]⟩
   have e1:∀K:AV→Aj,B9 Ac (.sl 1 r 0 l.length) (I (i:Int)) K=iN (i:Int) λm=>ck (Nat.blt m l.length) (fN (Nat.add 0 (Nat.mul m 1)) λp=>K (.ptr r p 0)):= λK=>_root_.id rfl
   rw[e1,Jn,Di]
   have h3:Nat.blt i l.length=true:=by rw[UK];exact hi
   rw[h3]
   show K (.ptr r (0+i*1) 0)=_
   rw[KF,l28]
theorem PL.kp (h:PL H l a) (k:∀s x,Aq H s=some x→Aq H' s=some x):PL H' l a:=by
 rcases h with h|h
 ·exact .inl h
 ·exact .inr (h.kp λs x _=>k s x)
end
def YA (H:Hp) (y:Y4) (a:AV):Prop:=∀H',(∀s x,Aq H s=some x→Aq H' s=some x)→∃q,Fx true depth a (yA y) H' q
def WW (i:Int) (p:List UInt8) (ps:List (List UInt8)):List UInt8:=ps.foldl (λp q=>if q=p then A2V (-1-i) else p) p
def psM (x1:Int) (l:List (List UInt8)):Nat→List (List UInt8)
 |0=>[]
 |i+1=>psM x1 l i++[WW i (if h:i<l.length then l[i] else A2V (pk (x1.tdiv 3) 1000+i)) (psM x1 l i)]
theorem WS {x1:Int} {l:List (List UInt8)}:∀i,(psM x1 l i).length=i:=by
 intro i
 induction i with
 |zero=>rfl
 |succ i ih=>simp[psM,ih]
theorem A6C (c:Int):(A2V c).length=32:=Ut _ 8
theorem B1o {i:Int}:∀(ps:List (List UInt8)) (p:List UInt8),p.length=32→(WW i p ps).length=32:=by
 intro ps
 induction ps with
 |nil=>intro p h;exact h
 |cons q ps ih=>
  intro p h
  show(WW i (if q=p then A2V (-1-i) else p) ps).length=32
  by_cases hq:q=p
  ·rw[if_pos hq];exact ih _ (A6C _)
  ·rw[if_neg hq];exact ih _ h
theorem C25 {x1:Int} {l:List (List UInt8)} (hl:∀s∈l,s.length=32):∀i,∀s∈psM x1 l i,s.length=32:=by
 intro i
 induction i with
 |zero=>intro s hs;simp[psM] at hs
 |succ i ih=>
  intro s hs
  rcases Zi.1 hs with hs|hs
  ·exact ih s hs
  ·rw[l2f] at hs;subst hs
   apply B1o
   by_cases h:i<l.length
   ·rw[dif_pos h];exact hl _ (QE h)
   ·rw[dif_neg h];exact A6C _
theorem LM {a b:Int} (h:Le a) (hb:1≤b):Le (a.tdiv b):=by
 unfold Le at h⊢
 by_cases h0:0≤a
 ·have h1:=Int.tdiv_nonneg h0 (by omega:0≤b)
  have h2:a.tdiv b≤a:=Int.tdiv_le_self b h0
  omega
 ·have e:a.tdiv b= -((-a).tdiv b):=by rw[Int.neg_tdiv,Int.neg_neg]
  have h1:=Int.tdiv_nonneg (by omega:0≤ -a) (by omega:0≤b)
  have h2:(-a).tdiv b≤ -a:=Int.tdiv_le_self b (by omega)
  omega
theorem Ze {a b:Int} {K:AV→Aj} (h:Le a) (hb:1≤b):Go.Abs.Ak Ab .quo (I a) (.v (.int .i64 b)) K=K (I (a.tdiv b)):=by
 have h1:=LM h hb
 rw[B5e (by omega),Cp h1.1 h1.2]
structure Mc (H0:Hp) (b1 b2 r z:Nat) (X F:List AV) (H:Hp):Prop where
 h1:Aq H b1=some (.cells true HF X)
 h2:Aq H b2=some (.cells true HF F)
 hz:∃cs,cs.length=68∧Aq H z=some (.cells true Al cs)
 wf:Wf H
 n1:b1≠r
 n2:b2≠r
 nz:z≠r
 f1:A2 H0≤b1
 f2:A2 H0≤b2
 f3:A2 H0≤r
 f4:A2 H0≤z
 w0:Wf H0
 kp:∀s x,Aq H0 s=some x→Aq H s=some x
section
variable {K:KV} {x:Aj} {H0 H H':Hp} {b1 b2 r z:Nat} {X F:List AV} {ps l:List (List UInt8)} {v a3:AV} {cR:AV→List AV}
theorem Mc.upd (h:Mc H0 b1 b2 r z X F H) (y:Row):Mc H0 b1 b2 r z X F (upd H r y):=by
 obtain⟨cs,c1,c2⟩:=h.hz
 exact⟨by rw[Ap h.n1];exact h.h1,by rw[Ap h.n2];exact h.h2,⟨cs,c1,by rw[Ap h.nz];exact c2⟩,BR h.wf,h.n1,h.n2,h.nz,h.f1,h.f2,h.f3,h.f4,h.w0,λs x hs=>by
  have:=h.w0.lt hs
  have:=h.f3
  rw[Ap (by omega)];exact h.kp s x hs⟩
structure Pl (H0:Hp) (b1 b2 r z:Nat) (X F:List AV) (cR:AV→List AV) (ps:List (List UInt8)) (v:AV) (H:Hp):Prop where
 mc:Mc H0 b1 b2 r z X F H
 hr:Aq H r=some (.cells true Al (cR v))
 sv:Bv H Au 1 v ps.length (AK ps)
 nv:ps=[]→v=AA
 fr:∀s,AG v s→A2 H0≤s∧s≠b1∧s≠b2∧s≠r∧s≠z
structure CR (cR:AV→List AV) (ks:List Nat):Prop where
 len:∀v,(cR v).length=68
 set:∀v v',(cR v).set 31 v'=cR v'
 get:∀v,(cR v).getD 31 .dk=v
 ins:∀v,(cR v).getD 33 .dk=BH ks
theorem C4H {k154:AV→AV→AV→AV→AV→AV→AV→Hp→Aj} {ks:List Nat} (hL:40000<L) (hc:CR cR ks) {i:Nat} (hi:i<3) (hh:Pl H0 b1 b2 r z X F cR ps v H) (hb:ps.length≤3):
 ∀(f k:Nat) (p:List UInt8),k≤ps.length→ps.length-k<f→k154 a3 (.ptr b1 0 0) (.ptr z 0 0) (.ptr r 0 0) (I i) (S (WW i p (ps.drop k))) (I ps.length) H=x→
 NS (L+20) (rt (L+20) (n+43)) K k154 f a3 (.ptr b1 0 0) (.ptr z 0 0) (.ptr r 0 0) (I i) (S p) (I k) H=x:=by
 intro f
 induction f with
 |zero=>intro k p _ h;omega
 |succ f ih=>
  intro k p hk hf hx
  rw[ZB]
  unfold QZ Av
  have l31:∀{K},Ar Ac (.ptr r 31 0) H K=K v:= λ{K}=>by rw[AP (p:=31) rfl hh.hr (by rw[hc.len];decide),hc.get]
  rw[VO,l31,JI (t:=Ac) rfl hh.sv]
  by_cases h:k<ps.length
  ·rw[FW (by omega),De]
   simp only[BX]
   have ad:∀{K:AV→Aj},Go.Abs.Ak Ab .add (I k) (.v (.int .i64 1)) K=K (I ((k+1:Nat):Int)):= λ{K}=>D4 (by omega)
   have sb:∀{K:AV→Aj},Go.Abs.Ak Ab .sub (.v (.int .i64 (-1))) (I (i:Int)) K=K (I (-1-(i:Int))):= λ{K}=>by rw[HY,Cp (by omega) (by omega)]
   have pa:∀{K:AV→Aj},Ah (rt (L+20) (n+43)) FZ [I (-1-(i:Int))] H K=K (S (A2V (-1-(i:Int)))):= λ{K}=>A1p (n:=n+23) hL (by omega) (by omega) H K
   have ed:ps.drop k=ps[k]::ps.drop (k+1):=l11 h
   rw[ed] at hx
   have hx':k154 a3 (.ptr b1 0 0) (.ptr z 0 0) (.ptr r 0 0) (I i) (S (WW i (if ps[k]=p then A2V (-1-i) else p) (ps.drop (k+1)))) (I ps.length) H=x:=hx
   rw[VO,l31,B35 hh.sv h,L9]
   by_cases hq:ps[k]=p
   ·rw[decide_eq_true hq,De,sb,pa,ad]
    rw[if_pos hq] at hx'
    exact ih (k+1) _ (by omega) (by omega) hx'
   ·rw[decide_eq_false hq,Bz,ad]
    rw[if_neg hq] at hx'
    exact ih (k+1) _ (by omega) (by omega) hx'
  ·have:k=ps.length:=by omega
   subst this
   rw[List.drop_length] at hx
   rw[FE (by omega),Bz]
   exact hx
theorem C4I {k108:AV→AV→AV→Hp→Aj} {ks:List Nat} {x0 x1 x2 x3 x4 x5:Int} (hL:40000<L) (hc:CR cR ks) (h1:Le x1) (hks:ks.length≤3) (hl:PL H0 l a3) (hb:l.length<1000) (h32:∀s∈l,s.length=32)
 (hfin:∀v H,Pl H0 b1 b2 r z [I x0,I x1,I x2,I x3,I x4,I x5] F cR (psM x1 l ks.length) v H→k108 (.ptr b1 0 0) (.ptr z 0 0) (.ptr r 0 0) H=x):
 ∀(f i:Nat) (v d0 d1:AV) (H:Hp),i≤ks.length→ks.length-i<f→Pl H0 b1 b2 r z [I x0,I x1,I x2,I x3,I x4,I x5] F cR (psM x1 l i) v H→
 NT (L+20) (rt (L+20) (n+43)) K k108 f a3 (.ptr b1 0 0) (.ptr z 0 0) (.ptr r 0 0) (I i) d0 d1 H=x:=by
 intro f
 induction f with
 |zero=>intro i v d0 d1 H _ h;omega
 |succ f ih=>
  intro i v d0 d1 H hi hf hh
  rw[ZC]
  unfold Ra Bc Av Dr
  have l33:∀{K},Ar Am (.ptr r 33 0) H K=K (BH ks):= λ{K}=>by rw[AP (p:=33) rfl hh.hr (by rw[hc.len];decide),hc.ins]
  have fa:∀{K:AV→Aj},AM 1 (.ptr r 32 0) K=K (.ptr r 33 0):= λ{K}=>by rw[fA]
  rw[VO,fa,l33,OA]
  by_cases h:i<ks.length
  ·have pr:=EU (c:=x1.tdiv 3) (n:=1000) (by decide)
   have ia:∀{K:AV→Aj},B9 Bp (.ptr b1 0 0) (.v (.int .i64 1)) K=K (.ptr b1 1 0):= λ{K}=>DZ (z:=1) 1 rfl rfl (by decide)
   have d1:∀{K:AV→Aj},Ar Ab (.ptr b1 1 0) H K=K (I x1):= λ{K}=>AP (p:=1) rfl hh.mc.h1 (by simp)
   have pk1:∀{H K},Ah (rt (L+20) (n+43)) B5 [I (x1.tdiv 3),.v (.int .i64 1000)] H K=K (I (pk (x1.tdiv 3) 1000)):= λ{H K}=>KL (n:=n+42) (LM h1 (by decide)) (by decide) (by decide) H K
   have ad:∀{K:AV→Aj},Go.Abs.Ak Ab .add (I (pk (x1.tdiv 3) 1000)) (I (i:Int)) K=K (I (pk (x1.tdiv 3) 1000+i)):= λ{K}=>by rw[CH,Cp (by omega) (by omega)]
   have pa:∀{K:AV→Aj},Ah (rt (L+20) (n+43)) FZ [I (pk (x1.tdiv 3) 1000+i)] H K=K (S (A2V (pk (x1.tdiv 3) 1000+i))):= λ{K}=>A1p (n:=n+23) hL (by omega) (by omega) H K
   rw[FW (by omega),De,ia,d1,Ze h1 (by decide),pk1,ad,pa]
   refine Ly λk132 h132=> ?_
   have hk:∀p:List UInt8,p=(if h:i<l.length then l[i] else A2V (pk (x1.tdiv 3) 1000+i))→k132 (S p) H=x:=by
    intro p hp
    rw[h132]
    simp only[BX]
    refine C4H hL hc (by omega) hh (by rw[WS];omega) (L+20) 0 p (by omega) (by rw[WS];omega) ?_
    rw[l1n]
    have l31:∀{K},Ar Ac (.ptr r 31 0) H K=K v:= λ{K}=>by rw[AP (p:=31) rfl hh.hr (by rw[hc.len];decide),hc.get]
    obtain⟨v',H',a1,a2,a3',a4,a5,a6⟩:=A7w (ie:=Ae) (i2:=Ac) (ys:=AK [WW i p (psM x1 l i)]) hh.sv hh.mc.wf rfl rfl (by decide) rfl (λ_=>rfl) (by rw[WS];show(i+1)*16≤_;omega) (by rw[WS];omega)
    obtain⟨cs,c1,c2⟩:=hh.mc.hz
    have hr':=a5 _ _ hh.hr λe=>(hh.fr _ e).2.2.2.1 rfl
    have q1:=hh.mc.wf.lt hh.mc.h1
    have q2:=hh.mc.wf.lt hh.mc.h2
    have q3:=hh.mc.wf.lt hh.hr
    have q4:=hh.mc.wf.lt c2
    have q0:=hh.mc.f1
    rw[VO,l31,XF,a1,VO,Ez hr' (by rw[hc.len];decide) rfl (Bv.cell a2) (Bv.one a2),hc.set,D4 (by omega)]
    have ps1:psM x1 l (i+1)=psM x1 l i++[WW i p (psM x1 l i)]:=by rw[hp];rfl
    refine ih (i+1) v' _ _ _ (by omega) (by omega) ⟨?_,AB hr',?_,λe=> ?_,λs hs=> ?_⟩
    ·refine⟨by rw[Ap hh.mc.n1];exact a5 _ _ hh.mc.h1 (λe=>(hh.fr _ e).2.1 rfl),by rw[Ap hh.mc.n2];exact a5 _ _ hh.mc.h2 (λe=>(hh.fr _ e).2.2.1 rfl),⟨cs,c1,by rw[Ap hh.mc.nz];exact a5 _ _ c2 (λe=>(hh.fr _ e).2.2.2.2 rfl)⟩,BR a3',hh.mc.n1,hh.mc.n2,hh.mc.nz,hh.mc.f1,hh.mc.f2,hh.mc.f3,hh.mc.f4,hh.mc.w0,λs x hs=> ?_⟩
     have g1:=hh.mc.w0.lt hs
     have g2:=hh.mc.f3
     rw[Ap (by omega)]
     exact a5 _ _ (hh.mc.kp s x hs) (λe=>by have:=(hh.fr _ e).1;omega)
    ·rw[ps1,Fl]
     have:AK (psM x1 l i++[WW i p (psM x1 l i)])=AK (psM x1 l i)++AK [WW i p (psM x1 l i)]:=by simp[AK]
     rw[this]
     refine Bv.kp a2 λs x hs hl=> ?_
     have:=a6 s hs
     rw[Ap (by omega)];exact hl
    ·rw[ps1] at e;simp at e
    ·have:=a6 s hs
     omega
   clear h132
   have hpl:=hl.kp hh.mc.kp
   rw[hpl.len]
   by_cases h3:i<l.length
   ·obtain⟨p,g1,g2⟩:=hpl.at2 h3
    have e32:∀{K:AV→Aj},Go.Abs.Ak Ab .eql (I ((l[i].length:Nat):Int)) (.v (.int .i64 32)) K=K (Bo true):= λ{K}=>by
     rw[Dd,h32 _ (QE h3)];rfl
    rw[FW (by omega)]
    simp only[gT,Cz,g1,g2,NI (t:=Ae) rfl,e32,XO]
    rw[De]
    exact hk _ (by rw[dif_pos h3])
   ·rw[FE (by omega)]
    simp only[gTF,Cz,WV]
    rw[Bz]
    exact hk _ (by rw[dif_neg h3])
  ·have:i=ks.length:=by omega
   subst this
   rw[FE (by omega),Bz]
   exact hfin v H hh
end
end
section
variable {L n:Nat}
def Cd.csP (c:Cd) (P:AV):List AV:=match c with
 | .re b u=>Eb 1 b.m (uu u) (qn b.c) (qd b.c) (FC b.ts) (qn b.r) (qd b.r) P 0 AA AA u0 r0 0
 | .co b p _ none=>Eb 2 b.m (uu p.out) (qn b.c) (qd b.c) (FC b.ts) (qn b.r) (qd b.r) P p.id (BH p.ks) (Cb p.xs) (uu p.out) r0 0
 | .co b p _ (some (k,vd))=>Eb 3 b.m (uu p.out) (qn b.c) (qd b.c) (FC b.ts) (qn b.r) (qd b.r) P p.id (BH p.ks) (Cb p.xs) (uu p.out) (rr k) vd
theorem C39 (c:Cd):c.csP (Ep c.ps)=c.cs:=by
 match c with
 | .re b u=>rfl
 | .co b p ps none=>rfl
 | .co b p ps (some (k,vd))=>rfl
def cbM (x1 x2 x3 x4 x5:Int) (fs:List Int):CB:=⟨⟨1+pk x1 3,1+pk x2 9,1+pk x3 4,pk x4 50,pk x5 30⟩,pk (x3.tdiv 4) 161-80,pk (x4.tdiv 50) 9,JR fs 6⟩
def cdM (x0 x1 x2 x3 x4 x5 f0 f1 f2 f3 f4 f5:Int) (y:Y4) (l:List (List UInt8)):Cd:=
 if pk x0 3=0 then .re (cbM x1 x2 x3 x4 x5 [f0,f1,f2,f3,f4,f5]) (pk (x5.tdiv 30) 7).toNat
 else .co (cbM x1 x2 x3 x4 x5 [f0,f1,f2,f3,f4,f5]) (prM [f0,f1,f2] (x2.tdiv 9) y) (psM x1 l (prM [f0,f1,f2] (x2.tdiv 9) y).ks.length)
  (if pk x0 3=1 then none else some (1+(pk (x0.tdiv 3) 3).toNat,1+pk (x0.tdiv 9) 3))
theorem A2o {x0 x1 x2 x3 x4 x5 f0 f1 f2 f3 f4 f5:Int} {y:Y4} {l:List (List UInt8)} (h32:∀s∈l,s.length=32):(cdM x0 x1 x2 x3 x4 x5 f0 f1 f2 f3 f4 f5 y l).Ok:=by
 have p1:=EU (c:=x1) (n:=3) (by decide)
 have p2:=EU (c:=x2) (n:=9) (by decide)
 have p3:=EU (c:=x3) (n:=4) (by decide)
 have p4:=EU (c:=x4) (n:=50) (by decide)
 have p5:=EU (c:=x5) (n:=30) (by decide)
 have p6:=EU (c:=x3.tdiv 4) (n:=161) (by decide)
 have p7:=EU (c:=x4.tdiv 50) (n:=9) (by decide)
 have p8:=EU (c:=x5.tdiv 30) (n:=7) (by decide)
 have p9:=EU (c:=x0.tdiv 3) (n:=3) (by decide)
 have pa:=EU (c:=x0.tdiv 9) (n:=3) (by decide)
 have hb:(cbM x1 x2 x3 x4 x5 [f0,f1,f2,f3,f4,f5]).Ok:=by
  refine⟨?_,?_,?_,?_,?_,(A9P _ 6 (by omega)).1⟩
  ·refine⟨?_,?_,?_,?_,?_,?_,?_,?_,?_,?_⟩
   all_goals (simp only[cbM];omega)
  all_goals (simp only[cbM];omega)
 unfold cdM
 by_cases h:pk x0 3=0
 ·rw[if_pos h]
  exact⟨hb,by omega⟩
 ·rw[if_neg h]
  refine⟨hb,A8A rfl,WS _,C25 h32 _,?_⟩
  by_cases h1:pk x0 3=1
  ·rw[if_pos h1];exact trivial
  ·rw[if_neg h1]
   exact⟨by omega,by omega,by omega⟩
theorem okI {z:Int} {H:Hp} {K:Aj}:Pw (AX (some (I z,H)) (I z)) K=K:=RR rfl
theorem C6W {k:IntKind} {z:Int}:AV.one (.v (.int k z))=true:=rfl
theorem C6U {l:List UInt8}:AV.one (S l)=true:=rfl
theorem C6V:AV.one (.v (.slice none 0 0))=true:=rfl
theorem S0 (ts:Tms):AV.one (FC ts)=true:=by cases ts<;>rfl
section
variable {K:KV} {x:Aj} {H0 H H':Hp} {b1 b2 r z:Nat} {X F:List AV} {ps l:List (List UInt8)} {v a2 a3:AV} {cR:AV→List AV} {y:Y4} {x0 x1 x2 x3 x4 x5 f0 f1 f2 f3 f4 f5:Int}
theorem Pz {kd:Int} {m:ND} {u o:UD} {ca cb ra rb:List UInt8} {T P ins nds:AV} {id vd:Int} {rd:RD} (h1:AV.one T=true) (h2:AV.one P=true) (h3:AV.one ins=true) (h4:AV.one nds=true):(Eb kd m u ca cb T ra rb P id ins nds o rd vd).all AV.one=true:=by
 simp only[l2j,List.all_nil,C6W,C6U,C6V,h1,h2,h3,h4,l16,l1b]
theorem A6I (h:Mc H0 b1 b2 r z X F H) {cs:List AV} (hr:Aq H r=some (.cells true Al cs)) (h1:cs.length=68) (h2:cs.all AV.one=true) (hK:∀H',Wf H'→(∀s q,s≠z→Aq H s=some q→Aq H' s=some q)→K (.agg cs) H'=x):
 (Ar Ad (.ptr r 0 0) H λv86=>
  CG Ad (.ptr z 0 0) v86 H λH87=>
  Ar Ad (.ptr z 0 0) H87 λv89=>
  K v89 H87)=x:=by
 obtain⟨c0,c1,c2⟩:=h.hz
 rw[Bq (cs:=cs) rfl (by rw[h1];rfl) hr,B7 c2 (by rw[c1,h1]) (by rw[c1];rfl) h2,Bq (cs:=cs) rfl (by rw[h1];rfl) (AB c2)]
 exact hK _ (BR h.wf) λs q hs hl=>by rw[Ap hs];exact hl
theorem push {H:Hp} (w:Wf H) (x:Row) (hx:x≠.gone):∃H' s,H'=(s,x)::H∧s=A2 H∧Aq H' s=some x∧Wf H'∧∀t q,Aq H t=some q→Aq H' t=some q∧t≠s:=
 ⟨_,_,rfl,rfl,A1 hx,Br w,λt q h=>⟨AS (w.lt h) h,by have:=w.lt h;omega⟩⟩
theorem C2C {b:Nat} {K:AV→Aj}:B9 Bp (.ptr b 0 0) (.v (.int .i64 0)) K=K (.ptr b 0 0):=DZ (z:=0) 0 rfl rfl (by decide)
theorem C7g {b:Nat} {K:AV→Aj}:B9 Bp (.ptr b 0 0) (.v (.int .i64 1)) K=K (.ptr b 1 0):=DZ (z:=1) 1 rfl rfl (by decide)
theorem C7f {b:Nat} {K:AV→Aj}:B9 Bp (.ptr b 0 0) (.v (.int .i64 2)) K=K (.ptr b 2 0):=DZ (z:=2) 2 rfl rfl (by decide)
theorem C7e {b:Nat} {K:AV→Aj}:B9 Bp (.ptr b 0 0) (.v (.int .i64 3)) K=K (.ptr b 3 0):=DZ (z:=3) 3 rfl rfl (by decide)
theorem C7d {b:Nat} {K:AV→Aj}:B9 Bp (.ptr b 0 0) (.v (.int .i64 4)) K=K (.ptr b 4 0):=DZ (z:=4) 4 rfl rfl (by decide)
theorem C7c {b:Nat} {K:AV→Aj}:B9 Bp (.ptr b 0 0) (.v (.int .i64 5)) K=K (.ptr b 5 0):=DZ (z:=5) 5 rfl rfl (by decide)
theorem rd6 {H:Hp} {b:Nat} {a0 a1 a2 a3 a4 a5:Int} (h:Aq H b=some (.cells true HF [I a0,I a1,I a2,I a3,I a4,I a5])):
 (∀{K},Ar Ab (.ptr b 0 0) H K=K (I a0))∧(∀{K},Ar Ab (.ptr b 1 0) H K=K (I a1))∧(∀{K},Ar Ab (.ptr b 2 0) H K=K (I a2))∧(∀{K},Ar Ab (.ptr b 3 0) H K=K (I a3))∧(∀{K},Ar Ab (.ptr b 4 0) H K=K (I a4))∧(∀{K},Ar Ab (.ptr b 5 0) H K=K (I a5)):=
 ⟨λ{K}=>AP (p:=0) rfl h (by simp),λ{K}=>AP (p:=1) rfl h (by simp),λ{K}=>AP (p:=2) rfl h (by simp),λ{K}=>AP (p:=3) rfl h (by simp),λ{K}=>AP (p:=4) rfl h (by simp),λ{K}=>AP (p:=5) rfl h (by simp)⟩
theorem B32 (mc:Mc H0 b1 b2 r z X F H) {cs cs' vs:List AV} (hr:Aq H r=some (.cells true Al cs)) {i:TI} {p:Nat} (hcs:cs.length=68) (hp:p+vs.length≤68) (hz:i.size=vs.length) (h1:vs.all AV.one=true) (es:splice cs p vs=cs'):
 ∃H',(∀K:Hp→Aj,CG i (.ptr r p 0) (.agg vs) H K=K H')∧Mc H0 b1 b2 r z X F H'∧Aq H' r=some (.cells true Al cs')∧(∀s q,s≠r→Aq H s=some q→Aq H' s=some q):=
 ⟨_,λK=>YP hr (by rw[hcs];exact hp) hz h1,mc.upd _,by rw[es];exact AB hr,λs q hs hl=>by rw[Ap hs];exact hl⟩
theorem A1q (hL:40000<L) (w:Wf H0) (i0:Le x0) (i1:Le x1) (i2:Le x2) (i3:Le x3) (i4:Le x4) (i5:Le x5) (j0:Le f0) (j1:Le f1) (j2:Le f2) (j3:Le f3) (j4:Le f4) (j5:Le f5)
 (hy:YA H0 y a2) (hyI:yI y) (hl:PL H0 l a3) (hb:l.length<1000) (h32:∀s∈l,s.length=32)
 (hK:∀v H',Bv H' Au 1 v (cdM x0 x1 x2 x3 x4 x5 f0 f1 f2 f3 f4 f5 y l).ps.length (AK (cdM x0 x1 x2 x3 x4 x5 f0 f1 f2 f3 f4 f5 y l).ps)→((cdM x0 x1 x2 x3 x4 x5 f0 f1 f2 f3 f4 f5 y l).ps=[]→v=AA)→Wf H'→(∀s q,Aq H0 s=some q→Aq H' s=some q)→(∀s,AG v s→A2 H0≤s)→
  K (.agg ((cdM x0 x1 x2 x3 x4 x5 f0 f1 f2 f3 f4 f5 y l).csP v)) H'=x):
 (rt (L+20) (n+44)).call MH [.agg [I x0,I x1,I x2,I x3,I x4,I x5],.agg [I f0,I f1,I f2,I f3,I f4,I f5],a2,a3] H0 K=x:=by
 rw[A1A]
 unfold SO Av Gb
 obtain⟨H1,b1,e1,s1,l1,w1,k1⟩:=push w (.cells true HF [I x0,I x1,I x2,I x3,I x4,I x5]) (by simp)
 rw[Ft (cs:=[I x0,I x1,I x2,I x3,I x4,I x5]) rfl,←s1,←e1]
 obtain⟨H2,b2,e2,s2,l2,w2,k2⟩:=push w1 (.cells true HF [I f0,I f1,I f2,I f3,I f4,I f5]) (by simp)
 rw[Ft (cs:=[I f0,I f1,I f2,I f3,I f4,I f5]) rfl,←s2,←e2]
 obtain⟨H3,z,e3,s3,l3,w3,k3⟩:=push w2 (.cells true Al BJ) (by simp)
 rw[Bi (cs:=BJ) rfl,←s3,←e3]
 obtain⟨H4,r,e4,s4,l4,w4,k4⟩:=push w3 (.cells true Al BJ) (by simp)
 have m1:=k2 _ _ l1
 have m2:=k3 _ _ m1.1
 have m3:=k3 _ _ l2
 have q1:=k4 _ _ m2.1
 have q2:=k4 _ _ m3.1
 have q3:=k4 _ _ l3
 have g1:A2 H0≤b1:=by omega
 have g2:A2 H0≤b2:=by have:=w1.lt l1;omega
 have g3:A2 H0≤z:=by have:=w2.lt l2;omega
 have g4:A2 H0≤r:=by have:=w3.lt l3;omega
 have kp0:∀s q,Aq H0 s=some q→Aq H4 s=some q:= λs q hs=>(k4 _ _ (k3 _ _ (k2 _ _ (k1 _ _ hs).1).1).1).1
 clear e1 e2 e3 s1 s2 s3 k1 k2 k3 m1 m3 l1 l2 w1 w2
 have p0:=EU (c:=x0) (n:=3) (by decide)
 have p1:=EU (c:=x1) (n:=3) (by decide)
 have p2:=EU (c:=x2) (n:=9) (by decide)
 have p3:=EU (c:=x3) (n:=4) (by decide)
 have c0:∀{H K},Ah (rt (L+20) (n+43)) B5 [I x0,.v (.int .i64 3)] H K=K (I (pk x0 3)):= λ{H K}=>KL (n:=n+42) i0 (by decide) (by decide) H K
 have c1:∀{H K},Ah (rt (L+20) (n+43)) B5 [I x1,.v (.int .i64 3)] H K=K (I (pk x1 3)):= λ{H K}=>KL (n:=n+42) i1 (by decide) (by decide) H K
 have c2:∀{H K},Ah (rt (L+20) (n+43)) B5 [I x2,.v (.int .i64 9)] H K=K (I (pk x2 9)):= λ{H K}=>KL (n:=n+42) i2 (by decide) (by decide) H K
 have c3:∀{H K},Ah (rt (L+20) (n+43)) B5 [I x3,.v (.int .i64 4)] H K=K (I (pk x3 4)):= λ{H K}=>KL (n:=n+42) i3 (by decide) (by decide) H K
 have c4:∀{H K},Ah (rt (L+20) (n+43)) B5 [I x4,.v (.int .i64 50)] H K=K (I (pk x4 50)):= λ{H K}=>KL (n:=n+42) i4 (by decide) (by decide) H K
 have c5:∀{H K},Ah (rt (L+20) (n+43)) B5 [I x5,.v (.int .i64 30)] H K=K (I (pk x5 30)):= λ{H K}=>KL (n:=n+42) i5 (by decide) (by decide) H K
 have a0:∀{K:AV→Aj},Go.Abs.Ak Ab .add (.v (.int .i64 1)) (I (pk x0 3)) K=K (I (1+pk x0 3)):= λ{K}=>by rw[CH,Cp (by omega) (by omega)]
 have a1:∀{K:AV→Aj},Go.Abs.Ak Ab .add (.v (.int .i64 1)) (I (pk x1 3)) K=K (I (1+pk x1 3)):= λ{K}=>by rw[CH,Cp (by omega) (by omega)]
 have a2':∀{K:AV→Aj},Go.Abs.Ak Ab .add (.v (.int .i64 1)) (I (pk x2 9)) K=K (I (1+pk x2 9)):= λ{K}=>by rw[CH,Cp (by omega) (by omega)]
 have a3':∀{K:AV→Aj},Go.Abs.Ak Ab .add (.v (.int .i64 1)) (I (pk x3 4)) K=K (I (1+pk x3 4)):= λ{K}=>by rw[CH,Cp (by omega) (by omega)]
 obtain⟨d0,d1,d2,d3,d4,d5⟩:=rd6 m2.1
 simp only[C2C,C7g,C7f,C7e,C7d,C7c,d0,d1,d2,d3,d4,d5,c0,c1,c2,c3,c4,c5,a0,a1,a2',a3',BN]
 clear d0 d1 d2 d3 d4 d5
 have bd:∀{a b c d e f:Int} {K:AV→Aj},B3 Ad [(0,1,I a),(1,1,I b),(2,1,I c),(3,1,I d),(4,1,I e),(5,1,I f)] K=K (.agg (Eb a ⟨b,c,d,e,f⟩ u0 [] [] AA [] [] AA 0 AA AA u0 r0 0)):= λ{a b c d e f K}=>_root_.id rfl
 rw[bd,BN,Bi (cs:=BJ) rfl,Cz,←s4,←e4,B7 (vs:=Eb (1+pk x0 3) ⟨1+pk x1 3,1+pk x2 9,1+pk x3 4,pk x4 50,pk x5 30⟩ u0 [] [] AA [] [] AA 0 AA AA u0 r0 0) l4 rfl rfl rfl,Cz]
 clear e4 s4
 obtain⟨d0,d1,d2,d3,d4,d5⟩:=rd6 q1.1
 simp only[d0,d1,d2,d3,d4,d5,c0,c1,c2,c3,c4,c5,okI]
 clear d0 d1 d2 d3 d4 d5 c0 c1 c2 c3 c4 c5 a0 a1 a2' a3' bd
 have mc:Mc H0 b1 b2 r z [I x0,I x1,I x2,I x3,I x4,I x5] [I f0,I f1,I f2,I f3,I f4,I f5] H4:=⟨q1.1,q2.1,⟨_,rfl,q3.1⟩,w4,q1.2,q2.2,q3.2,g1,g2,g4,g3,w,kp0⟩
 have mc5:=mc.upd (.cells true Al (Eb (1+pk x0 3) ⟨1+pk x1 3,1+pk x2 9,1+pk x3 4,pk x4 50,pk x5 30⟩ u0 [] [] AA [] [] AA 0 AA AA u0 r0 0))
 have r5:=AB (q:=true) (e:=Al) (cs:=Eb (1+pk x0 3) ⟨1+pk x1 3,1+pk x2 9,1+pk x3 4,pk x4 50,pk x5 30⟩ u0 [] [] AA [] [] AA 0 AA AA u0 r0 0) l4
 generalize Go.Abs.upd H4 r (.cells true Al (Eb (1+pk x0 3) ⟨1+pk x1 3,1+pk x2 9,1+pk x3 4,pk x4 50,pk x5 30⟩ u0 [] [] AA [] [] AA 0 AA AA u0 r0 0))=H5 at mc5 r5
 clear mc kp0 q1 q2 q3 k4 l4 w4 l3 w3 m2 g1 g2 g3 g4 H4 H3 H2 H1
 have m08:∀{H K},Ah (rt (L+20) (n+43)) Pm [I (x3.tdiv 4),I (x4.tdiv 50),.agg [I f0,I f1,I f2,I f3,I f4,I f5]] H K=K (.agg [S (qn (pk (x3.tdiv 4) 161-80)),S (qd (pk (x3.tdiv 4) 161-80)),FC (JR [f0,f1,f2,f3,f4,f5] 6),S (qn (pk (x4.tdiv 50) 9)),S (qd (pk (x4.tdiv 50) 9))]):= λ{H K}=>
  Ba (B3G (n:=n+2) (xs:=[f0,f1,f2,f3,f4,f5]) (by omega) (LM i3 (by decide)) (LM i4 (by decide)) rfl (by simp[j0,j1,j2,j3,j4,j5]))
   (Ay (q:=false) D2 (Ay (q:=false) D2 (Ay (Qm (D:=depth-1) (KA (λz:Int=>Value.int .i64 z) [f0,f1,f2,f3,f4,f5])) Be)))
 have lF:∀{K},Ar Bp (.ptr b2 0 0) H5 K=K (.agg [I f0,I f1,I f2,I f3,I f4,I f5]):= λ{K}=>Bq rfl rfl mc5.h2
 obtain⟨d0,d1,d2,d3,d4,d5⟩:=rd6 mc5.h1
 obtain⟨H6,st6,mc6,r6, -⟩:=B32 (i:=Ev) (p:=26) (vs:=[S (qn (pk (x3.tdiv 4) 161-80)),S (qd (pk (x3.tdiv 4) 161-80)),FC (JR [f0,f1,f2,f3,f4,f5] 6),S (qn (pk (x4.tdiv 50) 9)),S (qd (pk (x4.tdiv 50) 9))]) mc5 r5 rfl (by show 26+5≤68;decide) rfl (by show(true&&(true&&(AV.one (FC (JR [f0,f1,f2,f3,f4,f5] 6))&&(true&&(true&&true)))))=true;rw[S0];rfl)
  (cs':=Eb (1+pk x0 3) ⟨1+pk x1 3,1+pk x2 9,1+pk x3 4,pk x4 50,pk x5 30⟩ u0 (qn (pk (x3.tdiv 4) 161-80)) (qd (pk (x3.tdiv 4) 161-80)) (FC (JR [f0,f1,f2,f3,f4,f5] 6)) (qn (pk (x4.tdiv 50) 9)) (qd (pk (x4.tdiv 50) 9)) AA 0 AA AA u0 r0 0) rfl
 rw[d3,Ze i3 (by decide),d4,Ze i4 (by decide),lF,m08,VO,st6]
 clear d0 d1 d2 d3 d4 d5 lF st6 mc5 r5 m08
 have hun:∀{H K},Ah (rt (L+20) (n+43)) Ff [I (x5.tdiv 30)] H K=K (.agg (Ck (uu (pk (x5.tdiv 30) 7).toNat))):= λ{H K}=>A8r (n:=n+1) (LM i5 (by decide)) H K
 obtain⟨d0,d1,d2,d3,d4,d5⟩:=rd6 mc6.h1
 obtain⟨H7,st7,mc7,r7, -⟩:=B32 (i:=Af) (p:=6) (vs:=Ck (uu (pk (x5.tdiv 30) 7).toNat)) mc6 r6 rfl (by show 6+20≤68;decide) rfl rfl
  (cs':=Eb (1+pk x0 3) ⟨1+pk x1 3,1+pk x2 9,1+pk x3 4,pk x4 50,pk x5 30⟩ (uu (pk (x5.tdiv 30) 7).toNat) (qn (pk (x3.tdiv 4) 161-80)) (qd (pk (x3.tdiv 4) 161-80)) (FC (JR [f0,f1,f2,f3,f4,f5] 6)) (qn (pk (x4.tdiv 50) 9)) (qd (pk (x4.tdiv 50) 9)) AA 0 AA AA u0 r0 0) rfl
 have lk:∀{K},Ar Ab (.ptr r 0 0) H7 K=K (I (1+pk x0 3)):= λ{K}=>AP (p:=0) rfl r7 (show 0<68 by decide)
 rw[d5,Ze i5 (by decide),hun,VO,st7,VO,lk,Dd]
 clear d0 d1 d2 d3 d4 d5 st7 mc6 r6 hun lk
 by_cases h0:pk x0 3=0
 ·have ecd:cdM x0 x1 x2 x3 x4 x5 f0 f1 f2 f3 f4 f5 y l= .re (cbM x1 x2 x3 x4 x5 [f0,f1,f2,f3,f4,f5]) (pk (x5.tdiv 30) 7).toNat:=if_pos h0
  have e1:1+pk x0 3=1:=by omega
  rw[decide_eq_true e1,De]
  rw[ecd] at hK
  rw[e1] at r7
  refine A6I mc7 r7 rfl (Pz (S0 _) rfl rfl rfl) λH' w' kp=> ?_
  exact hK AA H' (.inl ⟨rfl,rfl,rfl⟩) (λ_=>rfl) w' (λs q hs=>kp s q (by have:=mc7.w0.lt hs;have:=mc7.f4;omega) (mc7.kp s q hs)) (λs ⟨_,_,_,h⟩=>by cases h)
 ·have ecd:cdM x0 x1 x2 x3 x4 x5 f0 f1 f2 f3 f4 f5 y l= .co (cbM x1 x2 x3 x4 x5 [f0,f1,f2,f3,f4,f5]) (prM [f0,f1,f2] (x2.tdiv 9) y) (psM x1 l (prM [f0,f1,f2] (x2.tdiv 9) y).ks.length) (if pk x0 3=1 then none else some (1+(pk (x0.tdiv 3) 3).toNat,1+pk (x0.tdiv 9) 3)):=if_neg h0
  rw[ecd] at hK
  clear ecd
  have m09:∀{K},Ah (rt (L+20) (n+43)) Pk [.agg [I f0,I f1,I f2],I (x2.tdiv 9),a2,.v (.bool true)] H7 K=K (.agg (B2 (prM [f0,f1,f2] (x2.tdiv 9) y).id (BH (prM [f0,f1,f2] (x2.tdiv 9) y).ks) (Cb (prM [f0,f1,f2] (x2.tdiv 9) y).xs) (uu (prM [f0,f1,f2] (x2.tdiv 9) y).out))):= λ{K}=>by
   obtain⟨q,hq⟩:=hy H7 mc7.kp
   exact Ba (B3F (n:=n) (ins:=[f0,f1,f2]) (by omega) rfl (by simp[j0,j1,j2]) (LM i2 (by decide)) hyI) (Ay (Qm (D:=depth-1) (KA (λz:Int=>Value.int .i64 z) [f0,f1,f2])) (Ay (q:=false) D2 (Ay hq (Ay (q:=false) D2 Be))))
  have hp:=A8A (ins:=[f0,f1,f2]) (count:=x2.tdiv 9) (y:=y) rfl
  generalize prM [f0,f1,f2] (x2.tdiv 9) y=p at hK m09 hp
  have e1:¬(1+pk x0 3=1):=by omega
  rw[decide_eq_false e1,Bz]
  obtain⟨g0,g1,g2, -, -, -⟩:=rd6 mc7.h2
  obtain⟨d0,d1,d2, -, -, -⟩:=rd6 mc7.h1
  have b3:∀{K:AV→Aj},B3 PF [(0,1,I f0),(1,1,I f1),(2,1,I f2)] K=K (.agg [I f0,I f1,I f2]):= λ{K}=>_root_.id rfl
  obtain⟨H8,st8,mc8,r8, -⟩:=B32 (i:=A9) (p:=32) (vs:=B2 p.id (BH p.ks) (Cb p.xs) (uu p.out)) mc7 r7 rfl (by show 32+23≤68;decide) rfl (A3F rfl rfl)
   (cs':=Eb (1+pk x0 3) ⟨1+pk x1 3,1+pk x2 9,1+pk x3 4,pk x4 50,pk x5 30⟩ (uu (pk (x5.tdiv 30) 7).toNat) (qn (pk (x3.tdiv 4) 161-80)) (qd (pk (x3.tdiv 4) 161-80)) (FC (JR [f0,f1,f2,f3,f4,f5] 6)) (qn (pk (x4.tdiv 50) 9)) (qd (pk (x4.tdiv 50) 9)) AA p.id (BH p.ks) (Cb p.xs) (uu p.out) r0 0) rfl
  have lu:∀{K},Ar Af (.ptr r 35 0) H8 K=K (.agg (Ck (uu p.out))):= λ{K}=>Fs (p:=35) rfl r8 (show 55≤68 by decide)
  obtain⟨H9,st9,mc9,r9, -⟩:=B32 (i:=Af) (p:=6) (vs:=Ck (uu p.out)) mc8 r8 rfl (by show 6+20≤68;decide) rfl rfl
   (cs':=Eb (1+pk x0 3) ⟨1+pk x1 3,1+pk x2 9,1+pk x3 4,pk x4 50,pk x5 30⟩ (uu p.out) (qn (pk (x3.tdiv 4) 161-80)) (qd (pk (x3.tdiv 4) 161-80)) (FC (JR [f0,f1,f2,f3,f4,f5] 6)) (qn (pk (x4.tdiv 50) 9)) (qd (pk (x4.tdiv 50) 9)) AA p.id (BH p.ks) (Cb p.xs) (uu p.out) r0 0) rfl
  have f35:∀{K:AV→Aj},AM 3 (.ptr r 32 0) K=K (.ptr r 35 0):= λ{K}=>by rw[fA]
  rw[g0,g1,g2,b3,d2,Ze i2 (by decide),m09,VO,st8,VO,f35,lu,VO,st9]
  clear g0 g1 g2 d0 d1 d2 b3 st8 mc8 r8 lu st9 f35 m09 mc7 r7
  refine Ly λk79 h79=> ?_
  refine Ly λk108 h108=> ?_
  have hc:CR (λv=>Eb (1+pk x0 3) ⟨1+pk x1 3,1+pk x2 9,1+pk x3 4,pk x4 50,pk x5 30⟩ (uu p.out) (qn (pk (x3.tdiv 4) 161-80)) (qd (pk (x3.tdiv 4) 161-80)) (FC (JR [f0,f1,f2,f3,f4,f5] 6)) (qn (pk (x4.tdiv 50) 9)) (qd (pk (x4.tdiv 50) 9)) v p.id (BH p.ks) (Cb p.xs) (uu p.out) r0 0) p.ks:=⟨λ_=>rfl,λ_ _=>rfl,λ_=>rfl,λ_=>rfl⟩
  refine C4I (n:=n) (l:=l) hL hc i1 hp.k3 hl hb h32 ?_ (L+20) 0 AA _ _ H9 (by omega) (by have:=hp.k3;omega) ⟨mc9,r9,.inl ⟨rfl,rfl,rfl⟩,λ_=>rfl,λs ⟨_,_,_,h⟩=>by cases h⟩
  intro v H hh
  rw[h108,h79]
  clear h108 h79 mc9 r9
  refine Ly λk84 h84=> ?_
  have hk84:∀(cs:List AV) (Hx:Hp),Mc H0 b1 b2 r z [I x0,I x1,I x2,I x3,I x4,I x5] [I f0,I f1,I f2,I f3,I f4,I f5] Hx→Aq Hx r=some (.cells true Al cs)→cs.length=68→cs.all AV.one=true→cs=(Cd.co (cbM x1 x2 x3 x4 x5 [f0,f1,f2,f3,f4,f5]) p (psM x1 l p.ks.length) (if pk x0 3=1 then none else some (1+(pk (x0.tdiv 3) 3).toNat,1+pk (x0.tdiv 9) 3))).csP v→(∀s q,s≠r→Aq H s=some q→Aq Hx s=some q)→k84 Hx=x:=by
   intro cs Hx mcx rx c1 c2 ecs kx
   rw[h84]
   refine A6I mcx rx c1 c2 λH' w' kp=> ?_
   rw[ecs]
   refine hK v H' ?_ hh.nv w' (λs q hs=>kp s q (by have:=mcx.w0.lt hs;have:=mcx.f4;omega) (mcx.kp s q hs)) (λs hs=>(hh.fr s hs).1)
   exact hh.sv.kp λs q hs hl=>kp s q (hh.fr s hs).2.2.2.2 (kx s q (hh.fr s hs).2.2.2.1 hl)
  clear h84 hK
  have lk:∀{K},Ar Ab (.ptr r 0 0) H K=K (I (1+pk x0 3)):= λ{K}=>AP (p:=0) rfl hh.hr (show 0<68 by decide)
  rw[VO,lk,Dd]
  by_cases h1:pk x0 3=1
  ·have e3:¬(1+pk x0 3=3):=by omega
   rw[decide_eq_false e3,Bz]
   rw[if_pos h1] at hk84
   have e2:1+pk x0 3=2:=by omega
   have hr:=hh.hr
   rw[e2] at hr
   exact hk84 _ H hh.mc hr rfl (Pz (S0 _) (Bv.one hh.sv) rfl rfl) rfl (λs q _ h=>h)
  ·have e3:1+pk x0 3=3:=by omega
   have pv:=EU (c:=x0.tdiv 9) (n:=3) (by decide)
   rw[decide_eq_true e3,De]
   rw[if_neg h1] at hk84
   have hr:=hh.hr
   rw[e3] at hr
   have hru:∀{H K},Ah (rt (L+20) (n+43)) IZ [I (x0.tdiv 3)] H K=K (.agg (rr (1+(pk (x0.tdiv 3) 3).toNat)).cs):= λ{H K}=>B7l (n:=n+41) (LM i0 (by decide)) H K
   have hpk:∀{H K},Ah (rt (L+20) (n+43)) B5 [I (x0.tdiv 9),.v (.int .i64 3)] H K=K (I (pk (x0.tdiv 9) 3)):= λ{H K}=>KL (n:=n+42) (LM i0 (by decide)) (by decide) (by decide) H K
   have ad:∀{K:AV→Aj},Go.Abs.Ak Ab .add (.v (.int .i64 1)) (I (pk (x0.tdiv 9) 3)) K=K (I (1+pk (x0.tdiv 9) 3)):= λ{K}=>by rw[CH,Cp (by omega) (by omega)]
   obtain⟨d0, -⟩:=rd6 hh.mc.h1
   obtain⟨HA,stA,mcA,rA,kA⟩:=B32 (i:=C6) (p:=55) (vs:=(rr (1+(pk (x0.tdiv 3) 3).toNat)).cs) hh.mc hr rfl (by show 55+9≤68;decide) rfl rfl
    (cs':=Eb 3 ⟨1+pk x1 3,1+pk x2 9,1+pk x3 4,pk x4 50,pk x5 30⟩ (uu p.out) (qn (pk (x3.tdiv 4) 161-80)) (qd (pk (x3.tdiv 4) 161-80)) (FC (JR [f0,f1,f2,f3,f4,f5] 6)) (qn (pk (x4.tdiv 50) 9)) (qd (pk (x4.tdiv 50) 9)) v p.id (BH p.ks) (Cb p.xs) (uu p.out) (rr (1+(pk (x0.tdiv 3) 3).toNat)) 0) rfl
   obtain⟨d0', -⟩:=rd6 mcA.h1
   rw[C2C,d0,Ze i0 (by decide),hru,VO,stA,C2C,d0',Ze i0 (by decide),hpk,ad,VO,Ez rA (show 64<68 by decide) rfl rfl rfl]
   exact hk84 _ _ (mcA.upd _) (AB rA) rfl (Pz (S0 _) (Bv.one hh.sv) rfl rfl) rfl (λs q hs h=>by rw[Ap hs];exact kA s q hs h)
end
end
section
variable {L n:Nat}
theorem B1t {f:AV→(Bool→AV→Aj)→Aj}:∀(l m:List AV) (K:Bool→List AV→Aj),Ht f (l++m) K=Ht f l λq l'=>Ht f m λq' m'=>K (q||q') (l'++m'):=by
 intro l
 induction l with
 |nil=>intro m K;rfl
 |cons a l ih=>
  intro m K
  have e:∀(l:List AV) (K:Bool→List AV→Aj),Ht f (a::l) K=f a λq a'=>Ht f l λq' l'=>K (@Bool.rec (λ_=>Bool) q' true q) (a'::l'):= λ_ _=>rfl
  rw[List.cons_append,e,e]
  congr 1
  funext q a'
  rw[ih]
  congr 1
  funext q1 l1
  congr 1
  funext q2 l2
  cases q<;>rfl
theorem B0k {b:Bool} {D:Nat} {l l' m m':List AV} {H:Hp} {q q':Bool} (h:Pu b D l l' H q) (k:Pu b D m m' H q'):Pu b D (l++m) (l'++m') H (q||q'):= λK=>by
 rw[B1t,h,k]
def A74:AV→Bool
 | .v _=>true
 | .list _ _=>true
 |_=>false
theorem B0j {D:Nat} {H:Hp}:∀l:List AV,l.all A74=true→Pu true D l l H false:=by
 intro l
 induction l with
 |nil=>intro _;exact Be
 |cons a l ih=>
  intro h
  simp only[l2j,Jm] at h
  have h2:=ih h.2
  cases a with
  |v x=>exact Ay (q:=false) D2 h2
  |list n cs=>exact Ay (q:=false) Pj h2
  |_=>cases h.1
theorem A4s (ts:Tms):A74 (FC ts)=true:=by cases ts<;>rfl
theorem B1D {k:IntKind} {z:Int}:A74 (.v (.int k z))=true:=rfl
theorem A3S {l:List UInt8}:A74 (S l)=true:=rfl
theorem C2N:A74 (.v (.slice none 0 0))=true:=rfl
theorem C5R {n:Nat} {l:List AV}:A74 (.list n l)=true:=rfl
theorem B23 (c:Cd):∃A B:List AV,(∀P,c.csP P=A++P::B)∧A.all A74=true∧B.all A74=true:=by
 match c with
 | .re b u=>
  refine⟨((Cd.re b u).csP AA).take 31,((Cd.re b u).csP AA).drop 32,λ_=>rfl,?_,?_⟩
  ·simp only[Cd.csP,List.take_succ_cons,List.take_zero,l2j,List.all_nil,B1D,A3S,A4s,l1b,l16]
  ·simp only[Cd.csP,List.drop_succ_cons,l1n,l2j,List.all_nil,B1D,A3S,C2N,l1b,l16]
 | .co b p ps none=>
  refine⟨((Cd.co b p ps none).csP AA).take 31,((Cd.co b p ps none).csP AA).drop 32,λ_=>rfl,?_,?_⟩
  ·simp only[Cd.csP,List.take_succ_cons,List.take_zero,l2j,List.all_nil,B1D,A3S,A4s,l1b,l16]
  ·simp only[Cd.csP,List.drop_succ_cons,l1n,l2j,List.all_nil,B1D,A3S,C2N,C5R,l1b,l16]
 | .co b p ps (some (k,vd))=>
  refine⟨((Cd.co b p ps (some (k,vd))).csP AA).take 31,((Cd.co b p ps (some (k,vd))).csP AA).drop 32,λ_=>rfl,?_,?_⟩
  ·simp only[Cd.csP,List.take_succ_cons,List.take_zero,l2j,List.all_nil,B1D,A3S,A4s,l1b,l16]
  ·simp only[Cd.csP,List.drop_succ_cons,l1n,l2j,List.all_nil,B1D,A3S,C2N,C5R,l1b,l16]
theorem XB (c:Cd) {P:AV} (h:AV.one P=true):(c.csP P).all AV.one=true:=by
 match c with
 | .re b u=>exact Pz (S0 _) h rfl rfl
 | .co b p ps none=>exact Pz (S0 _) h rfl rfl
 | .co b p ps (some (k,vd))=>exact Pz (S0 _) h rfl rfl
theorem Tu (c:Cd) {P:AV}:(c.csP P).length=68:=by
 match c with
 | .re b u=>rfl
 | .co b p ps none=>rfl
 | .co b p ps (some (k,vd))=>rfl
section
variable {H H':Hp} {v:AV} {l:List (List UInt8)} {D:Nat} {b:Bool}
theorem A0s (h:Bv H Au 1 v l.length (AK l)) (h0:l=[]→v=AA):∃q,Fx b (D+1) v (Ep l) H q:=by
 rcases h with⟨rfl,h2,_⟩|⟨r,q,rfl,h2,h3⟩
 ·cases l with
  |nil=>exact⟨false,D2⟩
  |cons a l=>simp at h2
 ·cases l with
  |nil=>have:=h0 rfl;cases this
  |cons a l=>
   refine⟨true,?_⟩
   show Fx b (D+1) _ (.list (a::l).length (AK (a::l))) H true
   exact Xt (q':=false) h2 h3 (KA (λs=>Value.string ⟨⟨s⟩⟩) (a::l))
theorem A5p {c:Cd} (h:Bv H Au 1 v c.ps.length (AK c.ps)) (h0:c.ps=[]→v=AA):∃q,Pu true (D+1) (c.csP v) c.cs H q:=by
 obtain⟨q,hq⟩:=A0s (D:=D) (b:=true) h h0
 obtain⟨A,B,e,f1,f2⟩:=B23 c
 rw[←C39 c,e,e]
 exact⟨_,B0k (B0j A f1) (Ay hq (B0j B f2))⟩
abbrev GV:=List (Cd×AV)
def gvC (g:GV):List AV:=g.flatMap λp=>p.1.csP p.2
structure GvOk (g:GV) (H:Hp):Prop where
 sl:∀p∈g,Bv H Au 1 p.2 p.1.ps.length (AK p.1.ps)
 nl:∀p∈g,p.1.ps=[]→p.2=AA
theorem C5A {g:GV} (h:GvOk g H):∃q,Pu true (D+1) (gvC g) ((g.map Prod.fst).flatMap Cd.cs) H q:=by
 induction g with
 |nil=>exact⟨_,Be⟩
 |cons p g ih=>
  obtain⟨q1,h1⟩:=ih ⟨λr hr=>h.sl r (by simp[hr]),λr hr=>h.nl r (by simp[hr])⟩
  obtain⟨q2,h2⟩:=A5p (D:=D) (h.sl p (by simp)) (h.nl p (by simp))
  exact⟨_,B0k h2 h1⟩
def A4X (gs:List Cd):AV:=match gs with
 |[]=>AA
 |c::gs=> .list (c::gs).length ((c::gs).flatMap Cd.cs)
theorem B7I (gs:List Cd):LA gs (A4X gs):=by cases gs with|nil=>exact .inr ⟨rfl,rfl⟩|cons _ _=>exact .inl rfl
theorem C2E {g:GV} {lv:AV} (h:GvOk g H) (hl:Bv H Al 68 lv g.length (gvC g)) (h0:g=[]→lv=AA):∃q,Fx true (D+2) lv (A4X (g.map Prod.fst)) H q:=by
 rcases hl with⟨rfl,h2,_⟩|⟨r,q,rfl,h2,h3⟩
 ·cases g with
  |nil=>exact⟨false,D2⟩
  |cons a l=>simp at h2
 ·cases g with
  |nil=>have:=h0 rfl;cases this
  |cons p g=>
   obtain⟨q1,h1⟩:=C5A (D:=D) h
   refine⟨true,?_⟩
   have e:A4X ((p::g).map Prod.fst)= .list (p::g).length (((p::g).map Prod.fst).flatMap Cd.cs):=by
    show AV.list _ _=_
    rw[show(p.1::g.map Prod.fst).length=(p::g).length by simp];rfl
   rw[e]
   exact Xt h2 h3 h1
end
structure Y7 where
 (y0 y1 y2 y3 y4 y5 y6:Int)
def Y7.cs (y:Y7):List AV:=[I y.y0,I y.y1,I y.y2,I y.y3,I y.y4,I y.y5,I y.y6]
def Y7.Ok (y:Y7):Prop:=Le y.y0∧Le y.y1∧Le y.y2∧Le y.y3∧Le y.y4∧Le y.y5∧Le y.y6
def paM (ids:List (List UInt8)) (y6:Int):Nat→List (List UInt8)
 |0=>[]
 |k+1=>if 0<ids.length∧pk (y6.fdiv (2^(4*k))) 16<14 then paM ids y6 k++[ids.getD ((pk (y6.fdiv (2^(4*k))) 16).toNat%ids.length) []] else paM ids y6 k
theorem B04 {ids:List (List UInt8)} {y6:Int}:∀k,∀s∈paM ids y6 k,s∈ids:=by
 intro k
 induction k with
 |zero=>intro s hs;simp[paM] at hs
 |succ k ih=>
  intro s hs
  unfold paM at hs
  split at hs
  ·rename_i h
   rcases Zi.1 hs with hs|hs
   ·exact ih s hs
   ·rw[l2f] at hs;subst hs
    have:=Nat.mod_lt (pk (y6.fdiv (2^(4*k))) 16).toNat h.1
    rw[TW,Kq this]
    exact QE this
  ·exact ih s hs
theorem B05 {ids:List (List UInt8)} {y6:Int}:∀k,(paM ids y6 k).length≤k:=by
 intro k
 induction k with
 |zero=>simp[paM]
 |succ k ih=>
  unfold paM
  split
  ·simp;omega
  ·omega
def kdM (i:Nat) (y:Y7):Int:=if i<2∧0<pk (y.y0.tdiv 3) 4 then 0 else y.y0
def cM (i:Nat) (y:Y7) (ids:List (List UInt8)):Cd:=cdM (kdM i y) y.y1 y.y2 y.y3 y.y4 y.y5 y.y1 y.y2 y.y3 y.y4 y.y5 y.y6 (some (y.y3,y.y4,y.y5,y.y6)) (paM ids y.y6 3)
def OC (xs:List Y7):Nat→List Cd
 |0=>[]
 |i+1=>
  if(cM i (xs.getD i ⟨0,0,0,0,0,0,0⟩) ((OC xs i).map Cd.id)).ps.Nodup∧(cM i (xs.getD i ⟨0,0,0,0,0,0,0⟩) ((OC xs i).map Cd.id)).id∉(OC xs i).map Cd.id
  then OC xs i++[cM i (xs.getD i ⟨0,0,0,0,0,0,0⟩) ((OC xs i).map Cd.id)] else OC xs i
theorem B9k {i:Nat} {y:Y7} {gs:List Cd}:(cM i y (gs.map Cd.id)).Ok:=by
 refine A2o λs hs=> ?_
 obtain⟨c,_,rfl⟩:=l2a.1 (B04 _ s hs)
 exact A9n c
theorem B4z (xs:List Y7):∀i,i≤8→GOk (OC xs i)∧(OC xs i).length≤i:=by
 intro i
 induction i with
 |zero=>intro _;exact⟨⟨by simp[OC],by simp[OC],by simp[OC],by simp[OC]⟩,by simp[OC]⟩
 |succ i ih=>
  intro hi
  obtain⟨h,hlen⟩:=ih (by omega)
  unfold OC
  split
  ·rename_i hc
   refine⟨⟨λc hm=> ?_,λc hm=> ?_,?_,by simp;omega⟩,by simp;omega⟩
   ·rcases Zi.1 hm with hm|hm
    ·exact h.ok c hm
    ·rw[l2f] at hm;subst hm;exact B9k
   ·rcases Zi.1 hm with hm|hm
    ·exact h.nd c hm
    ·rw[l2f] at hm;subst hm;exact hc.1
   ·rw[Zl,List.nodup_append]
    refine⟨h.ids,by simp,λa ha b hb e=> ?_⟩
    obtain⟨c',hc',rfl⟩:=l2a.1 hb
    rw[l2f] at hc';subst hc'
    exact hc.2 (e▸ha)
  ·exact⟨h,by omega⟩
theorem B5m {c:Cd} (h:c.Ok):c.ps.length≤3:=by
 match c,h with
 | .re b u,_=>simp[Cd.ps]
 | .co b p ps none,⟨_,hp,h1,_⟩=>show ps.length≤3;rw[h1];exact hp.k3
 | .co b p ps (some _),⟨_,hp,h1,_⟩=>show ps.length≤3;rw[h1];exact hp.k3
end
section
variable {L n:Nat}
abbrev Bt:=List UInt8
section
variable {gs:List Cd} {b:List (Bt×Unit)} {p:Bt} {ids:List Bt}
theorem B1h:∀b:List (Bt×Unit),(Gv b p ()).map Prod.fst=if p∈b.map Prod.fst then b.map Prod.fst else b.map Prod.fst++[p]:=by
 intro b
 induction b with
 |nil=>rfl
 |cons e b ih=>
  unfold Gv
  by_cases h:e.1=p
  ·simp[h]
  ·rw[if_neg h,XS,ih,XS]
   have hm:(p∈e.1::b.map Prod.fst)↔p∈b.map Prod.fst:=by simp[Ne.symm h]
   by_cases h2:p∈b.map Prod.fst
   ·rw[if_pos h2,if_pos (hm.2 h2)]
   ·rw[if_neg h2,if_neg (λh3=>h2 (hm.1 h3))];rfl
theorem A4q {H:Hp} {K:AV→Aj}:Ah (rt (L+20) (n+1)) F0 [gV gs,S p] H K=K (Bo (decide (p∈gs.map Cd.id))):=by
 refine Ba (λK hK=> ?_) (Ay A0t (Ay (q:=false) D2 Be))
 rw[RX]
 unfold J3
 have ek:∀(F:Value→Aj),IV (S p) F=F (SV p):= λF=>id rfl
 rw[ek,R4 (f:=P0) (b:=gE gs) (λK=>id rfl)]
 by_cases h:p∈gs.map Cd.id
 ·obtain⟨c,hc⟩:∃c,JM (gE gs) p=some c:=by
   rcases B8e (gs:=gs) (s:=p) with⟨_,k,hk,h1,_⟩|⟨h1,_⟩
   ·exact⟨_,h1⟩
   ·exact absurd h h1
  rw[hc]
  simp only[]
  rw[CZ,CY,Bi (cs:=BJ) rfl,B7 (cs:=BJ) (vs:=c.cs) (A1 (by simp)) CA rfl KC]
  rw[decide_eq_true h] at hK⊢
  exact hK _ _ λb=>⟨false,D2⟩
 ·rw[A26 (by rw[A59];exact h)]
  simp only[]
  rw[CZ,CY,Bi (cs:=BJ) rfl,show(Ad.zero:AV)= .agg BJ from rfl,B7 (cs:=BJ) (vs:=BJ) (A1 (by simp)) rfl rfl rfl]
  rw[decide_eq_false h] at hK⊢
  exact hK _ _ λb=>⟨false,D2⟩
end
section
variable {gs:List Cd} {ids:List Bt}
theorem C29:∀l:List Bt,pl 6 (Ep l)=true:=by
 intro l
 cases l with
 |nil=>rfl
 |cons a l=>
  show(AK (a::l)).all (pl 5)=true
  rw[HB]
  intro y hy
  obtain⟨s,_,rfl⟩:=l2a.1 hy
  rfl
theorem B5d {ty:Nat} {es:List (Value×AV)} {H:Hp} {K:KV}:DK ty (.imap es) H K=K (.ptr (A2 H) 0 0) ((A2 H,.cells true ty [.imap es])::H):=by
 unfold DK
 rw[CQ,Gg,BZ];rfl
end
abbrev B8n (gs:List Cd):AV:= .fn (.func CO) [] [.iptr [gV gs]]
end
end Go.Abs
end
