import Derived.Test.YtlbhdmbfdcohhaaGreatDoorQ22
import Derived.Test.YtlbhdmbfdcohhaaGreatDoorQ43
import Derived.Test.YtlbhdmbfdcohhaaGreatDoorQ44
import Derived.Test.YtlbhdmbfdcohhaaGreatDoorQ45
set_option linter.all false
set_option maxHeartbeats 100000000
noncomputable section
namespace Go.Abs
open Go.RowKit Go.Proofs
set_option maxRecDepth 100000
section
variable {L n:Nat}
def PL (H:Hp) (l:List (List UInt8)) (a:AV):Prop:=SA l a∨B1 H AI 1 a l.length (B5 l)
section
variable {H H':Hp} {l:List (List UInt8)} {a:AV} {K:AV→Al}
theorem PL.len (h:PL H l a):AN Ae a K=K (I l.length):=by
 rcases h with h|h
 ·exact h.len
 ·exact I5 (t:=Ae) rfl h
theorem B2y {i:Nat} (h:B1 H AI 1 a l.length (B5 l)) (hi:i<l.length):(Bv Ae a (I i) λp=>Aq Ad p H K)=K (S l[i]):=by
 rcases h with⟨_,h2,_⟩|⟨r,q,rfl,h2,h3⟩
 ·omega
 ·have e1:∀K:AV→Al,Bv Ae (.sl 1 r 0 l.length) (I (i:Int)) K=iN (i:Int) λm=>ck (Nat.blt m l.length) (fN (Nat.add 0 (Nat.mul m 1)) λp=>K (.ptr r p 0)):= λK=>_root_.id rfl
  rw[e1,J6,DL]
  have h3:Nat.blt i l.length=true:=by rw[TU];exact hi
  rw[h3]
  show Aq Ad (.ptr r (0+i*1) 0) H K=_
  rw[K1,l28,AQ rfl h2 (by simp[B5];exact hi),Mr hi]
theorem PL.at (h:PL H l a) {i:Nat} (hi:i<l.length):(Bv Ae a (I i) λp=>Aq Ad p H K)=K (S l[i]):=by
 rcases h with h|h
 ·rw[h.ia hi,ET]
 ·exact B2y h hi
theorem PL.at2 (h:PL H l a) {i:Nat} (hi:i<l.length):∃p,(∀K:AV→Al,Bv Ae a (I i) K=K p)∧∀K:AV→Al,Aq Ad p H K=K (S l[i]):=by
 rcases h with h|h
 ·exact⟨_,λK=>h.ia hi,λK=>ET⟩
 ·rcases h with⟨_,h2,_⟩|⟨r,q,rfl,h2,h3⟩
  ·omega
  ·refine⟨.ptr r i 0,λK=> ?_,λK=>by rw[AQ rfl h2 (by simp[B5];exact hi),Mr hi]⟩
   have e1:∀K:AV→Al,Bv Ae (.sl 1 r 0 l.length) (I (i:Int)) K=iN (i:Int) λm=>ck (Nat.blt m l.length) (fN (Nat.add 0 (Nat.mul m 1)) λp=>K (.ptr r p 0)):= λK=>_root_.id rfl
   rw[e1,J6,DL]
   have h3:Nat.blt i l.length=true:=by rw[TU];exact hi
   rw[h3]
   show K (.ptr r (0+i*1) 0)=_
   rw[K1,l28]
theorem PL.kp (h:PL H l a) (k:∀s x,Au H s=some x→Au H' s=some x):PL H' l a:=by
 rcases h with h|h
 ·exact .inl h
 ·exact .inr (h.kp λs x _=>k s x)
end
def YA (H:Hp) (y:Y4) (a:AV):Prop:=∀H',(∀s x,Au H s=some x→Au H' s=some x)→∃q,Fx true depth a (yA y) H' q
def Wo (i:Int) (p:List UInt8) (ps:List (List UInt8)):List UInt8:=ps.foldl (λp q=>if q=p then A2r (-1-i) else p) p
def psM (x1:Int) (l:List (List UInt8)):Nat→List (List UInt8)
 |0=>[]
 |i+1=>psM x1 l i++[Wo i (if h:i<l.length then l[i] else A2r (pk (x1.tdiv 3) 1000+i)) (psM x1 l i)]
theorem Wk {x1:Int} {l:List (List UInt8)}:∀i,(psM x1 l i).length=i:=by
 intro i
 induction i with
 |zero=>rfl
 |succ i ih=>simp[psM,ih]
theorem A64 (c:Int):(A2r c).length=32:=TC _ 8
theorem B0Q {i:Int}:∀(ps:List (List UInt8)) (p:List UInt8),p.length=32→(Wo i p ps).length=32:=by
 intro ps
 induction ps with
 |nil=>intro p h;exact h
 |cons q ps ih=>
  intro p h
  show(Wo i (if q=p then A2r (-1-i) else p) ps).length=32
  by_cases hq:q=p
  ·rw[if_pos hq];exact ih _ (A64 _)
  ·rw[if_neg hq];exact ih _ h
theorem C1b {x1:Int} {l:List (List UInt8)} (hl:∀s∈l,s.length=32):∀i,∀s∈psM x1 l i,s.length=32:=by
 intro i
 induction i with
 |zero=>intro s hs;simp[psM] at hs
 |succ i ih=>
  intro s hs
  rcases l2e.1 hs with hs|hs
  ·exact ih s hs
  ·rw[l2f] at hs;subst hs
   apply B0Q
   by_cases h:i<l.length
   ·rw[dif_pos h];exact hl _ (Ow h)
   ·rw[dif_neg h];exact A64 _
theorem Lh {a b:Int} (h:JU a) (hb:1≤b):JU (a.tdiv b):=by
 unfold JU at h⊢
 by_cases h0:0≤a
 ·have h1:=Int.tdiv_nonneg h0 (by omega:0≤b)
  have h2:a.tdiv b≤a:=Int.tdiv_le_self b h0
  omega
 ·have e:a.tdiv b= -((-a).tdiv b):=by rw[Int.neg_tdiv,Int.neg_neg]
  have h1:=Int.tdiv_nonneg (by omega:0≤ -a) (by omega:0≤b)
  have h2:(-a).tdiv b≤ -a:=Int.tdiv_le_self b (by omega)
  omega
theorem Yx {a b:Int} {K:AV→Al} (h:JU a) (hb:1≤b):Go.Abs.Ak Ab .quo (I a) (.v (.int .i64 b)) K=K (I (a.tdiv b)):=by
 have h1:=Lh h hb
 rw[B4x (by omega),Ca h1.1 h1.2]
structure Mc (H0:Hp) (b1 b2 r z:Nat) (X F:List AV) (H:Hp):Prop where
 h1:Au H b1=some (.cells true GW X)
 h2:Au H b2=some (.cells true GW F)
 hz:∃cs,cs.length=68∧Au H z=some (.cells true Ai cs)
 wf:Wf H
 n1:b1≠r
 n2:b2≠r
 nz:z≠r
 f1:A3 H0≤b1
 f2:A3 H0≤b2
 f3:A3 H0≤r
 f4:A3 H0≤z
 w0:Wf H0
 kp:∀s x,Au H0 s=some x→Au H s=some x
section
variable {K:KV} {x:Al} {H0 H H':Hp} {b1 b2 r z:Nat} {X F:List AV} {ps l:List (List UInt8)} {v a3:AV} {cR:AV→List AV}
theorem Mc.upd (h:Mc H0 b1 b2 r z X F H) (y:Row):Mc H0 b1 b2 r z X F (upd H r y):=by
 obtain⟨cs,c1,c2⟩:=h.hz
 exact⟨by rw[Ap h.n1];exact h.h1,by rw[Ap h.n2];exact h.h2,⟨cs,c1,by rw[Ap h.nz];exact c2⟩,BL h.wf,h.n1,h.n2,h.nz,h.f1,h.f2,h.f3,h.f4,h.w0,λs x hs=>by
  have:=h.w0.lt hs
  have:=h.f3
  rw[Ap (by omega)];exact h.kp s x hs⟩
structure Pl (H0:Hp) (b1 b2 r z:Nat) (X F:List AV) (cR:AV→List AV) (ps:List (List UInt8)) (v:AV) (H:Hp):Prop where
 mc:Mc H0 b1 b2 r z X F H
 hr:Au H r=some (.cells true Ai (cR v))
 sv:B1 H AI 1 v ps.length (B5 ps)
 nv:ps=[]→v=AM
 fr:∀s,Bb v s→A3 H0≤s∧s≠b1∧s≠b2∧s≠r∧s≠z
structure CR (cR:AV→List AV) (ks:List Nat):Prop where
 len:∀v,(cR v).length=68
 set:∀v v',(cR v).set 31 v'=cR v'
 get:∀v,(cR v).getD 31 .dk=v
 ins:∀v,(cR v).getD 33 .dk=BC ks
theorem C3H {k154:AV→AV→AV→AV→AV→AV→AV→Hp→Al} {ks:List Nat} (hL:40000<L) (hc:CR cR ks) {i:Nat} (hi:i<3) (hh:Pl H0 b1 b2 r z X F cR ps v H) (hb:ps.length≤3):
 ∀(f k:Nat) (p:List UInt8),k≤ps.length→ps.length-k<f→k154 a3 (.ptr b1 0 0) (.ptr z 0 0) (.ptr r 0 0) (I i) (S (Wo i p (ps.drop k))) (I ps.length) H=x→
 Nb (L+20) (rt (L+20) (n+43)) K k154 f a3 (.ptr b1 0 0) (.ptr z 0 0) (.ptr r 0 0) (I i) (S p) (I k) H=x:=by
 intro f
 induction f with
 |zero=>intro k p _ h;omega
 |succ f ih=>
  intro k p hk hf hx
  rw[YO]
  unfold Qn Ar
  have l31:∀{K},Aq Ae (.ptr r 31 0) H K=K v:= λ{K}=>by rw[AQ (p:=31) rfl hh.hr (by rw[hc.len];decide),hc.get]
  rw[Vg,l31,I5 (t:=Ae) rfl hh.sv]
  by_cases h:k<ps.length
  ·rw[Ge (by omega),D3]
   simp only[Cl]
   have ad:∀{K:AV→Al},Go.Abs.Ak Ab .add (I k) (.v (.int .i64 1)) K=K (I ((k+1:Nat):Int)):= λ{K}=>DS (by omega)
   have sb:∀{K:AV→Al},Go.Abs.Ak Ab .sub (.v (.int .i64 (-1))) (I (i:Int)) K=K (I (-1-(i:Int))):= λ{K}=>by rw[GE,Ca (by omega) (by omega)]
   have pa:∀{K:AV→Al},Ah (rt (L+20) (n+43)) FD [I (-1-(i:Int))] H K=K (S (A2r (-1-(i:Int)))):= λ{K}=>A0K (n:=n+23) hL (by omega) (by omega) H K
   have ed:ps.drop k=ps[k]::ps.drop (k+1):=l11 h
   rw[ed] at hx
   have hx':k154 a3 (.ptr b1 0 0) (.ptr z 0 0) (.ptr r 0 0) (I i) (S (Wo i (if ps[k]=p then A2r (-1-i) else p) (ps.drop (k+1)))) (I ps.length) H=x:=hx
   rw[Vg,l31,B2y hh.sv h,JR]
   by_cases hq:ps[k]=p
   ·rw[decide_eq_true hq,D3,sb,pa,ad]
    rw[if_pos hq] at hx'
    exact ih (k+1) _ (by omega) (by omega) hx'
   ·rw[decide_eq_false hq,B9,ad]
    rw[if_neg hq] at hx'
    exact ih (k+1) _ (by omega) (by omega) hx'
  ·have:k=ps.length:=by omega
   subst this
   rw[List.drop_length] at hx
   rw[Gf (by omega),B9]
   exact hx
theorem C3I {k108:AV→AV→AV→Hp→Al} {ks:List Nat} {x0 x1 x2 x3 x4 x5:Int} (hL:40000<L) (hc:CR cR ks) (h1:JU x1) (hks:ks.length≤3) (hl:PL H0 l a3) (hb:l.length<1000) (h32:∀s∈l,s.length=32)
 (hfin:∀v H,Pl H0 b1 b2 r z [I x0,I x1,I x2,I x3,I x4,I x5] F cR (psM x1 l ks.length) v H→k108 (.ptr b1 0 0) (.ptr z 0 0) (.ptr r 0 0) H=x):
 ∀(f i:Nat) (v d0 d1:AV) (H:Hp),i≤ks.length→ks.length-i<f→Pl H0 b1 b2 r z [I x0,I x1,I x2,I x3,I x4,I x5] F cR (psM x1 l i) v H→
 Nc (L+20) (rt (L+20) (n+43)) K k108 f a3 (.ptr b1 0 0) (.ptr z 0 0) (.ptr r 0 0) (I i) d0 d1 H=x:=by
 intro f
 induction f with
 |zero=>intro i v d0 d1 H _ h;omega
 |succ f ih=>
  intro i v d0 d1 H hi hf hh
  rw[YP]
  unfold Qo AU Ar CH
  have l33:∀{K},Aq Am (.ptr r 33 0) H K=K (BC ks):= λ{K}=>by rw[AQ (p:=33) rfl hh.hr (by rw[hc.len];decide),hc.ins]
  have fa:∀{K:AV→Al},AL 1 (.ptr r 32 0) K=K (.ptr r 33 0):= λ{K}=>by rw[fA]
  rw[Vg,fa,l33,NJ]
  by_cases h:i<ks.length
  ·have pr:=ED (c:=x1.tdiv 3) (n:=1000) (by decide)
   have ia:∀{K:AV→Al},Bv Bj (.ptr b1 0 0) (.v (.int .i64 1)) K=K (.ptr b1 1 0):= λ{K}=>DE (z:=1) 1 rfl rfl (by decide)
   have d1:∀{K:AV→Al},Aq Ab (.ptr b1 1 0) H K=K (I x1):= λ{K}=>AQ (p:=1) rfl hh.mc.h1 (by simp)
   have pk1:∀{H K},Ah (rt (L+20) (n+43)) Bx [I (x1.tdiv 3),.v (.int .i64 1000)] H K=K (I (pk (x1.tdiv 3) 1000)):= λ{H K}=>Kl (n:=n+42) (Lh h1 (by decide)) (by decide) (by decide) H K
   have ad:∀{K:AV→Al},Go.Abs.Ak Ab .add (I (pk (x1.tdiv 3) 1000)) (I (i:Int)) K=K (I (pk (x1.tdiv 3) 1000+i)):= λ{K}=>by rw[Cv,Ca (by omega) (by omega)]
   have pa:∀{K:AV→Al},Ah (rt (L+20) (n+43)) FD [I (pk (x1.tdiv 3) 1000+i)] H K=K (S (A2r (pk (x1.tdiv 3) 1000+i))):= λ{K}=>A0K (n:=n+23) hL (by omega) (by omega) H K
   rw[Ge (by omega),D3,ia,d1,Yx h1 (by decide),pk1,ad,pa]
   refine KN λk132 h132=> ?_
   have hk:∀p:List UInt8,p=(if h:i<l.length then l[i] else A2r (pk (x1.tdiv 3) 1000+i))→k132 (S p) H=x:=by
    intro p hp
    rw[h132]
    simp only[Cl]
    refine C3H hL hc (by omega) hh (by rw[Wk];omega) (L+20) 0 p (by omega) (by rw[Wk];omega) ?_
    rw[l1n]
    have l31:∀{K},Aq Ae (.ptr r 31 0) H K=K v:= λ{K}=>by rw[AQ (p:=31) rfl hh.hr (by rw[hc.len];decide),hc.get]
    obtain⟨v',H',a1,a2,a3',a4,a5,a6⟩:=A6Z (ie:=Ad) (i2:=Ae) (ys:=B5 [Wo i p (psM x1 l i)]) hh.sv hh.mc.wf rfl rfl (by decide) rfl (λ_=>rfl) (by rw[Wk];show(i+1)*16≤_;omega) (by rw[Wk];omega)
    obtain⟨cs,c1,c2⟩:=hh.mc.hz
    have hr':=a5 _ _ hh.hr λe=>(hh.fr _ e).2.2.2.1 rfl
    have q1:=hh.mc.wf.lt hh.mc.h1
    have q2:=hh.mc.wf.lt hh.mc.h2
    have q3:=hh.mc.wf.lt hh.hr
    have q4:=hh.mc.wf.lt c2
    have q0:=hh.mc.f1
    rw[Vg,l31,Xa,a1,Vg,E1 hr' (by rw[hc.len];decide) rfl (B1.cell a2) (B1.one a2),hc.set,DS (by omega)]
    have ps1:psM x1 l (i+1)=psM x1 l i++[Wo i p (psM x1 l i)]:=by rw[hp];rfl
    refine ih (i+1) v' _ _ _ (by omega) (by omega) ⟨?_,A9 hr',?_,λe=> ?_,λs hs=> ?_⟩
    ·refine⟨by rw[Ap hh.mc.n1];exact a5 _ _ hh.mc.h1 (λe=>(hh.fr _ e).2.1 rfl),by rw[Ap hh.mc.n2];exact a5 _ _ hh.mc.h2 (λe=>(hh.fr _ e).2.2.1 rfl),⟨cs,c1,by rw[Ap hh.mc.nz];exact a5 _ _ c2 (λe=>(hh.fr _ e).2.2.2.2 rfl)⟩,BL a3',hh.mc.n1,hh.mc.n2,hh.mc.nz,hh.mc.f1,hh.mc.f2,hh.mc.f3,hh.mc.f4,hh.mc.w0,λs x hs=> ?_⟩
     have g1:=hh.mc.w0.lt hs
     have g2:=hh.mc.f3
     rw[Ap (by omega)]
     exact a5 _ _ (hh.mc.kp s x hs) (λe=>by have:=(hh.fr _ e).1;omega)
    ·rw[ps1,FK]
     have:B5 (psM x1 l i++[Wo i p (psM x1 l i)])=B5 (psM x1 l i)++B5 [Wo i p (psM x1 l i)]:=by simp[B5]
     rw[this]
     refine B1.kp a2 λs x hs hl=> ?_
     have:=a6 s hs
     rw[Ap (by omega)];exact hl
    ·rw[ps1] at e;simp at e
    ·have:=a6 s hs
     omega
   clear h132
   have hpl:=hl.kp hh.mc.kp
   rw[hpl.len]
   by_cases h3:i<l.length
   ·obtain⟨p,g1,g2⟩:=hpl.at2 h3
    have e32:∀{K:AV→Al},Go.Abs.Ak Ab .eql (I ((l[i].length:Nat):Int)) (.v (.int .i64 32)) K=K (Bo true):= λ{K}=>by
     rw[Dy,h32 _ (Ow h3)];rfl
    rw[Ge (by omega)]
    simp only[gT,Ci,g1,g2,MS (t:=Ad) rfl,e32,Vu]
    rw[D3]
    exact hk _ (by rw[dif_pos h3])
   ·rw[Gf (by omega)]
    simp only[gTF,Ci,TB]
    rw[B9]
    exact hk _ (by rw[dif_neg h3])
  ·have:i=ks.length:=by omega
   subst this
   rw[Gf (by omega),B9]
   exact hfin v H hh
end
end
section
variable {L n:Nat}
def Cd.csP (c:Cd) (P:AV):List AV:=match c with
 | .re b u=>DF 1 b.m (uu u) (qn b.c) (qd b.c) (Fw b.ts) (qn b.r) (qd b.r) P 0 AM AM u0 r0 0
 | .co b p _ none=>DF 2 b.m (uu p.out) (qn b.c) (qd b.c) (Fw b.ts) (qn b.r) (qd b.r) P p.id (BC p.ks) (BR p.xs) (uu p.out) r0 0
 | .co b p _ (some (k,vd))=>DF 3 b.m (uu p.out) (qn b.c) (qd b.c) (Fw b.ts) (qn b.r) (qd b.r) P p.id (BC p.ks) (BR p.xs) (uu p.out) (rr k) vd
theorem C2f (c:Cd):c.csP (Ec c.ps)=c.cs:=by
 match c with
 | .re b u=>rfl
 | .co b p ps none=>rfl
 | .co b p ps (some (k,vd))=>rfl
def cbM (x1 x2 x3 x4 x5:Int) (fs:List Int):CB:=⟨⟨1+pk x1 3,1+pk x2 9,1+pk x3 4,pk x4 50,pk x5 30⟩,pk (x3.tdiv 4) 161-80,pk (x4.tdiv 50) 9,Jx fs 6⟩
def cdM (x0 x1 x2 x3 x4 x5 f0 f1 f2 f3 f4 f5:Int) (y:Y4) (l:List (List UInt8)):Cd:=
 if pk x0 3=0 then .re (cbM x1 x2 x3 x4 x5 [f0,f1,f2,f3,f4,f5]) (pk (x5.tdiv 30) 7).toNat
 else .co (cbM x1 x2 x3 x4 x5 [f0,f1,f2,f3,f4,f5]) (ZJ [f0,f1,f2] (x2.tdiv 9) y) (psM x1 l (ZJ [f0,f1,f2] (x2.tdiv 9) y).ks.length)
  (if pk x0 3=1 then none else some (1+(pk (x0.tdiv 3) 3).toNat,1+pk (x0.tdiv 9) 3))
theorem A1X {x0 x1 x2 x3 x4 x5 f0 f1 f2 f3 f4 f5:Int} {y:Y4} {l:List (List UInt8)} (h32:∀s∈l,s.length=32):(cdM x0 x1 x2 x3 x4 x5 f0 f1 f2 f3 f4 f5 y l).Ok:=by
 have p1:=ED (c:=x1) (n:=3) (by decide)
 have p2:=ED (c:=x2) (n:=9) (by decide)
 have p3:=ED (c:=x3) (n:=4) (by decide)
 have p4:=ED (c:=x4) (n:=50) (by decide)
 have p5:=ED (c:=x5) (n:=30) (by decide)
 have p6:=ED (c:=x3.tdiv 4) (n:=161) (by decide)
 have p7:=ED (c:=x4.tdiv 50) (n:=9) (by decide)
 have p8:=ED (c:=x5.tdiv 30) (n:=7) (by decide)
 have p9:=ED (c:=x0.tdiv 3) (n:=3) (by decide)
 have pa:=ED (c:=x0.tdiv 9) (n:=3) (by decide)
 have hb:(cbM x1 x2 x3 x4 x5 [f0,f1,f2,f3,f4,f5]).Ok:=by
  refine⟨?_,?_,?_,?_,?_,(A9j _ 6 (by omega)).1⟩
  ·refine⟨?_,?_,?_,?_,?_,?_,?_,?_,?_,?_⟩
   all_goals (simp only[cbM];omega)
  all_goals (simp only[cbM];omega)
 unfold cdM
 by_cases h:pk x0 3=0
 ·rw[if_pos h]
  exact⟨hb,by omega⟩
 ·rw[if_neg h]
  refine⟨hb,A87 rfl,Wk _,C1b h32 _,?_⟩
  by_cases h1:pk x0 3=1
  ·rw[if_pos h1];exact trivial
  ·rw[if_neg h1]
   exact⟨by omega,by omega,by omega⟩
theorem okI {z:Int} {H:Hp} {K:Al}:Rg (AW (some (I z,H)) (I z)) K=K:=Rf rfl
theorem C5V {k:IntKind} {z:Int}:AV.one (.v (.int k z))=true:=rfl
theorem C5T {l:List UInt8}:AV.one (S l)=true:=rfl
theorem C5U:AV.one (.v (.slice none 0 0))=true:=rfl
theorem RM (ts:ZB):AV.one (Fw ts)=true:=by cases ts<;>rfl
section
variable {K:KV} {x:Al} {H0 H H':Hp} {b1 b2 r z:Nat} {X F:List AV} {ps l:List (List UInt8)} {v a2 a3:AV} {cR:AV→List AV} {y:Y4} {x0 x1 x2 x3 x4 x5 f0 f1 f2 f3 f4 f5:Int}
theorem O8 {kd:Int} {m:ND} {u o:UD} {ca cb ra rb:List UInt8} {T P ins nds:AV} {id vd:Int} {rd:RD} (h1:AV.one T=true) (h2:AV.one P=true) (h3:AV.one ins=true) (h4:AV.one nds=true):(DF kd m u ca cb T ra rb P id ins nds o rd vd).all AV.one=true:=by
 simp only[l2j,List.all_nil,C5V,C5T,C5U,h1,h2,h3,h4,l16,l1b]
theorem A6c (h:Mc H0 b1 b2 r z X F H) {cs:List AV} (hr:Au H r=some (.cells true Ai cs)) (h1:cs.length=68) (h2:cs.all AV.one=true) (hK:∀H',Wf H'→(∀s q,s≠z→Au H s=some q→Au H' s=some q)→K (.agg cs) H'=x):
 (Aq Ac (.ptr r 0 0) H λv86=>
  Ck Ac (.ptr z 0 0) v86 H λH87=>
  Aq Ac (.ptr z 0 0) H87 λv89=>
  K v89 H87)=x:=by
 obtain⟨c0,c1,c2⟩:=h.hz
 rw[Bk (cs:=cs) rfl (by rw[h1];rfl) hr,B0 c2 (by rw[c1,h1]) (by rw[c1];rfl) h2,Bk (cs:=cs) rfl (by rw[h1];rfl) (A9 c2)]
 exact hK _ (BL h.wf) λs q hs hl=>by rw[Ap hs];exact hl
theorem push {H:Hp} (w:Wf H) (x:Row) (hx:x≠.gone):∃H' s,H'=(s,x)::H∧s=A3 H∧Au H' s=some x∧Wf H'∧∀t q,Au H t=some q→Au H' t=some q∧t≠s:=
 ⟨_,_,rfl,rfl,Ay hx,B3 w,λt q h=>⟨Bh (w.lt h) h,by have:=w.lt h;omega⟩⟩
theorem C1D {b:Nat} {K:AV→Al}:Bv Bj (.ptr b 0 0) (.v (.int .i64 0)) K=K (.ptr b 0 0):=DE (z:=0) 0 rfl rfl (by decide)
theorem C6e {b:Nat} {K:AV→Al}:Bv Bj (.ptr b 0 0) (.v (.int .i64 1)) K=K (.ptr b 1 0):=DE (z:=1) 1 rfl rfl (by decide)
theorem C6d {b:Nat} {K:AV→Al}:Bv Bj (.ptr b 0 0) (.v (.int .i64 2)) K=K (.ptr b 2 0):=DE (z:=2) 2 rfl rfl (by decide)
theorem C6c {b:Nat} {K:AV→Al}:Bv Bj (.ptr b 0 0) (.v (.int .i64 3)) K=K (.ptr b 3 0):=DE (z:=3) 3 rfl rfl (by decide)
theorem C6b {b:Nat} {K:AV→Al}:Bv Bj (.ptr b 0 0) (.v (.int .i64 4)) K=K (.ptr b 4 0):=DE (z:=4) 4 rfl rfl (by decide)
theorem C6a {b:Nat} {K:AV→Al}:Bv Bj (.ptr b 0 0) (.v (.int .i64 5)) K=K (.ptr b 5 0):=DE (z:=5) 5 rfl rfl (by decide)
theorem rd6 {H:Hp} {b:Nat} {a0 a1 a2 a3 a4 a5:Int} (h:Au H b=some (.cells true GW [I a0,I a1,I a2,I a3,I a4,I a5])):
 (∀{K},Aq Ab (.ptr b 0 0) H K=K (I a0))∧(∀{K},Aq Ab (.ptr b 1 0) H K=K (I a1))∧(∀{K},Aq Ab (.ptr b 2 0) H K=K (I a2))∧(∀{K},Aq Ab (.ptr b 3 0) H K=K (I a3))∧(∀{K},Aq Ab (.ptr b 4 0) H K=K (I a4))∧(∀{K},Aq Ab (.ptr b 5 0) H K=K (I a5)):=
 ⟨λ{K}=>AQ (p:=0) rfl h (by simp),λ{K}=>AQ (p:=1) rfl h (by simp),λ{K}=>AQ (p:=2) rfl h (by simp),λ{K}=>AQ (p:=3) rfl h (by simp),λ{K}=>AQ (p:=4) rfl h (by simp),λ{K}=>AQ (p:=5) rfl h (by simp)⟩
theorem B2v (mc:Mc H0 b1 b2 r z X F H) {cs cs' vs:List AV} (hr:Au H r=some (.cells true Ai cs)) {i:TI} {p:Nat} (hcs:cs.length=68) (hp:p+vs.length≤68) (hz:i.size=vs.length) (h1:vs.all AV.one=true) (es:splice cs p vs=cs'):
 ∃H',(∀K:Hp→Al,Ck i (.ptr r p 0) (.agg vs) H K=K H')∧Mc H0 b1 b2 r z X F H'∧Au H' r=some (.cells true Ai cs')∧(∀s q,s≠r→Au H s=some q→Au H' s=some q):=
 ⟨_,λK=>Yj hr (by rw[hcs];exact hp) hz h1,mc.upd _,by rw[es];exact A9 hr,λs q hs hl=>by rw[Ap hs];exact hl⟩
theorem A0L (hL:40000<L) (w:Wf H0) (i0:JU x0) (i1:JU x1) (i2:JU x2) (i3:JU x3) (i4:JU x4) (i5:JU x5) (j0:JU f0) (j1:JU f1) (j2:JU f2) (j3:JU f3) (j4:JU f4) (j5:JU f5)
 (hy:YA H0 y a2) (hyI:yI y) (hl:PL H0 l a3) (hb:l.length<1000) (h32:∀s∈l,s.length=32)
 (hK:∀v H',B1 H' AI 1 v (cdM x0 x1 x2 x3 x4 x5 f0 f1 f2 f3 f4 f5 y l).ps.length (B5 (cdM x0 x1 x2 x3 x4 x5 f0 f1 f2 f3 f4 f5 y l).ps)→((cdM x0 x1 x2 x3 x4 x5 f0 f1 f2 f3 f4 f5 y l).ps=[]→v=AM)→Wf H'→(∀s q,Au H0 s=some q→Au H' s=some q)→(∀s,Bb v s→A3 H0≤s)→
  K (.agg ((cdM x0 x1 x2 x3 x4 x5 f0 f1 f2 f3 f4 f5 y l).csP v)) H'=x):
 (rt (L+20) (n+44)).call LL [.agg [I x0,I x1,I x2,I x3,I x4,I x5],.agg [I f0,I f1,I f2,I f3,I f4,I f5],a2,a3] H0 K=x:=by
 rw[A0X]
 unfold Sc Ar E4
 obtain⟨H1,b1,e1,s1,l1,w1,k1⟩:=push w (.cells true GW [I x0,I x1,I x2,I x3,I x4,I x5]) (by simp)
 rw[Fa (cs:=[I x0,I x1,I x2,I x3,I x4,I x5]) rfl,←s1,←e1]
 obtain⟨H2,b2,e2,s2,l2,w2,k2⟩:=push w1 (.cells true GW [I f0,I f1,I f2,I f3,I f4,I f5]) (by simp)
 rw[Fa (cs:=[I f0,I f1,I f2,I f3,I f4,I f5]) rfl,←s2,←e2]
 obtain⟨H3,z,e3,s3,l3,w3,k3⟩:=push w2 (.cells true Ai BA) (by simp)
 rw[Ba (cs:=BA) rfl,←s3,←e3]
 obtain⟨H4,r,e4,s4,l4,w4,k4⟩:=push w3 (.cells true Ai BA) (by simp)
 have m1:=k2 _ _ l1
 have m2:=k3 _ _ m1.1
 have m3:=k3 _ _ l2
 have q1:=k4 _ _ m2.1
 have q2:=k4 _ _ m3.1
 have q3:=k4 _ _ l3
 have g1:A3 H0≤b1:=by omega
 have g2:A3 H0≤b2:=by have:=w1.lt l1;omega
 have g3:A3 H0≤z:=by have:=w2.lt l2;omega
 have g4:A3 H0≤r:=by have:=w3.lt l3;omega
 have kp0:∀s q,Au H0 s=some q→Au H4 s=some q:= λs q hs=>(k4 _ _ (k3 _ _ (k2 _ _ (k1 _ _ hs).1).1).1).1
 clear e1 e2 e3 s1 s2 s3 k1 k2 k3 m1 m3 l1 l2 w1 w2
 have p0:=ED (c:=x0) (n:=3) (by decide)
 have p1:=ED (c:=x1) (n:=3) (by decide)
 have p2:=ED (c:=x2) (n:=9) (by decide)
 have p3:=ED (c:=x3) (n:=4) (by decide)
 have c0:∀{H K},Ah (rt (L+20) (n+43)) Bx [I x0,.v (.int .i64 3)] H K=K (I (pk x0 3)):= λ{H K}=>Kl (n:=n+42) i0 (by decide) (by decide) H K
 have c1:∀{H K},Ah (rt (L+20) (n+43)) Bx [I x1,.v (.int .i64 3)] H K=K (I (pk x1 3)):= λ{H K}=>Kl (n:=n+42) i1 (by decide) (by decide) H K
 have c2:∀{H K},Ah (rt (L+20) (n+43)) Bx [I x2,.v (.int .i64 9)] H K=K (I (pk x2 9)):= λ{H K}=>Kl (n:=n+42) i2 (by decide) (by decide) H K
 have c3:∀{H K},Ah (rt (L+20) (n+43)) Bx [I x3,.v (.int .i64 4)] H K=K (I (pk x3 4)):= λ{H K}=>Kl (n:=n+42) i3 (by decide) (by decide) H K
 have c4:∀{H K},Ah (rt (L+20) (n+43)) Bx [I x4,.v (.int .i64 50)] H K=K (I (pk x4 50)):= λ{H K}=>Kl (n:=n+42) i4 (by decide) (by decide) H K
 have c5:∀{H K},Ah (rt (L+20) (n+43)) Bx [I x5,.v (.int .i64 30)] H K=K (I (pk x5 30)):= λ{H K}=>Kl (n:=n+42) i5 (by decide) (by decide) H K
 have a0:∀{K:AV→Al},Go.Abs.Ak Ab .add (.v (.int .i64 1)) (I (pk x0 3)) K=K (I (1+pk x0 3)):= λ{K}=>by rw[Cv,Ca (by omega) (by omega)]
 have a1:∀{K:AV→Al},Go.Abs.Ak Ab .add (.v (.int .i64 1)) (I (pk x1 3)) K=K (I (1+pk x1 3)):= λ{K}=>by rw[Cv,Ca (by omega) (by omega)]
 have a2':∀{K:AV→Al},Go.Abs.Ak Ab .add (.v (.int .i64 1)) (I (pk x2 9)) K=K (I (1+pk x2 9)):= λ{K}=>by rw[Cv,Ca (by omega) (by omega)]
 have a3':∀{K:AV→Al},Go.Abs.Ak Ab .add (.v (.int .i64 1)) (I (pk x3 4)) K=K (I (1+pk x3 4)):= λ{K}=>by rw[Cv,Ca (by omega) (by omega)]
 obtain⟨d0,d1,d2,d3,d4,d5⟩:=rd6 m2.1
 simp only[C1D,C6e,C6d,C6c,C6b,C6a,d0,d1,d2,d3,d4,d5,c0,c1,c2,c3,c4,c5,a0,a1,a2',a3',BH]
 clear d0 d1 d2 d3 d4 d5
 have bd:∀{a b c d e f:Int} {K:AV→Al},Bi Ac [(0,1,I a),(1,1,I b),(2,1,I c),(3,1,I d),(4,1,I e),(5,1,I f)] K=K (.agg (DF a ⟨b,c,d,e,f⟩ u0 [] [] AM [] [] AM 0 AM AM u0 r0 0)):= λ{a b c d e f K}=>_root_.id rfl
 rw[bd,BH,Ba (cs:=BA) rfl,Ci,←s4,←e4,B0 (vs:=DF (1+pk x0 3) ⟨1+pk x1 3,1+pk x2 9,1+pk x3 4,pk x4 50,pk x5 30⟩ u0 [] [] AM [] [] AM 0 AM AM u0 r0 0) l4 rfl rfl rfl,Ci]
 clear e4 s4
 obtain⟨d0,d1,d2,d3,d4,d5⟩:=rd6 q1.1
 simp only[d0,d1,d2,d3,d4,d5,c0,c1,c2,c3,c4,c5,okI]
 clear d0 d1 d2 d3 d4 d5 c0 c1 c2 c3 c4 c5 a0 a1 a2' a3' bd
 have mc:Mc H0 b1 b2 r z [I x0,I x1,I x2,I x3,I x4,I x5] [I f0,I f1,I f2,I f3,I f4,I f5] H4:=⟨q1.1,q2.1,⟨_,rfl,q3.1⟩,w4,q1.2,q2.2,q3.2,g1,g2,g4,g3,w,kp0⟩
 have mc5:=mc.upd (.cells true Ai (DF (1+pk x0 3) ⟨1+pk x1 3,1+pk x2 9,1+pk x3 4,pk x4 50,pk x5 30⟩ u0 [] [] AM [] [] AM 0 AM AM u0 r0 0))
 have r5:=A9 (q:=true) (e:=Ai) (cs:=DF (1+pk x0 3) ⟨1+pk x1 3,1+pk x2 9,1+pk x3 4,pk x4 50,pk x5 30⟩ u0 [] [] AM [] [] AM 0 AM AM u0 r0 0) l4
 generalize Go.Abs.upd H4 r (.cells true Ai (DF (1+pk x0 3) ⟨1+pk x1 3,1+pk x2 9,1+pk x3 4,pk x4 50,pk x5 30⟩ u0 [] [] AM [] [] AM 0 AM AM u0 r0 0))=H5 at mc5 r5
 clear mc kp0 q1 q2 q3 k4 l4 w4 l3 w3 m2 g1 g2 g3 g4 H4 H3 H2 H1
 have m08:∀{H K},Ah (rt (L+20) (n+43)) Oz [I (x3.tdiv 4),I (x4.tdiv 50),.agg [I f0,I f1,I f2,I f3,I f4,I f5]] H K=K (.agg [S (qn (pk (x3.tdiv 4) 161-80)),S (qd (pk (x3.tdiv 4) 161-80)),Fw (Jx [f0,f1,f2,f3,f4,f5] 6),S (qn (pk (x4.tdiv 50) 9)),S (qd (pk (x4.tdiv 50) 9))]):= λ{H K}=>
  Be (B39 (n:=n+2) (xs:=[f0,f1,f2,f3,f4,f5]) (by omega) (Lh i3 (by decide)) (Lh i4 (by decide)) rfl (by simp[j0,j1,j2,j3,j4,j5]))
   (A0 (q:=false) E5 (A0 (q:=false) E5 (A0 (Pn (D:=depth-1) (Kb (λz:Int=>Value.int .i64 z) [f0,f1,f2,f3,f4,f5])) Bp)))
 have lF:∀{K},Aq Bj (.ptr b2 0 0) H5 K=K (.agg [I f0,I f1,I f2,I f3,I f4,I f5]):= λ{K}=>Bk rfl rfl mc5.h2
 obtain⟨d0,d1,d2,d3,d4,d5⟩:=rd6 mc5.h1
 obtain⟨H6,st6,mc6,r6, -⟩:=B2v (i:=DW) (p:=26) (vs:=[S (qn (pk (x3.tdiv 4) 161-80)),S (qd (pk (x3.tdiv 4) 161-80)),Fw (Jx [f0,f1,f2,f3,f4,f5] 6),S (qn (pk (x4.tdiv 50) 9)),S (qd (pk (x4.tdiv 50) 9))]) mc5 r5 rfl (by show 26+5≤68;decide) rfl (by show(true&&(true&&(AV.one (Fw (Jx [f0,f1,f2,f3,f4,f5] 6))&&(true&&(true&&true)))))=true;rw[RM];rfl)
  (cs':=DF (1+pk x0 3) ⟨1+pk x1 3,1+pk x2 9,1+pk x3 4,pk x4 50,pk x5 30⟩ u0 (qn (pk (x3.tdiv 4) 161-80)) (qd (pk (x3.tdiv 4) 161-80)) (Fw (Jx [f0,f1,f2,f3,f4,f5] 6)) (qn (pk (x4.tdiv 50) 9)) (qd (pk (x4.tdiv 50) 9)) AM 0 AM AM u0 r0 0) rfl
 rw[d3,Yx i3 (by decide),d4,Yx i4 (by decide),lF,m08,Vg,st6]
 clear d0 d1 d2 d3 d4 d5 lF st6 mc5 r5 m08
 have hun:∀{H K},Ah (rt (L+20) (n+43)) EO [I (x5.tdiv 30)] H K=K (.agg (Cb (uu (pk (x5.tdiv 30) 7).toNat))):= λ{H K}=>A7Y (n:=n+1) (Lh i5 (by decide)) H K
 obtain⟨d0,d1,d2,d3,d4,d5⟩:=rd6 mc6.h1
 obtain⟨H7,st7,mc7,r7, -⟩:=B2v (i:=Ag) (p:=6) (vs:=Cb (uu (pk (x5.tdiv 30) 7).toNat)) mc6 r6 rfl (by show 6+20≤68;decide) rfl rfl
  (cs':=DF (1+pk x0 3) ⟨1+pk x1 3,1+pk x2 9,1+pk x3 4,pk x4 50,pk x5 30⟩ (uu (pk (x5.tdiv 30) 7).toNat) (qn (pk (x3.tdiv 4) 161-80)) (qd (pk (x3.tdiv 4) 161-80)) (Fw (Jx [f0,f1,f2,f3,f4,f5] 6)) (qn (pk (x4.tdiv 50) 9)) (qd (pk (x4.tdiv 50) 9)) AM 0 AM AM u0 r0 0) rfl
 have lk:∀{K},Aq Ab (.ptr r 0 0) H7 K=K (I (1+pk x0 3)):= λ{K}=>AQ (p:=0) rfl r7 (show 0<68 by decide)
 rw[d5,Yx i5 (by decide),hun,Vg,st7,Vg,lk,Dy]
 clear d0 d1 d2 d3 d4 d5 st7 mc6 r6 hun lk
 by_cases h0:pk x0 3=0
 ·have ecd:cdM x0 x1 x2 x3 x4 x5 f0 f1 f2 f3 f4 f5 y l= .re (cbM x1 x2 x3 x4 x5 [f0,f1,f2,f3,f4,f5]) (pk (x5.tdiv 30) 7).toNat:=if_pos h0
  have e1:1+pk x0 3=1:=by omega
  rw[decide_eq_true e1,D3]
  rw[ecd] at hK
  rw[e1] at r7
  refine A6c mc7 r7 rfl (O8 (RM _) rfl rfl rfl) λH' w' kp=> ?_
  exact hK AM H' (.inl ⟨rfl,rfl,rfl⟩) (λ_=>rfl) w' (λs q hs=>kp s q (by have:=mc7.w0.lt hs;have:=mc7.f4;omega) (mc7.kp s q hs)) (λs ⟨_,_,_,h⟩=>by cases h)
 ·have ecd:cdM x0 x1 x2 x3 x4 x5 f0 f1 f2 f3 f4 f5 y l= .co (cbM x1 x2 x3 x4 x5 [f0,f1,f2,f3,f4,f5]) (ZJ [f0,f1,f2] (x2.tdiv 9) y) (psM x1 l (ZJ [f0,f1,f2] (x2.tdiv 9) y).ks.length) (if pk x0 3=1 then none else some (1+(pk (x0.tdiv 3) 3).toNat,1+pk (x0.tdiv 9) 3)):=if_neg h0
  rw[ecd] at hK
  clear ecd
  have m09:∀{K},Ah (rt (L+20) (n+43)) Oy [.agg [I f0,I f1,I f2],I (x2.tdiv 9),a2,.v (.bool true)] H7 K=K (.agg (Bs (ZJ [f0,f1,f2] (x2.tdiv 9) y).id (BC (ZJ [f0,f1,f2] (x2.tdiv 9) y).ks) (BR (ZJ [f0,f1,f2] (x2.tdiv 9) y).xs) (uu (ZJ [f0,f1,f2] (x2.tdiv 9) y).out))):= λ{K}=>by
   obtain⟨q,hq⟩:=hy H7 mc7.kp
   exact Be (B38 (n:=n) (ins:=[f0,f1,f2]) (by omega) rfl (by simp[j0,j1,j2]) (Lh i2 (by decide)) hyI) (A0 (Pn (D:=depth-1) (Kb (λz:Int=>Value.int .i64 z) [f0,f1,f2])) (A0 (q:=false) E5 (A0 hq (A0 (q:=false) E5 Bp))))
  have hp:=A87 (ins:=[f0,f1,f2]) (count:=x2.tdiv 9) (y:=y) rfl
  generalize ZJ [f0,f1,f2] (x2.tdiv 9) y=p at hK m09 hp
  have e1:¬(1+pk x0 3=1):=by omega
  rw[decide_eq_false e1,B9]
  obtain⟨g0,g1,g2, -, -, -⟩:=rd6 mc7.h2
  obtain⟨d0,d1,d2, -, -, -⟩:=rd6 mc7.h1
  have b3:∀{K:AV→Al},Bi OG [(0,1,I f0),(1,1,I f1),(2,1,I f2)] K=K (.agg [I f0,I f1,I f2]):= λ{K}=>_root_.id rfl
  obtain⟨H8,st8,mc8,r8, -⟩:=B2v (i:=A7) (p:=32) (vs:=Bs p.id (BC p.ks) (BR p.xs) (uu p.out)) mc7 r7 rfl (by show 32+23≤68;decide) rfl (A3b rfl rfl)
   (cs':=DF (1+pk x0 3) ⟨1+pk x1 3,1+pk x2 9,1+pk x3 4,pk x4 50,pk x5 30⟩ (uu (pk (x5.tdiv 30) 7).toNat) (qn (pk (x3.tdiv 4) 161-80)) (qd (pk (x3.tdiv 4) 161-80)) (Fw (Jx [f0,f1,f2,f3,f4,f5] 6)) (qn (pk (x4.tdiv 50) 9)) (qd (pk (x4.tdiv 50) 9)) AM p.id (BC p.ks) (BR p.xs) (uu p.out) r0 0) rfl
  have lu:∀{K},Aq Ag (.ptr r 35 0) H8 K=K (.agg (Cb (uu p.out))):= λ{K}=>EZ (p:=35) rfl r8 (show 55≤68 by decide)
  obtain⟨H9,st9,mc9,r9, -⟩:=B2v (i:=Ag) (p:=6) (vs:=Cb (uu p.out)) mc8 r8 rfl (by show 6+20≤68;decide) rfl rfl
   (cs':=DF (1+pk x0 3) ⟨1+pk x1 3,1+pk x2 9,1+pk x3 4,pk x4 50,pk x5 30⟩ (uu p.out) (qn (pk (x3.tdiv 4) 161-80)) (qd (pk (x3.tdiv 4) 161-80)) (Fw (Jx [f0,f1,f2,f3,f4,f5] 6)) (qn (pk (x4.tdiv 50) 9)) (qd (pk (x4.tdiv 50) 9)) AM p.id (BC p.ks) (BR p.xs) (uu p.out) r0 0) rfl
  have f35:∀{K:AV→Al},AL 3 (.ptr r 32 0) K=K (.ptr r 35 0):= λ{K}=>by rw[fA]
  rw[g0,g1,g2,b3,d2,Yx i2 (by decide),m09,Vg,st8,Vg,f35,lu,Vg,st9]
  clear g0 g1 g2 d0 d1 d2 b3 st8 mc8 r8 lu st9 f35 m09 mc7 r7
  refine KN λk79 h79=> ?_
  refine KN λk108 h108=> ?_
  have hc:CR (λv=>DF (1+pk x0 3) ⟨1+pk x1 3,1+pk x2 9,1+pk x3 4,pk x4 50,pk x5 30⟩ (uu p.out) (qn (pk (x3.tdiv 4) 161-80)) (qd (pk (x3.tdiv 4) 161-80)) (Fw (Jx [f0,f1,f2,f3,f4,f5] 6)) (qn (pk (x4.tdiv 50) 9)) (qd (pk (x4.tdiv 50) 9)) v p.id (BC p.ks) (BR p.xs) (uu p.out) r0 0) p.ks:=⟨λ_=>rfl,λ_ _=>rfl,λ_=>rfl,λ_=>rfl⟩
  refine C3I (n:=n) (l:=l) hL hc i1 hp.k3 hl hb h32 ?_ (L+20) 0 AM _ _ H9 (by omega) (by have:=hp.k3;omega) ⟨mc9,r9,.inl ⟨rfl,rfl,rfl⟩,λ_=>rfl,λs ⟨_,_,_,h⟩=>by cases h⟩
  intro v H hh
  rw[h108,h79]
  clear h108 h79 mc9 r9
  refine KN λk84 h84=> ?_
  have hk84:∀(cs:List AV) (Hx:Hp),Mc H0 b1 b2 r z [I x0,I x1,I x2,I x3,I x4,I x5] [I f0,I f1,I f2,I f3,I f4,I f5] Hx→Au Hx r=some (.cells true Ai cs)→cs.length=68→cs.all AV.one=true→cs=(Cd.co (cbM x1 x2 x3 x4 x5 [f0,f1,f2,f3,f4,f5]) p (psM x1 l p.ks.length) (if pk x0 3=1 then none else some (1+(pk (x0.tdiv 3) 3).toNat,1+pk (x0.tdiv 9) 3))).csP v→(∀s q,s≠r→Au H s=some q→Au Hx s=some q)→k84 Hx=x:=by
   intro cs Hx mcx rx c1 c2 ecs kx
   rw[h84]
   refine A6c mcx rx c1 c2 λH' w' kp=> ?_
   rw[ecs]
   refine hK v H' ?_ hh.nv w' (λs q hs=>kp s q (by have:=mcx.w0.lt hs;have:=mcx.f4;omega) (mcx.kp s q hs)) (λs hs=>(hh.fr s hs).1)
   exact hh.sv.kp λs q hs hl=>kp s q (hh.fr s hs).2.2.2.2 (kx s q (hh.fr s hs).2.2.2.1 hl)
  clear h84 hK
  have lk:∀{K},Aq Ab (.ptr r 0 0) H K=K (I (1+pk x0 3)):= λ{K}=>AQ (p:=0) rfl hh.hr (show 0<68 by decide)
  rw[Vg,lk,Dy]
  by_cases h1:pk x0 3=1
  ·have e3:¬(1+pk x0 3=3):=by omega
   rw[decide_eq_false e3,B9]
   rw[if_pos h1] at hk84
   have e2:1+pk x0 3=2:=by omega
   have hr:=hh.hr
   rw[e2] at hr
   exact hk84 _ H hh.mc hr rfl (O8 (RM _) (B1.one hh.sv) rfl rfl) rfl (λs q _ h=>h)
  ·have e3:1+pk x0 3=3:=by omega
   have pv:=ED (c:=x0.tdiv 9) (n:=3) (by decide)
   rw[decide_eq_true e3,D3]
   rw[if_neg h1] at hk84
   have hr:=hh.hr
   rw[e3] at hr
   have hru:∀{H K},Ah (rt (L+20) (n+43)) I0 [I (x0.tdiv 3)] H K=K (.agg (rr (1+(pk (x0.tdiv 3) 3).toNat)).cs):= λ{H K}=>B6F (n:=n+41) (Lh i0 (by decide)) H K
   have hpk:∀{H K},Ah (rt (L+20) (n+43)) Bx [I (x0.tdiv 9),.v (.int .i64 3)] H K=K (I (pk (x0.tdiv 9) 3)):= λ{H K}=>Kl (n:=n+42) (Lh i0 (by decide)) (by decide) (by decide) H K
   have ad:∀{K:AV→Al},Go.Abs.Ak Ab .add (.v (.int .i64 1)) (I (pk (x0.tdiv 9) 3)) K=K (I (1+pk (x0.tdiv 9) 3)):= λ{K}=>by rw[Cv,Ca (by omega) (by omega)]
   obtain⟨d0, -⟩:=rd6 hh.mc.h1
   obtain⟨HA,stA,mcA,rA,kA⟩:=B2v (i:=Cp) (p:=55) (vs:=(rr (1+(pk (x0.tdiv 3) 3).toNat)).cs) hh.mc hr rfl (by show 55+9≤68;decide) rfl rfl
    (cs':=DF 3 ⟨1+pk x1 3,1+pk x2 9,1+pk x3 4,pk x4 50,pk x5 30⟩ (uu p.out) (qn (pk (x3.tdiv 4) 161-80)) (qd (pk (x3.tdiv 4) 161-80)) (Fw (Jx [f0,f1,f2,f3,f4,f5] 6)) (qn (pk (x4.tdiv 50) 9)) (qd (pk (x4.tdiv 50) 9)) v p.id (BC p.ks) (BR p.xs) (uu p.out) (rr (1+(pk (x0.tdiv 3) 3).toNat)) 0) rfl
   obtain⟨d0', -⟩:=rd6 mcA.h1
   rw[C1D,d0,Yx i0 (by decide),hru,Vg,stA,C1D,d0',Yx i0 (by decide),hpk,ad,Vg,E1 rA (show 64<68 by decide) rfl rfl rfl]
   exact hk84 _ _ (mcA.upd _) (A9 rA) rfl (O8 (RM _) (B1.one hh.sv) rfl rfl) rfl (λs q hs h=>by rw[Ap hs];exact kA s q hs h)
end
end
section
variable {L n:Nat}
theorem B0V {f:AV→(Bool→AV→Al)→Al}:∀(l m:List AV) (K:Bool→List AV→Al),HK f (l++m) K=HK f l λq l'=>HK f m λq' m'=>K (q||q') (l'++m'):=by
 intro l
 induction l with
 |nil=>intro m K;rfl
 |cons a l ih=>
  intro m K
  have e:∀(l:List AV) (K:Bool→List AV→Al),HK f (a::l) K=f a λq a'=>HK f l λq' l'=>K (@Bool.rec (λ_=>Bool) q' true q) (a'::l'):= λ_ _=>rfl
  rw[List.cons_append,e,e]
  congr 1
  funext q a'
  rw[ih]
  congr 1
  funext q1 l1
  congr 1
  funext q2 l2
  cases q<;>rfl
theorem A4E {b:Bool} {D:Nat} {l l' m m':List AV} {H:Hp} {q q':Bool} (h:PH b D l l' H q) (k:PH b D m m' H q'):PH b D (l++m) (l'++m') H (q||q'):= λK=>by
 rw[B0V,h,k]
def A6A:AV→Bool
 | .v _=>true
 | .list _ _=>true
 |_=>false
theorem A9M {D:Nat} {H:Hp}:∀l:List AV,l.all A6A=true→PH true D l l H false:=by
 intro l
 induction l with
 |nil=>intro _;exact Bp
 |cons a l ih=>
  intro h
  simp only[l2j,Jp] at h
  have h2:=ih h.2
  cases a with
  |v x=>exact A0 (q:=false) E5 h2
  |list n cs=>exact A0 (q:=false) Qb h2
  |_=>cases h.1
theorem A41 (ts:ZB):A6A (Fw ts)=true:=by cases ts<;>rfl
theorem B18 {k:IntKind} {z:Int}:A6A (.v (.int k z))=true:=rfl
theorem A3p {l:List UInt8}:A6A (S l)=true:=rfl
theorem C1R:A6A (.v (.slice none 0 0))=true:=rfl
theorem C4Q {n:Nat} {l:List AV}:A6A (.list n l)=true:=rfl
theorem B1y (c:Cd):∃A B:List AV,(∀P,c.csP P=A++P::B)∧A.all A6A=true∧B.all A6A=true:=by
 match c with
 | .re b u=>
  refine⟨((Cd.re b u).csP AM).take 31,((Cd.re b u).csP AM).drop 32,λ_=>rfl,?_,?_⟩
  ·simp only[Cd.csP,List.take_succ_cons,List.take_zero,l2j,List.all_nil,B18,A3p,A41,l1b,l16]
  ·simp only[Cd.csP,List.drop_succ_cons,l1n,l2j,List.all_nil,B18,A3p,C1R,l1b,l16]
 | .co b p ps none=>
  refine⟨((Cd.co b p ps none).csP AM).take 31,((Cd.co b p ps none).csP AM).drop 32,λ_=>rfl,?_,?_⟩
  ·simp only[Cd.csP,List.take_succ_cons,List.take_zero,l2j,List.all_nil,B18,A3p,A41,l1b,l16]
  ·simp only[Cd.csP,List.drop_succ_cons,l1n,l2j,List.all_nil,B18,A3p,C1R,C4Q,l1b,l16]
 | .co b p ps (some (k,vd))=>
  refine⟨((Cd.co b p ps (some (k,vd))).csP AM).take 31,((Cd.co b p ps (some (k,vd))).csP AM).drop 32,λ_=>rfl,?_,?_⟩
  ·simp only[Cd.csP,List.take_succ_cons,List.take_zero,l2j,List.all_nil,B18,A3p,A41,l1b,l16]
  ·simp only[Cd.csP,List.drop_succ_cons,l1n,l2j,List.all_nil,B18,A3p,C1R,C4Q,l1b,l16]
theorem WY (c:Cd) {P:AV} (h:AV.one P=true):(c.csP P).all AV.one=true:=by
 match c with
 | .re b u=>exact O8 (RM _) h rfl rfl
 | .co b p ps none=>exact O8 (RM _) h rfl rfl
 | .co b p ps (some (k,vd))=>exact O8 (RM _) h rfl rfl
theorem SO (c:Cd) {P:AV}:(c.csP P).length=68:=by
 match c with
 | .re b u=>rfl
 | .co b p ps none=>rfl
 | .co b p ps (some (k,vd))=>rfl
section
variable {H H':Hp} {v:AV} {l:List (List UInt8)} {D:Nat} {b:Bool}
theorem A4F (h:B1 H AI 1 v l.length (B5 l)) (h0:l=[]→v=AM):∃q,Fx b (D+1) v (Ec l) H q:=by
 rcases h with⟨rfl,h2,_⟩|⟨r,q,rfl,h2,h3⟩
 ·cases l with
  |nil=>exact⟨false,E5⟩
  |cons a l=>simp at h2
 ·cases l with
  |nil=>have:=h0 rfl;cases this
  |cons a l=>
   refine⟨true,?_⟩
   show Fx b (D+1) _ (.list (a::l).length (B5 (a::l))) H true
   exact UZ (q':=false) h2 h3 (Kb (λs=>Value.string ⟨⟨s⟩⟩) (a::l))
theorem A4S {c:Cd} (h:B1 H AI 1 v c.ps.length (B5 c.ps)) (h0:c.ps=[]→v=AM):∃q,PH true (D+1) (c.csP v) c.cs H q:=by
 obtain⟨q,hq⟩:=A4F (D:=D) (b:=true) h h0
 obtain⟨A,B,e,f1,f2⟩:=B1y c
 rw[←C2f c,e,e]
 exact⟨_,A4E (A9M A f1) (A0 hq (A9M B f2))⟩
abbrev GV:=List (Cd×AV)
def gvC (g:GV):List AV:=g.flatMap λp=>p.1.csP p.2
structure GvOk (g:GV) (H:Hp):Prop where
 sl:∀p∈g,B1 H AI 1 p.2 p.1.ps.length (B5 p.1.ps)
 nl:∀p∈g,p.1.ps=[]→p.2=AM
theorem C4A {g:GV} (h:GvOk g H):∃q,PH true (D+1) (gvC g) ((g.map Prod.fst).flatMap Cd.cs) H q:=by
 induction g with
 |nil=>exact⟨_,Bp⟩
 |cons p g ih=>
  obtain⟨q1,h1⟩:=ih ⟨λr hr=>h.sl r (by simp[hr]),λr hr=>h.nl r (by simp[hr])⟩
  obtain⟨q2,h2⟩:=A4S (D:=D) (h.sl p (by simp)) (h.nl p (by simp))
  exact⟨_,A4E h2 h1⟩
def A4u (gs:List Cd):AV:=match gs with
 |[]=>AM
 |c::gs=> .list (c::gs).length ((c::gs).flatMap Cd.cs)
theorem B72 (gs:List Cd):LA gs (A4u gs):=by cases gs with|nil=>exact .inr ⟨rfl,rfl⟩|cons _ _=>exact .inl rfl
theorem C1F {g:GV} {lv:AV} (h:GvOk g H) (hl:B1 H Ai 68 lv g.length (gvC g)) (h0:g=[]→lv=AM):∃q,Fx true (D+2) lv (A4u (g.map Prod.fst)) H q:=by
 rcases hl with⟨rfl,h2,_⟩|⟨r,q,rfl,h2,h3⟩
 ·cases g with
  |nil=>exact⟨false,E5⟩
  |cons a l=>simp at h2
 ·cases g with
  |nil=>have:=h0 rfl;cases this
  |cons p g=>
   obtain⟨q1,h1⟩:=C4A (D:=D) h
   refine⟨true,?_⟩
   have e:A4u ((p::g).map Prod.fst)= .list (p::g).length (((p::g).map Prod.fst).flatMap Cd.cs):=by
    show AV.list _ _=_
    rw[show(p.1::g.map Prod.fst).length=(p::g).length by simp];rfl
   rw[e]
   exact UZ h2 h3 h1
end
structure Y7 where
 (y0 y1 y2 y3 y4 y5 y6:Int)
def Y7.cs (y:Y7):List AV:=[I y.y0,I y.y1,I y.y2,I y.y3,I y.y4,I y.y5,I y.y6]
def Y7.Ok (y:Y7):Prop:=JU y.y0∧JU y.y1∧JU y.y2∧JU y.y3∧JU y.y4∧JU y.y5∧JU y.y6
def paM (ids:List (List UInt8)) (y6:Int):Nat→List (List UInt8)
 |0=>[]
 |k+1=>if 0<ids.length∧pk (y6.fdiv (2^(4*k))) 16<14 then paM ids y6 k++[ids.getD ((pk (y6.fdiv (2^(4*k))) 16).toNat%ids.length) []] else paM ids y6 k
theorem A9w {ids:List (List UInt8)} {y6:Int}:∀k,∀s∈paM ids y6 k,s∈ids:=by
 intro k
 induction k with
 |zero=>intro s hs;simp[paM] at hs
 |succ k ih=>
  intro s hs
  unfold paM at hs
  split at hs
  ·rename_i h
   rcases l2e.1 hs with hs|hs
   ·exact ih s hs
   ·rw[l2f] at hs;subst hs
    have:=Nat.mod_lt (pk (y6.fdiv (2^(4*k))) 16).toNat h.1
    rw[Th,Ka this]
    exact Ow this
  ·exact ih s hs
theorem A9x {ids:List (List UInt8)} {y6:Int}:∀k,(paM ids y6 k).length≤k:=by
 intro k
 induction k with
 |zero=>simp[paM]
 |succ k ih=>
  unfold paM
  split
  ·simp;omega
  ·omega
def kdM (i:Nat) (y:Y7):Int:=if i<2∧0<pk (y.y0.tdiv 3) 4 then 0 else y.y0
def cM (i:Nat) (y:Y7) (ids:List (List UInt8)):Cd:=cdM (kdM i y) y.y1 y.y2 y.y3 y.y4 y.y5 y.y1 y.y2 y.y3 y.y4 y.y5 y.y6 (some (y.y3,y.y4,y.y5,y.y6)) (paM ids y.y6 3)
def NL (xs:List Y7):Nat→List Cd
 |0=>[]
 |i+1=>
  if(cM i (xs.getD i ⟨0,0,0,0,0,0,0⟩) ((NL xs i).map Cd.id)).ps.Nodup∧(cM i (xs.getD i ⟨0,0,0,0,0,0,0⟩) ((NL xs i).map Cd.id)).id∉(NL xs i).map Cd.id
  then NL xs i++[cM i (xs.getD i ⟨0,0,0,0,0,0,0⟩) ((NL xs i).map Cd.id)] else NL xs i
theorem B8v {i:Nat} {y:Y7} {gs:List Cd}:(cM i y (gs.map Cd.id)).Ok:=by
 refine A1X λs hs=> ?_
 obtain⟨c,_,rfl⟩:=l2a.1 (A9w _ s hs)
 exact A8V c
theorem B40 (xs:List Y7):∀i,i≤8→GOk (NL xs i)∧(NL xs i).length≤i:=by
 intro i
 induction i with
 |zero=>intro _;exact⟨⟨by simp[NL],by simp[NL],by simp[NL],by simp[NL]⟩,by simp[NL]⟩
 |succ i ih=>
  intro hi
  obtain⟨h,hlen⟩:=ih (by omega)
  unfold NL
  split
  ·rename_i hc
   refine⟨⟨λc hm=> ?_,λc hm=> ?_,?_,by simp;omega⟩,by simp;omega⟩
   ·rcases l2e.1 hm with hm|hm
    ·exact h.ok c hm
    ·rw[l2f] at hm;subst hm;exact B8v
   ·rcases l2e.1 hm with hm|hm
    ·exact h.nd c hm
    ·rw[l2f] at hm;subst hm;exact hc.1
   ·rw[Zt,List.nodup_append]
    refine⟨h.ids,by simp,λa ha b hb e=> ?_⟩
    obtain⟨c',hc',rfl⟩:=l2a.1 hb
    rw[l2f] at hc';subst hc'
    exact hc.2 (e▸ha)
  ·exact⟨h,by omega⟩
theorem B4E {c:Cd} (h:c.Ok):c.ps.length≤3:=by
 match c,h with
 | .re b u,_=>simp[Cd.ps]
 | .co b p ps none,⟨_,hp,h1,_⟩=>show ps.length≤3;rw[h1];exact hp.k3
 | .co b p ps (some _),⟨_,hp,h1,_⟩=>show ps.length≤3;rw[h1];exact hp.k3
end
section
variable {L n:Nat}
abbrev Jh:=List UInt8
section
variable {gs:List Cd} {b:List (Jh×Unit)} {p:Jh} {ids:List Jh}
def A51 (ids:List Jh) (b:List (Jh×Unit)):List Jh→List (Jh×Unit)
 |[]=>b
 |p::ps=>A51 ids (if p∈ids then b else HL b p ()) ps
theorem A3a:∀b:List (Jh×Unit),(HL b p ()).map Prod.fst=if p∈b.map Prod.fst then b.map Prod.fst else b.map Prod.fst++[p]:=by
 intro b
 induction b with
 |nil=>rfl
 |cons e b ih=>
  unfold HL
  by_cases h:e.1=p
  ·simp[h]
  ·rw[if_neg h,ZK,ih,ZK]
   have hm:(p∈e.1::b.map Prod.fst)↔p∈b.map Prod.fst:=by simp[Ne.symm h]
   by_cases h2:p∈b.map Prod.fst
   ·rw[if_pos h2,if_pos (hm.2 h2)]
   ·rw[if_neg h2,if_neg (λh3=>h2 (hm.1 h3))];rfl
theorem Ys:∀(ps:List Jh) (b:List (Jh×Unit)),(b.map Prod.fst).Nodup→((A51 ids b ps).map Prod.fst).Nodup∧∀x,x∈(A51 ids b ps).map Prod.fst↔x∈b.map Prod.fst∨(x∈ps∧x∉ids):=by
 intro ps
 induction ps with
 |nil=>intro b h;exact⟨h,λx=>by simp[A51]⟩
 |cons p ps ih=>
  intro b h
  have h1:((if p∈ids then b else HL b p ()).map Prod.fst).Nodup∧∀x,x∈(if p∈ids then b else HL b p ()).map Prod.fst↔x∈b.map Prod.fst∨(x=p∧x∉ids):=by
   by_cases hp:p∈ids
   ·rw[if_pos hp]
    refine⟨h,λx=>⟨.inl,λhx=>hx.elim id λ⟨e,hn⟩=>absurd (e▸hp) hn⟩⟩
   ·rw[if_neg hp,A3a]
    by_cases hm:p∈b.map Prod.fst
    ·rw[if_pos hm]
     exact⟨h,λx=>⟨.inl,λhx=>hx.elim id λ⟨e,_⟩=>e▸hm⟩⟩
    ·rw[if_neg hm]
     refine⟨List.nodup_append.2 ⟨h,by simp,λa ha c hc=>by simp at hc;subst hc;exact λe=>hm (e▸ha)⟩,λx=> ?_⟩
     rw[l2e,l2f]
     exact⟨λhx=>hx.imp id λe=>⟨e,e▸hp⟩,λhx=>hx.imp id λe=>e.1⟩
  obtain⟨h2,h3⟩:=ih _ h1.1
  refine⟨h2,λx=> ?_⟩
  show x∈(A51 ids (if p∈ids then b else HL b p ()) ps).map Prod.fst↔_
  rw[h3,h1.2,Xi]
  constructor
  ·rintro((h|h)|h)
   ·exact .inl h
   ·exact .inr ⟨.inl h.1,h.2⟩
   ·exact .inr ⟨.inr h.1,h.2⟩
  ·rintro(h|⟨h|h,h'⟩)
   ·exact .inl (.inl h)
   ·exact .inl (.inr ⟨h,h'⟩)
   ·exact .inr ⟨h,h'⟩
def KU (gs:List Cd):List Jh:=Ml ((A51 (gs.map Cd.id) [] (gs.flatMap Cd.ps)).map Prod.fst)
theorem A6d:(KU gs).Nodup:=(G6 _).symm.nodup (Ys _ [] (by simp)).1
theorem A9B:(KU gs).Pairwise (· ≤ ·):=Ox _
theorem HY {x:Jh}:x∈KU gs↔x∉gs.map Cd.id∧∃c∈gs,x∈c.ps:=by
 rw[KU,(G6 _).mem_iff,(Ys _ [] (by simp)).2]
 simp only[List.map_nil,List.not_mem_nil,false_or,List.mem_flatMap]
 exact and_comm
theorem B5u {H:Hp} {K:AV→Al}:Ah (rt (L+20) (n+1)) Fj [gV gs,S p] H K=K (Bo (decide (p∈gs.map Cd.id))):=by
 refine Be (λK hK=> ?_) (A0 A4G (A0 (q:=false) E5 Bp))
 rw[Rk]
 unfold IW
 have ek:∀(F:Value→Al),Mi (S p) F=F (SV p):= λF=>id rfl
 rw[ek,SL (f:=VJ) (b:=gE gs) (λK=>id rfl)]
 by_cases h:p∈gs.map Cd.id
 ·obtain⟨c,hc⟩:∃c,QO (gE gs) p=some c:=by
   rcases B7w (gs:=gs) (s:=p) with⟨_,k,hk,h1,_⟩|⟨h1,_⟩
   ·exact⟨_,h1⟩
   ·exact absurd h h1
  rw[hc]
  simp only[]
  rw[CY,CX,Ba (cs:=BA) rfl,B0 (cs:=BA) (vs:=c.cs) (Ay (by simp)) BM rfl Jg]
  rw[decide_eq_true h] at hK⊢
  exact hK _ _ λb=>⟨false,E5⟩
 ·rw[A1A (by rw[A8t];exact h)]
  simp only[]
  rw[CY,CX,Ba (cs:=BA) rfl,show(Ac.zero:AV)= .agg BA from rfl,B0 (cs:=BA) (vs:=BA) (Ay (by simp)) rfl rfl rfl]
  rw[decide_eq_false h] at hK⊢
  exact hK _ _ λb=>⟨false,E5⟩
end
section
variable {gs:List Cd} {ids:List Jh}
theorem B4Z:∀(ps:List Jh) (b:List (Jh×Unit)),(A51 ids b ps).length≤b.length+ps.length:=by
 intro ps
 induction ps with
 |nil=>intro b;exact NU _
 |cons p ps ih=>
  intro b
  have h1:(if p∈ids then b else HL b p ()).length≤b.length+1:=by
   split
   ·omega
   ·have:=congrArg List.length (A3a (p:=p) b)
    rw[l1u] at this
    rw[this]
    split<;>simp
  have h2:=ih (if p∈ids then b else HL b p ())
  show(A51 ids (if p∈ids then b else HL b p ()) ps).length≤_
  rw[Lf];omega
theorem B7y:∀gs:List Cd,(∀c∈gs,c.ps.length<100)→(gs.flatMap Cd.ps).length≤gs.length*100:=by
 intro gs
 induction gs with
 |nil=>intro _;simp
 |cons c gs ih=>
  intro h
  have h1:=h c (by simp)
  have h2:=ih λd hd=>h d (by simp[hd])
  rw[l00,FK,Lf,l19];omega
theorem Uw (hg:GOk gs) (hp:∀c∈gs,c.ps.length<100):(KU gs).length<1000:=by
 have h1:=B4Z (ids:=gs.map Cd.id) (gs.flatMap Cd.ps) []
 have h2:=B7y gs hp
 have h3:=hg.len
 rw[KU,(G6 _).length_eq,l1u]
 simp at h1
 simp at h2
 omega
theorem C1f:∀l:List Jh,pl 6 (Ec l)=true:=by
 intro l
 cases l with
 |nil=>rfl
 |cons a l=>
  show(B5 (a::l)).all (pl 5)=true
  rw[Hv]
  intro y hy
  obtain⟨s,_,rfl⟩:=l2a.1 hy
  rfl
theorem C29 {ty:Nat} {es:List (Value×AV)} {H:Hp} {K:KV}:CU ty (.imap es) H K=K (.ptr (A3 H) 0 0) ((A3 H,.cells true ty [.imap es])::H):=by
 unfold CU
 rw[Da,FZ,BW];rfl
end
abbrev C4U (gs:List Cd):AV:= .fn (.func DR) [] [.iptr [gV gs]]
def lpM (gs:List Cd) (p:Option (Option Code)):Row:= .loop 27 [(2,AM),(3,.ptr 0 0 0),(5,.ptr 2 0 0),(7,.dk),(15,C4U gs),(17,.dk),(18,.dk),(19,.dk),(20,.dk),(21,.dk),(22,.dk),(23,.dk),(24,.dk)] (Dc).2.1 (Dc).2.2.1 (Dc).2.2.2 p
structure Ms (gs:List Cd) (b:List (Jh×Unit)) (H:Hp):Prop where
 net:Au H 0=some (.cells true Cj [gV gs])
 mm:Au H 1=some (.map false (Nw uS b) none)
 st:Au H 2=some (.cells true Dm [.mp 1])
 lp:Au H 3=some (lpM gs (some none))
 wf:Wf H
section
variable {gs:List Cd} {b:List (Jh×Unit)} {H:Hp} {K:KV} {x:Al} {p s:Jh}
theorem Ms.kp {H':Hp} (h:Ms gs b H) (w:Wf H') (k:∀u y,u<4→Au H u=some y→Au H' u=some y):Ms gs b H':=
 ⟨k _ _ (by decide) h.net,k _ _ (by decide) h.mm,k _ _ (by decide) h.st,k _ _ (by decide) h.lp,w⟩
theorem B8b {H1:Hp} {K:Hp→Al} (h:Au H1 3=some (lpM gs none)):Fb H1 3 false (some none) K=K (upd H1 3 (lpM gs (some none))):=Uo h
theorem B6n (h:Ms gs b H) (hx:∀H',Ms gs (if p∈gs.map Cd.id then b else HL b p ()) H'→(∀u y,3<u→Au H u=some y→Au H' u=some y)→K (Bo true) H'=x):
 Eb (E (L+20)) (rt (L+20) (n+2)) (.yl 3) [S s,S p] H K=x:=by
 show Qg (rt (L+20) (n+2)) 3 [S s,S p] H K=x
 rw[Uk h.lp (by kernel_rfl)]
 have hrun:(rt (L+20) (n+2)).run= λcf=>Tn (E (L+20)) (rt (L+20) (n+1)) cf:=rfl
 rw[hrun,Vt,Up h.lp]
 simp only[Cl]
 have hn1:Au (upd H 3 (lpM gs none)) 0=some (.cells true Cj [gV gs]):=by rw[Ap (by decide)];exact h.net
 have hm1:Au (upd H 3 (lpM gs none)) 1=some (.map false (Nw uS b) none):=by rw[Ap (by decide)];exact h.mm
 have hs1:Au (upd H 3 (lpM gs none)) 2=some (.cells true Dm [.mp 1]):=by rw[Ap (by decide)];exact h.st
 have hl1:Au (upd H 3 (lpM gs none)) 3=some (lpM gs none):=Iy h.lp
 have hk1:∀u y,3<u→Au H u=some y→Au (upd H 3 (lpM gs none)) u=some y:= λu y hu hy=>by rw[Ap (by omega)];exact hy
 have w1:Wf (upd H 3 (lpM gs none)):=BL h.wf
 show Aq AX (.ptr 0 0 0) (upd H 3 (lpM gs none)) _=_
 rw[AQ (p:=0) rfl hn1 (by simp)]
 show Ah (rt (L+20) (n+1)) Fj [gV gs,S p] (upd H 3 (lpM gs none)) _=_
 rw[B5u,R5]
 by_cases hp:p∈gs.map Cd.id
 ·rw[if_pos hp] at hx
  rw[decide_eq_true hp]
  show As (.v (.bool false)) _ _=_
  rw[B9]
  show Fb (upd H 3 (lpM gs none)) 3 false (some none) _=_
  rw[B8b hl1]
  refine hx _ ⟨?_,?_,?_,Iy hl1,BL w1⟩ λu y hu hy=> ?_
  ·rw[Ap (by decide)];exact hn1
  ·rw[Ap (by decide)];exact hm1
  ·rw[Ap (by decide)];exact hs1
  ·rw[Ap (by omega)];exact hk1 u y hu hy
 ·rw[if_neg hp] at hx
  rw[decide_eq_false hp]
  show As (.v (.bool true)) _ _=_
  rw[D3]
  show Aq CF (.ptr 2 0 0) (upd H 3 (lpM gs none)) _=_
  rw[AQ (p:=0) rfl hs1 (by simp)]
  have eb:∀{K:AV→Al},Bi CI [] K=K (.agg []):= λ{K}=>id rfl
  have ek:∀(F:Value→Al),Mi (S p) F=F (SV p):= λF=>id rfl
  rw[eb,ek]
  show UQ (.mp 1) (SV p) (uS ()) (upd H 3 (lpM gs none)) _=_
  rw[U9 (f:=uS) (v:=()) hm1]
  have hl2:Au (upd (upd H 3 (lpM gs none)) 1 (.map false (Nw uS (HL b p ())) none)) 3=some (lpM gs none):=by rw[Ap (by decide)];exact hl1
  show Fb (upd (upd H 3 (lpM gs none)) 1 (.map false (Nw uS (HL b p ())) none)) 3 false (some none) _=_
  rw[B8b hl2]
  refine hx _ ⟨?_,?_,?_,Iy hl2,BL (BL w1)⟩ λu y hu hy=> ?_
  ·rw[Ap (by decide),Ap (by decide)];exact hn1
  ·rw[Ap (by decide)];exact(Ef hm1).trans rfl
  ·rw[Ap (by decide),Ap (by decide)];exact hs1
  ·rw[Ap (by omega),Ap (by omega)];exact hk1 u y hu hy
theorem C1W {k34:AV→AV→AV→AV→AV→AV→Hp→Al} {a8:AV} {y:Row} {ps:List Jh} (hb:ps.length<100):∀(f i:Nat) (b:List (Jh×Unit)) (H:Hp),i≤ps.length→ps.length-i<f→Ms gs b H→Au H 4=some y→
 (∀d H',Ms gs (A51 (gs.map Cd.id) b (ps.drop i)) H'→Au H' 4=some y→k34 (.yl 3) (S s) a8 (Ec ps) (I ps.length) d H'=x)→
 EJ (L+20) (rt (L+20) (n+2)) K k34 f (.yl 3) (S s) a8 (Ec ps) (I ps.length) (I i) H=x:=by
 intro f
 induction f with
 |zero=>intro i b H _ h;omega
 |succ f ih=>
  intro i b H hi hf hm hy hx
  rw[NW]
  unfold G7 Ar
  by_cases h:i<ps.length
  ·rw[Ge (by omega),D3,(Gx ps).ia h,ET]
   rw[l11 h] at hx
   refine B6n hm λH' hm' hk=> ?_
   rw[R5]
   show As (.v (.bool false)) _ _=_
   rw[B9,DS (by omega)]
   exact ih (i+1) _ H' (by omega) (by omega) hm' (hk 4 y (by decide) hy) hx
  ·rw[Gf (by omega),B9]
   have:i=ps.length:=by omega
   subst this
   rw[List.drop_length] at hx
   exact hx _ H hm hy
theorem C1X {k4:Hp→Al} {w:AV} (hw:aeq 6 w w=true) (hp:∀c∈gs,c.ps.length<100) (hL:100<L)
 (hfin:∀b H,Ms gs b H→(b.map Prod.fst).Perm (KU gs)→k4 H=some (w,[])):
 ∀(f:Nat) (es:List (Jh×Cd)) (b:List (Jh×Unit)) (H:Hp) (o:Option (Value×AV)) (d0 d1 d2 d3:AV),es.length<f→(∀e∈es,e∈gE gs)→Ms gs b H→Au H 4=some (.iter (Nw VJ es) o)→
 (b.map Prod.fst).Nodup→(∀q∈b.map Prod.fst,q∈KU gs)→(∀q∈KU gs,q∈b.map Prod.fst∨∃e∈es,q∈e.2.ps)→
 D9 (L+20) (rt (L+20) (n+2)) K k4 f (.yl 3) d0 (.it 4) d1 d2 d3 H=some (w,[]):=by
 intro f
 induction f with
 |zero=>intro es b H o d0 d1 d2 d3 h;omega
 |succ f ih=>
  intro es b H o d0 d1 d2 d3 hf he hm hl hnd h1 h2
  rw[IG]
  unfold EK Ar
  refine B3z (f:=VJ) hw hl (λe=> ?_) (λa e c hec=> ?_)
  ·subst e
   rw[Ym,B9]
   refine hfin b H hm ((List.perm_ext_iff_of_nodup hnd A6d).2 λq=>⟨h1 q,λhq=>(h2 q hq).elim id λ⟨e,he,_⟩=>absurd he (by simp)⟩)
  ·subst hec
   obtain⟨cd,hcd,hce⟩:=l2a.1 (he e (by simp))
   subst hce
   have hl1:=A1d (es:=Nw VJ (a++c)) (o:=some (.string ⟨⟨cd.id⟩⟩,VJ cd)) hl
   have hm1:Ms gs b (upd H 4 (.iter (Nw VJ (a++c)) (some (.string ⟨⟨cd.id⟩⟩,VJ cd)))):=hm.kp (BL hm.wf) λu y hu hy=>by rw[Ap (by omega)];exact hy
   rw[Ym,D3]
   simp only[Cl]
   rw[A3z hl1,Ym,C25]
   generalize upd H 4 (.iter (Nw VJ (a++c)) (some (.string ⟨⟨cd.id⟩⟩,VJ cd)))=H1 at hl1 hm1
   obtain⟨H2,e2,hc2,w2,k2⟩:=Ed (e:=Ai) (zs:=BA) (vs:=cd.cs) hm1.wf BM
   rw[Ba (cs:=BA) rfl,B0 (cs:=BA) (vs:=cd.cs) (Ay (by simp)) BM rfl Jg,←e2,fA,K1,B4H hc2,Ua]
   have hm2:=hm1.kp w2 λu y _ hy=>(k2 u y hy).1
   have hl2:=(k2 _ _ hl1).1
   have e0:(AV.v (.int .i64 0))=I ((0:Nat):Int):=rfl
   rw[e0]
   refine C1W (n:=n) (hp cd hcd) (L+20) 0 b H2 (by omega) (by have:=hp cd hcd;omega) hm2 hl2 λd H' hm' hl'=> ?_
   rw[l1n] at hm'
   obtain⟨g1,g2⟩:=Ys (ids:=gs.map Cd.id) cd.ps b hnd
   refine ih (a++c) _ H' _ _ _ _ _ (by simp at hf⊢;omega) (λe hx=>he e (by simp at hx⊢;rcases hx with hx|hx;exact .inl hx;exact .inr (.inr hx))) hm' hl' g1 (λq hq=> ?_) (λq hq=> ?_)
   ·rcases(g2 q).1 hq with hq|⟨hq,hn⟩
    ·exact h1 q hq
    ·exact HY.2 ⟨hn,cd,hcd,hq⟩
   ·rcases h2 q hq with h|⟨e,hx,hq2⟩
    ·exact .inl ((g2 q).2 (.inl h))
    ·simp at hx
     rcases hx with hx|hx|hx
     ·exact .inr ⟨e,by simp[hx],hq2⟩
     ·subst hx
      exact .inl ((g2 q).2 (.inr ⟨hq2,(HY.1 hq).1⟩))
     ·exact .inr ⟨e,by simp[hx],hq2⟩
theorem A2X {a:AV} (hg:GOk gs) (hL:40000<L) (hp:∀c∈gs,c.ps.length<100) (ha:LA gs a):CS (rt (L+20) (n+80)) DJ [a] (Ec (KU gs)):=by
 intro K hK
 rw[PX]
 unfold Kz
 have hfx:PH true depth [a] [a] [] false:=by rcases ha with rfl|⟨_,rfl⟩<;>exact λK=>by kernel_rfl
 have of:∀{K:AV→Al},Ah (rt (L+20) (n+79)) Et [a] [] K=K (.tup [gV gs,Bo true]):= λ{K}=>HP (λK hK=>B5z (n:=n+15) hg hL ha K hK) hfx
 have edg:∀{H} {K:AV→Al},Ah (rt (L+20) (n+79)) Du [gV gs] H K=K (C4U gs):= λ{H K}=>by
  refine HP (λK hK=> ?_) (A0 (q:=false) A4G Bp)
  rw[show n+79=(n+78)+1 from rfl,Rm]
  unfold IX
  rw[C29]
  exact hK _ _ ⟨true,λK=>by kernel_rfl⟩
 rw[of,CY,CX]
 have w0:aeq 6 (Ec (KU gs)) (Ec (KU gs))=true:=A72 6 _ (C1f _)
 have e0:∀{F:AV→AV→Hp→Al},(AH Cj AX [] λv4 H5=>Ck AX v4 (gV gs) H5 λH6=>Mn CI H6 λv8 H9=>AH Dm CF H9 λv10 H11=>Ck CF v10 v8 H11 λH12=>F v4 v10 H12)=
  F (.ptr 0 0 0) (.ptr 2 0 0) [(2,.cells true Dm [.mp 1]),(1,.map false [] none),(0,.cells true Cj [gV gs])]:= λ{F}=>by kernel_rfl
 rw[e0]
 simp only[Cl]
 have e1:∀{K:AV→Al},Aq AX (.ptr 0 0 0) [(2,.cells true Dm [.mp 1]),(1,.map false [] none),(0,.cells true Cj [gV gs])] K=K (gV gs):= λ{K}=>by kernel_rfl
 rw[e1,edg,A49,show n+79=(n+78)+1 from rfl,Jn]
 unfold Fc
 have e2:∀{H:Hp} {K:AV→Al},Aq AX (.iptr [gV gs]) H K=K (gV gs):= λ{H K}=>by kernel_rfl
 rw[e2,A9R]
 simp only[Cl]
 refine C1X (n:=n+76) w0 hp (by omega) (λb H hm hpm=> ?_) (L+20) (gE gs) [] _ none _ _ _ _ (by have:=hg.len;simp[gE];omega) (λe he=>he)
  ⟨rfl,rfl,rfl,rfl,B3 (B3 (B3 (B3 (B3 F3))))⟩ rfl (by simp) (by simp) (λq hq=> .inr ?_)
 ·show Ks H 3 _=_
  rw[Cm hm.lp]
  show Oe H 3 .gone _=_
  rw[D8]
  have hs:Au (upd H 3 .gone) 2=some (.cells true Dm [.mp 1]):=by rw[Ap (by decide)];exact hm.st
  have hmm:Au (upd H 3 .gone) 1=some (.map false (Nw uS b) none):=by rw[Ap (by decide)];exact hm.mm
  show Aq CF (.ptr 2 0 0) (upd H 3 .gone) _=_
  rw[AQ (p:=0) rfl hs (by simp)]
  have hbl:b.length<1000:=by
   have:=hpm.length_eq
   rw[l1u] at this
   rw[this]
   exact Uw hg hp
  refine A5s (n:=n+73) w0 (by omega) (by omega) (BL hm.wf) hmm hpm A9B λv H' hv hv0=> ?_
  exact hK _ _ λbb=>by
   obtain⟨q,hq⟩:=A4F (D:=depth-1) (b:=bb) hv hv0
   exact⟨q,hq⟩
 ·obtain⟨_,c,hc,hq⟩:=HY.1 hq
  exact⟨(c.id,c),l2a.2 ⟨c,hc,rfl⟩,hq⟩
end
end
end Go.Abs
end
