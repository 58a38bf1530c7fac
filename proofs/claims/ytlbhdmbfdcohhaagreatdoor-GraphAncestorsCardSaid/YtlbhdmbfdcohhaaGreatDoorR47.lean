import Derived.Test.YtlbhdmbfdcohhaaGreatDoorR44
import Derived.Test.YtlbhdmbfdcohhaaGreatDoorR45
import Derived.Test.YtlbhdmbfdcohhaaGreatDoorR46
set_option linter.all false
set_option maxHeartbeats 100000000
noncomputable section
namespace Go.Abs
open Go.RowKit Go.Proofs
set_option maxRecDepth 100000
section
variable {L n:Nat}
def PL (H:Hp) (l:List (List UInt8)) (a:AV):Prop:=SA l a∨B1 H A4 1 a l.length (Bn l)
section
variable {H H':Hp} {l:List (List UInt8)} {a:AV} {K:AV→Al}
theorem PL.len (h:PL H l a):AP Ad a K=K (I l.length):=by
 rcases h with h|h
 ·exact h.len
 ·exact Js (t:=Ad) rfl h
theorem B2L {i:Nat} (h:B1 H A4 1 a l.length (Bn l)) (hi:i<l.length):(B0 Ad a (I i) λp=>Aq Ae p H K)=K (S l[i]):=by
 rcases h with⟨_,h2,_⟩|⟨r,q,rfl,h2,h3⟩
 ·omega
 ·have e1:∀K:AV→Al,B0 Ad (.sl 1 r 0 l.length) (I (i:Int)) K=iN (i:Int) λm=>ck (Nat.blt m l.length) (fN (Nat.add 0 (Nat.mul m 1)) λp=>K (.ptr r p 0)):= λK=>_root_.id rfl
  rw[e1,JW,DI]
  have h3:Nat.blt i l.length=true:=by rw[Uk];exact hi
  rw[h3]
  show Aq Ae (.ptr r (0+i*1) 0) H K=_
  rw[Ln,l28,AY rfl h2 (by simp[Bn];exact hi),Mx hi]
theorem PL.at (h:PL H l a) {i:Nat} (hi:i<l.length):(B0 Ad a (I i) λp=>Aq Ae p H K)=K (S l[i]):=by
 rcases h with h|h
 ·rw[h.ia hi,FU]
 ·exact B2L h hi
theorem PL.at2 (h:PL H l a) {i:Nat} (hi:i<l.length):∃p,(∀K:AV→Al,B0 Ad a (I i) K=K p)∧∀K:AV→Al,Aq Ae p H K=K (S l[i]):=by
 rcases h with h|h
 ·exact⟨_,λK=>h.ia hi,λK=>FU⟩
 ·rcases h with⟨_,h2,_⟩|⟨r,q,rfl,h2,h3⟩
  ·omega
  ·refine⟨.ptr r i 0,λK=> ?_,λK=>by rw[AY rfl h2 (by simp[Bn];exact hi),Mx hi]⟩
   have e1:∀K:AV→Al,B0 Ad (.sl 1 r 0 l.length) (I (i:Int)) K=iN (i:Int) λm=>ck (Nat.blt m l.length) (fN (Nat.add 0 (Nat.mul m 1)) λp=>K (.ptr r p 0)):= λK=>_root_.id rfl
   rw[e1,JW,DI]
   have h3:Nat.blt i l.length=true:=by rw[Uk];exact hi
   rw[h3]
   show K (.ptr r (0+i*1) 0)=_
   rw[Ln,l28]
theorem PL.kp (h:PL H l a) (k:∀s x,Ax H s=some x→Ax H' s=some x):PL H' l a:=by
 rcases h with h|h
 ·exact .inl h
 ·exact .inr (h.kp λs x _=>k s x)
end
def YA (H:Hp) (y:Y4) (a:AV):Prop:=∀H',(∀s x,Ax H s=some x→Ax H' s=some x)→∃q,Fx true depth a (yA y) H' q
def Wv (i:Int) (p:List UInt8) (ps:List (List UInt8)):List UInt8:=ps.foldl (λp q=>if q=p then A2D (-1-i) else p) p
def psM (x1:Int) (l:List (List UInt8)):Nat→List (List UInt8)
 |0=>[]
 |i+1=>psM x1 l i++[Wv i (if h:i<l.length then l[i] else A2D (pk (x1.tdiv 3) 1000+i)) (psM x1 l i)]
theorem Wr {x1:Int} {l:List (List UInt8)}:∀i,(psM x1 l i).length=i:=by
 intro i
 induction i with
 |zero=>rfl
 |succ i ih=>simp[psM,ih]
theorem A6d (c:Int):(A2D c).length=32:=TU _ 8
theorem B16 {i:Int}:∀(ps:List (List UInt8)) (p:List UInt8),p.length=32→(Wv i p ps).length=32:=by
 intro ps
 induction ps with
 |nil=>intro p h;exact h
 |cons q ps ih=>
  intro p h
  show(Wv i (if q=p then A2D (-1-i) else p) ps).length=32
  by_cases hq:q=p
  ·rw[if_pos hq];exact ih _ (A6d _)
  ·rw[if_neg hq];exact ih _ h
theorem C1z {x1:Int} {l:List (List UInt8)} (hl:∀s∈l,s.length=32):∀i,∀s∈psM x1 l i,s.length=32:=by
 intro i
 induction i with
 |zero=>intro s hs;simp[psM] at hs
 |succ i ih=>
  intro s hs
  rcases l2e.1 hs with hs|hs
  ·exact ih s hs
  ·rw[l2f] at hs;subst hs
   apply B16
   by_cases h:i<l.length
   ·rw[dif_pos h];exact hl _ (QS h)
   ·rw[dif_neg h];exact A6d _
theorem Lo {a b:Int} (h:K8 a) (hb:1≤b):K8 (a.tdiv b):=by
 unfold K8 at h⊢
 by_cases h0:0≤a
 ·have h1:=Int.tdiv_nonneg h0 (by omega:0≤b)
  have h2:a.tdiv b≤a:=Int.tdiv_le_self b h0
  omega
 ·have e:a.tdiv b= -((-a).tdiv b):=by rw[Int.neg_tdiv,Int.neg_neg]
  have h1:=Int.tdiv_nonneg (by omega:0≤ -a) (by omega:0≤b)
  have h2:(-a).tdiv b≤ -a:=Int.tdiv_le_self b (by omega)
  omega
theorem YF {a b:Int} {K:AV→Al} (h:K8 a) (hb:1≤b):Go.Abs.Ak Ab .quo (I a) (.v (.int .i64 b)) K=K (I (a.tdiv b)):=by
 have h1:=Lo h hb
 rw[B4J (by omega),Cb h1.1 h1.2]
structure Mc (H0:Hp) (b1 b2 r z:Nat) (X F:List AV) (H:Hp):Prop where
 h1:Ax H b1=some (.cells true GX X)
 h2:Ax H b2=some (.cells true GX F)
 hz:∃cs,cs.length=68∧Ax H z=some (.cells true Aj cs)
 wf:Wf H
 n1:b1≠r
 n2:b2≠r
 nz:z≠r
 f1:A6 H0≤b1
 f2:A6 H0≤b2
 f3:A6 H0≤r
 f4:A6 H0≤z
 w0:Wf H0
 kp:∀s x,Ax H0 s=some x→Ax H s=some x
section
variable {K:KV} {x:Al} {H0 H H':Hp} {b1 b2 r z:Nat} {X F:List AV} {ps l:List (List UInt8)} {v a3:AV} {cR:AV→List AV}
theorem Mc.upd (h:Mc H0 b1 b2 r z X F H) (y:Row):Mc H0 b1 b2 r z X F (upd H r y):=by
 obtain⟨cs,c1,c2⟩:=h.hz
 exact⟨by rw[Au h.n1];exact h.h1,by rw[Au h.n2];exact h.h2,⟨cs,c1,by rw[Au h.nz];exact c2⟩,Cj h.wf,h.n1,h.n2,h.nz,h.f1,h.f2,h.f3,h.f4,h.w0,λs x hs=>by
  have:=h.w0.lt hs
  have:=h.f3
  rw[Au (by omega)];exact h.kp s x hs⟩
structure Pl (H0:Hp) (b1 b2 r z:Nat) (X F:List AV) (cR:AV→List AV) (ps:List (List UInt8)) (v:AV) (H:Hp):Prop where
 mc:Mc H0 b1 b2 r z X F H
 hr:Ax H r=some (.cells true Aj (cR v))
 sv:B1 H A4 1 v ps.length (Bn ps)
 nv:ps=[]→v=AO
 fr:∀s,AX v s→A6 H0≤s∧s≠b1∧s≠b2∧s≠r∧s≠z
structure CR (cR:AV→List AV) (ks:List Nat):Prop where
 len:∀v,(cR v).length=68
 set:∀v v',(cR v).set 31 v'=cR v'
 get:∀v,(cR v).getD 31 .dk=v
 ins:∀v,(cR v).getD 33 .dk=BC ks
theorem C40 {k154:AV→AV→AV→AV→AV→AV→AV→Hp→Al} {ks:List Nat} (hL:40000<L) (hc:CR cR ks) {i:Nat} (hi:i<3) (hh:Pl H0 b1 b2 r z X F cR ps v H) (hb:ps.length≤3):
 ∀(f k:Nat) (p:List UInt8),k≤ps.length→ps.length-k<f→k154 a3 (.ptr b1 0 0) (.ptr z 0 0) (.ptr r 0 0) (I i) (S (Wv i p (ps.drop k))) (I ps.length) H=x→
 Nj (L+20) (rt (L+20) (n+43)) K k154 f a3 (.ptr b1 0 0) (.ptr z 0 0) (.ptr r 0 0) (I i) (S p) (I k) H=x:=by
 intro f
 induction f with
 |zero=>intro k p _ h;omega
 |succ f ih=>
  intro k p hk hf hx
  rw[Zf]
  unfold QB Ar
  have l31:∀{K},Aq Ad (.ptr r 31 0) H K=K v:= λ{K}=>by rw[AY (p:=31) rfl hh.hr (by rw[hc.len];decide),hc.get]
  rw[Vu,l31,Js (t:=Ad) rfl hh.sv]
  by_cases h:k<ps.length
  ·rw[FW (by omega),Dn]
   simp only[Cp]
   have ad:∀{K:AV→Al},Go.Abs.Ak Ab .add (I k) (.v (.int .i64 1)) K=K (I ((k+1:Nat):Int)):= λ{K}=>DS (by omega)
   have sb:∀{K:AV→Al},Go.Abs.Ak Ab .sub (.v (.int .i64 (-1))) (I (i:Int)) K=K (I (-1-(i:Int))):= λ{K}=>by rw[GE,Cb (by omega) (by omega)]
   have pa:∀{K:AV→Al},Ah (rt (L+20) (n+43)) F6 [I (-1-(i:Int))] H K=K (S (A2D (-1-(i:Int)))):= λ{K}=>A0Z (n:=n+23) hL (by omega) (by omega) H K
   have ed:ps.drop k=ps[k]::ps.drop (k+1):=l11 h
   rw[ed] at hx
   have hx':k154 a3 (.ptr b1 0 0) (.ptr z 0 0) (.ptr r 0 0) (I i) (S (Wv i (if ps[k]=p then A2D (-1-i) else p) (ps.drop (k+1)))) (I ps.length) H=x:=hx
   rw[Vu,l31,B2L hh.sv h,Nb]
   by_cases hq:ps[k]=p
   ·rw[decide_eq_true hq,Dn,sb,pa,ad]
    rw[if_pos hq] at hx'
    exact ih (k+1) _ (by omega) (by omega) hx'
   ·rw[decide_eq_false hq,BD,ad]
    rw[if_neg hq] at hx'
    exact ih (k+1) _ (by omega) (by omega) hx'
  ·have:k=ps.length:=by omega
   subst this
   rw[List.drop_length] at hx
   rw[FX (by omega),BD]
   exact hx
theorem C41 {k108:AV→AV→AV→Hp→Al} {ks:List Nat} {x0 x1 x2 x3 x4 x5:Int} (hL:40000<L) (hc:CR cR ks) (h1:K8 x1) (hks:ks.length≤3) (hl:PL H0 l a3) (hb:l.length<1000) (h32:∀s∈l,s.length=32)
 (hfin:∀v H,Pl H0 b1 b2 r z [I x0,I x1,I x2,I x3,I x4,I x5] F cR (psM x1 l ks.length) v H→k108 (.ptr b1 0 0) (.ptr z 0 0) (.ptr r 0 0) H=x):
 ∀(f i:Nat) (v d0 d1:AV) (H:Hp),i≤ks.length→ks.length-i<f→Pl H0 b1 b2 r z [I x0,I x1,I x2,I x3,I x4,I x5] F cR (psM x1 l i) v H→
 Nk (L+20) (rt (L+20) (n+43)) K k108 f a3 (.ptr b1 0 0) (.ptr z 0 0) (.ptr r 0 0) (I i) d0 d1 H=x:=by
 intro f
 induction f with
 |zero=>intro i v d0 d1 H _ h;omega
 |succ f ih=>
  intro i v d0 d1 H hi hf hh
  rw[Zg]
  unfold QC Ba Ar CK
  have l33:∀{K},Aq Am (.ptr r 33 0) H K=K (BC ks):= λ{K}=>by rw[AY (p:=33) rfl hh.hr (by rw[hc.len];decide),hc.ins]
  have fa:∀{K:AV→Al},AN 1 (.ptr r 32 0) K=K (.ptr r 33 0):= λ{K}=>by rw[fA]
  rw[Vu,fa,l33,NT]
  by_cases h:i<ks.length
  ·have pr:=E9 (c:=x1.tdiv 3) (n:=1000) (by decide)
   have ia:∀{K:AV→Al},B0 Bl (.ptr b1 0 0) (.v (.int .i64 1)) K=K (.ptr b1 1 0):= λ{K}=>DC (z:=1) 1 rfl rfl (by decide)
   have d1:∀{K:AV→Al},Aq Ab (.ptr b1 1 0) H K=K (I x1):= λ{K}=>AY (p:=1) rfl hh.mc.h1 (by simp)
   have pk1:∀{H K},Ah (rt (L+20) (n+43)) B3 [I (x1.tdiv 3),.v (.int .i64 1000)] H K=K (I (pk (x1.tdiv 3) 1000)):= λ{H K}=>Kq (n:=n+42) (Lo h1 (by decide)) (by decide) (by decide) H K
   have ad:∀{K:AV→Al},Go.Abs.Ak Ab .add (I (pk (x1.tdiv 3) 1000)) (I (i:Int)) K=K (I (pk (x1.tdiv 3) 1000+i)):= λ{K}=>by rw[Cz,Cb (by omega) (by omega)]
   have pa:∀{K:AV→Al},Ah (rt (L+20) (n+43)) F6 [I (pk (x1.tdiv 3) 1000+i)] H K=K (S (A2D (pk (x1.tdiv 3) 1000+i))):= λ{K}=>A0Z (n:=n+23) hL (by omega) (by omega) H K
   rw[FW (by omega),Dn,ia,d1,YF h1 (by decide),pk1,ad,pa]
   refine KP λk132 h132=> ?_
   have hk:∀p:List UInt8,p=(if h:i<l.length then l[i] else A2D (pk (x1.tdiv 3) 1000+i))→k132 (S p) H=x:=by
    intro p hp
    rw[h132]
    simp only[Cp]
    refine C40 hL hc (by omega) hh (by rw[Wr];omega) (L+20) 0 p (by omega) (by rw[Wr];omega) ?_
    rw[l1n]
    have l31:∀{K},Aq Ad (.ptr r 31 0) H K=K v:= λ{K}=>by rw[AY (p:=31) rfl hh.hr (by rw[hc.len];decide),hc.get]
    obtain⟨v',H',a1,a2,a3',a4,a5,a6⟩:=A59 (ie:=Ae) (i2:=Ad) (ys:=Bn [Wv i p (psM x1 l i)]) hh.sv hh.mc.wf rfl rfl (by decide) rfl (λ_=>rfl) (by rw[Wr];show(i+1)*16≤_;omega) (by rw[Wr];omega)
    obtain⟨cs,c1,c2⟩:=hh.mc.hz
    have hr':=a5 _ _ hh.hr λe=>(hh.fr _ e).2.2.2.1 rfl
    have q1:=hh.mc.wf.lt hh.mc.h1
    have q2:=hh.mc.wf.lt hh.mc.h2
    have q3:=hh.mc.wf.lt hh.hr
    have q4:=hh.mc.wf.lt c2
    have q0:=hh.mc.f1
    rw[Vu,l31,Xk,a1,Vu,Ez hr' (by rw[hc.len];decide) rfl (B1.cell a2) (B1.one a2),hc.set,DS (by omega)]
    have ps1:psM x1 l (i+1)=psM x1 l i++[Wv i p (psM x1 l i)]:=by rw[hp];rfl
    refine ih (i+1) v' _ _ _ (by omega) (by omega) ⟨?_,AC hr',?_,λe=> ?_,λs hs=> ?_⟩
    ·refine⟨by rw[Au hh.mc.n1];exact a5 _ _ hh.mc.h1 (λe=>(hh.fr _ e).2.1 rfl),by rw[Au hh.mc.n2];exact a5 _ _ hh.mc.h2 (λe=>(hh.fr _ e).2.2.1 rfl),⟨cs,c1,by rw[Au hh.mc.nz];exact a5 _ _ c2 (λe=>(hh.fr _ e).2.2.2.2 rfl)⟩,Cj a3',hh.mc.n1,hh.mc.n2,hh.mc.nz,hh.mc.f1,hh.mc.f2,hh.mc.f3,hh.mc.f4,hh.mc.w0,λs x hs=> ?_⟩
     have g1:=hh.mc.w0.lt hs
     have g2:=hh.mc.f3
     rw[Au (by omega)]
     exact a5 _ _ (hh.mc.kp s x hs) (λe=>by have:=(hh.fr _ e).1;omega)
    ·rw[ps1,FA]
     have:Bn (psM x1 l i++[Wv i p (psM x1 l i)])=Bn (psM x1 l i)++Bn [Wv i p (psM x1 l i)]:=by simp[Bn]
     rw[this]
     refine B1.kp a2 λs x hs hl=> ?_
     have:=a6 s hs
     rw[Au (by omega)];exact hl
    ·rw[ps1] at e;simp at e
    ·have:=a6 s hs
     omega
   clear h132
   have hpl:=hl.kp hh.mc.kp
   rw[hpl.len]
   by_cases h3:i<l.length
   ·obtain⟨p,g1,g2⟩:=hpl.at2 h3
    have e32:∀{K:AV→Al},Go.Abs.Ak Ab .eql (I ((l[i].length:Nat):Int)) (.v (.int .i64 32)) K=K (Bo true):= λ{K}=>by
     rw[Dz,h32 _ (QS h3)];rfl
    rw[FW (by omega)]
    simp only[gT,Co,g1,g2,MY (t:=Ae) rfl,e32,Wu]
    rw[Dn]
    exact hk _ (by rw[dif_pos h3])
   ·rw[FX (by omega)]
    simp only[gTF,Co,Vk]
    rw[BD]
    exact hk _ (by rw[dif_neg h3])
  ·have:i=ks.length:=by omega
   subst this
   rw[FX (by omega),BD]
   exact hfin v H hh
end
end
section
variable {L n:Nat}
def Cd.csP (c:Cd) (P:AV):List AV:=match c with
 | .re b u=>DD 1 b.m (uu u) (qn b.c) (qd b.c) (Fq b.ts) (qn b.r) (qd b.r) P 0 AO AO u0 r0 0
 | .co b p _ none=>DD 2 b.m (uu p.out) (qn b.c) (qd b.c) (Fq b.ts) (qn b.r) (qd b.r) P p.id (BC p.ks) (BU p.xs) (uu p.out) r0 0
 | .co b p _ (some (k,vd))=>DD 3 b.m (uu p.out) (qn b.c) (qd b.c) (Fq b.ts) (qn b.r) (qd b.r) P p.id (BC p.ks) (BU p.xs) (uu p.out) (rr k) vd
theorem C2B (c:Cd):c.csP (DO c.ps)=c.cs:=by
 match c with
 | .re b u=>rfl
 | .co b p ps none=>rfl
 | .co b p ps (some (k,vd))=>rfl
def cbM (x1 x2 x3 x4 x5:Int) (fs:List Int):CB:=⟨⟨1+pk x1 3,1+pk x2 9,1+pk x3 4,pk x4 50,pk x5 30⟩,pk (x3.tdiv 4) 161-80,pk (x4.tdiv 50) 9,Jy fs 6⟩
def cdM (x0 x1 x2 x3 x4 x5 f0 f1 f2 f3 f4 f5:Int) (y:Y4) (l:List (List UInt8)):Cd:=
 if pk x0 3=0 then .re (cbM x1 x2 x3 x4 x5 [f0,f1,f2,f3,f4,f5]) (pk (x5.tdiv 30) 7).toNat
 else .co (cbM x1 x2 x3 x4 x5 [f0,f1,f2,f3,f4,f5]) (ZX [f0,f1,f2] (x2.tdiv 9) y) (psM x1 l (ZX [f0,f1,f2] (x2.tdiv 9) y).ks.length)
  (if pk x0 3=1 then none else some (1+(pk (x0.tdiv 3) 3).toNat,1+pk (x0.tdiv 9) 3))
theorem A27 {x0 x1 x2 x3 x4 x5 f0 f1 f2 f3 f4 f5:Int} {y:Y4} {l:List (List UInt8)} (h32:∀s∈l,s.length=32):(cdM x0 x1 x2 x3 x4 x5 f0 f1 f2 f3 f4 f5 y l).Ok:=by
 have p1:=E9 (c:=x1) (n:=3) (by decide)
 have p2:=E9 (c:=x2) (n:=9) (by decide)
 have p3:=E9 (c:=x3) (n:=4) (by decide)
 have p4:=E9 (c:=x4) (n:=50) (by decide)
 have p5:=E9 (c:=x5) (n:=30) (by decide)
 have p6:=E9 (c:=x3.tdiv 4) (n:=161) (by decide)
 have p7:=E9 (c:=x4.tdiv 50) (n:=9) (by decide)
 have p8:=E9 (c:=x5.tdiv 30) (n:=7) (by decide)
 have p9:=E9 (c:=x0.tdiv 3) (n:=3) (by decide)
 have pa:=E9 (c:=x0.tdiv 9) (n:=3) (by decide)
 have hb:(cbM x1 x2 x3 x4 x5 [f0,f1,f2,f3,f4,f5]).Ok:=by
  refine⟨?_,?_,?_,?_,?_,(A9v _ 6 (by omega)).1⟩
  ·refine⟨?_,?_,?_,?_,?_,?_,?_,?_,?_,?_⟩
   all_goals (simp only[cbM];omega)
  all_goals (simp only[cbM];omega)
 unfold cdM
 by_cases h:pk x0 3=0
 ·rw[if_pos h]
  exact⟨hb,by omega⟩
 ·rw[if_neg h]
  refine⟨hb,A8d rfl,Wr _,C1z h32 _,?_⟩
  by_cases h1:pk x0 3=1
  ·rw[if_pos h1];exact trivial
  ·rw[if_neg h1]
   exact⟨by omega,by omega,by omega⟩
theorem okI {z:Int} {H:Hp} {K:Al}:R6 (AZ (some (I z,H)) (I z)) K=K:=R5 rfl
theorem C6h {k:IntKind} {z:Int}:AV.one (.v (.int k z))=true:=rfl
theorem C6f {l:List UInt8}:AV.one (S l)=true:=rfl
theorem C6g:AV.one (.v (.slice none 0 0))=true:=rfl
theorem Se (ts:ZQ):AV.one (Fq ts)=true:=by cases ts<;>rfl
section
variable {K:KV} {x:Al} {H0 H H':Hp} {b1 b2 r z:Nat} {X F:List AV} {ps l:List (List UInt8)} {v a2 a3:AV} {cR:AV→List AV} {y:Y4} {x0 x1 x2 x3 x4 x5 f0 f1 f2 f3 f4 f5:Int}
theorem OL {kd:Int} {m:ND} {u o:UD} {ca cb ra rb:List UInt8} {T P ins nds:AV} {id vd:Int} {rd:RD} (h1:AV.one T=true) (h2:AV.one P=true) (h3:AV.one ins=true) (h4:AV.one nds=true):(DD kd m u ca cb T ra rb P id ins nds o rd vd).all AV.one=true:=by
 simp only[l2j,List.all_nil,C6h,C6f,C6g,h1,h2,h3,h4,l16,l1b]
theorem A6l (h:Mc H0 b1 b2 r z X F H) {cs:List AV} (hr:Ax H r=some (.cells true Aj cs)) (h1:cs.length=68) (h2:cs.all AV.one=true) (hK:∀H',Wf H'→(∀s q,s≠z→Ax H s=some q→Ax H' s=some q)→K (.agg cs) H'=x):
 (Aq Ac (.ptr r 0 0) H λv86=>
  Cq Ac (.ptr z 0 0) v86 H λH87=>
  Aq Ac (.ptr z 0 0) H87 λv89=>
  K v89 H87)=x:=by
 obtain⟨c0,c1,c2⟩:=h.hz
 rw[Bm (cs:=cs) rfl (by rw[h1];rfl) hr,B7 c2 (by rw[c1,h1]) (by rw[c1];rfl) h2,Bm (cs:=cs) rfl (by rw[h1];rfl) (AC c2)]
 exact hK _ (Cj h.wf) λs q hs hl=>by rw[Au hs];exact hl
theorem push {H:Hp} (w:Wf H) (x:Row) (hx:x≠.gone):∃H' s,H'=(s,x)::H∧s=A6 H∧Ax H' s=some x∧Wf H'∧∀t q,Ax H t=some q→Ax H' t=some q∧t≠s:=
 ⟨_,_,rfl,rfl,A1 hx,BE w,λt q h=>⟨Bj (w.lt h) h,by have:=w.lt h;omega⟩⟩
theorem C25 {b:Nat} {K:AV→Al}:B0 Bl (.ptr b 0 0) (.v (.int .i64 0)) K=K (.ptr b 0 0):=DC (z:=0) 0 rfl rfl (by decide)
theorem C6C {b:Nat} {K:AV→Al}:B0 Bl (.ptr b 0 0) (.v (.int .i64 1)) K=K (.ptr b 1 0):=DC (z:=1) 1 rfl rfl (by decide)
theorem C6B {b:Nat} {K:AV→Al}:B0 Bl (.ptr b 0 0) (.v (.int .i64 2)) K=K (.ptr b 2 0):=DC (z:=2) 2 rfl rfl (by decide)
theorem C6A {b:Nat} {K:AV→Al}:B0 Bl (.ptr b 0 0) (.v (.int .i64 3)) K=K (.ptr b 3 0):=DC (z:=3) 3 rfl rfl (by decide)
theorem C6z {b:Nat} {K:AV→Al}:B0 Bl (.ptr b 0 0) (.v (.int .i64 4)) K=K (.ptr b 4 0):=DC (z:=4) 4 rfl rfl (by decide)
theorem C6y {b:Nat} {K:AV→Al}:B0 Bl (.ptr b 0 0) (.v (.int .i64 5)) K=K (.ptr b 5 0):=DC (z:=5) 5 rfl rfl (by decide)
theorem rd6 {H:Hp} {b:Nat} {a0 a1 a2 a3 a4 a5:Int} (h:Ax H b=some (.cells true GX [I a0,I a1,I a2,I a3,I a4,I a5])):
 (∀{K},Aq Ab (.ptr b 0 0) H K=K (I a0))∧(∀{K},Aq Ab (.ptr b 1 0) H K=K (I a1))∧(∀{K},Aq Ab (.ptr b 2 0) H K=K (I a2))∧(∀{K},Aq Ab (.ptr b 3 0) H K=K (I a3))∧(∀{K},Aq Ab (.ptr b 4 0) H K=K (I a4))∧(∀{K},Aq Ab (.ptr b 5 0) H K=K (I a5)):=
 ⟨λ{K}=>AY (p:=0) rfl h (by simp),λ{K}=>AY (p:=1) rfl h (by simp),λ{K}=>AY (p:=2) rfl h (by simp),λ{K}=>AY (p:=3) rfl h (by simp),λ{K}=>AY (p:=4) rfl h (by simp),λ{K}=>AY (p:=5) rfl h (by simp)⟩
theorem B2I (mc:Mc H0 b1 b2 r z X F H) {cs cs' vs:List AV} (hr:Ax H r=some (.cells true Aj cs)) {i:TI} {p:Nat} (hcs:cs.length=68) (hp:p+vs.length≤68) (hz:i.size=vs.length) (h1:vs.all AV.one=true) (es:splice cs p vs=cs'):
 ∃H',(∀K:Hp→Al,Cq i (.ptr r p 0) (.agg vs) H K=K H')∧Mc H0 b1 b2 r z X F H'∧Ax H' r=some (.cells true Aj cs')∧(∀s q,s≠r→Ax H s=some q→Ax H' s=some q):=
 ⟨_,λK=>Yx hr (by rw[hcs];exact hp) hz h1,mc.upd _,by rw[es];exact AC hr,λs q hs hl=>by rw[Au hs];exact hl⟩
theorem A10 (hL:40000<L) (w:Wf H0) (i0:K8 x0) (i1:K8 x1) (i2:K8 x2) (i3:K8 x3) (i4:K8 x4) (i5:K8 x5) (j0:K8 f0) (j1:K8 f1) (j2:K8 f2) (j3:K8 f3) (j4:K8 f4) (j5:K8 f5)
 (hy:YA H0 y a2) (hyI:yI y) (hl:PL H0 l a3) (hb:l.length<1000) (h32:∀s∈l,s.length=32)
 (hK:∀v H',B1 H' A4 1 v (cdM x0 x1 x2 x3 x4 x5 f0 f1 f2 f3 f4 f5 y l).ps.length (Bn (cdM x0 x1 x2 x3 x4 x5 f0 f1 f2 f3 f4 f5 y l).ps)→((cdM x0 x1 x2 x3 x4 x5 f0 f1 f2 f3 f4 f5 y l).ps=[]→v=AO)→Wf H'→(∀s q,Ax H0 s=some q→Ax H' s=some q)→(∀s,AX v s→A6 H0≤s)→
  K (.agg ((cdM x0 x1 x2 x3 x4 x5 f0 f1 f2 f3 f4 f5 y l).csP v)) H'=x):
 (rt (L+20) (n+44)).call LR [.agg [I x0,I x1,I x2,I x3,I x4,I x5],.agg [I f0,I f1,I f2,I f3,I f4,I f5],a2,a3] H0 K=x:=by
 rw[A1a]
 unfold Sv Ar Ev
 obtain⟨H1,b1,e1,s1,l1,w1,k1⟩:=push w (.cells true GX [I x0,I x1,I x2,I x3,I x4,I x5]) (by simp)
 rw[EY (cs:=[I x0,I x1,I x2,I x3,I x4,I x5]) rfl,←s1,←e1]
 obtain⟨H2,b2,e2,s2,l2,w2,k2⟩:=push w1 (.cells true GX [I f0,I f1,I f2,I f3,I f4,I f5]) (by simp)
 rw[EY (cs:=[I f0,I f1,I f2,I f3,I f4,I f5]) rfl,←s2,←e2]
 obtain⟨H3,z,e3,s3,l3,w3,k3⟩:=push w2 (.cells true Aj BM) (by simp)
 rw[Bf (cs:=BM) rfl,←s3,←e3]
 obtain⟨H4,r,e4,s4,l4,w4,k4⟩:=push w3 (.cells true Aj BM) (by simp)
 have m1:=k2 _ _ l1
 have m2:=k3 _ _ m1.1
 have m3:=k3 _ _ l2
 have q1:=k4 _ _ m2.1
 have q2:=k4 _ _ m3.1
 have q3:=k4 _ _ l3
 have g1:A6 H0≤b1:=by omega
 have g2:A6 H0≤b2:=by have:=w1.lt l1;omega
 have g3:A6 H0≤z:=by have:=w2.lt l2;omega
 have g4:A6 H0≤r:=by have:=w3.lt l3;omega
 have kp0:∀s q,Ax H0 s=some q→Ax H4 s=some q:= λs q hs=>(k4 _ _ (k3 _ _ (k2 _ _ (k1 _ _ hs).1).1).1).1
 clear e1 e2 e3 s1 s2 s3 k1 k2 k3 m1 m3 l1 l2 w1 w2
 have p0:=E9 (c:=x0) (n:=3) (by decide)
 have p1:=E9 (c:=x1) (n:=3) (by decide)
 have p2:=E9 (c:=x2) (n:=9) (by decide)
 have p3:=E9 (c:=x3) (n:=4) (by decide)
 have c0:∀{H K},Ah (rt (L+20) (n+43)) B3 [I x0,.v (.int .i64 3)] H K=K (I (pk x0 3)):= λ{H K}=>Kq (n:=n+42) i0 (by decide) (by decide) H K
 have c1:∀{H K},Ah (rt (L+20) (n+43)) B3 [I x1,.v (.int .i64 3)] H K=K (I (pk x1 3)):= λ{H K}=>Kq (n:=n+42) i1 (by decide) (by decide) H K
 have c2:∀{H K},Ah (rt (L+20) (n+43)) B3 [I x2,.v (.int .i64 9)] H K=K (I (pk x2 9)):= λ{H K}=>Kq (n:=n+42) i2 (by decide) (by decide) H K
 have c3:∀{H K},Ah (rt (L+20) (n+43)) B3 [I x3,.v (.int .i64 4)] H K=K (I (pk x3 4)):= λ{H K}=>Kq (n:=n+42) i3 (by decide) (by decide) H K
 have c4:∀{H K},Ah (rt (L+20) (n+43)) B3 [I x4,.v (.int .i64 50)] H K=K (I (pk x4 50)):= λ{H K}=>Kq (n:=n+42) i4 (by decide) (by decide) H K
 have c5:∀{H K},Ah (rt (L+20) (n+43)) B3 [I x5,.v (.int .i64 30)] H K=K (I (pk x5 30)):= λ{H K}=>Kq (n:=n+42) i5 (by decide) (by decide) H K
 have a0:∀{K:AV→Al},Go.Abs.Ak Ab .add (.v (.int .i64 1)) (I (pk x0 3)) K=K (I (1+pk x0 3)):= λ{K}=>by rw[Cz,Cb (by omega) (by omega)]
 have a1:∀{K:AV→Al},Go.Abs.Ak Ab .add (.v (.int .i64 1)) (I (pk x1 3)) K=K (I (1+pk x1 3)):= λ{K}=>by rw[Cz,Cb (by omega) (by omega)]
 have a2':∀{K:AV→Al},Go.Abs.Ak Ab .add (.v (.int .i64 1)) (I (pk x2 9)) K=K (I (1+pk x2 9)):= λ{K}=>by rw[Cz,Cb (by omega) (by omega)]
 have a3':∀{K:AV→Al},Go.Abs.Ak Ab .add (.v (.int .i64 1)) (I (pk x3 4)) K=K (I (1+pk x3 4)):= λ{K}=>by rw[Cz,Cb (by omega) (by omega)]
 obtain⟨d0,d1,d2,d3,d4,d5⟩:=rd6 m2.1
 simp only[C25,C6C,C6B,C6A,C6z,C6y,d0,d1,d2,d3,d4,d5,c0,c1,c2,c3,c4,c5,a0,a1,a2',a3',BJ]
 clear d0 d1 d2 d3 d4 d5
 have bd:∀{a b c d e f:Int} {K:AV→Al},Bk Ac [(0,1,I a),(1,1,I b),(2,1,I c),(3,1,I d),(4,1,I e),(5,1,I f)] K=K (.agg (DD a ⟨b,c,d,e,f⟩ u0 [] [] AO [] [] AO 0 AO AO u0 r0 0)):= λ{a b c d e f K}=>_root_.id rfl
 rw[bd,BJ,Bf (cs:=BM) rfl,Co,←s4,←e4,B7 (vs:=DD (1+pk x0 3) ⟨1+pk x1 3,1+pk x2 9,1+pk x3 4,pk x4 50,pk x5 30⟩ u0 [] [] AO [] [] AO 0 AO AO u0 r0 0) l4 rfl rfl rfl,Co]
 clear e4 s4
 obtain⟨d0,d1,d2,d3,d4,d5⟩:=rd6 q1.1
 simp only[d0,d1,d2,d3,d4,d5,c0,c1,c2,c3,c4,c5,okI]
 clear d0 d1 d2 d3 d4 d5 c0 c1 c2 c3 c4 c5 a0 a1 a2' a3' bd
 have mc:Mc H0 b1 b2 r z [I x0,I x1,I x2,I x3,I x4,I x5] [I f0,I f1,I f2,I f3,I f4,I f5] H4:=⟨q1.1,q2.1,⟨_,rfl,q3.1⟩,w4,q1.2,q2.2,q3.2,g1,g2,g4,g3,w,kp0⟩
 have mc5:=mc.upd (.cells true Aj (DD (1+pk x0 3) ⟨1+pk x1 3,1+pk x2 9,1+pk x3 4,pk x4 50,pk x5 30⟩ u0 [] [] AO [] [] AO 0 AO AO u0 r0 0))
 have r5:=AC (q:=true) (e:=Aj) (cs:=DD (1+pk x0 3) ⟨1+pk x1 3,1+pk x2 9,1+pk x3 4,pk x4 50,pk x5 30⟩ u0 [] [] AO [] [] AO 0 AO AO u0 r0 0) l4
 generalize Go.Abs.upd H4 r (.cells true Aj (DD (1+pk x0 3) ⟨1+pk x1 3,1+pk x2 9,1+pk x3 4,pk x4 50,pk x5 30⟩ u0 [] [] AO [] [] AO 0 AO AO u0 r0 0))=H5 at mc5 r5
 clear mc kp0 q1 q2 q3 k4 l4 w4 l3 w3 m2 g1 g2 g3 g4 H4 H3 H2 H1
 have m08:∀{H K},Ah (rt (L+20) (n+43)) OC [I (x3.tdiv 4),I (x4.tdiv 50),.agg [I f0,I f1,I f2,I f3,I f4,I f5]] H K=K (.agg [S (qn (pk (x3.tdiv 4) 161-80)),S (qd (pk (x3.tdiv 4) 161-80)),Fq (Jy [f0,f1,f2,f3,f4,f5] 6),S (qn (pk (x4.tdiv 50) 9)),S (qd (pk (x4.tdiv 50) 9))]):= λ{H K}=>
  Bc (B3m (n:=n+2) (xs:=[f0,f1,f2,f3,f4,f5]) (by omega) (Lo i3 (by decide)) (Lo i4 (by decide)) rfl (by simp[j0,j1,j2,j3,j4,j5]))
   (A2 (q:=false) Ed (A2 (q:=false) Ed (A2 (PE (D:=depth-1) (Kf (λz:Int=>Value.int .i64 z) [f0,f1,f2,f3,f4,f5])) Bt)))
 have lF:∀{K},Aq Bl (.ptr b2 0 0) H5 K=K (.agg [I f0,I f1,I f2,I f3,I f4,I f5]):= λ{K}=>Bm rfl rfl mc5.h2
 obtain⟨d0,d1,d2,d3,d4,d5⟩:=rd6 mc5.h1
 obtain⟨H6,st6,mc6,r6, -⟩:=B2I (i:=DX) (p:=26) (vs:=[S (qn (pk (x3.tdiv 4) 161-80)),S (qd (pk (x3.tdiv 4) 161-80)),Fq (Jy [f0,f1,f2,f3,f4,f5] 6),S (qn (pk (x4.tdiv 50) 9)),S (qd (pk (x4.tdiv 50) 9))]) mc5 r5 rfl (by show 26+5≤68;decide) rfl (by show(true&&(true&&(AV.one (Fq (Jy [f0,f1,f2,f3,f4,f5] 6))&&(true&&(true&&true)))))=true;rw[Se];rfl)
  (cs':=DD (1+pk x0 3) ⟨1+pk x1 3,1+pk x2 9,1+pk x3 4,pk x4 50,pk x5 30⟩ u0 (qn (pk (x3.tdiv 4) 161-80)) (qd (pk (x3.tdiv 4) 161-80)) (Fq (Jy [f0,f1,f2,f3,f4,f5] 6)) (qn (pk (x4.tdiv 50) 9)) (qd (pk (x4.tdiv 50) 9)) AO 0 AO AO u0 r0 0) rfl
 rw[d3,YF i3 (by decide),d4,YF i4 (by decide),lF,m08,Vu,st6]
 clear d0 d1 d2 d3 d4 d5 lF st6 mc5 r5 m08
 have hun:∀{H K},Ah (rt (L+20) (n+43)) EJ [I (x5.tdiv 30)] H K=K (.agg (Cc (uu (pk (x5.tdiv 30) 7).toNat))):= λ{H K}=>A84 (n:=n+1) (Lo i5 (by decide)) H K
 obtain⟨d0,d1,d2,d3,d4,d5⟩:=rd6 mc6.h1
 obtain⟨H7,st7,mc7,r7, -⟩:=B2I (i:=Ag) (p:=6) (vs:=Cc (uu (pk (x5.tdiv 30) 7).toNat)) mc6 r6 rfl (by show 6+20≤68;decide) rfl rfl
  (cs':=DD (1+pk x0 3) ⟨1+pk x1 3,1+pk x2 9,1+pk x3 4,pk x4 50,pk x5 30⟩ (uu (pk (x5.tdiv 30) 7).toNat) (qn (pk (x3.tdiv 4) 161-80)) (qd (pk (x3.tdiv 4) 161-80)) (Fq (Jy [f0,f1,f2,f3,f4,f5] 6)) (qn (pk (x4.tdiv 50) 9)) (qd (pk (x4.tdiv 50) 9)) AO 0 AO AO u0 r0 0) rfl
 have lk:∀{K},Aq Ab (.ptr r 0 0) H7 K=K (I (1+pk x0 3)):= λ{K}=>AY (p:=0) rfl r7 (show 0<68 by decide)
 rw[d5,YF i5 (by decide),hun,Vu,st7,Vu,lk,Dz]
 clear d0 d1 d2 d3 d4 d5 st7 mc6 r6 hun lk
 by_cases h0:pk x0 3=0
 ·have ecd:cdM x0 x1 x2 x3 x4 x5 f0 f1 f2 f3 f4 f5 y l= .re (cbM x1 x2 x3 x4 x5 [f0,f1,f2,f3,f4,f5]) (pk (x5.tdiv 30) 7).toNat:=if_pos h0
  have e1:1+pk x0 3=1:=by omega
  rw[decide_eq_true e1,Dn]
  rw[ecd] at hK
  rw[e1] at r7
  refine A6l mc7 r7 rfl (OL (Se _) rfl rfl rfl) λH' w' kp=> ?_
  exact hK AO H' (.inl ⟨rfl,rfl,rfl⟩) (λ_=>rfl) w' (λs q hs=>kp s q (by have:=mc7.w0.lt hs;have:=mc7.f4;omega) (mc7.kp s q hs)) (λs ⟨_,_,_,h⟩=>by cases h)
 ·have ecd:cdM x0 x1 x2 x3 x4 x5 f0 f1 f2 f3 f4 f5 y l= .co (cbM x1 x2 x3 x4 x5 [f0,f1,f2,f3,f4,f5]) (ZX [f0,f1,f2] (x2.tdiv 9) y) (psM x1 l (ZX [f0,f1,f2] (x2.tdiv 9) y).ks.length) (if pk x0 3=1 then none else some (1+(pk (x0.tdiv 3) 3).toNat,1+pk (x0.tdiv 9) 3)):=if_neg h0
  rw[ecd] at hK
  clear ecd
  have m09:∀{K},Ah (rt (L+20) (n+43)) OB [.agg [I f0,I f1,I f2],I (x2.tdiv 9),a2,.v (.bool true)] H7 K=K (.agg (Bx (ZX [f0,f1,f2] (x2.tdiv 9) y).id (BC (ZX [f0,f1,f2] (x2.tdiv 9) y).ks) (BU (ZX [f0,f1,f2] (x2.tdiv 9) y).xs) (uu (ZX [f0,f1,f2] (x2.tdiv 9) y).out))):= λ{K}=>by
   obtain⟨q,hq⟩:=hy H7 mc7.kp
   exact Bc (B3l (n:=n) (ins:=[f0,f1,f2]) (by omega) rfl (by simp[j0,j1,j2]) (Lo i2 (by decide)) hyI) (A2 (PE (D:=depth-1) (Kf (λz:Int=>Value.int .i64 z) [f0,f1,f2])) (A2 (q:=false) Ed (A2 hq (A2 (q:=false) Ed Bt))))
  have hp:=A8d (ins:=[f0,f1,f2]) (count:=x2.tdiv 9) (y:=y) rfl
  generalize ZX [f0,f1,f2] (x2.tdiv 9) y=p at hK m09 hp
  have e1:¬(1+pk x0 3=1):=by omega
  rw[decide_eq_false e1,BD]
  obtain⟨g0,g1,g2, -, -, -⟩:=rd6 mc7.h2
  obtain⟨d0,d1,d2, -, -, -⟩:=rd6 mc7.h1
  have b3:∀{K:AV→Al},Bk OT [(0,1,I f0),(1,1,I f1),(2,1,I f2)] K=K (.agg [I f0,I f1,I f2]):= λ{K}=>_root_.id rfl
  obtain⟨H8,st8,mc8,r8, -⟩:=B2I (i:=AA) (p:=32) (vs:=Bx p.id (BC p.ks) (BU p.xs) (uu p.out)) mc7 r7 rfl (by show 32+23≤68;decide) rfl (A3n rfl rfl)
   (cs':=DD (1+pk x0 3) ⟨1+pk x1 3,1+pk x2 9,1+pk x3 4,pk x4 50,pk x5 30⟩ (uu (pk (x5.tdiv 30) 7).toNat) (qn (pk (x3.tdiv 4) 161-80)) (qd (pk (x3.tdiv 4) 161-80)) (Fq (Jy [f0,f1,f2,f3,f4,f5] 6)) (qn (pk (x4.tdiv 50) 9)) (qd (pk (x4.tdiv 50) 9)) AO p.id (BC p.ks) (BU p.xs) (uu p.out) r0 0) rfl
  have lu:∀{K},Aq Ag (.ptr r 35 0) H8 K=K (.agg (Cc (uu p.out))):= λ{K}=>EX (p:=35) rfl r8 (show 55≤68 by decide)
  obtain⟨H9,st9,mc9,r9, -⟩:=B2I (i:=Ag) (p:=6) (vs:=Cc (uu p.out)) mc8 r8 rfl (by show 6+20≤68;decide) rfl rfl
   (cs':=DD (1+pk x0 3) ⟨1+pk x1 3,1+pk x2 9,1+pk x3 4,pk x4 50,pk x5 30⟩ (uu p.out) (qn (pk (x3.tdiv 4) 161-80)) (qd (pk (x3.tdiv 4) 161-80)) (Fq (Jy [f0,f1,f2,f3,f4,f5] 6)) (qn (pk (x4.tdiv 50) 9)) (qd (pk (x4.tdiv 50) 9)) AO p.id (BC p.ks) (BU p.xs) (uu p.out) r0 0) rfl
  have f35:∀{K:AV→Al},AN 3 (.ptr r 32 0) K=K (.ptr r 35 0):= λ{K}=>by rw[fA]
  rw[g0,g1,g2,b3,d2,YF i2 (by decide),m09,Vu,st8,Vu,f35,lu,Vu,st9]
  clear g0 g1 g2 d0 d1 d2 b3 st8 mc8 r8 lu st9 f35 m09 mc7 r7
  refine KP λk79 h79=> ?_
  refine KP λk108 h108=> ?_
  have hc:CR (λv=>DD (1+pk x0 3) ⟨1+pk x1 3,1+pk x2 9,1+pk x3 4,pk x4 50,pk x5 30⟩ (uu p.out) (qn (pk (x3.tdiv 4) 161-80)) (qd (pk (x3.tdiv 4) 161-80)) (Fq (Jy [f0,f1,f2,f3,f4,f5] 6)) (qn (pk (x4.tdiv 50) 9)) (qd (pk (x4.tdiv 50) 9)) v p.id (BC p.ks) (BU p.xs) (uu p.out) r0 0) p.ks:=⟨λ_=>rfl,λ_ _=>rfl,λ_=>rfl,λ_=>rfl⟩
  refine C41 (n:=n) (l:=l) hL hc i1 hp.k3 hl hb h32 ?_ (L+20) 0 AO _ _ H9 (by omega) (by have:=hp.k3;omega) ⟨mc9,r9,.inl ⟨rfl,rfl,rfl⟩,λ_=>rfl,λs ⟨_,_,_,h⟩=>by cases h⟩
  intro v H hh
  rw[h108,h79]
  clear h108 h79 mc9 r9
  refine KP λk84 h84=> ?_
  have hk84:∀(cs:List AV) (Hx:Hp),Mc H0 b1 b2 r z [I x0,I x1,I x2,I x3,I x4,I x5] [I f0,I f1,I f2,I f3,I f4,I f5] Hx→Ax Hx r=some (.cells true Aj cs)→cs.length=68→cs.all AV.one=true→cs=(Cd.co (cbM x1 x2 x3 x4 x5 [f0,f1,f2,f3,f4,f5]) p (psM x1 l p.ks.length) (if pk x0 3=1 then none else some (1+(pk (x0.tdiv 3) 3).toNat,1+pk (x0.tdiv 9) 3))).csP v→(∀s q,s≠r→Ax H s=some q→Ax Hx s=some q)→k84 Hx=x:=by
   intro cs Hx mcx rx c1 c2 ecs kx
   rw[h84]
   refine A6l mcx rx c1 c2 λH' w' kp=> ?_
   rw[ecs]
   refine hK v H' ?_ hh.nv w' (λs q hs=>kp s q (by have:=mcx.w0.lt hs;have:=mcx.f4;omega) (mcx.kp s q hs)) (λs hs=>(hh.fr s hs).1)
   exact hh.sv.kp λs q hs hl=>kp s q (hh.fr s hs).2.2.2.2 (kx s q (hh.fr s hs).2.2.2.1 hl)
  clear h84 hK
  have lk:∀{K},Aq Ab (.ptr r 0 0) H K=K (I (1+pk x0 3)):= λ{K}=>AY (p:=0) rfl hh.hr (show 0<68 by decide)
  rw[Vu,lk,Dz]
  by_cases h1:pk x0 3=1
  ·have e3:¬(1+pk x0 3=3):=by omega
   rw[decide_eq_false e3,BD]
   rw[if_pos h1] at hk84
   have e2:1+pk x0 3=2:=by omega
   have hr:=hh.hr
   rw[e2] at hr
   exact hk84 _ H hh.mc hr rfl (OL (Se _) (B1.one hh.sv) rfl rfl) rfl (λs q _ h=>h)
  ·have e3:1+pk x0 3=3:=by omega
   have pv:=E9 (c:=x0.tdiv 9) (n:=3) (by decide)
   rw[decide_eq_true e3,Dn]
   rw[if_neg h1] at hk84
   have hr:=hh.hr
   rw[e3] at hr
   have hru:∀{H K},Ah (rt (L+20) (n+43)) I8 [I (x0.tdiv 3)] H K=K (.agg (rr (1+(pk (x0.tdiv 3) 3).toNat)).cs):= λ{H K}=>B6O (n:=n+41) (Lo i0 (by decide)) H K
   have hpk:∀{H K},Ah (rt (L+20) (n+43)) B3 [I (x0.tdiv 9),.v (.int .i64 3)] H K=K (I (pk (x0.tdiv 9) 3)):= λ{H K}=>Kq (n:=n+42) (Lo i0 (by decide)) (by decide) (by decide) H K
   have ad:∀{K:AV→Al},Go.Abs.Ak Ab .add (.v (.int .i64 1)) (I (pk (x0.tdiv 9) 3)) K=K (I (1+pk (x0.tdiv 9) 3)):= λ{K}=>by rw[Cz,Cb (by omega) (by omega)]
   obtain⟨d0, -⟩:=rd6 hh.mc.h1
   obtain⟨HA,stA,mcA,rA,kA⟩:=B2I (i:=Cu) (p:=55) (vs:=(rr (1+(pk (x0.tdiv 3) 3).toNat)).cs) hh.mc hr rfl (by show 55+9≤68;decide) rfl rfl
    (cs':=DD 3 ⟨1+pk x1 3,1+pk x2 9,1+pk x3 4,pk x4 50,pk x5 30⟩ (uu p.out) (qn (pk (x3.tdiv 4) 161-80)) (qd (pk (x3.tdiv 4) 161-80)) (Fq (Jy [f0,f1,f2,f3,f4,f5] 6)) (qn (pk (x4.tdiv 50) 9)) (qd (pk (x4.tdiv 50) 9)) v p.id (BC p.ks) (BU p.xs) (uu p.out) (rr (1+(pk (x0.tdiv 3) 3).toNat)) 0) rfl
   obtain⟨d0', -⟩:=rd6 mcA.h1
   rw[C25,d0,YF i0 (by decide),hru,Vu,stA,C25,d0',YF i0 (by decide),hpk,ad,Vu,Ez rA (show 64<68 by decide) rfl rfl rfl]
   exact hk84 _ _ (mcA.upd _) (AC rA) rfl (OL (Se _) (B1.one hh.sv) rfl rfl) rfl (λs q hs h=>by rw[Au hs];exact kA s q hs h)
end
end
section
variable {L n:Nat}
theorem B1b {f:AV→(Bool→AV→Al)→Al}:∀(l m:List AV) (K:Bool→List AV→Al),HP f (l++m) K=HP f l λq l'=>HP f m λq' m'=>K (q||q') (l'++m'):=by
 intro l
 induction l with
 |nil=>intro m K;rfl
 |cons a l ih=>
  intro m K
  have e:∀(l:List AV) (K:Bool→List AV→Al),HP f (a::l) K=f a λq a'=>HP f l λq' l'=>K (@Bool.rec (λ_=>Bool) q' true q) (a'::l'):= λ_ _=>rfl
  rw[List.cons_append,e,e]
  congr 1
  funext q a'
  rw[ih]
  congr 1
  funext q1 l1
  congr 1
  funext q2 l2
  cases q<;>rfl
theorem A4O {b:Bool} {D:Nat} {l l' m m':List AV} {H:Hp} {q q':Bool} (h:OM b D l l' H q) (k:OM b D m m' H q'):OM b D (l++m) (l'++m') H (q||q'):= λK=>by
 rw[B1b,h,k]
def A6G:AV→Bool
 | .v _=>true
 | .list _ _=>true
 |_=>false
theorem B00 {D:Nat} {H:Hp}:∀l:List AV,l.all A6G=true→OM true D l l H false:=by
 intro l
 induction l with
 |nil=>intro _;exact Bt
 |cons a l ih=>
  intro h
  simp only[l2j,Jp] at h
  have h2:=ih h.2
  cases a with
  |v x=>exact A2 (q:=false) Ed h2
  |list n cs=>exact A2 (q:=false) OA h2
  |_=>cases h.1
theorem A4a (ts:ZQ):A6G (Fq ts)=true:=by cases ts<;>rfl
theorem B1m {k:IntKind} {z:Int}:A6G (.v (.int k z))=true:=rfl
theorem A3z {l:List UInt8}:A6G (S l)=true:=rfl
theorem C2i:A6G (.v (.slice none 0 0))=true:=rfl
theorem C55 {n:Nat} {l:List AV}:A6G (.list n l)=true:=rfl
theorem B1K (c:Cd):∃A B:List AV,(∀P,c.csP P=A++P::B)∧A.all A6G=true∧B.all A6G=true:=by
 match c with
 | .re b u=>
  refine⟨((Cd.re b u).csP AO).take 31,((Cd.re b u).csP AO).drop 32,λ_=>rfl,?_,?_⟩
  ·simp only[Cd.csP,List.take_succ_cons,List.take_zero,l2j,List.all_nil,B1m,A3z,A4a,l1b,l16]
  ·simp only[Cd.csP,List.drop_succ_cons,l1n,l2j,List.all_nil,B1m,A3z,C2i,l1b,l16]
 | .co b p ps none=>
  refine⟨((Cd.co b p ps none).csP AO).take 31,((Cd.co b p ps none).csP AO).drop 32,λ_=>rfl,?_,?_⟩
  ·simp only[Cd.csP,List.take_succ_cons,List.take_zero,l2j,List.all_nil,B1m,A3z,A4a,l1b,l16]
  ·simp only[Cd.csP,List.drop_succ_cons,l1n,l2j,List.all_nil,B1m,A3z,C2i,C55,l1b,l16]
 | .co b p ps (some (k,vd))=>
  refine⟨((Cd.co b p ps (some (k,vd))).csP AO).take 31,((Cd.co b p ps (some (k,vd))).csP AO).drop 32,λ_=>rfl,?_,?_⟩
  ·simp only[Cd.csP,List.take_succ_cons,List.take_zero,l2j,List.all_nil,B1m,A3z,A4a,l1b,l16]
  ·simp only[Cd.csP,List.drop_succ_cons,l1n,l2j,List.all_nil,B1m,A3z,C2i,C55,l1b,l16]
theorem Xi (c:Cd) {P:AV} (h:AV.one P=true):(c.csP P).all AV.one=true:=by
 match c with
 | .re b u=>exact OL (Se _) h rfl rfl
 | .co b p ps none=>exact OL (Se _) h rfl rfl
 | .co b p ps (some (k,vd))=>exact OL (Se _) h rfl rfl
theorem Tc (c:Cd) {P:AV}:(c.csP P).length=68:=by
 match c with
 | .re b u=>rfl
 | .co b p ps none=>rfl
 | .co b p ps (some (k,vd))=>rfl
section
variable {H H':Hp} {v:AV} {l:List (List UInt8)} {D:Nat} {b:Bool}
theorem A4P (h:B1 H A4 1 v l.length (Bn l)) (h0:l=[]→v=AO):∃q,Fx b (D+1) v (DO l) H q:=by
 rcases h with⟨rfl,h2,_⟩|⟨r,q,rfl,h2,h3⟩
 ·cases l with
  |nil=>exact⟨false,Ed⟩
  |cons a l=>simp at h2
 ·cases l with
  |nil=>have:=h0 rfl;cases this
  |cons a l=>
   refine⟨true,?_⟩
   show Fx b (D+1) _ (.list (a::l).length (Bn (a::l))) H true
   exact Vn (q':=false) h2 h3 (Kf (λs=>Value.string ⟨⟨s⟩⟩) (a::l))
theorem A52 {c:Cd} (h:B1 H A4 1 v c.ps.length (Bn c.ps)) (h0:c.ps=[]→v=AO):∃q,OM true (D+1) (c.csP v) c.cs H q:=by
 obtain⟨q,hq⟩:=A4P (D:=D) (b:=true) h h0
 obtain⟨A,B,e,f1,f2⟩:=B1K c
 rw[←C2B c,e,e]
 exact⟨_,A4O (B00 A f1) (A2 hq (B00 B f2))⟩
abbrev GV:=List (Cd×AV)
def gvC (g:GV):List AV:=g.flatMap λp=>p.1.csP p.2
structure GvOk (g:GV) (H:Hp):Prop where
 sl:∀p∈g,B1 H A4 1 p.2 p.1.ps.length (Bn p.1.ps)
 nl:∀p∈g,p.1.ps=[]→p.2=AO
theorem C4O {g:GV} (h:GvOk g H):∃q,OM true (D+1) (gvC g) ((g.map Prod.fst).flatMap Cd.cs) H q:=by
 induction g with
 |nil=>exact⟨_,Bt⟩
 |cons p g ih=>
  obtain⟨q1,h1⟩:=ih ⟨λr hr=>h.sl r (by simp[hr]),λr hr=>h.nl r (by simp[hr])⟩
  obtain⟨q2,h2⟩:=A52 (D:=D) (h.sl p (by simp)) (h.nl p (by simp))
  exact⟨_,A4O h2 h1⟩
def B3N (gs:List Cd):AV:=match gs with
 |[]=>AO
 |c::gs=> .list (c::gs).length ((c::gs).flatMap Cd.cs)
theorem B7e (gs:List Cd):LA gs (B3N gs):=by cases gs with|nil=>exact .inr ⟨rfl,rfl⟩|cons _ _=>exact .inl rfl
theorem C27 {g:GV} {lv:AV} (h:GvOk g H) (hl:B1 H Aj 68 lv g.length (gvC g)) (h0:g=[]→lv=AO):∃q,Fx true (D+2) lv (B3N (g.map Prod.fst)) H q:=by
 rcases hl with⟨rfl,h2,_⟩|⟨r,q,rfl,h2,h3⟩
 ·cases g with
  |nil=>exact⟨false,Ed⟩
  |cons a l=>simp at h2
 ·cases g with
  |nil=>have:=h0 rfl;cases this
  |cons p g=>
   obtain⟨q1,h1⟩:=C4O (D:=D) h
   refine⟨true,?_⟩
   have e:B3N ((p::g).map Prod.fst)= .list (p::g).length (((p::g).map Prod.fst).flatMap Cd.cs):=by
    show AV.list _ _=_
    rw[show(p.1::g.map Prod.fst).length=(p::g).length by simp];rfl
   rw[e]
   exact Vn h2 h3 h1
end
structure Y7 where
 (y0 y1 y2 y3 y4 y5 y6:Int)
def Y7.cs (y:Y7):List AV:=[I y.y0,I y.y1,I y.y2,I y.y3,I y.y4,I y.y5,I y.y6]
def Y7.Ok (y:Y7):Prop:=K8 y.y0∧K8 y.y1∧K8 y.y2∧K8 y.y3∧K8 y.y4∧K8 y.y5∧K8 y.y6
def paM (ids:List (List UInt8)) (y6:Int):Nat→List (List UInt8)
 |0=>[]
 |k+1=>if 0<ids.length∧pk (y6.fdiv (2^(4*k))) 16<14 then paM ids y6 k++[ids.getD ((pk (y6.fdiv (2^(4*k))) 16).toNat%ids.length) []] else paM ids y6 k
theorem A9L {ids:List (List UInt8)} {y6:Int}:∀k,∀s∈paM ids y6 k,s∈ids:=by
 intro k
 induction k with
 |zero=>intro s hs;simp[paM] at hs
 |succ k ih=>
  intro s hs
  unfold paM at hs
  split at hs
  ·rename_i h
   rcases l2e.1 hs with hs|hs
   ·exact ih s hs
   ·rw[l2f] at hs;subst hs
    have:=Nat.mod_lt (pk (y6.fdiv (2^(4*k))) 16).toNat h.1
    rw[Ul,JV this]
    exact QS this
  ·exact ih s hs
theorem A9M {ids:List (List UInt8)} {y6:Int}:∀k,(paM ids y6 k).length≤k:=by
 intro k
 induction k with
 |zero=>simp[paM]
 |succ k ih=>
  unfold paM
  split
  ·simp;omega
  ·omega
def kdM (i:Nat) (y:Y7):Int:=if i<2∧0<pk (y.y0.tdiv 3) 4 then 0 else y.y0
def cM (i:Nat) (y:Y7) (ids:List (List UInt8)):Cd:=cdM (kdM i y) y.y1 y.y2 y.y3 y.y4 y.y5 y.y1 y.y2 y.y3 y.y4 y.y5 y.y6 (some (y.y3,y.y4,y.y5,y.y6)) (paM ids y.y6 3)
def NV (xs:List Y7):Nat→List Cd
 |0=>[]
 |i+1=>
  if(cM i (xs.getD i ⟨0,0,0,0,0,0,0⟩) ((NV xs i).map Cd.id)).ps.Nodup∧(cM i (xs.getD i ⟨0,0,0,0,0,0,0⟩) ((NV xs i).map Cd.id)).id∉(NV xs i).map Cd.id
  then NV xs i++[cM i (xs.getD i ⟨0,0,0,0,0,0,0⟩) ((NV xs i).map Cd.id)] else NV xs i
theorem B8Q {i:Nat} {y:Y7} {gs:List Cd}:(cM i y (gs.map Cd.id)).Ok:=by
 refine A27 λs hs=> ?_
 obtain⟨c,_,rfl⟩:=l2a.1 (A9L _ s hs)
 exact A96 c
theorem B4a (xs:List Y7):∀i,i≤8→GOk (NV xs i)∧(NV xs i).length≤i:=by
 intro i
 induction i with
 |zero=>intro _;exact⟨⟨by simp[NV],by simp[NV],by simp[NV],by simp[NV]⟩,by simp[NV]⟩
 |succ i ih=>
  intro hi
  obtain⟨h,hlen⟩:=ih (by omega)
  unfold NV
  split
  ·rename_i hc
   refine⟨⟨λc hm=> ?_,λc hm=> ?_,?_,by simp;omega⟩,by simp;omega⟩
   ·rcases l2e.1 hm with hm|hm
    ·exact h.ok c hm
    ·rw[l2f] at hm;subst hm;exact B8Q
   ·rcases l2e.1 hm with hm|hm
    ·exact h.nd c hm
    ·rw[l2f] at hm;subst hm;exact hc.1
   ·rw[l01,List.nodup_append]
    refine⟨h.ids,by simp,λa ha b hb e=> ?_⟩
    obtain⟨c',hc',rfl⟩:=l2a.1 hb
    rw[l2f] at hc';subst hc'
    exact hc.2 (e▸ha)
  ·exact⟨h,by omega⟩
theorem B4Q {c:Cd} (h:c.Ok):c.ps.length≤3:=by
 match c,h with
 | .re b u,_=>simp[Cd.ps]
 | .co b p ps none,⟨_,hp,h1,_⟩=>show ps.length≤3;rw[h1];exact hp.k3
 | .co b p ps (some _),⟨_,hp,h1,_⟩=>show ps.length≤3;rw[h1];exact hp.k3
end
end Go.Abs
end
