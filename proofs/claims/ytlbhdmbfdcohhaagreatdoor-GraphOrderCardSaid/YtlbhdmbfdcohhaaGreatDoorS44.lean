import Derived.Test.YtlbhdmbfdcohhaaGreatDoorS43
set_option linter.all false
set_option maxHeartbeats 100000000
noncomputable section
namespace Go.Abs
open Go.RowKit Go.Proofs
set_option maxRecDepth 100000
section
variable {L n:Nat}
theorem Ly {α:Type} {F:α} {G:α→Aj} {x:Aj} (h:∀k,k=F→G k=x):jn F G=x:=by rw[BX];exact h F rfl
theorem Bv.kp {H H':Hp} {e sz n:Nat} {v:AV} {cs:List AV} (h:Bv H e sz v n cs) (k:∀s x,AG v s→Aq H s=some x→Aq H' s=some x):Bv H' e sz v n cs:=by
 rcases h with h|⟨r,q,h1,h2,h3⟩
 ·exact .inl h
 ·exact .inr ⟨r,q,h1,k r _ ⟨_,_,_,h1⟩ h2,h3⟩
theorem C70 (l:List Nd):∃vs:List Value,l.flatMap ndC=vs.map λx=> .v x:=by
 induction l with
 |nil=>exact⟨[],rfl⟩
 |cons x l ih=>
  obtain⟨vs,h⟩:=ih
  refine⟨[.int .i64 x.op,.string ⟨⟨x.vn⟩⟩,.string ⟨⟨x.vd⟩⟩,.int .i64 x.u.p0,.int .i64 x.u.q0,.int .i64 x.u.p1,.int .i64 x.u.q1,.int .i64 x.u.p2,.int .i64 x.u.q2,.int .i64 x.u.p3,.int .i64 x.u.q3,.int .i64 x.u.p4,.int .i64 x.u.q4,.int .i64 x.u.p5,.int .i64 x.u.q5,.int .i64 x.u.p6,.int .i64 x.u.q6,
   .string ⟨⟨x.u.fn⟩⟩,.string ⟨⟨x.u.fd⟩⟩,.string ⟨⟨x.u.on⟩⟩,.string ⟨⟨x.u.od⟩⟩,.int .i64 x.u.kd,.int .i64 x.u.sc,.int .i64 x.n,.int .i64 x.l,.int .i64 x.r]++vs,?_⟩
  rw[l00,h,Zl];rfl
def ndL (l:List Nd):AV:=match l with
 |[]=>AA
 |x::l=> .list (x::l).length ((x::l).flatMap ndC)
theorem B4D {D:Nat} {b:Bool} {H:Hp} {v:AV} {l:List Nd} (h:Bv H AH 26 v l.length (l.flatMap ndC)) (h0:l=[]→v=AA):∃q,Fx b (D+1) v (ndL l) H q:=by
 rcases h with⟨rfl,h2,_⟩|⟨r,q,rfl,h2,h3⟩
 ·cases l with
  |nil=>exact⟨false,D2⟩
  |cons a l=>simp at h2
 ·cases l with
  |nil=>have:=h0 rfl;cases this
  |cons a l=>
   refine⟨true,?_⟩
   show Fx b (D+1) _ (.list (a::l).length ((a::l).flatMap ndC)) H true
   obtain⟨vs,e⟩:=C70 (a::l)
   rw[e] at h2 h3⊢
   exact Xt (q':=false) h2 h3 (KA _root_.id _)
theorem C6a {y:Nd} {H:Hp} {K:KV}:F3 AH 26 AF 1 [(0,26,.agg y.cs)] H K=K (.sl 26 (A2 H) 0 1) ((A2 H,.cells false AH (ndC y))::H):=by
 have e:F3 AH 26 AF 1 [(0,26,.agg y.cs)] H K=XA3 H (λs=>K (.sl 26 s 0 1) ((s,.cells false AH (ndC y))::H)):=_root_.id rfl
 rw[e,BZ]
structure Md (b r z:Nat) (ins:List Int) (id:Int) (ks:List Nat) (xs:List Nd) (us:List Nat) (v w u:AV) (H:Hp):Prop where
 hb:Aq H b=some (.cells true RL (EG ins))
 hr:Aq H r=some (Ho id v w u0)
 hz:∃cs,cs.length=23∧Aq H z=some (.cells true BD cs)
 sv:Bv H A0 20 v ks.length (ks.flatMap GA)
 nv:ks=[]→v=AA
 sw:Bv H AH 26 w xs.length (xs.flatMap ndC)
 nw:xs=[]→w=AA
 su:Bv H A0 20 u us.length (us.flatMap GA)
 nu:us=[]→u=AA
 br:b≠r
 zr:z≠r
 av:∀s,AG v s→s≠b∧s≠r∧s≠z∧¬AG w s∧¬AG u s
 aw:∀s,AG w s→s≠b∧s≠r∧s≠z∧¬AG v s∧¬AG u s
 au:∀s,AG u s→s≠b∧s≠r∧s≠z∧¬AG v s∧¬AG w s
 wf:Wf H
section
variable {K:KV} {x:Aj} {ins:List Int} {id:Int} {ks us:List Nat} {xs:List Nd} {v w u:AV} {b r z m:Nat} {H H':Hp}
theorem Md.grow (h:Md b r z ins id ks xs us v w u H) (wf:Wf H') (kp:∀s x,Aq H s=some x→Aq H' s=some x):Md b r z ins id ks xs us v w u H':=by
 obtain⟨cs,c1,c2⟩:=h.hz
 exact⟨kp _ _ h.hb,kp _ _ h.hr,⟨cs,c1,kp _ _ c2⟩,h.sv.kp λs x _=>kp s x,h.nv,h.sw.kp λs x _=>kp s x,h.nw,h.su.kp λs x _=>kp s x,h.nu,h.br,h.zr,h.av,h.aw,h.au,wf⟩
structure Oth (b r z:Nat) (v w u:AV) (m:Nat):Prop where
 b:m≠b
 r:m≠r
 z:m≠z
 v:¬AG v m
 w:¬AG w m
 u:¬AG u m
theorem Md.oth (h:Md b r z ins id ks xs us v w u H):Oth b r z v w u (A2 H):=by
 obtain⟨cs,c1,c2⟩:=h.hz
 have h1:=h.wf.lt h.hb
 have h2:=h.wf.lt h.hr
 have h3:=h.wf.lt c2
 exact⟨by omega,by omega,by omega,λe=>by have:=h.sv.lt h.wf e;omega,λe=>by have:=h.sw.lt h.wf e;omega,λe=>by have:=h.su.lt h.wf e;omega⟩
theorem Md.upd (h:Md b r z ins id ks xs us v w u H) (o:Oth b r z v w u m) (y:Row):Md b r z ins id ks xs us v w u (upd H m y):=by
 obtain⟨cs,c1,c2⟩:=h.hz
 have kp:∀s x,s≠m→Aq H s=some x→Aq (Go.Abs.upd H m y) s=some x:= λs x hs hl=>by rw[Ap hs];exact hl
 exact⟨kp _ _ (Ne.symm o.b) h.hb,kp _ _ (Ne.symm o.r) h.hr,⟨cs,c1,kp _ _ (Ne.symm o.z) c2⟩,h.sv.kp λs x hs=>kp s x (λe=>o.v (e▸hs)),h.nv,h.sw.kp λs x hs=>kp s x (λe=>o.w (e▸hs)),h.nw,h.su.kp λs x hs=>kp s x (λe=>o.u (e▸hs)),h.nu,h.br,h.zr,h.av,h.aw,h.au,BR h.wf⟩
theorem YJ {α β:Type} (f:α→List β) (l:List α) (a:α):(l++[a]).flatMap f=l.flatMap f++f a:=by simp
theorem Md.v1 (h:Md b r z ins id ks xs us v w u H) (k:Nat) (hl:ks.length<100):∃v' H',(∀K:KV,DN A0 20 Af Am v (.sl 20 (A2 H) 0 1) ((A2 H,.cells false A0 (GA k))::H) K=K v' H')∧
 (∀K:Hp→Aj,CG Am (.ptr r 1 0) v' H' K=K (Go.Abs.upd H' r (Ho id v' w u0)))∧Md b r z ins id (ks++[k]) xs us v' w u (Go.Abs.upd H' r (Ho id v' w u0)):=by
 obtain⟨v',H',a1,a2,a3,a4,a5,a6⟩:=A7w (ie:=Af) (i2:=Am) (ys:=GA k) h.sv h.wf rfl rfl (by decide) rfl (λ_=>rfl) (by show(_+1)*192≤_;omega) (by omega)
 obtain⟨cs,c1,c2⟩:=h.hz
 have h1:=h.wf.lt h.hb
 have h2:=h.wf.lt h.hr
 have h3:=h.wf.lt c2
 have hr':=a5 _ _ h.hr λe=>(h.av _ e).2.1 rfl
 have kp:∀s x,s≠r→¬AG v s→Aq H s=some x→Aq (Go.Abs.upd H' r (Ho id v' w u0)) s=some x:= λs x hs hn hl=>by rw[Ap hs];exact a5 s x hl hn
 refine⟨v',H',a1,λK=>Ez hr' (show 1<23 by decide) rfl (Bv.cell a2) (Bv.one a2),kp _ _ h.br (λe=>(h.av _ e).1 rfl) h.hb,AB hr',⟨cs,c1,kp _ _ h.zr (λe=>(h.av _ e).2.2.1 rfl) c2⟩,?_,λe=>by simp at e,
  h.sw.kp λs x hs=>kp s x (h.aw s hs).2.1 (h.aw s hs).2.2.2.1,h.nw,h.su.kp λs x hs=>kp s x (h.au s hs).2.1 (h.au s hs).2.2.2.1,h.nu,h.br,h.zr,λs hs=> ?_,λs hs=> ?_,λs hs=> ?_,BR a3⟩
 ·rw[Fl,YJ]
  refine Bv.kp a2 λs x hs hl=> ?_
  have:=a6 s hs
  rw[Ap (by omega)];exact hl
 ·have:=a6 s hs
  exact⟨by omega,by omega,by omega,λe=>by have:=h.sw.lt h.wf e;omega,λe=>by have:=h.su.lt h.wf e;omega⟩
 ·obtain⟨q1,q2,q3,q4,q5⟩:=h.aw s hs
  exact⟨q1,q2,q3,λe=>by have:=a6 s e;have:=h.sw.lt h.wf hs;omega,q5⟩
 ·obtain⟨q1,q2,q3,q4,q5⟩:=h.au s hs
  exact⟨q1,q2,q3,λe=>by have:=a6 s e;have:=h.su.lt h.wf hs;omega,q5⟩
theorem Md.w1 (h:Md b r z ins id ks xs us v w u H) (y:Nd) (hl:xs.length<100):∃w' H',(∀K:KV,DN AH 26 AF A3 w (.sl 26 (A2 H) 0 1) ((A2 H,.cells false AH (ndC y))::H) K=K w' H')∧
 (∀K:Hp→Aj,CG A3 (.ptr r 2 0) w' H' K=K (Go.Abs.upd H' r (Ho id v w' u0)))∧Md b r z ins id ks (xs++[y]) us v w' u (Go.Abs.upd H' r (Ho id v w' u0))∧(∀s x,s≠r→¬AG w s→Aq H s=some x→Aq (Go.Abs.upd H' r (Ho id v w' u0)) s=some x):=by
 obtain⟨w',H',a1,a2,a3,a4,a5,a6⟩:=A7w (ie:=AF) (i2:=A3) (ys:=ndC y) h.sw h.wf rfl rfl (by decide) rfl (λ_=>rfl) (by show(_+1)*256≤_;omega) (by omega)
 obtain⟨cs,c1,c2⟩:=h.hz
 have h1:=h.wf.lt h.hb
 have h2:=h.wf.lt h.hr
 have h3:=h.wf.lt c2
 have hr':=a5 _ _ h.hr λe=>(h.aw _ e).2.1 rfl
 have kp:∀s x,s≠r→¬AG w s→Aq H s=some x→Aq (Go.Abs.upd H' r (Ho id v w' u0)) s=some x:= λs x hs hn hl=>by rw[Ap hs];exact a5 s x hl hn
 refine⟨w',H',a1,λK=>Ez hr' (show 2<23 by decide) rfl (Bv.cell a2) (Bv.one a2),⟨kp _ _ h.br (λe=>(h.aw _ e).1 rfl) h.hb,AB hr',⟨cs,c1,kp _ _ h.zr (λe=>(h.aw _ e).2.2.1 rfl) c2⟩,
  h.sv.kp λs x hs=>kp s x (h.av s hs).2.1 (h.av s hs).2.2.2.1,h.nv,?_,λe=>by simp at e,h.su.kp λs x hs=>kp s x (h.au s hs).2.1 (h.au s hs).2.2.2.2,h.nu,h.br,h.zr,λs hs=> ?_,λs hs=> ?_,λs hs=> ?_,BR a3⟩,kp⟩
 ·rw[Fl,YJ]
  refine Bv.kp a2 λs x hs hl=> ?_
  have:=a6 s hs
  rw[Ap (by omega)];exact hl
 ·obtain⟨q1,q2,q3,q4,q5⟩:=h.av s hs
  exact⟨q1,q2,q3,λe=>by have:=a6 s e;have:=h.sv.lt h.wf hs;omega,q5⟩
 ·have:=a6 s hs
  exact⟨by omega,by omega,by omega,λe=>by have:=h.sv.lt h.wf e;omega,λe=>by have:=h.su.lt h.wf e;omega⟩
 ·obtain⟨q1,q2,q3,q4,q5⟩:=h.au s hs
  exact⟨q1,q2,q3,q4,λe=>by have:=a6 s e;have:=h.su.lt h.wf hs;omega⟩
theorem Md.u1 (h:Md b r z ins id ks xs us v w u H) (k:Nat) (hl:us.length<100):∃u' H',(∀K:KV,DN A0 20 Af Am u (.sl 20 (A2 H) 0 1) ((A2 H,.cells false A0 (GA k))::H) K=K u' H')∧Md b r z ins id ks xs (us++[k]) v w u' H':=by
 obtain⟨u',H',a1,a2,a3,a4,a5,a6⟩:=A7w (ie:=Af) (i2:=Am) (ys:=GA k) h.su h.wf rfl rfl (by decide) rfl (λ_=>rfl) (by show(_+1)*192≤_;omega) (by omega)
 obtain⟨cs,c1,c2⟩:=h.hz
 have h1:=h.wf.lt h.hb
 have h2:=h.wf.lt h.hr
 have h3:=h.wf.lt c2
 refine⟨u',H',a1,a5 _ _ h.hb (λe=>(h.au _ e).1 rfl),a5 _ _ h.hr (λe=>(h.au _ e).2.1 rfl),⟨cs,c1,a5 _ _ c2 (λe=>(h.au _ e).2.2.1 rfl)⟩,
  h.sv.kp λs x hs hl=>a5 s x hl (h.av s hs).2.2.2.2,h.nv,h.sw.kp λs x hs hl=>a5 s x hl (h.aw s hs).2.2.2.2,h.nw,?_,λe=>by simp at e,h.br,h.zr,λs hs=> ?_,λs hs=> ?_,λs hs=> ?_,a3⟩
 ·rw[Fl,YJ]
  exact a2
 ·obtain⟨q1,q2,q3,q4,q5⟩:=h.av s hs
  exact⟨q1,q2,q3,q4,λe=>by have:=a6 s e;have:=h.sv.lt h.wf hs;omega⟩
 ·obtain⟨q1,q2,q3,q4,q5⟩:=h.aw s hs
  exact⟨q1,q2,q3,q4,λe=>by have:=a6 s e;have:=h.sw.lt h.wf hs;omega⟩
 ·have:=a6 s hs
  exact⟨by omega,by omega,by omega,λe=>by have:=h.sv.lt h.wf e;omega,λe=>by have:=h.sw.lt h.wf e;omega⟩
theorem VO {s j:Nat} {K:AV→Aj}:AM j (.ptr s 0 0) K=K (.ptr s j 0):=by rw[fA,KF]
theorem Md.ld1 (h:Md b r z ins id ks xs us v w u H) {K:AV→Aj}:Ar Am (.ptr r 1 0) H K=K v:=AP (p:=1) rfl h.hr (show 1<23 by decide)
theorem Md.ld2 (h:Md b r z ins id ks xs us v w u H) {K:AV→Aj}:Ar A3 (.ptr r 2 0) H K=K w:=AP (p:=2) rfl h.hr (show 2<23 by decide)
def ksM (ins:List Int) (i:Nat):List Nat:=(ins.take i).map λc=>(pk c 7).toNat
theorem B7T {i:Nat} (h:i<ins.length):ksM ins (i+1)=ksM ins i++[(pk ins[i] 7).toNat]:=by
 unfold ksM
 rw[l04 h,Zl];rfl
theorem C4T {count:Int} {xl ex d0 d1 d2:AV} {k259:AV→AV→AV→AV→AV→AV→AV→AV→Hp→Aj} (hL:100<L) (hi:ins.length=3) (hi64:∀c∈ins,Le c) (hc:Le count)
 (hfin:∀v H,Md b r z ins id (ksM ins ((pk count 3).toNat+1)) [] [] v AA AA H→k259 (I count) xl ex (.ptr b 0 0) (.ptr z 0 0) (.ptr r 0 0) (I (((pk count 3).toNat+1:Nat):Int)) d2 H=x):
 ∀(f i:Nat) (v:AV) (H:Hp),i≤(pk count 3).toNat+1→(pk count 3).toNat+1-i<f→Md b r z ins id (ksM ins i) [] [] v AA AA H→
 NU (L+20) (rt (L+20) (n+42)) K k259 f (I count) xl ex (.ptr b 0 0) (.ptr z 0 0) (.ptr r 0 0) (I i) d0 d1 d2 H=x:=by
 have pr:=EU (c:=count) (n:=3) (by decide)
 intro f
 induction f with
 |zero=>intro i v H _ h;omega
 |succ f ih=>
  intro i v H hi' hf hh
  rw[ZD]
  unfold Rb Av
  have hpk:∀H K,Ah (rt (L+20) (n+42)) BO [I count,.v (.int .i64 3)] H K=K (I (pk count 3)):=KM (n:=n+41) hc (by decide) (by decide)
  rw[hpk,X8]
  by_cases h:i≤(pk count 3).toNat
  ·have hlt:i<ins.length:=by omega
   have hb:=hh.hb
   have ld:∀{K},Ar Ab (.ptr b i 0) H K=K (I ins[i]):= λ{K}=>by rw[AP (p:=i) rfl hh.hb (by simp[EG];omega),Qk hlt]
   have ia:∀{K:AV→Aj},B9 PF (.ptr b 0 0) (I i) K=K (.ptr b i 0):= λ{K}=>DZ i rfl rfl (by omega)
   have un:∀{H K},Ah (rt (L+20) (n+42)) Ff [I ins[i]] H K=K (.agg (Ck (uu (pk ins[i] 7).toNat))):= λ{H K}=>A8r (n:=n) (hi64 _ (QE hlt)) H K
   have hlen:(ksM ins i).length<100:=by simp[ksM];omega
   obtain⟨v',H',a1,a2,a3⟩:=hh.v1 (pk ins[i] 7).toNat hlen
   have ok:Ws v v=true:=A6e hh.sv
   have l1:∀{K},Ar Am (.ptr r 1 0) ((A2 H,Row.cells false A0 (GA (pk ins[i] 7).toNat))::H) K=K v:= λ{K}=>AP (p:=1) rfl (AS (hh.wf.lt hh.hr) hh.hr) (show 1<23 by decide)
   rw[decide_eq_true (by omega),De]
   simp only[VO,BN,hh.ld1,ia,ld,un,B26,Cz,a1,a2,l1]
   rw[B48 ok,D4 (by omega)]
   rw[←B7T hlt] at a3
   exact ih (i+1) v' _ (by omega) (by omega) a3
  ·have:i=(pk count 3).toNat+1:=by omega
   subst this
   rw[decide_eq_false (by omega),Bz]
   exact hfin v H hh
theorem C4U {a1 a2 a3 i4 d0:AV} {k214:AV→AV→AV→AV→AV→AV→AV→AV→AV→Hp→Aj} (hL:100<L) (hb:ks.length≤3)
 (hfin:∀w u H,Md b r z ins id ks (KP ks) ks v w u H→k214 a1 a2 a3 (.ptr b 0 0) (.ptr z 0 0) (.ptr r 0 0) i4 u (I ks.length) H=x):
 ∀(f j:Nat) (w u:AV) (H:Hp),j≤ks.length→ks.length-j<f→Md b r z ins id ks ((List.range j).map VD) (ks.take j) v w u H→
 NV (L+20) (rt (L+20) (n+42)) K k214 f a1 a2 a3 (.ptr b 0 0) (.ptr z 0 0) (.ptr r 0 0) i4 u (I j) d0 H=x:=by
 intro f
 induction f with
 |zero=>intro j w u H _ h;omega
 |succ f ih=>
  intro j w u H hi' hf hh
  rw[ZE]
  unfold Re Av
  rw[VO,hh.ld1,JI (t:=Am) rfl hh.sv]
  by_cases h:j<ks.length
  ·have bd:∀{K:AV→Aj},B3 AF [(0,1,.v (.int .i64 2)),(23,1,I j)] K=K (.agg (VD j).cs):= λ{K}=>_root_.id rfl
   obtain⟨w',H',b1,b2,b3, -⟩:=hh.w1 (VD j) (by simp;omega)
   obtain⟨a,g1,g2⟩:=A9N b3.sv h
   obtain⟨u',H2,e1,e2⟩:=b3.u1 ks[j] (by simp;omega)
   rw[FW (by omega),De,VO,hh.ld2,bd,C6a,b1,VO,b2,VO,b3.ld1,g1,g2,B26,e1,D4 (by omega)]
   refine ih (j+1) w' u' H2 (by omega) (by omega) ?_
   rw[List.range_succ,Zl,l04 h]
   exact e2
  ·have:j=ks.length:=by omega
   subst this
   rw[FE (by omega),Bz]
   rw[l06] at hh
   exact hfin w u H hh
end
end
section
variable {L n:Nat}
def exO (ks:List Nat) (q a13 b4 k7 e5 l r:Nat):Ex:=match q with
 |0=> .cn (YH a13 b4) k7
 |1=> .inp l
 |6=>match Uc (ks.getD l 0) e5 with
  |some k=> .po l e5 k
  |none=> .no
 |7=> .no
 |q=>match Su (q-2) (ks.getD l 0) (ks.getD r 0) with
  |some k=> .bi (q+1) l r k
  |none=> .no
def exM (ks:List Nat) (y0 y1 y2 y3:Int):Ex:=exO ks (pk y0 8).toNat (pk y1 13).toNat (pk y2 4).toNat (pk y3 7).toNat (pk y2 5).toNat (pk y1 ks.length).toNat (pk y2 ks.length).toNat
theorem B4Q {ks:List Nat} {q a13 b4 k7 e5 l r:Nat} (h:2≤q) (h':q<6):exO ks q a13 b4 k7 e5 l r=match Su (q-2) (ks.getD l 0) (ks.getD r 0) with
 |some k=> .bi (q+1) l r k
 |none=> .no:=by
 obtain rfl|rfl|rfl|rfl:q=2∨q=3∨q=4∨q=5:=by omega
 all_goals rfl
theorem A6Z {a b:Nat} (ha:a<13) (hb:b<4):YH a b<33:=by
 have:=HB.1 (show((List.range 52).all λi=>decide (YH (i/4) (i%4)<33))=true by kernel_rfl) (4*a+b) (Ju.2 (by omega))
 rw[show(4*a+b)/4=a by omega,show(4*a+b)%4=b by omega] at this
 simpa using this
theorem Mj {c m:Int} (h:0<m):∃k:Nat,pk c m=k∧(k:Int)<m∧(pk c m).toNat=k:=by
 have:=EU (c:=c) h
 exact⟨(pk c m).toNat,by omega,by omega,rfl⟩
theorem C2S {ks:List Nat} {y0 y1 y2 y3:Int} (h1:1≤ks.length):(exM ks y0 y1 y2 y3).Ok ks:=by
 obtain⟨q, -,h2,e0⟩:=Mj (c:=y0) (m:=8) (by decide)
 obtain⟨a, -,ha,ea⟩:=Mj (c:=y1) (m:=13) (by decide)
 obtain⟨b, -,hb,eb⟩:=Mj (c:=y2) (m:=4) (by decide)
 obtain⟨k, -,hk,ek⟩:=Mj (c:=y3) (m:=7) (by decide)
 obtain⟨e, -,he,ee⟩:=Mj (c:=y2) (m:=5) (by decide)
 obtain⟨l, -,hl,el⟩:=Mj (c:=y1) (m:=ks.length) (by omega)
 obtain⟨r, -,hr,er⟩:=Mj (c:=y2) (m:=ks.length) (by omega)
 unfold exM
 rw[e0,ea,eb,ek,ee,el,er]
 by_cases hq:2≤q∧q<6
 ·rw[B4Q hq.1 hq.2]
  cases hu:Su (q-2) (ks.getD l 0) (ks.getD r 0) with
  |none=>exact trivial
  |some k=>exact⟨by omega,by omega,by omega,by omega,hu⟩
 ·obtain rfl|rfl|rfl|rfl:q=0∨q=1∨q=6∨q=7:=by omega
  ·exact⟨A6Z (by omega) (by omega),by omega⟩
  ·show l<ks.length;omega
  ·show(match Uc (ks.getD l 0) e with
    |some k=>Ex.po l e k
    |none=> .no).Ok ks
   cases hu:Uc (ks.getD l 0) e with
   |none=>exact trivial
   |some k=>exact⟨by omega,by omega,hu⟩
  ·exact trivial
section
variable {K:KV} {x:Aj} {ins:List Int} {id:Int} {ks us:List Nat} {xs:List Nd} {v w u:AV} {b r z m:Nat} {H H':Hp} {y0 y1 y2 y3:Int}
theorem A9O {ks:List Nat} (h:1≤ks.length):PC ks=BH ks:=by cases ks with|nil=>simp at h|cons _ _=>rfl
theorem B07 {xs:List Nd} (h:1≤xs.length):ndL xs=Cb xs:=by cases xs with|nil=>simp at h|cons _ _=>rfl
theorem Md.proc (h:Md b r z ins id ks xs us v w u H) (h1:1≤ks.length) (h2:1≤xs.length) {D:Nat} {bb:Bool}:∃q,Fx bb (D+2) (.agg (B2 id v w u0)) (.agg (B2 id (BH ks) (Cb xs) u0)) H q:=by
 obtain⟨q1,e1⟩:=YG (D:=D) (b:=bb) h.sv h.nv
 obtain⟨q2,e2⟩:=B4D (D:=D) (b:=bb) h.sw h.nw
 rw[A9O h1] at e1
 rw[B07 h2] at e2
 exact⟨_,Qm (D:=D+1) (Ay (q:=false) D2 (Ay e1 (Ay e2 (KA (b:=bb) (D:=D+1) (H:=H) (λx:Value=>x) [.int .i64 u0.p0,.int .i64 u0.q0,.int .i64 u0.p1,.int .i64 u0.q1,.int .i64 u0.p2,.int .i64 u0.q2,.int .i64 u0.p3,.int .i64 u0.q3,.int .i64 u0.p4,.int .i64 u0.q4,.int .i64 u0.p5,.int .i64 u0.q5,.int .i64 u0.p6,.int .i64 u0.q6,
  .string ⟨⟨u0.fn⟩⟩,.string ⟨⟨u0.fd⟩⟩,.string ⟨⟨u0.on⟩⟩,.string ⟨⟨u0.od⟩⟩,.int .i64 u0.kd,.int .i64 u0.sc]))))⟩
theorem C2n {y:Nd} {D:Nat} {b:Bool} {H:Hp}:Fx b (D+1) (.agg y.cs) (.agg y.cs) H false:= λK=>by cases D<;>cases b<;>kernel_rfl
theorem Md.ty (h:Md b r z ins id ks (KP ks) ks v w u H) (h1:1≤ks.length) {y:Nd} {t:AV} (hT:CS (rt (L+20) (n+42)) Ci [.agg (B2 id (BH ks) (Cb (KP ks)) u0),.agg y.cs,I ks.length,PC ks] t) {K:AV→Aj}:
 Ah (rt (L+20) (n+42)) Ci [.agg (B2 id v w u0),.agg y.cs,I ks.length,u] H K=K t:=by
 obtain⟨q1,e1⟩:=h.proc h1 (by rw[En];exact h1) (D:=depth-2) (bb:=true)
 obtain⟨q2,e2⟩:=B9b (b:=true) h.su h.nu
 exact Ba hT (Ay e1 (Ay (C2n (D:=depth-1)) (Ay (q:=false) D2 (Ay e2 Be))))
end
end
section
variable {L n:Nat}
section
variable {K:KV} {x:Aj} {ins:List Int} {id:Int} {ks us:List Nat} {xs:List Nd} {v w u:AV} {b r z m:Nat} {H H':Hp} {y0 y1 y2 y3:Int}
theorem C4V {a1 i4 j5:AV} {k49:AV→AV→AV→Hp→Aj} (h:Md b r z ins id ks (KP ks) ks v w u H) (k1:1≤ks.length) (k3:ks.length≤3) (k7:∀k∈ks,k<7) (i0:Le y0) (i1:Le y1) (i2:Le y2) (i3:Le y3)
 (hfin:∀w' u' H',Md b r z ins id ks (KP ks++(exM ks y0 y1 y2 y3).nd) (ks++(exM ks y0 y1 y2 y3).ty ks) v w' u' H'→k49 (.ptr z 0 0) (.ptr r 0 0) u' H'=x) (f:Nat):
 Jt (L+20) (rt (L+20) (n+42)) K k49 (f+2) a1 (.list 1 [I y0,I y1,I y2,I y3]) (Bo true) (.ptr b 0 0) (.ptr z 0 0) (.ptr r 0 0) i4 u j5 (I ((0:Nat):Int)) H=x:=by
 have ex:∀w' u' H',Md b r z ins id ks (KP ks++(exM ks y0 y1 y2 y3).nd) (ks++(exM ks y0 y1 y2 y3).ty ks) v w' u' H'→Jt (L+20) (rt (L+20) (n+42)) K k49 (f+1) a1 (.list 1 [I y0,I y1,I y2,I y3]) (Bo true) (.ptr b 0 0) (.ptr z 0 0) (.ptr r 0 0) i4 u' j5 (I ((0+1:Nat):Int)) H'=x:=by
  intro w' u' H' hh
  rw[OE]
  unfold KK Bc BS Av Gb Dr
  have el:∀{K:AV→Aj},AQ Ia (.list 1 [I y0,I y1,I y2,I y3]) K=K (I ((1:Nat):Int)):= λ{K}=>_root_.id rfl
  rw[el,FE (by omega)]
  simp only[gTF,Cz,WV]
  rw[Bz]
  exact hfin w' u' H' hh
 rw[OE]
 unfold KK Bc BS Av Gb Dr
 have el:∀{K:AV→Aj},AQ Ia (.list 1 [I y0,I y1,I y2,I y3]) K=K (I ((1:Nat):Int)):= λ{K}=>_root_.id rfl
 have e14:(AV.v (.int .i64 14))=I ((14:Nat):Int):=rfl
 have hw:=h.sw
 rw[En] at hw
 rw[el,FW (by omega),e14]
 simp only[gT,Cz,VO,h.ld2,JI (t:=A3) rfl hw]
 rw[FW (by omega),Cz,XO,De]
 refine Ly λk76 h76=> ?_
 refine Ly λk80 h80=> ?_
 have hk80:∀w' u' H',Md b r z ins id ks (KP ks++(exM ks y0 y1 y2 y3).nd) (ks++(exM ks y0 y1 y2 y3).ty ks) v w' u' H'→k80 u' H'=x:=by
  intro w' u' H' hh
  rw[h80,h76]
  have ad:∀{K:AV→Aj},Go.Abs.Ak Ab .add (I ((0:Nat):Int)) (.v (.int .i64 1)) K=K (I ((0+1:Nat):Int)):= λ{K}=>D4 (by omega)
  simp only[ad]
  exact ex w' u' H' hh
 clear h76 h80 ex hfin
 have ia0:∀{K:AV→Aj},B9 Ia (.list 1 [I y0,I y1,I y2,I y3]) (I ((0:Nat):Int)) K=K (.iptr [I y0,I y1,I y2,I y3]):= λ{K}=>_root_.id rfl
 have ld0:∀{H} {K:AV→Aj},Ar Cl (.iptr [I y0,I y1,I y2,I y3]) H K=K (.agg [I y0,I y1,I y2,I y3]):= λ{H K}=>_root_.id rfl
 obtain⟨H1,e1,m1,w1,kp1⟩:=Er (e:=Gf) (zs:=[zI,zI,zI,zI]) (vs:=[I y0,I y1,I y2,I y3]) h.wf rfl
 rw[ia0,ld0,Bi (cs:=[zI,zI,zI,zI]) rfl,B7 (cs:=[zI,zI,zI,zI]) (vs:=[I y0,I y1,I y2,I y3]) (A1 (by simp)) rfl rfl rfl,←e1]
 have o4:=h.oth
 have h1:=h.grow w1 λs x hs=>(kp1 s x hs).1
 generalize A2 H=q4 at m1 o4
 clear kp1 e1
 have hw1:=h1.sw
 rw[En] at hw1
 rw[h1.ld2,JI (t:=A3) rfl hw1]
 have y4:∀{H2:Hp} {K:AV→Aj},Aq H2 q4=some (.cells true Gf [I y0,I y1,I y2,I y3])→(B9 Cl (.ptr q4 0 0) (.v (.int .i64 0)) λp=>Ar Ab p H2 K)=K (I y0):= λ{H2 K} hl=>by
  rw[DZ (z:=0) 0 rfl rfl (by decide),AP (p:=0) rfl hl (by simp)];rfl
 have y41:∀{H2:Hp} {K:AV→Aj},Aq H2 q4=some (.cells true Gf [I y0,I y1,I y2,I y3])→(B9 Cl (.ptr q4 0 0) (.v (.int .i64 1)) λp=>Ar Ab p H2 K)=K (I y1):= λ{H2 K} hl=>by
  rw[DZ (z:=1) 1 rfl rfl (by decide),AP (p:=1) rfl hl (by simp)];rfl
 have y42:∀{H2:Hp} {K:AV→Aj},Aq H2 q4=some (.cells true Gf [I y0,I y1,I y2,I y3])→(B9 Cl (.ptr q4 0 0) (.v (.int .i64 2)) λp=>Ar Ab p H2 K)=K (I y2):= λ{H2 K} hl=>by
  rw[DZ (z:=2) 2 rfl rfl (by decide),AP (p:=2) rfl hl (by simp)];rfl
 have y43:∀{H2:Hp} {K:AV→Aj},Aq H2 q4=some (.cells true Gf [I y0,I y1,I y2,I y3])→(B9 Cl (.ptr q4 0 0) (.v (.int .i64 3)) λp=>Ar Ab p H2 K)=K (I y3):= λ{H2 K} hl=>by
  rw[DZ (z:=3) 3 rfl rfl (by decide),AP (p:=3) rfl hl (by simp)];rfl
 obtain⟨q,pq,hq,eq⟩:=Mj (c:=y0) (m:=8) (by decide)
 obtain⟨a13,pa,ha,ea⟩:=Mj (c:=y1) (m:=13) (by decide)
 obtain⟨b4,pb,hb,eb⟩:=Mj (c:=y2) (m:=4) (by decide)
 obtain⟨k7',pk7,hk,ek⟩:=Mj (c:=y3) (m:=7) (by decide)
 obtain⟨e5,pe,he,ee⟩:=Mj (c:=y2) (m:=5) (by decide)
 obtain⟨l,pl,hl,el⟩:=Mj (c:=y1) (m:=ks.length) (by omega)
 obtain⟨rr,pr,hr,er⟩:=Mj (c:=y2) (m:=ks.length) (by omega)
 have hpk0:∀H K,Ah (rt (L+20) (n+42)) BO [I y0,.v (.int .i64 8)] H K=K (I (q:Int)):=by rw[←pq];exact KM (n:=n+41) i0 (by decide) (by decide)
 have hpk13:∀H K,Ah (rt (L+20) (n+42)) BO [I y1,.v (.int .i64 13)] H K=K (I (a13:Int)):=by rw[←pa];exact KM (n:=n+41) i1 (by decide) (by decide)
 have hpk4:∀H K,Ah (rt (L+20) (n+42)) BO [I y2,.v (.int .i64 4)] H K=K (I (b4:Int)):=by rw[←pb];exact KM (n:=n+41) i2 (by decide) (by decide)
 have hpk5:∀H K,Ah (rt (L+20) (n+42)) BO [I y2,.v (.int .i64 5)] H K=K (I (e5:Int)):=by rw[←pe];exact KM (n:=n+41) i2 (by decide) (by decide)
 have hpkl:∀H K,Ah (rt (L+20) (n+42)) BO [I y1,I ks.length] H K=K (I (l:Int)):=by rw[←pl];exact KM (n:=n+41) i1 (by omega) (by omega)
 have hpkr:∀H K,Ah (rt (L+20) (n+42)) BO [I y2,I ks.length] H K=K (I (rr:Int)):=by rw[←pr];exact KM (n:=n+41) i2 (by omega) (by omega)
 have hun:∀H K,Ah (rt (L+20) (n+42)) Ff [I y3] H K=K (.agg (Ck (uu k7'))):=by rw[←ek];exact A8r (n:=n) i3
 have hex:exM ks y0 y1 y2 y3=exO ks q a13 b4 k7' e5 l rr:=by unfold exM;rw[eq,ea,eb,ek,ee,el,er]
 rw[hex] at hk80
 clear hex pq pa pb pk7 pe pl pr eq ea eb ek ee el er
 have bd:∀{z:Int} {K:AV→Aj},B3 AF [(0,1,I z)] K=K (.agg (Nd.mk z [] [] u0 0 0 0).cs):= λ{z K}=>_root_.id rfl
 have ad:∀{K:AV→Aj},Go.Abs.Ak Ab .add (.v (.int .i64 1)) (I (q:Int)) K=K (I ((q+1:Nat):Int)):= λ{K}=>by
  rw[CH,Cp (by omega) (by omega)];rw[show(1:Int)+(q:Int)=((q+1:Nat):Int) by omega]
 rw[y4 m1,hpk0,ad,bd]
 obtain⟨H2,e2,m2,w2,kp2⟩:=Er (e:=AH) (zs:=(Nd.mk 0 [] [] u0 0 0 0).cs) (vs:=(Nd.mk ((q+1:Nat):Int) [] [] u0 0 0 0).cs) h1.wf rfl
 rw[Bi (cs:=(Nd.mk 0 [] [] u0 0 0 0).cs) rfl,B7 (cs:=(Nd.mk 0 [] [] u0 0 0 0).cs) (vs:=(Nd.mk ((q+1:Nat):Int) [] [] u0 0 0 0).cs) (A1 (by simp)) rfl rfl rfl,←e2]
 have o:=h1.oth
 have h2:=h1.grow w2 λs x hs=>(kp2 s x hs).1
 obtain⟨m4,nqm⟩:=kp2 _ _ m1
 generalize A2 H1=m at m2 o nqm
 clear kp2 e2
 refine Ly λk101 h101=> ?_
 have tail:∀(nd:Nd) (Hm:Hp) (U:UD) (e:Int),Md b r z ins id ks (KP ks) ks v w u Hm→Aq Hm m=some (.cells true AH nd.cs)→
  CS (rt (L+20) (n+42)) Ci [.agg (B2 id (BH ks) (Cb (KP ks)) u0),.agg nd.cs,I ks.length,PC ks] (.tup [.agg (Ck U),I e])→
  (e=0∧nd.op≠8→∃k,U=uu k∧(exO ks q a13 b4 k7' e5 l rr).nd=[nd]∧(exO ks q a13 b4 k7' e5 l rr).ty ks=[k])→(¬(e=0∧nd.op≠8)→(exO ks q a13 b4 k7' e5 l rr).nd=[]∧(exO ks q a13 b4 k7' e5 l rr).ty ks=[])→k101 Hm=x:=by
  intro nd Hm U e hm mm hT hg hbad
  have lp:∀{K},Ar A9 (.ptr r 0 0) Hm K=K (.agg (B2 id v w u0)):= λ{K}=>Bq rfl rfl hm.hr
  have ln:∀{K},Ar AF (.ptr m 0 0) Hm K=K (.agg nd.cs):= λ{K}=>Bq rfl rfl mm
  rw[h101]
  simp only[lp,ln,hm.ty k1 hT]
  obtain⟨H3,e3,m3,w3,kp3⟩:=Er (e:=A0) (zs:=XA0) (vs:=Ck U) hm.wf rfl
  rw[CZ,CY,Bi (cs:=XA0) rfl,B7 (cs:=XA0) (vs:=Ck U) (A1 (by simp)) rfl rfl rfl,←e3]
  have o3:=hm.oth
  have h3:=hm.grow w3 λs x hs=>(kp3 s x hs).1
  obtain⟨m5, -⟩:=kp3 _ _ mm
  generalize A2 Hm=q3 at m3 o3
  clear kp3 e3
  have ln3:∀{K},Ar AF (.ptr m 0 0) H3 K=K (.agg nd.cs):= λ{K}=>Bq rfl rfl m5
  have lo3:∀{K},Ar Ab (.ptr m 0 0) H3 K=K (I nd.op):= λ{K}=>AP (p:=0) rfl m5 (show 0<26 by decide)
  rw[Dd]
  by_cases he0:e=0
  ·rw[decide_eq_true he0]
   simp only[gT,Cz,ntT,VO,lo3,G6,XO,WV]
   by_cases h8:nd.op=8
   ·obtain⟨g1,g2⟩:=hbad λhh=>hh.2 h8
    rw[decide_eq_true h8]
    show Aw (Bo false) _ _=_
    rw[Bz]
    refine hk80 w u H3 ?_
    rw[g1,g2,XR,XR]
    exact h3
   ·obtain⟨k,rfl,g1,g2⟩:=hg ⟨he0,h8⟩
    rw[decide_eq_false h8]
    show Aw (Bo true) _ _=_
    obtain⟨w',H4,a1,a2,a3,a4⟩:=h3.w1 nd (by rw[En];omega)
    obtain⟨u',H5,b1,b2⟩:=a3.u1 k (by omega)
    have lu:∀{K},Ar Af (.ptr q3 0 0) (Go.Abs.upd H4 r (Ho id v w' u0)) K=K (.agg (Ck (uu k))):= λ{K}=>Bq rfl rfl (a4 _ _ o3.r o3.w m3)
    rw[De,h3.ld2,ln3,C6a,a1,a2,lu,B26,b1]
    refine hk80 w' u' H5 ?_
    rw[g1,g2]
    exact b2
  ·obtain⟨g1,g2⟩:=hbad λhh=>he0 hh.1
   rw[decide_eq_false he0]
   simp only[gTF,Cz,gU,WV]
   rw[Bz]
   refine hk80 w u H3 ?_
   rw[g1,g2,XR,XR]
   exact h3
 clear h101 hk80
 have lo:∀{K},Ar Ab (.ptr m 0 0) H2 K=K (I ((q+1:Nat):Int)):= λ{K}=>AP (p:=0) rfl m2 (show 0<26 by decide)
 rw[VO,lo]
 refine Ly λk145 h145=> ?_
 have h145':∀H,k145 H=k101 H:= λH=>by rw[h145]
 clear h145
 have sm:∀{cs:List AV} {Hx:Hp},Aq Hx q4=some (.cells true Gf [I y0,I y1,I y2,I y3])→Aq (Go.Abs.upd Hx m (.cells true AH cs)) q4=some (.cells true Gf [I y0,I y1,I y2,I y3]):= λhl=>by rw[Ap nqm];exact hl
 rw[Dd]
 by_cases hq26:2≤q∧q<6
 ·have hT:=A9X (L:=L) (n:=n) (id:=id) (o:=u0) (xs:=KP ks) (op:=q+1) k1 k3 k7 (show l<ks.length by omega) (show rr<ks.length by omega) (by omega) (by omega)
  rw[show q+1-3=q-2 by omega] at hT
  rw[decide_eq_false (by omega),Bz,Dd,decide_eq_false (by omega),Bz,Dd,decide_eq_false (by omega),Bz,Dd,decide_eq_false (by omega),Bz,
   y41 m4,hpkl,VO,Ez m2 (show 24<26 by decide) rfl rfl rfl,y42 (sm m4),hpkr,VO,Ez (AB m2) (show 25<26 by decide) rfl rfl rfl,h145']
  have hx:=B4Q (ks:=ks) (a13:=a13) (b4:=b4) (k7:=k7') (e5:=e5) (l:=l) (r:=rr) hq26.1 hq26.2
  have hm:=(h2.upd o (.cells true AH ((Nd.mk ((q+1:Nat):Int) [] [] u0 0 0 0).cs.set 24 (I (l:Int))))).upd o (.cells true AH (((Nd.mk ((q+1:Nat):Int) [] [] u0 0 0 0).cs.set 24 (I (l:Int))).set 25 (I (rr:Int))))
  cases hu:Su (q-2) (ks.getD l 0) (ks.getD rr 0) with
  |none=>
   rw[hu] at hT hx
   exact tail (biN (q+1) l rr) _ u0 90 hm (AB (AB m2)) hT (λhh=>absurd hh.1 (by decide)) (λ_=>by rw[hx];exact⟨rfl,rfl⟩)
  |some k=>
   rw[hu] at hT hx
   refine tail (biN (q+1) l rr) _ (uu k) 0 hm (AB (AB m2)) hT (λ_=>⟨k,rfl,by rw[hx];exact⟨rfl,rfl⟩⟩) (λhh=>absurd ⟨rfl,?_⟩ hh)
   show((q+1:Nat):Int)≠8
   omega
 ·obtain rfl|rfl|rfl|rfl:q=0∨q=1∨q=6∨q=7:=by omega
  ·have ia1:∀{K:AV→Aj},B9 Cl (.ptr q4 0 0) (.v (.int .i64 1)) K=K (.ptr q4 1 0):= λ{K}=>DZ (z:=1) 1 rfl rfl (by decide)
   have ia2:∀{K:AV→Aj},B9 Cl (.ptr q4 0 0) (.v (.int .i64 2)) K=K (.ptr q4 2 0):= λ{K}=>DZ (z:=2) 2 rfl rfl (by decide)
   have d1:∀{K:AV→Aj},Ar Ab (.ptr q4 1 0) H2 K=K (I y1):= λ{K}=>AP (p:=1) rfl m4 (by simp)
   have d2:∀{K:AV→Aj},Ar Ab (.ptr q4 2 0) H2 K=K (I y2):= λ{K}=>AP (p:=2) rfl m4 (by simp)
   have sb:∀{K:AV→Aj},Go.Abs.Ak Ab .sub (I (a13:Int)) (.v (.int .i64 6)) K=K (I ((a13:Int)-6)):= λ{K}=>by rw[HY,Cp (by omega) (by omega)]
   have ad4:∀{K:AV→Aj},Go.Abs.Ak Ab .add (.v (.int .i64 1)) (I (b4:Int)) K=K (I (1+(b4:Int))):= λ{K}=>by rw[CH,Cp (by omega) (by omega)]
   have hof:∀H K,Ah (rt (L+20) (n+42)) Fg [I ((a13:Int)-6),I (1+(b4:Int))] H K=K (.tup [.agg (Ww (YH a13 b4)),I 0]):=by
    have:=C1U L (n+2) (4*a13+b4) (by omega)
    rw[show(4*a13+b4)/4=a13 by omega,show(4*a13+b4)%4=b4 by omega] at this
    exact this
   have hT:=A6p (L:=L) (n:=n) (id:=id) (o:=u0) (xs:=KP ks) (ks:=ks) (at_:=ks.length) (w:=PC ks) (A6Z (a:=a13) (b:=b4) (by omega) (by omega)) (show k7'<7 by omega)
   rw[decide_eq_true (by rfl),De]
   simp only[ia1,ia2,d1,d2,hpk13,hpk4,sb,ad4,hof,CZ,CY,VO,BN]
   rw[YP (vs:=Ww (YH a13 b4)) m2 (show 1+2≤26 by decide) rfl rfl,Cz,y43 (sm m4),hun,YP (vs:=Ck (uu k7')) (AB m2) (show 3+20≤26 by decide) rfl rfl,h145']
   have hm:=(h2.upd o (.cells true AH (splice (Nd.mk ((0+1:Nat):Int) [] [] u0 0 0 0).cs 1 (Ww (YH a13 b4))))).upd o (.cells true AH (splice (splice (Nd.mk ((0+1:Nat):Int) [] [] u0 0 0 0).cs 1 (Ww (YH a13 b4))) 3 (Ck (uu k7'))))
   exact tail (cnN (YH a13 b4) k7') _ (uu k7') 0 hm (AB (AB m2)) hT (λ_=>⟨k7',rfl,rfl,rfl⟩) (λhh=>absurd ⟨rfl,show(1:Int)≠8 by decide⟩ hh)
  ·have hT:=Vo (L:=L) (n:=n+39) (id:=id) (o:=u0) (xs:=KP ks) (ks:=ks) (i:=l) (by omega) (by omega) (at_:=ks.length) (w:=PC ks)
   have eg:ks[l]'(by omega)=ks.getD l 0:=by simp[List.getD,Kq (show l<ks.length by omega)]
   rw[eg] at hT
   rw[decide_eq_false (by decide),Bz,Dd,decide_eq_true (by rfl),De,y41 m4,h2.ld1,JI (t:=Am) rfl h2.sv,hpkl,VO,Ez m2 (show 23<26 by decide) rfl rfl rfl,h145']
   have hm:=h2.upd o (.cells true AH ((Nd.mk ((1+1:Nat):Int) [] [] u0 0 0 0).cs.set 23 (I (l:Int))))
   exact tail (VD l) _ (uu (ks.getD l 0)) 0 hm (AB m2) hT (λ_=>⟨ks.getD l 0,rfl,rfl,rfl⟩) (λhh=>absurd ⟨rfl,show(2:Int)≠8 by decide⟩ hh)
  ·have hT:=A9W (L:=L) (n:=n) (id:=id) (o:=u0) (xs:=KP ks) k1 k3 k7 (show l<ks.length by omega) (show e5<5 by omega)
   have bs5:∀{Hx:Hp} {K:KV},F3 DA 1 Ab 5 [(0,1,(AV.v (.int .i64 2))),(1,1,(AV.v (.int .i64 (-1)))),(2,1,(AV.v (.int .i64 3))),(3,1,(AV.v (.int .i64 (-2)))),(4,1,(AV.v (.int .i64 1)))] Hx K=K (.sl 1 (A2 Hx) 0 5) ((A2 Hx,.cells false DA [I 2,I (-1),I 3,I (-2),I 1])::Hx):= λ{Hx K}=>by
    have e:F3 DA 1 Ab 5 [(0,1,(AV.v (.int .i64 2))),(1,1,(AV.v (.int .i64 (-1)))),(2,1,(AV.v (.int .i64 3))),(3,1,(AV.v (.int .i64 (-2)))),(4,1,(AV.v (.int .i64 1)))] Hx K=XA3 Hx (λs=>K (.sl 1 s 0 5) ((s,.cells false DA [I 2,I (-1),I 3,I (-2),I 1])::Hx)):=_root_.id rfl
    rw[e,BZ]
   have ia5:∀{s:Nat} {K:AV→Aj},B9 Ag (.sl 1 s 0 5) (I (e5:Int)) K=K (.ptr s e5 0):= λ{s K}=>by
    have e1:B9 Ag (.sl 1 s 0 5) (I (e5:Int)) K=iN (e5:Int) λm=>ck (Nat.blt m 5) (fN (Nat.add 0 (Nat.mul m 1)) λp=>K (.ptr s p 0)):=_root_.id rfl
    rw[e1,Jn,Di]
    have h3:Nat.blt e5 5=true:=by rw[UK];omega
    rw[h3]
    show K (.ptr s (0+e5*1) 0)=_
    rw[KF,l28]
   have gd:([I 2,I (-1),I 3,I (-2),I 1]:List AV).getD e5 .dk=I (YN e5):=by
    obtain rfl|rfl|rfl|rfl|rfl:e5=0∨e5=1∨e5=2∨e5=3∨e5=4:=by omega
    all_goals rfl
   rw[decide_eq_false (by decide),Bz,Dd,decide_eq_false (by decide),Bz,Dd,decide_eq_true (by rfl),De,y41 m4,hpkl,VO,Ez m2 (show 24<26 by decide) rfl rfl rfl,bs5]
   have m3:=AB (q:=true) (e:=AH) (cs:=(Nd.mk ((6+1:Nat):Int) [] [] u0 0 0 0).cs.set 24 (I (l:Int))) m2
   have h3:=h2.upd o (.cells true AH ((Nd.mk ((6+1:Nat):Int) [] [] u0 0 0 0).cs.set 24 (I (l:Int))))
   have s3:=sm (cs:=(Nd.mk ((6+1:Nat):Int) [] [] u0 0 0 0).cs.set 24 (I (l:Int))) m4
   generalize Go.Abs.upd H2 m (.cells true AH ((Nd.mk ((6+1:Nat):Int) [] [] u0 0 0 0).cs.set 24 (I (l:Int))))=H3 at m3 h3 s3
   have w4:=Br (x:= .cells false DA [I 2,I (-1),I 3,I (-2),I 1]) h3.wf
   have k4:∀s x,Aq H3 s=some x→Aq ((A2 H3,.cells false DA [I 2,I (-1),I 3,I (-2),I 1])::H3) s=some x:= λs x hs=>AS (h3.wf.lt hs) hs
   have h4:=h3.grow w4 k4
   have m4':=k4 _ _ m3
   have s4:=k4 _ _ s3
   have n4:=A1 (H:=H3) (x:= .cells false DA [I 2,I (-1),I 3,I (-2),I 1]) (by simp)
   generalize ((A2 H3,Row.cells false DA [I 2,I (-1),I 3,I (-2),I 1])::H3)=H4 at h4 m4' s4 n4
   rw[y42 s4,hpk5,ia5,AP (p:=e5) rfl n4 (show e5<5 by omega),gd,VO,Ez m4' (show 23<26 by decide) rfl rfl rfl,h145']
   have hm:=h4.upd o (.cells true AH (((Nd.mk ((6+1:Nat):Int) [] [] u0 0 0 0).cs.set 24 (I (l:Int))).set 23 (I (YN e5))))
   have hx:exO ks 6 a13 b4 k7' e5 l rr=match Uc (ks.getD l 0) e5 with
    |some k=> .po l e5 k
    |none=> .no:=rfl
   cases hu:Uc (ks.getD l 0) e5 with
   |none=>
    rw[hu] at hT hx
    exact tail (poN l e5) _ u0 90 hm (AB m4') hT (λhh=>absurd hh.1 (by decide)) (λ_=>by rw[hx];exact⟨rfl,rfl⟩)
   |some k=>
    rw[hu] at hT hx
    exact tail (poN l e5) _ (uu k) 0 hm (AB m4') hT (λ_=>⟨k,rfl,by rw[hx];exact⟨rfl,rfl⟩⟩) (λhh=>absurd ⟨rfl,show(7:Int)≠8 by decide⟩ hh)
  ·have g7:=La k7 (show l<ks.length by omega)
   have he:=HB.1 (show((List.range 7).all λk=>decide ((usq k).2=0∨(usq k).2=70))=true by kernel_rfl) (ks.getD l 0) (Ju.2 g7)
   have hT:=B7f (L:=L) (n:=n) (id:=id) (o:=u0) (xs:=KP ks) (of_decide_eq_true he) k1 k3 (show l<ks.length by omega) (C4B L (n+1) _ g7).o
   rw[decide_eq_false (by decide),Bz,Dd,decide_eq_false (by decide),Bz,Dd,decide_eq_false (by decide),Bz,Dd,decide_eq_true (by rfl),De,y41 m4,hpkl,VO,Ez m2 (show 24<26 by decide) rfl rfl rfl,h145']
   have hm:=h2.upd o (.cells true AH ((Nd.mk ((7+1:Nat):Int) [] [] u0 0 0 0).cs.set 24 (I (l:Int))))
   by_cases h0:(usq (ks.getD l 0)).2=0
   ·rw[if_pos h0] at hT
    exact tail (sqN l) _ _ 0 hm (AB m2) hT (λhh=>absurd rfl hh.2) (λ_=>⟨rfl,rfl⟩)
   ·rw[if_neg h0] at hT
    exact tail (sqN l) _ u0 90 hm (AB m2) hT (λhh=>absurd rfl hh.2) (λ_=>⟨rfl,rfl⟩)
end
end
section
variable {L n:Nat}
abbrev Y4:=Option (Int×Int×Int×Int)
def exY (ks:List Nat):Y4→Ex
 |none=> .no
 |some (a,b,c,d)=>exM ks a b c d
def yA:Y4→AV
 |none=>AA
 |some (a,b,c,d)=> .list 1 [I a,I b,I c,I d]
def yI:Y4→Prop
 |none=>True
 |some (a,b,c,d)=>Le a∧Le b∧Le c∧Le d
def prM (ins:List Int) (count:Int) (y:Y4):Pr:=⟨1+(pk count 900).toNat,ksM ins ((pk count 3).toNat+1),exY (ksM ins ((pk count 3).toNat+1)) y⟩
section
variable {K:KV} {x:Aj} {ins:List Int} {id:Int} {ks us:List Nat} {xs:List Nd} {v w u:AV} {b r z m:Nat} {H H':Hp} {count:Int} {y:Y4}
theorem B0d (h:ins.length=3):(ksM ins ((pk count 3).toNat+1)).length=(pk count 3).toNat+1∧(pk count 3).toNat<3:=by
 have pr:=EU (c:=count) (n:=3) (by decide)
 unfold ksM
 rw[Wv,l0g]
 omega
theorem B96 {i:Nat}:∀k∈ksM ins i,k<7:=by
 intro k hk
 obtain⟨c,_,rfl⟩:=l2a.1 hk
 have pr:=EU (c:=c) (n:=7) (by decide)
 omega
theorem A8A (h:ins.length=3):(prM ins count y).Ok:=by
 have pr:=EU (c:=count) (n:=900) (by decide)
 obtain⟨h1,h2⟩:=B0d (count:=count) h
 have h3:(prM ins count y).ks.length=(pk count 3).toNat+1:=h1
 refine⟨by show 1≤1+_;omega,by show 1+_<950;omega,by rw[h3];omega,by rw[h3];omega,B96,?_⟩
 match y with
 |none=>exact trivial
 |some (a,b,c,d)=>exact C2S (by show 1≤(ksM ins ((pk count 3).toNat+1)).length;rw[h1];omega)
theorem B3T (sv:Bv H A0 20 v ks.length (ks.flatMap GA)) (nv:ks=[]→v=AA) (sw:Bv H AH 26 w xs.length (xs.flatMap ndC)) (nw:xs=[]→w=AA) (h1:1≤ks.length) (h2:1≤xs.length) {D:Nat} {bb:Bool} {o:UD}:∃q,Fx bb (D+2) (.agg (B2 id v w o)) (.agg (B2 id (BH ks) (Cb xs) o)) H q:=by
 obtain⟨q1,e1⟩:=YG (D:=D) (b:=bb) sv nv
 obtain⟨q2,e2⟩:=B4D (D:=D) (b:=bb) sw nw
 rw[A9O h1] at e1
 rw[B07 h2] at e2
 exact⟨_,Qm (D:=D+1) (Ay (q:=false) D2 (Ay e1 (Ay e2 (KA (b:=bb) (D:=D+1) (H:=H) (λx:Value=>x) [.int .i64 o.p0,.int .i64 o.q0,.int .i64 o.p1,.int .i64 o.q1,.int .i64 o.p2,.int .i64 o.q2,.int .i64 o.p3,.int .i64 o.q3,.int .i64 o.p4,.int .i64 o.q4,.int .i64 o.p5,.int .i64 o.q5,.int .i64 o.p6,.int .i64 o.q6,
  .string ⟨⟨o.fn⟩⟩,.string ⟨⟨o.fd⟩⟩,.string ⟨⟨o.on⟩⟩,.string ⟨⟨o.od⟩⟩,.int .i64 o.kd,.int .i64 o.sc]))))⟩
theorem A3F {o:UD} (h1:AV.one v=true) (h2:AV.one w=true):(B2 id v w o).all AV.one=true:=by
 show(true&&(AV.one v&&(AV.one w&&true)))=true
 rw[h1,h2];rfl
theorem C2o (h:Md b r z ins id ks xs us v w u H) (h1:1≤ks.length) (h2:1≤xs.length) (h3:us.length=xs.length) (h4:us.length<1000) (hK:∀v0 H0,(∀b,∃q,Fx b depth v0 (.agg (B2 id (BH ks) (Cb xs) (uu (us.getD (xs.length-1) 0)))) H0 q)→K v0 H0=x):
 (AQ Am u λv38=>
  Go.Abs.Ak Ab .sub v38 (AV.v (.int .i64 1)) λv39=>
  B9 Am u v39 λv40=>
  Ar Af v40 H λv41=>
  AM 3 (.ptr r 0 0) λv42=>
  CG Af v42 v41 H λH43=>
  Ar A9 (.ptr r 0 0) H43 λv45=>
  CG A9 (.ptr z 0 0) v45 H43 λH46=>
  Ar A9 (.ptr z 0 0) H46 λv48=>
  K v48 H46)=x:=by
 have hlt:us.length-1<us.length:=by omega
 obtain⟨a,g1,g2⟩:=A9N h.su hlt
 have eg:us[us.length-1]=us.getD (xs.length-1) 0:=by rw[←h3];simp[List.getD,Kq hlt]
 rw[eg] at g2
 generalize us.getD (xs.length-1) 0=k at g2 hK
 obtain⟨cs,c1,c2⟩:=h.hz
 rw[JI (t:=Am) rfl h.su,A11 (by omega) (by omega),g1,g2,VO,YP (vs:=Ck (uu k)) h.hr (show 3+20≤23 by decide) rfl rfl]
 have r1:=AB (q:=true) (e:=BD) (cs:=B2 id v w (uu k)) h.hr
 have z1:Aq (Go.Abs.upd H r (Ho id v w (uu k))) z=some (.cells true BD cs):=by rw[Ap h.zr];exact c2
 have es:splice (B2 id v w u0) 3 (Ck (uu k))=B2 id v w (uu k):=rfl
 rw[es,Bq (cs:=B2 id v w (uu k)) rfl rfl r1,B7 z1 (by rw[c1];rfl) (by rw[c1];rfl) (A3F (Bv.one h.sv) (Bv.one h.sw)),Bq (cs:=B2 id v w (uu k)) rfl rfl (AB z1)]
 refine hK _ _ λq=> ?_
 refine B3T (D:=depth-2) (h.sv.kp λs x hs hl=> ?_) h.nv (h.sw.kp λs x hs hl=> ?_) h.nw h1 h2
 ·have:=h.av s hs
  rw[Ap this.2.2.1,Ap this.2.1];exact hl
 ·have:=h.aw s hs
  rw[Ap this.2.2.1,Ap this.2.1];exact hl
theorem B3F (hL:100<L) (hi:ins.length=3) (hi64:∀c∈ins,Le c) (hc:Le count) (hy:yI y):
 CS (rt (L+20) (n+43)) Pk [.agg (EG ins),I count,yA y,Bo true] (.agg (B2 (prM ins count y).id (BH (prM ins count y).ks) (Cb (prM ins count y).xs) (uu (prM ins count y).out))):=by
 intro K hK
 have hp:=A8A (count:=count) (y:=y) hi
 obtain⟨p1,p2,p3⟩:=Yw hp
 obtain⟨l1,l2⟩:=B0d (count:=count) hi
 have pr:=EU (c:=count) (n:=900) (by decide)
 rw[A1C]
 unfold SS Av
 have k1:∀H K,Ah (rt (L+20) (n+42)) BO [I count,.v (.int .i64 900)] H K=K (I (pk count 900)):=KM (n:=n+41) hc (by decide) (by decide)
 have eid:((prM ins count y).id:Int)=1+pk count 900:=by show((1+(pk count 900).toNat:Nat):Int)=_;omega
 have ad:∀{K:AV→Aj},Go.Abs.Ak Ab .add (.v (.int .i64 1)) (I (pk count 900)) K=K (I ((prM ins count y).id:Int)):= λ{K}=>by rw[CH,Cp (by omega) (by omega),eid]
 have bd:∀{i:Int} {K:AV→Aj},B3 A9 [(0,1,I i)] K=K (.agg (B2 i AA AA u0)):= λ{i K}=>_root_.id rfl
 rw[Ft (A3O ins)]
 have hb:=A1 (H:=[]) (x:= .cells true RL (EG ins)) (by simp)
 have w0:=Br (x:= .cells true RL (EG ins)) FH
 generalize ((A2 [],Row.cells true RL (EG ins))::([]:Hp))=H0 at hb w0
 generalize A2 []=b at hb
 rw[Bi (cs:=B2 0 AA AA u0) rfl]
 have hz:=A1 (H:=H0) (x:= .cells true BD (B2 0 AA AA u0)) (by simp)
 have b1:=AS (x:= .cells true BD (B2 0 AA AA u0)) (w0.lt hb) hb
 have w1:=Br (x:= .cells true BD (B2 0 AA AA u0)) w0
 generalize ((A2 H0,Row.cells true BD (B2 0 AA AA u0))::H0)=H1 at hz w1 b1
 generalize A2 H0=z at hz
 rw[k1,ad,bd,Bi (cs:=B2 0 AA AA u0) rfl]
 obtain⟨H2,e2,r2,w2,kp⟩:=Er (e:=BD) (zs:=B2 0 AA AA u0) (vs:=B2 (prM ins count y).id AA AA u0) w1 rfl
 rw[B7 (cs:=B2 0 AA AA u0) (vs:=B2 (prM ins count y).id AA AA u0) (A1 (by simp)) rfl rfl rfl,←e2]
 obtain⟨b2,nbr⟩:=kp _ _ b1
 obtain⟨z2,nzr⟩:=kp _ _ hz
 generalize A2 H1=r at r2 nbr nzr
 have no:∀{s:Nat} {P:Prop},AG AA s→P:= λ⟨_,_,_,h⟩=>by cases h
 have h0:Md b r z ins (prM ins count y).id (ksM ins 0) [] [] AA AA AA H2:=⟨b2,r2,⟨_,rfl,z2⟩,.inl ⟨rfl,rfl,rfl⟩,λ_=>rfl,.inl ⟨rfl,rfl,rfl⟩,λ_=>rfl,.inl ⟨rfl,rfl,rfl⟩,λ_=>rfl,nbr,nzr,λ_=>no,λ_=>no,λ_=>no,w2⟩
 simp only[BX]
 refine C4T hL hi hi64 hc (λv H hh=> ?_) (L+20) 0 AA H2 (by omega) (by omega) h0
 refine C4U (n:=n) hL (by rw[l1];omega) (λw u H hh=> ?_) (L+20) 0 AA AA H (by omega) (by omega) hh
 have fin:∀w' u' H',Md b r z ins (prM ins count y).id (prM ins count y).ks (prM ins count y).xs (prM ins count y).ty v w' u' H'→_:= λw' u' H' hh'=>C2o (K:=K) hh' hp.k1 p2 p1 (by omega) hK
 match y with
 |none=>
  show Jt (L+20) (rt (L+20) (n+42)) K _ ((L+19)+1) _ AA _ _ _ _ _ _ _ _ H=_
  rw[OE]
  unfold KK Bc BS Av Gb Dr
  have el:∀{K:AV→Aj},AQ Ia AA K=K (I ((0:Nat):Int)):= λ{K}=>_root_.id rfl
  have e0:(AV.v (.int .i64 0))=I ((0:Nat):Int):=rfl
  rw[el,e0,FE (by omega)]
  simp only[gTF,Cz,WV]
  rw[Bz]
  refine fin w u H ?_
  show Md b r z ins _ _ (KP _++[]) (_++[]) v w u H
  rw[XR,XR]
  exact hh
 |some (y0,y1,y2,y3)=>
  exact C4V (n:=n) hh (by rw[l1];omega) (by rw[l1];omega) B96 hy.1 hy.2.1 hy.2.2.1 hy.2.2.2 (λw' u' H' hh'=>fin w' u' H' hh') (L+18)
end
end
end Go.Abs
end
