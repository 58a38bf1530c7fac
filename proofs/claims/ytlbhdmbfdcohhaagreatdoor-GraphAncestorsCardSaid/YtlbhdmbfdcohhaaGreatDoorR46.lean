import Derived.Test.YtlbhdmbfdcohhaaGreatDoorR45
set_option linter.all false
set_option maxHeartbeats 100000000
noncomputable section
namespace Go.Abs
open Go.RowKit Go.Proofs
set_option maxRecDepth 100000
section
variable {L n:Nat}
theorem KP {α:Type} {F:α} {G:α→Al} {x:Al} (h:∀k,k=F→G k=x):jn F G=x:=by rw[Cp];exact h F rfl
theorem B1.kp {H H':Hp} {e sz n:Nat} {v:AV} {cs:List AV} (h:B1 H e sz v n cs) (k:∀s x,AX v s→Ax H s=some x→Ax H' s=some x):B1 H' e sz v n cs:=by
 rcases h with h|⟨r,q,h1,h2,h3⟩
 ·exact .inl h
 ·exact .inr ⟨r,q,h1,k r _ ⟨_,_,_,h1⟩ h2,h3⟩
theorem C6l (l:List Nd):∃vs:List Value,l.flatMap ndC=vs.map λx=> .v x:=by
 induction l with
 |nil=>exact⟨[],rfl⟩
 |cons x l ih=>
  obtain⟨vs,h⟩:=ih
  refine⟨[.int .i64 x.op,.string ⟨⟨x.vn⟩⟩,.string ⟨⟨x.vd⟩⟩,.int .i64 x.u.p0,.int .i64 x.u.q0,.int .i64 x.u.p1,.int .i64 x.u.q1,.int .i64 x.u.p2,.int .i64 x.u.q2,.int .i64 x.u.p3,.int .i64 x.u.q3,.int .i64 x.u.p4,.int .i64 x.u.q4,.int .i64 x.u.p5,.int .i64 x.u.q5,.int .i64 x.u.p6,.int .i64 x.u.q6,
   .string ⟨⟨x.u.fn⟩⟩,.string ⟨⟨x.u.fd⟩⟩,.string ⟨⟨x.u.on⟩⟩,.string ⟨⟨x.u.od⟩⟩,.int .i64 x.u.kd,.int .i64 x.u.sc,.int .i64 x.n,.int .i64 x.l,.int .i64 x.r]++vs,?_⟩
  rw[l00,h,l01];rfl
def ndL (l:List Nd):AV:=match l with
 |[]=>AO
 |x::l=> .list (x::l).length ((x::l).flatMap ndC)
theorem B4b {D:Nat} {b:Bool} {H:Hp} {v:AV} {l:List Nd} (h:B1 H AI 26 v l.length (l.flatMap ndC)) (h0:l=[]→v=AO):∃q,Fx b (D+1) v (ndL l) H q:=by
 rcases h with⟨rfl,h2,_⟩|⟨r,q,rfl,h2,h3⟩
 ·cases l with
  |nil=>exact⟨false,Ed⟩
  |cons a l=>simp at h2
 ·cases l with
  |nil=>have:=h0 rfl;cases this
  |cons a l=>
   refine⟨true,?_⟩
   show Fx b (D+1) _ (.list (a::l).length ((a::l).flatMap ndC)) H true
   obtain⟨vs,e⟩:=C6l (a::l)
   rw[e] at h2 h3⊢
   exact Vn (q':=false) h2 h3 (Kf _root_.id _)
theorem C5n {y:Nd} {H:Hp} {K:KV}:Fh AI 26 AH 1 [(0,26,.agg y.cs)] H K=K (.sl 26 (A6 H) 0 1) ((A6 H,.cells false AI (ndC y))::H):=by
 have e:Fh AI 26 AH 1 [(0,26,.agg y.cs)] H K=HE H (λs=>K (.sl 26 s 0 1) ((s,.cells false AI (ndC y))::H)):=_root_.id rfl
 rw[e,BX]
structure Md (b r z:Nat) (ins:List Int) (id:Int) (ks:List Nat) (xs:List Nd) (us:List Nat) (v w u:AV) (H:Hp):Prop where
 hb:Ax H b=some (.cells true Rs (Et ins))
 hr:Ax H r=some (GK id v w u0)
 hz:∃cs,cs.length=23∧Ax H z=some (.cells true B8 cs)
 sv:B1 H Az 20 v ks.length (ks.flatMap Gh)
 nv:ks=[]→v=AO
 sw:B1 H AI 26 w xs.length (xs.flatMap ndC)
 nw:xs=[]→w=AO
 su:B1 H Az 20 u us.length (us.flatMap Gh)
 nu:us=[]→u=AO
 br:b≠r
 zr:z≠r
 av:∀s,AX v s→s≠b∧s≠r∧s≠z∧¬AX w s∧¬AX u s
 aw:∀s,AX w s→s≠b∧s≠r∧s≠z∧¬AX v s∧¬AX u s
 au:∀s,AX u s→s≠b∧s≠r∧s≠z∧¬AX v s∧¬AX w s
 wf:Wf H
section
variable {K:KV} {x:Al} {ins:List Int} {id:Int} {ks us:List Nat} {xs:List Nd} {v w u:AV} {b r z m:Nat} {H H':Hp}
theorem Md.grow (h:Md b r z ins id ks xs us v w u H) (wf:Wf H') (kp:∀s x,Ax H s=some x→Ax H' s=some x):Md b r z ins id ks xs us v w u H':=by
 obtain⟨cs,c1,c2⟩:=h.hz
 exact⟨kp _ _ h.hb,kp _ _ h.hr,⟨cs,c1,kp _ _ c2⟩,h.sv.kp λs x _=>kp s x,h.nv,h.sw.kp λs x _=>kp s x,h.nw,h.su.kp λs x _=>kp s x,h.nu,h.br,h.zr,h.av,h.aw,h.au,wf⟩
structure Oth (b r z:Nat) (v w u:AV) (m:Nat):Prop where
 b:m≠b
 r:m≠r
 z:m≠z
 v:¬AX v m
 w:¬AX w m
 u:¬AX u m
theorem Md.oth (h:Md b r z ins id ks xs us v w u H):Oth b r z v w u (A6 H):=by
 obtain⟨cs,c1,c2⟩:=h.hz
 have h1:=h.wf.lt h.hb
 have h2:=h.wf.lt h.hr
 have h3:=h.wf.lt c2
 exact⟨by omega,by omega,by omega,λe=>by have:=h.sv.lt h.wf e;omega,λe=>by have:=h.sw.lt h.wf e;omega,λe=>by have:=h.su.lt h.wf e;omega⟩
theorem Md.upd (h:Md b r z ins id ks xs us v w u H) (o:Oth b r z v w u m) (y:Row):Md b r z ins id ks xs us v w u (upd H m y):=by
 obtain⟨cs,c1,c2⟩:=h.hz
 have kp:∀s x,s≠m→Ax H s=some x→Ax (Go.Abs.upd H m y) s=some x:= λs x hs hl=>by rw[Au hs];exact hl
 exact⟨kp _ _ (Ne.symm o.b) h.hb,kp _ _ (Ne.symm o.r) h.hr,⟨cs,c1,kp _ _ (Ne.symm o.z) c2⟩,h.sv.kp λs x hs=>kp s x (λe=>o.v (e▸hs)),h.nv,h.sw.kp λs x hs=>kp s x (λe=>o.w (e▸hs)),h.nw,h.su.kp λs x hs=>kp s x (λe=>o.u (e▸hs)),h.nu,h.br,h.zr,h.av,h.aw,h.au,Cj h.wf⟩
theorem Yr {α β:Type} (f:α→List β) (l:List α) (a:α):(l++[a]).flatMap f=l.flatMap f++f a:=by simp
theorem Md.v1 (h:Md b r z ins id ks xs us v w u H) (k:Nat) (hl:ks.length<100):∃v' H',(∀K:KV,DN Az 20 Ag Am v (.sl 20 (A6 H) 0 1) ((A6 H,.cells false Az (Gh k))::H) K=K v' H')∧
 (∀K:Hp→Al,Cq Am (.ptr r 1 0) v' H' K=K (Go.Abs.upd H' r (GK id v' w u0)))∧Md b r z ins id (ks++[k]) xs us v' w u (Go.Abs.upd H' r (GK id v' w u0)):=by
 obtain⟨v',H',a1,a2,a3,a4,a5,a6⟩:=A59 (ie:=Ag) (i2:=Am) (ys:=Gh k) h.sv h.wf rfl rfl (by decide) rfl (λ_=>rfl) (by show(_+1)*192≤_;omega) (by omega)
 obtain⟨cs,c1,c2⟩:=h.hz
 have h1:=h.wf.lt h.hb
 have h2:=h.wf.lt h.hr
 have h3:=h.wf.lt c2
 have hr':=a5 _ _ h.hr λe=>(h.av _ e).2.1 rfl
 have kp:∀s x,s≠r→¬AX v s→Ax H s=some x→Ax (Go.Abs.upd H' r (GK id v' w u0)) s=some x:= λs x hs hn hl=>by rw[Au hs];exact a5 s x hl hn
 refine⟨v',H',a1,λK=>Ez hr' (show 1<23 by decide) rfl (B1.cell a2) (B1.one a2),kp _ _ h.br (λe=>(h.av _ e).1 rfl) h.hb,AC hr',⟨cs,c1,kp _ _ h.zr (λe=>(h.av _ e).2.2.1 rfl) c2⟩,?_,λe=>by simp at e,
  h.sw.kp λs x hs=>kp s x (h.aw s hs).2.1 (h.aw s hs).2.2.2.1,h.nw,h.su.kp λs x hs=>kp s x (h.au s hs).2.1 (h.au s hs).2.2.2.1,h.nu,h.br,h.zr,λs hs=> ?_,λs hs=> ?_,λs hs=> ?_,Cj a3⟩
 ·rw[FA,Yr]
  refine B1.kp a2 λs x hs hl=> ?_
  have:=a6 s hs
  rw[Au (by omega)];exact hl
 ·have:=a6 s hs
  exact⟨by omega,by omega,by omega,λe=>by have:=h.sw.lt h.wf e;omega,λe=>by have:=h.su.lt h.wf e;omega⟩
 ·obtain⟨q1,q2,q3,q4,q5⟩:=h.aw s hs
  exact⟨q1,q2,q3,λe=>by have:=a6 s e;have:=h.sw.lt h.wf hs;omega,q5⟩
 ·obtain⟨q1,q2,q3,q4,q5⟩:=h.au s hs
  exact⟨q1,q2,q3,λe=>by have:=a6 s e;have:=h.su.lt h.wf hs;omega,q5⟩
theorem Md.w1 (h:Md b r z ins id ks xs us v w u H) (y:Nd) (hl:xs.length<100):∃w' H',(∀K:KV,DN AI 26 AH A0 w (.sl 26 (A6 H) 0 1) ((A6 H,.cells false AI (ndC y))::H) K=K w' H')∧
 (∀K:Hp→Al,Cq A0 (.ptr r 2 0) w' H' K=K (Go.Abs.upd H' r (GK id v w' u0)))∧Md b r z ins id ks (xs++[y]) us v w' u (Go.Abs.upd H' r (GK id v w' u0))∧(∀s x,s≠r→¬AX w s→Ax H s=some x→Ax (Go.Abs.upd H' r (GK id v w' u0)) s=some x):=by
 obtain⟨w',H',a1,a2,a3,a4,a5,a6⟩:=A59 (ie:=AH) (i2:=A0) (ys:=ndC y) h.sw h.wf rfl rfl (by decide) rfl (λ_=>rfl) (by show(_+1)*256≤_;omega) (by omega)
 obtain⟨cs,c1,c2⟩:=h.hz
 have h1:=h.wf.lt h.hb
 have h2:=h.wf.lt h.hr
 have h3:=h.wf.lt c2
 have hr':=a5 _ _ h.hr λe=>(h.aw _ e).2.1 rfl
 have kp:∀s x,s≠r→¬AX w s→Ax H s=some x→Ax (Go.Abs.upd H' r (GK id v w' u0)) s=some x:= λs x hs hn hl=>by rw[Au hs];exact a5 s x hl hn
 refine⟨w',H',a1,λK=>Ez hr' (show 2<23 by decide) rfl (B1.cell a2) (B1.one a2),⟨kp _ _ h.br (λe=>(h.aw _ e).1 rfl) h.hb,AC hr',⟨cs,c1,kp _ _ h.zr (λe=>(h.aw _ e).2.2.1 rfl) c2⟩,
  h.sv.kp λs x hs=>kp s x (h.av s hs).2.1 (h.av s hs).2.2.2.1,h.nv,?_,λe=>by simp at e,h.su.kp λs x hs=>kp s x (h.au s hs).2.1 (h.au s hs).2.2.2.2,h.nu,h.br,h.zr,λs hs=> ?_,λs hs=> ?_,λs hs=> ?_,Cj a3⟩,kp⟩
 ·rw[FA,Yr]
  refine B1.kp a2 λs x hs hl=> ?_
  have:=a6 s hs
  rw[Au (by omega)];exact hl
 ·obtain⟨q1,q2,q3,q4,q5⟩:=h.av s hs
  exact⟨q1,q2,q3,λe=>by have:=a6 s e;have:=h.sv.lt h.wf hs;omega,q5⟩
 ·have:=a6 s hs
  exact⟨by omega,by omega,by omega,λe=>by have:=h.sv.lt h.wf e;omega,λe=>by have:=h.su.lt h.wf e;omega⟩
 ·obtain⟨q1,q2,q3,q4,q5⟩:=h.au s hs
  exact⟨q1,q2,q3,q4,λe=>by have:=a6 s e;have:=h.su.lt h.wf hs;omega⟩
theorem Md.u1 (h:Md b r z ins id ks xs us v w u H) (k:Nat) (hl:us.length<100):∃u' H',(∀K:KV,DN Az 20 Ag Am u (.sl 20 (A6 H) 0 1) ((A6 H,.cells false Az (Gh k))::H) K=K u' H')∧Md b r z ins id ks xs (us++[k]) v w u' H':=by
 obtain⟨u',H',a1,a2,a3,a4,a5,a6⟩:=A59 (ie:=Ag) (i2:=Am) (ys:=Gh k) h.su h.wf rfl rfl (by decide) rfl (λ_=>rfl) (by show(_+1)*192≤_;omega) (by omega)
 obtain⟨cs,c1,c2⟩:=h.hz
 have h1:=h.wf.lt h.hb
 have h2:=h.wf.lt h.hr
 have h3:=h.wf.lt c2
 refine⟨u',H',a1,a5 _ _ h.hb (λe=>(h.au _ e).1 rfl),a5 _ _ h.hr (λe=>(h.au _ e).2.1 rfl),⟨cs,c1,a5 _ _ c2 (λe=>(h.au _ e).2.2.1 rfl)⟩,
  h.sv.kp λs x hs hl=>a5 s x hl (h.av s hs).2.2.2.2,h.nv,h.sw.kp λs x hs hl=>a5 s x hl (h.aw s hs).2.2.2.2,h.nw,?_,λe=>by simp at e,h.br,h.zr,λs hs=> ?_,λs hs=> ?_,λs hs=> ?_,a3⟩
 ·rw[FA,Yr]
  exact a2
 ·obtain⟨q1,q2,q3,q4,q5⟩:=h.av s hs
  exact⟨q1,q2,q3,q4,λe=>by have:=a6 s e;have:=h.sv.lt h.wf hs;omega⟩
 ·obtain⟨q1,q2,q3,q4,q5⟩:=h.aw s hs
  exact⟨q1,q2,q3,q4,λe=>by have:=a6 s e;have:=h.sw.lt h.wf hs;omega⟩
 ·have:=a6 s hs
  exact⟨by omega,by omega,by omega,λe=>by have:=h.sv.lt h.wf e;omega,λe=>by have:=h.sw.lt h.wf e;omega⟩
theorem Vu {s j:Nat} {K:AV→Al}:AN j (.ptr s 0 0) K=K (.ptr s j 0):=by rw[fA,Ln]
theorem Md.ld1 (h:Md b r z ins id ks xs us v w u H) {K:AV→Al}:Aq Am (.ptr r 1 0) H K=K v:=AY (p:=1) rfl h.hr (show 1<23 by decide)
theorem Md.ld2 (h:Md b r z ins id ks xs us v w u H) {K:AV→Al}:Aq A0 (.ptr r 2 0) H K=K w:=AY (p:=2) rfl h.hr (show 2<23 by decide)
def ksM (ins:List Int) (i:Nat):List Nat:=(ins.take i).map λc=>(pk c 7).toNat
theorem B7o {i:Nat} (h:i<ins.length):ksM ins (i+1)=ksM ins i++[(pk ins[i] 7).toNat]:=by
 unfold ksM
 rw[l04 h,l01];rfl
theorem C4a {count:Int} {xl ex d0 d1 d2:AV} {k259:AV→AV→AV→AV→AV→AV→AV→AV→Hp→Al} (hL:100<L) (hi:ins.length=3) (hi64:∀c∈ins,K8 c) (hc:K8 count)
 (hfin:∀v H,Md b r z ins id (ksM ins ((pk count 3).toNat+1)) [] [] v AO AO H→k259 (I count) xl ex (.ptr b 0 0) (.ptr z 0 0) (.ptr r 0 0) (I (((pk count 3).toNat+1:Nat):Int)) d2 H=x):
 ∀(f i:Nat) (v:AV) (H:Hp),i≤(pk count 3).toNat+1→(pk count 3).toNat+1-i<f→Md b r z ins id (ksM ins i) [] [] v AO AO H→
 Nl (L+20) (rt (L+20) (n+42)) K k259 f (I count) xl ex (.ptr b 0 0) (.ptr z 0 0) (.ptr r 0 0) (I i) d0 d1 d2 H=x:=by
 have pr:=E9 (c:=count) (n:=3) (by decide)
 intro f
 induction f with
 |zero=>intro i v H _ h;omega
 |succ f ih=>
  intro i v H hi' hf hh
  rw[Zh]
  unfold QD Ar
  have hpk:∀H K,Ah (rt (L+20) (n+42)) BK [I count,.v (.int .i64 3)] H K=K (I (pk count 3)):=Kr (n:=n+41) hc (by decide) (by decide)
  rw[hpk,Xf]
  by_cases h:i≤(pk count 3).toNat
  ·have hlt:i<ins.length:=by omega
   have hb:=hh.hb
   have ld:∀{K},Aq Ab (.ptr b i 0) H K=K (I ins[i]):= λ{K}=>by rw[AY (p:=i) rfl hh.hb (by simp[Et];omega),PB hlt]
   have ia:∀{K:AV→Al},B0 OT (.ptr b 0 0) (I i) K=K (.ptr b i 0):= λ{K}=>DC i rfl rfl (by omega)
   have un:∀{H K},Ah (rt (L+20) (n+42)) EJ [I ins[i]] H K=K (.agg (Cc (uu (pk ins[i] 7).toNat))):= λ{H K}=>A84 (n:=n) (hi64 _ (QS hlt)) H K
   have hlen:(ksM ins i).length<100:=by simp[ksM];omega
   obtain⟨v',H',a1,a2,a3⟩:=hh.v1 (pk ins[i] 7).toNat hlen
   have ok:ZP v v=true:=A5P hh.sv
   have l1:∀{K},Aq Am (.ptr r 1 0) ((A6 H,Row.cells false Az (Gh (pk ins[i] 7).toNat))::H) K=K v:= λ{K}=>AY (p:=1) rfl (Bj (hh.wf.lt hh.hr) hh.hr) (show 1<23 by decide)
   rw[decide_eq_true (by omega),Dn]
   simp only[Vu,BJ,hh.ld1,ia,ld,un,B1N,Co,a1,a2,l1]
   rw[B3K ok,DS (by omega)]
   rw[←B7o hlt] at a3
   exact ih (i+1) v' _ (by omega) (by omega) a3
  ·have:i=(pk count 3).toNat+1:=by omega
   subst this
   rw[decide_eq_false (by omega),BD]
   exact hfin v H hh
theorem C4b {a1 a2 a3 i4 d0:AV} {k214:AV→AV→AV→AV→AV→AV→AV→AV→AV→Hp→Al} (hL:100<L) (hb:ks.length≤3)
 (hfin:∀w u H,Md b r z ins id ks (Kv ks) ks v w u H→k214 a1 a2 a3 (.ptr b 0 0) (.ptr z 0 0) (.ptr r 0 0) i4 u (I ks.length) H=x):
 ∀(f j:Nat) (w u:AV) (H:Hp),j≤ks.length→ks.length-j<f→Md b r z ins id ks ((List.range j).map Vg) (ks.take j) v w u H→
 Nm (L+20) (rt (L+20) (n+42)) K k214 f a1 a2 a3 (.ptr b 0 0) (.ptr z 0 0) (.ptr r 0 0) i4 u (I j) d0 H=x:=by
 intro f
 induction f with
 |zero=>intro j w u H _ h;omega
 |succ f ih=>
  intro j w u H hi' hf hh
  rw[Zi]
  unfold QE Ar
  rw[Vu,hh.ld1,Js (t:=Am) rfl hh.sv]
  by_cases h:j<ks.length
  ·have bd:∀{K:AV→Al},Bk AH [(0,1,.v (.int .i64 2)),(23,1,I j)] K=K (.agg (Vg j).cs):= λ{K}=>_root_.id rfl
   obtain⟨w',H',b1,b2,b3, -⟩:=hh.w1 (Vg j) (by simp;omega)
   obtain⟨a,g1,g2⟩:=A9t b3.sv h
   obtain⟨u',H2,e1,e2⟩:=b3.u1 ks[j] (by simp;omega)
   rw[FW (by omega),Dn,Vu,hh.ld2,bd,C5n,b1,Vu,b2,Vu,b3.ld1,g1,g2,B1N,e1,DS (by omega)]
   refine ih (j+1) w' u' H2 (by omega) (by omega) ?_
   rw[List.range_succ,l01,l04 h]
   exact e2
  ·have:j=ks.length:=by omega
   subst this
   rw[FX (by omega),BD]
   rw[l06] at hh
   exact hfin w u H hh
end
end
section
variable {L n:Nat}
def exO (ks:List Nat) (q a13 b4 k7 e5 l r:Nat):Ex:=match q with
 |0=> .cn (Yp a13 b4) k7
 |1=> .inp l
 |6=>match TB (ks.getD l 0) e5 with
  |some k=> .po l e5 k
  |none=> .no
 |7=> .no
 |q=>match RX (q-2) (ks.getD l 0) (ks.getD r 0) with
  |some k=> .bi (q+1) l r k
  |none=> .no
def exM (ks:List Nat) (y0 y1 y2 y3:Int):Ex:=exO ks (pk y0 8).toNat (pk y1 13).toNat (pk y2 4).toNat (pk y3 7).toNat (pk y2 5).toNat (pk y1 ks.length).toNat (pk y2 ks.length).toNat
theorem B4m {ks:List Nat} {q a13 b4 k7 e5 l r:Nat} (h:2≤q) (h':q<6):exO ks q a13 b4 k7 e5 l r=match RX (q-2) (ks.getD l 0) (ks.getD r 0) with
 |some k=> .bi (q+1) l r k
 |none=> .no:=by
 obtain rfl|rfl|rfl|rfl:q=2∨q=3∨q=4∨q=5:=by omega
 all_goals rfl
theorem A6C {a b:Nat} (ha:a<13) (hb:b<4):Yp a b<33:=by
 have:=Hl.1 (show((List.range 52).all λi=>decide (Yp (i/4) (i%4)<33))=true by kernel_rfl) (4*a+b) (IV.2 (by omega))
 rw[show(4*a+b)/4=a by omega,show(4*a+b)%4=b by omega] at this
 simpa using this
theorem L7 {c m:Int} (h:0<m):∃k:Nat,pk c m=k∧(k:Int)<m∧(pk c m).toNat=k:=by
 have:=E9 (c:=c) h
 exact⟨(pk c m).toNat,by omega,by omega,rfl⟩
theorem C2m {ks:List Nat} {y0 y1 y2 y3:Int} (h1:1≤ks.length):(exM ks y0 y1 y2 y3).Ok ks:=by
 obtain⟨q, -,h2,e0⟩:=L7 (c:=y0) (m:=8) (by decide)
 obtain⟨a, -,ha,ea⟩:=L7 (c:=y1) (m:=13) (by decide)
 obtain⟨b, -,hb,eb⟩:=L7 (c:=y2) (m:=4) (by decide)
 obtain⟨k, -,hk,ek⟩:=L7 (c:=y3) (m:=7) (by decide)
 obtain⟨e, -,he,ee⟩:=L7 (c:=y2) (m:=5) (by decide)
 obtain⟨l, -,hl,el⟩:=L7 (c:=y1) (m:=ks.length) (by omega)
 obtain⟨r, -,hr,er⟩:=L7 (c:=y2) (m:=ks.length) (by omega)
 unfold exM
 rw[e0,ea,eb,ek,ee,el,er]
 by_cases hq:2≤q∧q<6
 ·rw[B4m hq.1 hq.2]
  cases hu:RX (q-2) (ks.getD l 0) (ks.getD r 0) with
  |none=>exact trivial
  |some k=>exact⟨by omega,by omega,by omega,by omega,hu⟩
 ·obtain rfl|rfl|rfl|rfl:q=0∨q=1∨q=6∨q=7:=by omega
  ·exact⟨A6C (by omega) (by omega),by omega⟩
  ·show l<ks.length;omega
  ·show(match TB (ks.getD l 0) e with
    |some k=>Ex.po l e k
    |none=> .no).Ok ks
   cases hu:TB (ks.getD l 0) e with
   |none=>exact trivial
   |some k=>exact⟨by omega,by omega,hu⟩
  ·exact trivial
section
variable {K:KV} {x:Al} {ins:List Int} {id:Int} {ks us:List Nat} {xs:List Nd} {v w u:AV} {b r z m:Nat} {H H':Hp} {y0 y1 y2 y3:Int}
theorem A9u {ks:List Nat} (h:1≤ks.length):OQ ks=BC ks:=by cases ks with|nil=>simp at h|cons _ _=>rfl
theorem A9O {xs:List Nd} (h:1≤xs.length):ndL xs=BU xs:=by cases xs with|nil=>simp at h|cons _ _=>rfl
theorem Md.proc (h:Md b r z ins id ks xs us v w u H) (h1:1≤ks.length) (h2:1≤xs.length) {D:Nat} {bb:Bool}:∃q,Fx bb (D+2) (.agg (Bx id v w u0)) (.agg (Bx id (BC ks) (BU xs) u0)) H q:=by
 obtain⟨q1,e1⟩:=Yn (D:=D) (b:=bb) h.sv h.nv
 obtain⟨q2,e2⟩:=B4b (D:=D) (b:=bb) h.sw h.nw
 rw[A9u h1] at e1
 rw[A9O h2] at e2
 exact⟨_,PE (D:=D+1) (A2 (q:=false) Ed (A2 e1 (A2 e2 (Kf (b:=bb) (D:=D+1) (H:=H) (λx:Value=>x) [.int .i64 u0.p0,.int .i64 u0.q0,.int .i64 u0.p1,.int .i64 u0.q1,.int .i64 u0.p2,.int .i64 u0.q2,.int .i64 u0.p3,.int .i64 u0.q3,.int .i64 u0.p4,.int .i64 u0.q4,.int .i64 u0.p5,.int .i64 u0.q5,.int .i64 u0.p6,.int .i64 u0.q6,
  .string ⟨⟨u0.fn⟩⟩,.string ⟨⟨u0.fd⟩⟩,.string ⟨⟨u0.on⟩⟩,.string ⟨⟨u0.od⟩⟩,.int .i64 u0.kd,.int .i64 u0.sc]))))⟩
theorem C1Q {y:Nd} {D:Nat} {b:Bool} {H:Hp}:Fx b (D+1) (.agg y.cs) (.agg y.cs) H false:= λK=>by cases D<;>cases b<;>kernel_rfl
theorem Md.ty (h:Md b r z ins id ks (Kv ks) ks v w u H) (h1:1≤ks.length) {y:Nd} {t:AV} (hT:CS (rt (L+20) (n+42)) BZ [.agg (Bx id (BC ks) (BU (Kv ks)) u0),.agg y.cs,I ks.length,OQ ks] t) {K:AV→Al}:
 Ah (rt (L+20) (n+42)) BZ [.agg (Bx id v w u0),.agg y.cs,I ks.length,u] H K=K t:=by
 obtain⟨q1,e1⟩:=h.proc h1 (by rw[DP];exact h1) (D:=depth-2) (bb:=true)
 obtain⟨q2,e2⟩:=B8I (b:=true) h.su h.nu
 exact Bc hT (A2 e1 (A2 (C1Q (D:=depth-1)) (A2 (q:=false) Ed (A2 e2 Bt))))
end
end
section
variable {L n:Nat}
section
variable {K:KV} {x:Al} {ins:List Int} {id:Int} {ks us:List Nat} {xs:List Nd} {v w u:AV} {b r z m:Nat} {H H':Hp} {y0 y1 y2 y3:Int}
theorem C4c {a1 i4 j5:AV} {k49:AV→AV→AV→Hp→Al} (h:Md b r z ins id ks (Kv ks) ks v w u H) (k1:1≤ks.length) (k3:ks.length≤3) (k7:∀k∈ks,k<7) (i0:K8 y0) (i1:K8 y1) (i2:K8 y2) (i3:K8 y3)
 (hfin:∀w' u' H',Md b r z ins id ks (Kv ks++(exM ks y0 y1 y2 y3).nd) (ks++(exM ks y0 y1 y2 y3).ty ks) v w' u' H'→k49 (.ptr z 0 0) (.ptr r 0 0) u' H'=x) (f:Nat):
 IU (L+20) (rt (L+20) (n+42)) K k49 (f+2) a1 (.list 1 [I y0,I y1,I y2,I y3]) (Bo true) (.ptr b 0 0) (.ptr z 0 0) (.ptr r 0 0) i4 u j5 (I ((0:Nat):Int)) H=x:=by
 have ex:∀w' u' H',Md b r z ins id ks (Kv ks++(exM ks y0 y1 y2 y3).nd) (ks++(exM ks y0 y1 y2 y3).ty ks) v w' u' H'→IU (L+20) (rt (L+20) (n+42)) K k49 (f+1) a1 (.list 1 [I y0,I y1,I y2,I y3]) (Bo true) (.ptr b 0 0) (.ptr z 0 0) (.ptr r 0 0) i4 u' j5 (I ((0+1:Nat):Int)) H'=x:=by
  intro w' u' H' hh
  rw[NX]
  unfold Ko Ba Bu Ar Ev CK
  have el:∀{K:AV→Al},AP HB (.list 1 [I y0,I y1,I y2,I y3]) K=K (I ((1:Nat):Int)):= λ{K}=>_root_.id rfl
  rw[el,FX (by omega)]
  simp only[gTF,Co,Vk]
  rw[BD]
  exact hfin w' u' H' hh
 rw[NX]
 unfold Ko Ba Bu Ar Ev CK
 have el:∀{K:AV→Al},AP HB (.list 1 [I y0,I y1,I y2,I y3]) K=K (I ((1:Nat):Int)):= λ{K}=>_root_.id rfl
 have e14:(AV.v (.int .i64 14))=I ((14:Nat):Int):=rfl
 have hw:=h.sw
 rw[DP] at hw
 rw[el,FW (by omega),e14]
 simp only[gT,Co,Vu,h.ld2,Js (t:=A0) rfl hw]
 rw[FW (by omega),Co,Wu,Dn]
 refine KP λk76 h76=> ?_
 refine KP λk80 h80=> ?_
 have hk80:∀w' u' H',Md b r z ins id ks (Kv ks++(exM ks y0 y1 y2 y3).nd) (ks++(exM ks y0 y1 y2 y3).ty ks) v w' u' H'→k80 u' H'=x:=by
  intro w' u' H' hh
  rw[h80,h76]
  have ad:∀{K:AV→Al},Go.Abs.Ak Ab .add (I ((0:Nat):Int)) (.v (.int .i64 1)) K=K (I ((0+1:Nat):Int)):= λ{K}=>DS (by omega)
  simp only[ad]
  exact ex w' u' H' hh
 clear h76 h80 ex hfin
 have ia0:∀{K:AV→Al},B0 HB (.list 1 [I y0,I y1,I y2,I y3]) (I ((0:Nat):Int)) K=K (.iptr [I y0,I y1,I y2,I y3]):= λ{K}=>_root_.id rfl
 have ld0:∀{H} {K:AV→Al},Aq Cg (.iptr [I y0,I y1,I y2,I y3]) H K=K (.agg [I y0,I y1,I y2,I y3]):= λ{H K}=>_root_.id rfl
 obtain⟨H1,e1,m1,w1,kp1⟩:=Er (e:=FC) (zs:=[zI,zI,zI,zI]) (vs:=[I y0,I y1,I y2,I y3]) h.wf rfl
 rw[ia0,ld0,Bf (cs:=[zI,zI,zI,zI]) rfl,B7 (cs:=[zI,zI,zI,zI]) (vs:=[I y0,I y1,I y2,I y3]) (A1 (by simp)) rfl rfl rfl,←e1]
 have o4:=h.oth
 have h1:=h.grow w1 λs x hs=>(kp1 s x hs).1
 generalize A6 H=q4 at m1 o4
 clear kp1 e1
 have hw1:=h1.sw
 rw[DP] at hw1
 rw[h1.ld2,Js (t:=A0) rfl hw1]
 have y4:∀{H2:Hp} {K:AV→Al},Ax H2 q4=some (.cells true FC [I y0,I y1,I y2,I y3])→(B0 Cg (.ptr q4 0 0) (.v (.int .i64 0)) λp=>Aq Ab p H2 K)=K (I y0):= λ{H2 K} hl=>by
  rw[DC (z:=0) 0 rfl rfl (by decide),AY (p:=0) rfl hl (by simp)];rfl
 have y41:∀{H2:Hp} {K:AV→Al},Ax H2 q4=some (.cells true FC [I y0,I y1,I y2,I y3])→(B0 Cg (.ptr q4 0 0) (.v (.int .i64 1)) λp=>Aq Ab p H2 K)=K (I y1):= λ{H2 K} hl=>by
  rw[DC (z:=1) 1 rfl rfl (by decide),AY (p:=1) rfl hl (by simp)];rfl
 have y42:∀{H2:Hp} {K:AV→Al},Ax H2 q4=some (.cells true FC [I y0,I y1,I y2,I y3])→(B0 Cg (.ptr q4 0 0) (.v (.int .i64 2)) λp=>Aq Ab p H2 K)=K (I y2):= λ{H2 K} hl=>by
  rw[DC (z:=2) 2 rfl rfl (by decide),AY (p:=2) rfl hl (by simp)];rfl
 have y43:∀{H2:Hp} {K:AV→Al},Ax H2 q4=some (.cells true FC [I y0,I y1,I y2,I y3])→(B0 Cg (.ptr q4 0 0) (.v (.int .i64 3)) λp=>Aq Ab p H2 K)=K (I y3):= λ{H2 K} hl=>by
  rw[DC (z:=3) 3 rfl rfl (by decide),AY (p:=3) rfl hl (by simp)];rfl
 obtain⟨q,pq,hq,eq⟩:=L7 (c:=y0) (m:=8) (by decide)
 obtain⟨a13,pa,ha,ea⟩:=L7 (c:=y1) (m:=13) (by decide)
 obtain⟨b4,pb,hb,eb⟩:=L7 (c:=y2) (m:=4) (by decide)
 obtain⟨k7',pk7,hk,ek⟩:=L7 (c:=y3) (m:=7) (by decide)
 obtain⟨e5,pe,he,ee⟩:=L7 (c:=y2) (m:=5) (by decide)
 obtain⟨l,pl,hl,el⟩:=L7 (c:=y1) (m:=ks.length) (by omega)
 obtain⟨rr,pr,hr,er⟩:=L7 (c:=y2) (m:=ks.length) (by omega)
 have hpk0:∀H K,Ah (rt (L+20) (n+42)) BK [I y0,.v (.int .i64 8)] H K=K (I (q:Int)):=by rw[←pq];exact Kr (n:=n+41) i0 (by decide) (by decide)
 have hpk13:∀H K,Ah (rt (L+20) (n+42)) BK [I y1,.v (.int .i64 13)] H K=K (I (a13:Int)):=by rw[←pa];exact Kr (n:=n+41) i1 (by decide) (by decide)
 have hpk4:∀H K,Ah (rt (L+20) (n+42)) BK [I y2,.v (.int .i64 4)] H K=K (I (b4:Int)):=by rw[←pb];exact Kr (n:=n+41) i2 (by decide) (by decide)
 have hpk5:∀H K,Ah (rt (L+20) (n+42)) BK [I y2,.v (.int .i64 5)] H K=K (I (e5:Int)):=by rw[←pe];exact Kr (n:=n+41) i2 (by decide) (by decide)
 have hpkl:∀H K,Ah (rt (L+20) (n+42)) BK [I y1,I ks.length] H K=K (I (l:Int)):=by rw[←pl];exact Kr (n:=n+41) i1 (by omega) (by omega)
 have hpkr:∀H K,Ah (rt (L+20) (n+42)) BK [I y2,I ks.length] H K=K (I (rr:Int)):=by rw[←pr];exact Kr (n:=n+41) i2 (by omega) (by omega)
 have hun:∀H K,Ah (rt (L+20) (n+42)) EJ [I y3] H K=K (.agg (Cc (uu k7'))):=by rw[←ek];exact A84 (n:=n) i3
 have hex:exM ks y0 y1 y2 y3=exO ks q a13 b4 k7' e5 l rr:=by unfold exM;rw[eq,ea,eb,ek,ee,el,er]
 rw[hex] at hk80
 clear hex pq pa pb pk7 pe pl pr eq ea eb ek ee el er
 have bd:∀{z:Int} {K:AV→Al},Bk AH [(0,1,I z)] K=K (.agg (Nd.mk z [] [] u0 0 0 0).cs):= λ{z K}=>_root_.id rfl
 have ad:∀{K:AV→Al},Go.Abs.Ak Ab .add (.v (.int .i64 1)) (I (q:Int)) K=K (I ((q+1:Nat):Int)):= λ{K}=>by
  rw[Cz,Cb (by omega) (by omega)];rw[show(1:Int)+(q:Int)=((q+1:Nat):Int) by omega]
 rw[y4 m1,hpk0,ad,bd]
 obtain⟨H2,e2,m2,w2,kp2⟩:=Er (e:=AI) (zs:=(Nd.mk 0 [] [] u0 0 0 0).cs) (vs:=(Nd.mk ((q+1:Nat):Int) [] [] u0 0 0 0).cs) h1.wf rfl
 rw[Bf (cs:=(Nd.mk 0 [] [] u0 0 0 0).cs) rfl,B7 (cs:=(Nd.mk 0 [] [] u0 0 0 0).cs) (vs:=(Nd.mk ((q+1:Nat):Int) [] [] u0 0 0 0).cs) (A1 (by simp)) rfl rfl rfl,←e2]
 have o:=h1.oth
 have h2:=h1.grow w2 λs x hs=>(kp2 s x hs).1
 obtain⟨m4,nqm⟩:=kp2 _ _ m1
 generalize A6 H1=m at m2 o nqm
 clear kp2 e2
 refine KP λk101 h101=> ?_
 have tail:∀(nd:Nd) (Hm:Hp) (U:UD) (e:Int),Md b r z ins id ks (Kv ks) ks v w u Hm→Ax Hm m=some (.cells true AI nd.cs)→
  CS (rt (L+20) (n+42)) BZ [.agg (Bx id (BC ks) (BU (Kv ks)) u0),.agg nd.cs,I ks.length,OQ ks] (.tup [.agg (Cc U),I e])→
  (e=0∧nd.op≠8→∃k,U=uu k∧(exO ks q a13 b4 k7' e5 l rr).nd=[nd]∧(exO ks q a13 b4 k7' e5 l rr).ty ks=[k])→(¬(e=0∧nd.op≠8)→(exO ks q a13 b4 k7' e5 l rr).nd=[]∧(exO ks q a13 b4 k7' e5 l rr).ty ks=[])→k101 Hm=x:=by
  intro nd Hm U e hm mm hT hg hbad
  have lp:∀{K},Aq AA (.ptr r 0 0) Hm K=K (.agg (Bx id v w u0)):= λ{K}=>Bm rfl rfl hm.hr
  have ln:∀{K},Aq AH (.ptr m 0 0) Hm K=K (.agg nd.cs):= λ{K}=>Bm rfl rfl mm
  rw[h101]
  simp only[lp,ln,hm.ty k1 hT]
  obtain⟨H3,e3,m3,w3,kp3⟩:=Er (e:=Az) (zs:=E5) (vs:=Cc U) hm.wf rfl
  rw[CW,CV,Bf (cs:=E5) rfl,B7 (cs:=E5) (vs:=Cc U) (A1 (by simp)) rfl rfl rfl,←e3]
  have o3:=hm.oth
  have h3:=hm.grow w3 λs x hs=>(kp3 s x hs).1
  obtain⟨m5, -⟩:=kp3 _ _ mm
  generalize A6 Hm=q3 at m3 o3
  clear kp3 e3
  have ln3:∀{K},Aq AH (.ptr m 0 0) H3 K=K (.agg nd.cs):= λ{K}=>Bm rfl rfl m5
  have lo3:∀{K},Aq Ab (.ptr m 0 0) H3 K=K (I nd.op):= λ{K}=>AY (p:=0) rfl m5 (show 0<26 by decide)
  rw[Dz]
  by_cases he0:e=0
  ·rw[decide_eq_true he0]
   simp only[gT,Co,ntT,Vu,lo3,GF,Wu,Vk]
   by_cases h8:nd.op=8
   ·obtain⟨g1,g2⟩:=hbad λhh=>hh.2 h8
    rw[decide_eq_true h8]
    show Av (Bo false) _ _=_
    rw[BD]
    refine hk80 w u H3 ?_
    rw[g1,g2,l1o,l1o]
    exact h3
   ·obtain⟨k,rfl,g1,g2⟩:=hg ⟨he0,h8⟩
    rw[decide_eq_false h8]
    show Av (Bo true) _ _=_
    obtain⟨w',H4,a1,a2,a3,a4⟩:=h3.w1 nd (by rw[DP];omega)
    obtain⟨u',H5,b1,b2⟩:=a3.u1 k (by omega)
    have lu:∀{K},Aq Ag (.ptr q3 0 0) (Go.Abs.upd H4 r (GK id v w' u0)) K=K (.agg (Cc (uu k))):= λ{K}=>Bm rfl rfl (a4 _ _ o3.r o3.w m3)
    rw[Dn,h3.ld2,ln3,C5n,a1,a2,lu,B1N,b1]
    refine hk80 w' u' H5 ?_
    rw[g1,g2]
    exact b2
  ·obtain⟨g1,g2⟩:=hbad λhh=>he0 hh.1
   rw[decide_eq_false he0]
   simp only[gTF,Co,gU,Vk]
   rw[BD]
   refine hk80 w u H3 ?_
   rw[g1,g2,l1o,l1o]
   exact h3
 clear h101 hk80
 have lo:∀{K},Aq Ab (.ptr m 0 0) H2 K=K (I ((q+1:Nat):Int)):= λ{K}=>AY (p:=0) rfl m2 (show 0<26 by decide)
 rw[Vu,lo]
 refine KP λk145 h145=> ?_
 have h145':∀H,k145 H=k101 H:= λH=>by rw[h145]
 clear h145
 have sm:∀{cs:List AV} {Hx:Hp},Ax Hx q4=some (.cells true FC [I y0,I y1,I y2,I y3])→Ax (Go.Abs.upd Hx m (.cells true AI cs)) q4=some (.cells true FC [I y0,I y1,I y2,I y3]):= λhl=>by rw[Au nqm];exact hl
 rw[Dz]
 by_cases hq26:2≤q∧q<6
 ·have hT:=A9D (L:=L) (n:=n) (id:=id) (o:=u0) (xs:=Kv ks) (op:=q+1) k1 k3 k7 (show l<ks.length by omega) (show rr<ks.length by omega) (by omega) (by omega)
  rw[show q+1-3=q-2 by omega] at hT
  rw[decide_eq_false (by omega),BD,Dz,decide_eq_false (by omega),BD,Dz,decide_eq_false (by omega),BD,Dz,decide_eq_false (by omega),BD,
   y41 m4,hpkl,Vu,Ez m2 (show 24<26 by decide) rfl rfl rfl,y42 (sm m4),hpkr,Vu,Ez (AC m2) (show 25<26 by decide) rfl rfl rfl,h145']
  have hx:=B4m (ks:=ks) (a13:=a13) (b4:=b4) (k7:=k7') (e5:=e5) (l:=l) (r:=rr) hq26.1 hq26.2
  have hm:=(h2.upd o (.cells true AI ((Nd.mk ((q+1:Nat):Int) [] [] u0 0 0 0).cs.set 24 (I (l:Int))))).upd o (.cells true AI (((Nd.mk ((q+1:Nat):Int) [] [] u0 0 0 0).cs.set 24 (I (l:Int))).set 25 (I (rr:Int))))
  cases hu:RX (q-2) (ks.getD l 0) (ks.getD rr 0) with
  |none=>
   rw[hu] at hT hx
   exact tail (biN (q+1) l rr) _ u0 90 hm (AC (AC m2)) hT (λhh=>absurd hh.1 (by decide)) (λ_=>by rw[hx];exact⟨rfl,rfl⟩)
  |some k=>
   rw[hu] at hT hx
   refine tail (biN (q+1) l rr) _ (uu k) 0 hm (AC (AC m2)) hT (λ_=>⟨k,rfl,by rw[hx];exact⟨rfl,rfl⟩⟩) (λhh=>absurd ⟨rfl,?_⟩ hh)
   show((q+1:Nat):Int)≠8
   omega
 ·obtain rfl|rfl|rfl|rfl:q=0∨q=1∨q=6∨q=7:=by omega
  ·have ia1:∀{K:AV→Al},B0 Cg (.ptr q4 0 0) (.v (.int .i64 1)) K=K (.ptr q4 1 0):= λ{K}=>DC (z:=1) 1 rfl rfl (by decide)
   have ia2:∀{K:AV→Al},B0 Cg (.ptr q4 0 0) (.v (.int .i64 2)) K=K (.ptr q4 2 0):= λ{K}=>DC (z:=2) 2 rfl rfl (by decide)
   have d1:∀{K:AV→Al},Aq Ab (.ptr q4 1 0) H2 K=K (I y1):= λ{K}=>AY (p:=1) rfl m4 (by simp)
   have d2:∀{K:AV→Al},Aq Ab (.ptr q4 2 0) H2 K=K (I y2):= λ{K}=>AY (p:=2) rfl m4 (by simp)
   have sb:∀{K:AV→Al},Go.Abs.Ak Ab .sub (I (a13:Int)) (.v (.int .i64 6)) K=K (I ((a13:Int)-6)):= λ{K}=>by rw[GE,Cb (by omega) (by omega)]
   have ad4:∀{K:AV→Al},Go.Abs.Ak Ab .add (.v (.int .i64 1)) (I (b4:Int)) K=K (I (1+(b4:Int))):= λ{K}=>by rw[Cz,Cb (by omega) (by omega)]
   have hof:∀H K,Ah (rt (L+20) (n+42)) EK [I ((a13:Int)-6),I (1+(b4:Int))] H K=K (.tup [.agg (VS (Yp a13 b4)),I 0]):=by
    have:=C1o L (n+2) (4*a13+b4) (by omega)
    rw[show(4*a13+b4)/4=a13 by omega,show(4*a13+b4)%4=b4 by omega] at this
    exact this
   have hT:=A5Z (L:=L) (n:=n) (id:=id) (o:=u0) (xs:=Kv ks) (ks:=ks) (at_:=ks.length) (w:=OQ ks) (A6C (a:=a13) (b:=b4) (by omega) (by omega)) (show k7'<7 by omega)
   rw[decide_eq_true (by rfl),Dn]
   simp only[ia1,ia2,d1,d2,hpk13,hpk4,sb,ad4,hof,CW,CV,Vu,BJ]
   rw[Yx (vs:=VS (Yp a13 b4)) m2 (show 1+2≤26 by decide) rfl rfl,Co,y43 (sm m4),hun,Yx (vs:=Cc (uu k7')) (AC m2) (show 3+20≤26 by decide) rfl rfl,h145']
   have hm:=(h2.upd o (.cells true AI (splice (Nd.mk ((0+1:Nat):Int) [] [] u0 0 0 0).cs 1 (VS (Yp a13 b4))))).upd o (.cells true AI (splice (splice (Nd.mk ((0+1:Nat):Int) [] [] u0 0 0 0).cs 1 (VS (Yp a13 b4))) 3 (Cc (uu k7'))))
   exact tail (cnN (Yp a13 b4) k7') _ (uu k7') 0 hm (AC (AC m2)) hT (λ_=>⟨k7',rfl,rfl,rfl⟩) (λhh=>absurd ⟨rfl,show(1:Int)≠8 by decide⟩ hh)
  ·have hT:=UJ (L:=L) (n:=n+39) (id:=id) (o:=u0) (xs:=Kv ks) (ks:=ks) (i:=l) (by omega) (by omega) (at_:=ks.length) (w:=OQ ks)
   have eg:ks[l]'(by omega)=ks.getD l 0:=by simp[List.getD,JV (show l<ks.length by omega)]
   rw[eg] at hT
   rw[decide_eq_false (by decide),BD,Dz,decide_eq_true (by rfl),Dn,y41 m4,h2.ld1,Js (t:=Am) rfl h2.sv,hpkl,Vu,Ez m2 (show 23<26 by decide) rfl rfl rfl,h145']
   have hm:=h2.upd o (.cells true AI ((Nd.mk ((1+1:Nat):Int) [] [] u0 0 0 0).cs.set 23 (I (l:Int))))
   exact tail (Vg l) _ (uu (ks.getD l 0)) 0 hm (AC m2) hT (λ_=>⟨ks.getD l 0,rfl,rfl,rfl⟩) (λhh=>absurd ⟨rfl,show(2:Int)≠8 by decide⟩ hh)
  ·have hT:=A9C (L:=L) (n:=n) (id:=id) (o:=u0) (xs:=Kv ks) k1 k3 k7 (show l<ks.length by omega) (show e5<5 by omega)
   have bs5:∀{Hx:Hp} {K:KV},Fh CZ 1 Ab 5 [(0,1,(AV.v (.int .i64 2))),(1,1,(AV.v (.int .i64 (-1)))),(2,1,(AV.v (.int .i64 3))),(3,1,(AV.v (.int .i64 (-2)))),(4,1,(AV.v (.int .i64 1)))] Hx K=K (.sl 1 (A6 Hx) 0 5) ((A6 Hx,.cells false CZ [I 2,I (-1),I 3,I (-2),I 1])::Hx):= λ{Hx K}=>by
    have e:Fh CZ 1 Ab 5 [(0,1,(AV.v (.int .i64 2))),(1,1,(AV.v (.int .i64 (-1)))),(2,1,(AV.v (.int .i64 3))),(3,1,(AV.v (.int .i64 (-2)))),(4,1,(AV.v (.int .i64 1)))] Hx K=HE Hx (λs=>K (.sl 1 s 0 5) ((s,.cells false CZ [I 2,I (-1),I 3,I (-2),I 1])::Hx)):=_root_.id rfl
    rw[e,BX]
   have ia5:∀{s:Nat} {K:AV→Al},B0 Af (.sl 1 s 0 5) (I (e5:Int)) K=K (.ptr s e5 0):= λ{s K}=>by
    have e1:B0 Af (.sl 1 s 0 5) (I (e5:Int)) K=iN (e5:Int) λm=>ck (Nat.blt m 5) (fN (Nat.add 0 (Nat.mul m 1)) λp=>K (.ptr s p 0)):=_root_.id rfl
    rw[e1,JW,DI]
    have h3:Nat.blt e5 5=true:=by rw[Uk];omega
    rw[h3]
    show K (.ptr s (0+e5*1) 0)=_
    rw[Ln,l28]
   have gd:([I 2,I (-1),I 3,I (-2),I 1]:List AV).getD e5 .dk=I (Yv e5):=by
    obtain rfl|rfl|rfl|rfl|rfl:e5=0∨e5=1∨e5=2∨e5=3∨e5=4:=by omega
    all_goals rfl
   rw[decide_eq_false (by decide),BD,Dz,decide_eq_false (by decide),BD,Dz,decide_eq_true (by rfl),Dn,y41 m4,hpkl,Vu,Ez m2 (show 24<26 by decide) rfl rfl rfl,bs5]
   have m3:=AC (q:=true) (e:=AI) (cs:=(Nd.mk ((6+1:Nat):Int) [] [] u0 0 0 0).cs.set 24 (I (l:Int))) m2
   have h3:=h2.upd o (.cells true AI ((Nd.mk ((6+1:Nat):Int) [] [] u0 0 0 0).cs.set 24 (I (l:Int))))
   have s3:=sm (cs:=(Nd.mk ((6+1:Nat):Int) [] [] u0 0 0 0).cs.set 24 (I (l:Int))) m4
   generalize Go.Abs.upd H2 m (.cells true AI ((Nd.mk ((6+1:Nat):Int) [] [] u0 0 0 0).cs.set 24 (I (l:Int))))=H3 at m3 h3 s3
   have w4:=BE (x:= .cells false CZ [I 2,I (-1),I 3,I (-2),I 1]) h3.wf
   have k4:∀s x,Ax H3 s=some x→Ax ((A6 H3,.cells false CZ [I 2,I (-1),I 3,I (-2),I 1])::H3) s=some x:= λs x hs=>Bj (h3.wf.lt hs) hs
   have h4:=h3.grow w4 k4
   have m4':=k4 _ _ m3
   have s4:=k4 _ _ s3
   have n4:=A1 (H:=H3) (x:= .cells false CZ [I 2,I (-1),I 3,I (-2),I 1]) (by simp)
   generalize ((A6 H3,Row.cells false CZ [I 2,I (-1),I 3,I (-2),I 1])::H3)=H4 at h4 m4' s4 n4
   rw[y42 s4,hpk5,ia5,AY (p:=e5) rfl n4 (show e5<5 by omega),gd,Vu,Ez m4' (show 23<26 by decide) rfl rfl rfl,h145']
   have hm:=h4.upd o (.cells true AI (((Nd.mk ((6+1:Nat):Int) [] [] u0 0 0 0).cs.set 24 (I (l:Int))).set 23 (I (Yv e5))))
   have hx:exO ks 6 a13 b4 k7' e5 l rr=match TB (ks.getD l 0) e5 with
    |some k=> .po l e5 k
    |none=> .no:=rfl
   cases hu:TB (ks.getD l 0) e5 with
   |none=>
    rw[hu] at hT hx
    exact tail (poN l e5) _ u0 90 hm (AC m4') hT (λhh=>absurd hh.1 (by decide)) (λ_=>by rw[hx];exact⟨rfl,rfl⟩)
   |some k=>
    rw[hu] at hT hx
    exact tail (poN l e5) _ (uu k) 0 hm (AC m4') hT (λ_=>⟨k,rfl,by rw[hx];exact⟨rfl,rfl⟩⟩) (λhh=>absurd ⟨rfl,show(7:Int)≠8 by decide⟩ hh)
  ·have g7:=K3 k7 (show l<ks.length by omega)
   have he:=Hl.1 (show((List.range 7).all λk=>decide ((usq k).2=0∨(usq k).2=70))=true by kernel_rfl) (ks.getD l 0) (IV.2 g7)
   have hT:=B6I (L:=L) (n:=n) (id:=id) (o:=u0) (xs:=Kv ks) (of_decide_eq_true he) k1 k3 (show l<ks.length by omega) (C3U L (n+1) _ g7).o
   rw[decide_eq_false (by decide),BD,Dz,decide_eq_false (by decide),BD,Dz,decide_eq_false (by decide),BD,Dz,decide_eq_true (by rfl),Dn,y41 m4,hpkl,Vu,Ez m2 (show 24<26 by decide) rfl rfl rfl,h145']
   have hm:=h2.upd o (.cells true AI ((Nd.mk ((7+1:Nat):Int) [] [] u0 0 0 0).cs.set 24 (I (l:Int))))
   by_cases h0:(usq (ks.getD l 0)).2=0
   ·rw[if_pos h0] at hT
    exact tail (sqN l) _ _ 0 hm (AC m2) hT (λhh=>absurd rfl hh.2) (λ_=>⟨rfl,rfl⟩)
   ·rw[if_neg h0] at hT
    exact tail (sqN l) _ u0 90 hm (AC m2) hT (λhh=>absurd rfl hh.2) (λ_=>⟨rfl,rfl⟩)
end
end
section
variable {L n:Nat}
abbrev Y4:=Option (Int×Int×Int×Int)
def exY (ks:List Nat):Y4→Ex
 |none=> .no
 |some (a,b,c,d)=>exM ks a b c d
def yA:Y4→AV
 |none=>AO
 |some (a,b,c,d)=> .list 1 [I a,I b,I c,I d]
def yI:Y4→Prop
 |none=>True
 |some (a,b,c,d)=>K8 a∧K8 b∧K8 c∧K8 d
def ZX (ins:List Int) (count:Int) (y:Y4):Pr:=⟨1+(pk count 900).toNat,ksM ins ((pk count 3).toNat+1),exY (ksM ins ((pk count 3).toNat+1)) y⟩
section
variable {K:KV} {x:Al} {ins:List Int} {id:Int} {ks us:List Nat} {xs:List Nd} {v w u:AV} {b r z m:Nat} {H H':Hp} {count:Int} {y:Y4}
theorem A9U (h:ins.length=3):(ksM ins ((pk count 3).toNat+1)).length=(pk count 3).toNat+1∧(pk count 3).toNat<3:=by
 have pr:=E9 (c:=count) (n:=3) (by decide)
 unfold ksM
 rw[l1u,l0g]
 omega
theorem B8D {i:Nat}:∀k∈ksM ins i,k<7:=by
 intro k hk
 obtain⟨c,_,rfl⟩:=l2a.1 hk
 have pr:=E9 (c:=c) (n:=7) (by decide)
 omega
theorem A8d (h:ins.length=3):(ZX ins count y).Ok:=by
 have pr:=E9 (c:=count) (n:=900) (by decide)
 obtain⟨h1,h2⟩:=A9U (count:=count) h
 have h3:(ZX ins count y).ks.length=(pk count 3).toNat+1:=h1
 refine⟨by show 1≤1+_;omega,by show 1+_<950;omega,by rw[h3];omega,by rw[h3];omega,B8D,?_⟩
 match y with
 |none=>exact trivial
 |some (a,b,c,d)=>exact C2m (by show 1≤(ksM ins ((pk count 3).toNat+1)).length;rw[h1];omega)
theorem B3y (sv:B1 H Az 20 v ks.length (ks.flatMap Gh)) (nv:ks=[]→v=AO) (sw:B1 H AI 26 w xs.length (xs.flatMap ndC)) (nw:xs=[]→w=AO) (h1:1≤ks.length) (h2:1≤xs.length) {D:Nat} {bb:Bool} {o:UD}:∃q,Fx bb (D+2) (.agg (Bx id v w o)) (.agg (Bx id (BC ks) (BU xs) o)) H q:=by
 obtain⟨q1,e1⟩:=Yn (D:=D) (b:=bb) sv nv
 obtain⟨q2,e2⟩:=B4b (D:=D) (b:=bb) sw nw
 rw[A9u h1] at e1
 rw[A9O h2] at e2
 exact⟨_,PE (D:=D+1) (A2 (q:=false) Ed (A2 e1 (A2 e2 (Kf (b:=bb) (D:=D+1) (H:=H) (λx:Value=>x) [.int .i64 o.p0,.int .i64 o.q0,.int .i64 o.p1,.int .i64 o.q1,.int .i64 o.p2,.int .i64 o.q2,.int .i64 o.p3,.int .i64 o.q3,.int .i64 o.p4,.int .i64 o.q4,.int .i64 o.p5,.int .i64 o.q5,.int .i64 o.p6,.int .i64 o.q6,
  .string ⟨⟨o.fn⟩⟩,.string ⟨⟨o.fd⟩⟩,.string ⟨⟨o.on⟩⟩,.string ⟨⟨o.od⟩⟩,.int .i64 o.kd,.int .i64 o.sc]))))⟩
theorem A3n {o:UD} (h1:AV.one v=true) (h2:AV.one w=true):(Bx id v w o).all AV.one=true:=by
 show(true&&(AV.one v&&(AV.one w&&true)))=true
 rw[h1,h2];rfl
theorem C1R (h:Md b r z ins id ks xs us v w u H) (h1:1≤ks.length) (h2:1≤xs.length) (h3:us.length=xs.length) (h4:us.length<1000) (hK:∀v0 H0,(∀b,∃q,Fx b depth v0 (.agg (Bx id (BC ks) (BU xs) (uu (us.getD (xs.length-1) 0)))) H0 q)→K v0 H0=x):
 (AP Am u λv38=>
  Go.Abs.Ak Ab .sub v38 (AV.v (.int .i64 1)) λv39=>
  B0 Am u v39 λv40=>
  Aq Ag v40 H λv41=>
  AN 3 (.ptr r 0 0) λv42=>
  Cq Ag v42 v41 H λH43=>
  Aq AA (.ptr r 0 0) H43 λv45=>
  Cq AA (.ptr z 0 0) v45 H43 λH46=>
  Aq AA (.ptr z 0 0) H46 λv48=>
  K v48 H46)=x:=by
 have hlt:us.length-1<us.length:=by omega
 obtain⟨a,g1,g2⟩:=A9t h.su hlt
 have eg:us[us.length-1]=us.getD (xs.length-1) 0:=by rw[←h3];simp[List.getD,JV hlt]
 rw[eg] at g2
 generalize us.getD (xs.length-1) 0=k at g2 hK
 obtain⟨cs,c1,c2⟩:=h.hz
 rw[Js (t:=Am) rfl h.su,A3f (by omega) (by omega),g1,g2,Vu,Yx (vs:=Cc (uu k)) h.hr (show 3+20≤23 by decide) rfl rfl]
 have r1:=AC (q:=true) (e:=B8) (cs:=Bx id v w (uu k)) h.hr
 have z1:Ax (Go.Abs.upd H r (GK id v w (uu k))) z=some (.cells true B8 cs):=by rw[Au h.zr];exact c2
 have es:splice (Bx id v w u0) 3 (Cc (uu k))=Bx id v w (uu k):=rfl
 rw[es,Bm (cs:=Bx id v w (uu k)) rfl rfl r1,B7 z1 (by rw[c1];rfl) (by rw[c1];rfl) (A3n (B1.one h.sv) (B1.one h.sw)),Bm (cs:=Bx id v w (uu k)) rfl rfl (AC z1)]
 refine hK _ _ λq=> ?_
 refine B3y (D:=depth-2) (h.sv.kp λs x hs hl=> ?_) h.nv (h.sw.kp λs x hs hl=> ?_) h.nw h1 h2
 ·have:=h.av s hs
  rw[Au this.2.2.1,Au this.2.1];exact hl
 ·have:=h.aw s hs
  rw[Au this.2.2.1,Au this.2.1];exact hl
theorem B3l (hL:100<L) (hi:ins.length=3) (hi64:∀c∈ins,K8 c) (hc:K8 count) (hy:yI y):
 CS (rt (L+20) (n+43)) OB [.agg (Et ins),I count,yA y,Bo true] (.agg (Bx (ZX ins count y).id (BC (ZX ins count y).ks) (BU (ZX ins count y).xs) (uu (ZX ins count y).out))):=by
 intro K hK
 have hp:=A8d (count:=count) (y:=y) hi
 obtain⟨p1,p2,p3⟩:=XS hp
 obtain⟨l1,l2⟩:=A9U (count:=count) hi
 have pr:=E9 (c:=count) (n:=900) (by decide)
 rw[A1c]
 unfold Sz Ar
 have k1:∀H K,Ah (rt (L+20) (n+42)) BK [I count,.v (.int .i64 900)] H K=K (I (pk count 900)):=Kr (n:=n+41) hc (by decide) (by decide)
 have eid:((ZX ins count y).id:Int)=1+pk count 900:=by show((1+(pk count 900).toNat:Nat):Int)=_;omega
 have ad:∀{K:AV→Al},Go.Abs.Ak Ab .add (.v (.int .i64 1)) (I (pk count 900)) K=K (I ((ZX ins count y).id:Int)):= λ{K}=>by rw[Cz,Cb (by omega) (by omega),eid]
 have bd:∀{i:Int} {K:AV→Al},Bk AA [(0,1,I i)] K=K (.agg (Bx i AO AO u0)):= λ{i K}=>_root_.id rfl
 rw[EY (A3w ins)]
 have hb:=A1 (H:=[]) (x:= .cells true Rs (Et ins)) (by simp)
 have w0:=BE (x:= .cells true Rs (Et ins)) Fv
 generalize ((A6 [],Row.cells true Rs (Et ins))::([]:Hp))=H0 at hb w0
 generalize A6 []=b at hb
 rw[Bf (cs:=Bx 0 AO AO u0) rfl]
 have hz:=A1 (H:=H0) (x:= .cells true B8 (Bx 0 AO AO u0)) (by simp)
 have b1:=Bj (x:= .cells true B8 (Bx 0 AO AO u0)) (w0.lt hb) hb
 have w1:=BE (x:= .cells true B8 (Bx 0 AO AO u0)) w0
 generalize ((A6 H0,Row.cells true B8 (Bx 0 AO AO u0))::H0)=H1 at hz w1 b1
 generalize A6 H0=z at hz
 rw[k1,ad,bd,Bf (cs:=Bx 0 AO AO u0) rfl]
 obtain⟨H2,e2,r2,w2,kp⟩:=Er (e:=B8) (zs:=Bx 0 AO AO u0) (vs:=Bx (ZX ins count y).id AO AO u0) w1 rfl
 rw[B7 (cs:=Bx 0 AO AO u0) (vs:=Bx (ZX ins count y).id AO AO u0) (A1 (by simp)) rfl rfl rfl,←e2]
 obtain⟨b2,nbr⟩:=kp _ _ b1
 obtain⟨z2,nzr⟩:=kp _ _ hz
 generalize A6 H1=r at r2 nbr nzr
 have no:∀{s:Nat} {P:Prop},AX AO s→P:= λ⟨_,_,_,h⟩=>by cases h
 have h0:Md b r z ins (ZX ins count y).id (ksM ins 0) [] [] AO AO AO H2:=⟨b2,r2,⟨_,rfl,z2⟩,.inl ⟨rfl,rfl,rfl⟩,λ_=>rfl,.inl ⟨rfl,rfl,rfl⟩,λ_=>rfl,.inl ⟨rfl,rfl,rfl⟩,λ_=>rfl,nbr,nzr,λ_=>no,λ_=>no,λ_=>no,w2⟩
 simp only[Cp]
 refine C4a hL hi hi64 hc (λv H hh=> ?_) (L+20) 0 AO H2 (by omega) (by omega) h0
 refine C4b (n:=n) hL (by rw[l1];omega) (λw u H hh=> ?_) (L+20) 0 AO AO H (by omega) (by omega) hh
 have fin:∀w' u' H',Md b r z ins (ZX ins count y).id (ZX ins count y).ks (ZX ins count y).xs (ZX ins count y).ty v w' u' H'→_:= λw' u' H' hh'=>C1R (K:=K) hh' hp.k1 p2 p1 (by omega) hK
 match y with
 |none=>
  show IU (L+20) (rt (L+20) (n+42)) K _ ((L+19)+1) _ AO _ _ _ _ _ _ _ _ H=_
  rw[NX]
  unfold Ko Ba Bu Ar Ev CK
  have el:∀{K:AV→Al},AP HB AO K=K (I ((0:Nat):Int)):= λ{K}=>_root_.id rfl
  have e0:(AV.v (.int .i64 0))=I ((0:Nat):Int):=rfl
  rw[el,e0,FX (by omega)]
  simp only[gTF,Co,Vk]
  rw[BD]
  refine fin w u H ?_
  show Md b r z ins _ _ (Kv _++[]) (_++[]) v w u H
  rw[l1o,l1o]
  exact hh
 |some (y0,y1,y2,y3)=>
  exact C4c (n:=n) hh (by rw[l1];omega) (by rw[l1];omega) B8D hy.1 hy.2.1 hy.2.2.1 hy.2.2.2 (λw' u' H' hh'=>fin w' u' H' hh') (L+18)
end
end
end Go.Abs
end
