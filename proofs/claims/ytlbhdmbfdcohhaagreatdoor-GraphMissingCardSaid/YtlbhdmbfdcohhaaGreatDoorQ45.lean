import Derived.Test.YtlbhdmbfdcohhaaGreatDoorQ44
set_option linter.all false
set_option maxHeartbeats 100000000
noncomputable section
namespace Go.Abs
open Go.RowKit Go.Proofs
set_option maxRecDepth 100000
section
variable {L n:Nat}
theorem KN {α:Type} {F:α} {G:α→Al} {x:Al} (h:∀k,k=F→G k=x):jn F G=x:=by rw[Cl];exact h F rfl
theorem B1.kp {H H':Hp} {e sz n:Nat} {v:AV} {cs:List AV} (h:B1 H e sz v n cs) (k:∀s x,Bb v s→Au H s=some x→Au H' s=some x):B1 H' e sz v n cs:=by
 rcases h with h|⟨r,q,h1,h2,h3⟩
 ·exact .inl h
 ·exact .inr ⟨r,q,h1,k r _ ⟨_,_,_,h1⟩ h2,h3⟩
theorem C5Y (l:List Nd):∃vs:List Value,l.flatMap ndC=vs.map λx=> .v x:=by
 induction l with
 |nil=>exact⟨[],rfl⟩
 |cons x l ih=>
  obtain⟨vs,h⟩:=ih
  refine⟨[.int .i64 x.op,.string ⟨⟨x.vn⟩⟩,.string ⟨⟨x.vd⟩⟩,.int .i64 x.u.p0,.int .i64 x.u.q0,.int .i64 x.u.p1,.int .i64 x.u.q1,.int .i64 x.u.p2,.int .i64 x.u.q2,.int .i64 x.u.p3,.int .i64 x.u.q3,.int .i64 x.u.p4,.int .i64 x.u.q4,.int .i64 x.u.p5,.int .i64 x.u.q5,.int .i64 x.u.p6,.int .i64 x.u.q6,
   .string ⟨⟨x.u.fn⟩⟩,.string ⟨⟨x.u.fd⟩⟩,.string ⟨⟨x.u.on⟩⟩,.string ⟨⟨x.u.od⟩⟩,.int .i64 x.u.kd,.int .i64 x.u.sc,.int .i64 x.n,.int .i64 x.l,.int .i64 x.r]++vs,?_⟩
  rw[l00,h,Zt];rfl
def ndL (l:List Nd):AV:=match l with
 |[]=>AM
 |x::l=> .list (x::l).length ((x::l).flatMap ndC)
theorem B41 {D:Nat} {b:Bool} {H:Hp} {v:AV} {l:List Nd} (h:B1 H AF 26 v l.length (l.flatMap ndC)) (h0:l=[]→v=AM):∃q,Fx b (D+1) v (ndL l) H q:=by
 rcases h with⟨rfl,h2,_⟩|⟨r,q,rfl,h2,h3⟩
 ·cases l with
  |nil=>exact⟨false,E5⟩
  |cons a l=>simp at h2
 ·cases l with
  |nil=>have:=h0 rfl;cases this
  |cons a l=>
   refine⟨true,?_⟩
   show Fx b (D+1) _ (.list (a::l).length ((a::l).flatMap ndC)) H true
   obtain⟨vs,e⟩:=C5Y (a::l)
   rw[e] at h2 h3⊢
   exact UZ (q':=false) h2 h3 (Kb _root_.id _)
theorem C57 {y:Nd} {H:Hp} {K:KV}:Ft AF 26 AE 1 [(0,26,.agg y.cs)] H K=K (.sl 26 (A3 H) 0 1) ((A3 H,.cells false AF (ndC y))::H):=by
 have e:Ft AF 26 AE 1 [(0,26,.agg y.cs)] H K=HM H (λs=>K (.sl 26 s 0 1) ((s,.cells false AF (ndC y))::H)):=_root_.id rfl
 rw[e,BW]
structure Md (b r z:Nat) (ins:List Int) (id:Int) (ks:List Nat) (xs:List Nd) (us:List Nat) (v w u:AV) (H:Hp):Prop where
 hb:Au H b=some (.cells true QX (Ev ins))
 hr:Au H r=some (GL id v w u0)
 hz:∃cs,cs.length=23∧Au H z=some (.cells true B4 cs)
 sv:B1 H Aw 20 v ks.length (ks.flatMap Gg)
 nv:ks=[]→v=AM
 sw:B1 H AF 26 w xs.length (xs.flatMap ndC)
 nw:xs=[]→w=AM
 su:B1 H Aw 20 u us.length (us.flatMap Gg)
 nu:us=[]→u=AM
 br:b≠r
 zr:z≠r
 av:∀s,Bb v s→s≠b∧s≠r∧s≠z∧¬Bb w s∧¬Bb u s
 aw:∀s,Bb w s→s≠b∧s≠r∧s≠z∧¬Bb v s∧¬Bb u s
 au:∀s,Bb u s→s≠b∧s≠r∧s≠z∧¬Bb v s∧¬Bb w s
 wf:Wf H
section
variable {K:KV} {x:Al} {ins:List Int} {id:Int} {ks us:List Nat} {xs:List Nd} {v w u:AV} {b r z m:Nat} {H H':Hp}
theorem Md.grow (h:Md b r z ins id ks xs us v w u H) (wf:Wf H') (kp:∀s x,Au H s=some x→Au H' s=some x):Md b r z ins id ks xs us v w u H':=by
 obtain⟨cs,c1,c2⟩:=h.hz
 exact⟨kp _ _ h.hb,kp _ _ h.hr,⟨cs,c1,kp _ _ c2⟩,h.sv.kp λs x _=>kp s x,h.nv,h.sw.kp λs x _=>kp s x,h.nw,h.su.kp λs x _=>kp s x,h.nu,h.br,h.zr,h.av,h.aw,h.au,wf⟩
structure Oth (b r z:Nat) (v w u:AV) (m:Nat):Prop where
 b:m≠b
 r:m≠r
 z:m≠z
 v:¬Bb v m
 w:¬Bb w m
 u:¬Bb u m
theorem Md.oth (h:Md b r z ins id ks xs us v w u H):Oth b r z v w u (A3 H):=by
 obtain⟨cs,c1,c2⟩:=h.hz
 have h1:=h.wf.lt h.hb
 have h2:=h.wf.lt h.hr
 have h3:=h.wf.lt c2
 exact⟨by omega,by omega,by omega,λe=>by have:=h.sv.lt h.wf e;omega,λe=>by have:=h.sw.lt h.wf e;omega,λe=>by have:=h.su.lt h.wf e;omega⟩
theorem Md.upd (h:Md b r z ins id ks xs us v w u H) (o:Oth b r z v w u m) (y:Row):Md b r z ins id ks xs us v w u (upd H m y):=by
 obtain⟨cs,c1,c2⟩:=h.hz
 have kp:∀s x,s≠m→Au H s=some x→Au (Go.Abs.upd H m y) s=some x:= λs x hs hl=>by rw[Ap hs];exact hl
 exact⟨kp _ _ (Ne.symm o.b) h.hb,kp _ _ (Ne.symm o.r) h.hr,⟨cs,c1,kp _ _ (Ne.symm o.z) c2⟩,h.sv.kp λs x hs=>kp s x (λe=>o.v (e▸hs)),h.nv,h.sw.kp λs x hs=>kp s x (λe=>o.w (e▸hs)),h.nw,h.su.kp λs x hs=>kp s x (λe=>o.u (e▸hs)),h.nu,h.br,h.zr,h.av,h.aw,h.au,BL h.wf⟩
theorem Ye {α β:Type} (f:α→List β) (l:List α) (a:α):(l++[a]).flatMap f=l.flatMap f++f a:=by simp
theorem Md.v1 (h:Md b r z ins id ks xs us v w u H) (k:Nat) (hl:ks.length<100):∃v' H',(∀K:KV,Ea Aw 20 Ag Am v (.sl 20 (A3 H) 0 1) ((A3 H,.cells false Aw (Gg k))::H) K=K v' H')∧
 (∀K:Hp→Al,Ck Am (.ptr r 1 0) v' H' K=K (Go.Abs.upd H' r (GL id v' w u0)))∧Md b r z ins id (ks++[k]) xs us v' w u (Go.Abs.upd H' r (GL id v' w u0)):=by
 obtain⟨v',H',a1,a2,a3,a4,a5,a6⟩:=A6Z (ie:=Ag) (i2:=Am) (ys:=Gg k) h.sv h.wf rfl rfl (by decide) rfl (λ_=>rfl) (by show(_+1)*192≤_;omega) (by omega)
 obtain⟨cs,c1,c2⟩:=h.hz
 have h1:=h.wf.lt h.hb
 have h2:=h.wf.lt h.hr
 have h3:=h.wf.lt c2
 have hr':=a5 _ _ h.hr λe=>(h.av _ e).2.1 rfl
 have kp:∀s x,s≠r→¬Bb v s→Au H s=some x→Au (Go.Abs.upd H' r (GL id v' w u0)) s=some x:= λs x hs hn hl=>by rw[Ap hs];exact a5 s x hl hn
 refine⟨v',H',a1,λK=>E1 hr' (show 1<23 by decide) rfl (B1.cell a2) (B1.one a2),kp _ _ h.br (λe=>(h.av _ e).1 rfl) h.hb,A9 hr',⟨cs,c1,kp _ _ h.zr (λe=>(h.av _ e).2.2.1 rfl) c2⟩,?_,λe=>by simp at e,
  h.sw.kp λs x hs=>kp s x (h.aw s hs).2.1 (h.aw s hs).2.2.2.1,h.nw,h.su.kp λs x hs=>kp s x (h.au s hs).2.1 (h.au s hs).2.2.2.1,h.nu,h.br,h.zr,λs hs=> ?_,λs hs=> ?_,λs hs=> ?_,BL a3⟩
 ·rw[FK,Ye]
  refine B1.kp a2 λs x hs hl=> ?_
  have:=a6 s hs
  rw[Ap (by omega)];exact hl
 ·have:=a6 s hs
  exact⟨by omega,by omega,by omega,λe=>by have:=h.sw.lt h.wf e;omega,λe=>by have:=h.su.lt h.wf e;omega⟩
 ·obtain⟨q1,q2,q3,q4,q5⟩:=h.aw s hs
  exact⟨q1,q2,q3,λe=>by have:=a6 s e;have:=h.sw.lt h.wf hs;omega,q5⟩
 ·obtain⟨q1,q2,q3,q4,q5⟩:=h.au s hs
  exact⟨q1,q2,q3,λe=>by have:=a6 s e;have:=h.su.lt h.wf hs;omega,q5⟩
theorem Md.w1 (h:Md b r z ins id ks xs us v w u H) (y:Nd) (hl:xs.length<100):∃w' H',(∀K:KV,Ea AF 26 AE Ax w (.sl 26 (A3 H) 0 1) ((A3 H,.cells false AF (ndC y))::H) K=K w' H')∧
 (∀K:Hp→Al,Ck Ax (.ptr r 2 0) w' H' K=K (Go.Abs.upd H' r (GL id v w' u0)))∧Md b r z ins id ks (xs++[y]) us v w' u (Go.Abs.upd H' r (GL id v w' u0))∧(∀s x,s≠r→¬Bb w s→Au H s=some x→Au (Go.Abs.upd H' r (GL id v w' u0)) s=some x):=by
 obtain⟨w',H',a1,a2,a3,a4,a5,a6⟩:=A6Z (ie:=AE) (i2:=Ax) (ys:=ndC y) h.sw h.wf rfl rfl (by decide) rfl (λ_=>rfl) (by show(_+1)*256≤_;omega) (by omega)
 obtain⟨cs,c1,c2⟩:=h.hz
 have h1:=h.wf.lt h.hb
 have h2:=h.wf.lt h.hr
 have h3:=h.wf.lt c2
 have hr':=a5 _ _ h.hr λe=>(h.aw _ e).2.1 rfl
 have kp:∀s x,s≠r→¬Bb w s→Au H s=some x→Au (Go.Abs.upd H' r (GL id v w' u0)) s=some x:= λs x hs hn hl=>by rw[Ap hs];exact a5 s x hl hn
 refine⟨w',H',a1,λK=>E1 hr' (show 2<23 by decide) rfl (B1.cell a2) (B1.one a2),⟨kp _ _ h.br (λe=>(h.aw _ e).1 rfl) h.hb,A9 hr',⟨cs,c1,kp _ _ h.zr (λe=>(h.aw _ e).2.2.1 rfl) c2⟩,
  h.sv.kp λs x hs=>kp s x (h.av s hs).2.1 (h.av s hs).2.2.2.1,h.nv,?_,λe=>by simp at e,h.su.kp λs x hs=>kp s x (h.au s hs).2.1 (h.au s hs).2.2.2.2,h.nu,h.br,h.zr,λs hs=> ?_,λs hs=> ?_,λs hs=> ?_,BL a3⟩,kp⟩
 ·rw[FK,Ye]
  refine B1.kp a2 λs x hs hl=> ?_
  have:=a6 s hs
  rw[Ap (by omega)];exact hl
 ·obtain⟨q1,q2,q3,q4,q5⟩:=h.av s hs
  exact⟨q1,q2,q3,λe=>by have:=a6 s e;have:=h.sv.lt h.wf hs;omega,q5⟩
 ·have:=a6 s hs
  exact⟨by omega,by omega,by omega,λe=>by have:=h.sv.lt h.wf e;omega,λe=>by have:=h.su.lt h.wf e;omega⟩
 ·obtain⟨q1,q2,q3,q4,q5⟩:=h.au s hs
  exact⟨q1,q2,q3,q4,λe=>by have:=a6 s e;have:=h.su.lt h.wf hs;omega⟩
theorem Md.u1 (h:Md b r z ins id ks xs us v w u H) (k:Nat) (hl:us.length<100):∃u' H',(∀K:KV,Ea Aw 20 Ag Am u (.sl 20 (A3 H) 0 1) ((A3 H,.cells false Aw (Gg k))::H) K=K u' H')∧Md b r z ins id ks xs (us++[k]) v w u' H':=by
 obtain⟨u',H',a1,a2,a3,a4,a5,a6⟩:=A6Z (ie:=Ag) (i2:=Am) (ys:=Gg k) h.su h.wf rfl rfl (by decide) rfl (λ_=>rfl) (by show(_+1)*192≤_;omega) (by omega)
 obtain⟨cs,c1,c2⟩:=h.hz
 have h1:=h.wf.lt h.hb
 have h2:=h.wf.lt h.hr
 have h3:=h.wf.lt c2
 refine⟨u',H',a1,a5 _ _ h.hb (λe=>(h.au _ e).1 rfl),a5 _ _ h.hr (λe=>(h.au _ e).2.1 rfl),⟨cs,c1,a5 _ _ c2 (λe=>(h.au _ e).2.2.1 rfl)⟩,
  h.sv.kp λs x hs hl=>a5 s x hl (h.av s hs).2.2.2.2,h.nv,h.sw.kp λs x hs hl=>a5 s x hl (h.aw s hs).2.2.2.2,h.nw,?_,λe=>by simp at e,h.br,h.zr,λs hs=> ?_,λs hs=> ?_,λs hs=> ?_,a3⟩
 ·rw[FK,Ye]
  exact a2
 ·obtain⟨q1,q2,q3,q4,q5⟩:=h.av s hs
  exact⟨q1,q2,q3,q4,λe=>by have:=a6 s e;have:=h.sv.lt h.wf hs;omega⟩
 ·obtain⟨q1,q2,q3,q4,q5⟩:=h.aw s hs
  exact⟨q1,q2,q3,q4,λe=>by have:=a6 s e;have:=h.sw.lt h.wf hs;omega⟩
 ·have:=a6 s hs
  exact⟨by omega,by omega,by omega,λe=>by have:=h.sv.lt h.wf e;omega,λe=>by have:=h.sw.lt h.wf e;omega⟩
theorem Vg {s j:Nat} {K:AV→Al}:AL j (.ptr s 0 0) K=K (.ptr s j 0):=by rw[fA,K1]
theorem Md.ld1 (h:Md b r z ins id ks xs us v w u H) {K:AV→Al}:Aq Am (.ptr r 1 0) H K=K v:=AQ (p:=1) rfl h.hr (show 1<23 by decide)
theorem Md.ld2 (h:Md b r z ins id ks xs us v w u H) {K:AV→Al}:Aq Ax (.ptr r 2 0) H K=K w:=AQ (p:=2) rfl h.hr (show 2<23 by decide)
def ksM (ins:List Int) (i:Nat):List Nat:=(ins.take i).map λc=>(pk c 7).toNat
theorem B7c {i:Nat} (h:i<ins.length):ksM ins (i+1)=ksM ins i++[(pk ins[i] 7).toNat]:=by
 unfold ksM
 rw[l04 h,Zt];rfl
theorem C3R {count:Int} {xl ex d0 d1 d2:AV} {k259:AV→AV→AV→AV→AV→AV→AV→AV→Hp→Al} (hL:100<L) (hi:ins.length=3) (hi64:∀c∈ins,JU c) (hc:JU count)
 (hfin:∀v H,Md b r z ins id (ksM ins ((pk count 3).toNat+1)) [] [] v AM AM H→k259 (I count) xl ex (.ptr b 0 0) (.ptr z 0 0) (.ptr r 0 0) (I (((pk count 3).toNat+1:Nat):Int)) d2 H=x):
 ∀(f i:Nat) (v:AV) (H:Hp),i≤(pk count 3).toNat+1→(pk count 3).toNat+1-i<f→Md b r z ins id (ksM ins i) [] [] v AM AM H→
 Nf (L+20) (rt (L+20) (n+42)) K k259 f (I count) xl ex (.ptr b 0 0) (.ptr z 0 0) (.ptr r 0 0) (I i) d0 d1 d2 H=x:=by
 have pr:=ED (c:=count) (n:=3) (by decide)
 intro f
 induction f with
 |zero=>intro i v H _ h;omega
 |succ f ih=>
  intro i v H hi' hf hh
  rw[YQ]
  unfold Qp Ar
  have hpk:∀H K,Ah (rt (L+20) (n+42)) BI [I count,.v (.int .i64 3)] H K=K (I (pk count 3)):=Km (n:=n+41) hc (by decide) (by decide)
  rw[hpk,WW]
  by_cases h:i≤(pk count 3).toNat
  ·have hlt:i<ins.length:=by omega
   have hb:=hh.hb
   have ld:∀{K},Aq Ab (.ptr b i 0) H K=K (I ins[i]):= λ{K}=>by rw[AQ (p:=i) rfl hh.hb (by simp[Ev];omega),Pm hlt]
   have ia:∀{K:AV→Al},Bv OG (.ptr b 0 0) (I i) K=K (.ptr b i 0):= λ{K}=>DE i rfl rfl (by omega)
   have un:∀{H K},Ah (rt (L+20) (n+42)) EO [I ins[i]] H K=K (.agg (Cb (uu (pk ins[i] 7).toNat))):= λ{H K}=>A7Y (n:=n) (hi64 _ (Ow hlt)) H K
   have hlen:(ksM ins i).length<100:=by simp[ksM];omega
   obtain⟨v',H',a1,a2,a3⟩:=hh.v1 (pk ins[i] 7).toNat hlen
   have ok:ZA v v=true:=A5H hh.sv
   have l1:∀{K},Aq Am (.ptr r 1 0) ((A3 H,Row.cells false Aw (Gg (pk ins[i] 7).toNat))::H) K=K v:= λ{K}=>AQ (p:=1) rfl (Bh (hh.wf.lt hh.hr) hh.hr) (show 1<23 by decide)
   rw[decide_eq_true (by omega),D3]
   simp only[Vg,BH,hh.ld1,ia,ld,un,B1B,Ci,a1,a2,l1]
   rw[B3y ok,DS (by omega)]
   rw[←B7c hlt] at a3
   exact ih (i+1) v' _ (by omega) (by omega) a3
  ·have:i=(pk count 3).toNat+1:=by omega
   subst this
   rw[decide_eq_false (by omega),B9]
   exact hfin v H hh
theorem C3S {a1 a2 a3 i4 d0:AV} {k214:AV→AV→AV→AV→AV→AV→AV→AV→AV→Hp→Al} (hL:100<L) (hb:ks.length≤3)
 (hfin:∀w u H,Md b r z ins id ks (Kr ks) ks v w u H→k214 a1 a2 a3 (.ptr b 0 0) (.ptr z 0 0) (.ptr r 0 0) i4 u (I ks.length) H=x):
 ∀(f j:Nat) (w u:AV) (H:Hp),j≤ks.length→ks.length-j<f→Md b r z ins id ks ((List.range j).map UP) (ks.take j) v w u H→
 Ng (L+20) (rt (L+20) (n+42)) K k214 f a1 a2 a3 (.ptr b 0 0) (.ptr z 0 0) (.ptr r 0 0) i4 u (I j) d0 H=x:=by
 intro f
 induction f with
 |zero=>intro j w u H _ h;omega
 |succ f ih=>
  intro j w u H hi' hf hh
  rw[YR]
  unfold Qq Ar
  rw[Vg,hh.ld1,I5 (t:=Am) rfl hh.sv]
  by_cases h:j<ks.length
  ·have bd:∀{K:AV→Al},Bi AE [(0,1,.v (.int .i64 2)),(23,1,I j)] K=K (.agg (UP j).cs):= λ{K}=>_root_.id rfl
   obtain⟨w',H',b1,b2,b3, -⟩:=hh.w1 (UP j) (by simp;omega)
   obtain⟨a,g1,g2⟩:=A9h b3.sv h
   obtain⟨u',H2,e1,e2⟩:=b3.u1 ks[j] (by simp;omega)
   rw[Ge (by omega),D3,Vg,hh.ld2,bd,C57,b1,Vg,b2,Vg,b3.ld1,g1,g2,B1B,e1,DS (by omega)]
   refine ih (j+1) w' u' H2 (by omega) (by omega) ?_
   rw[List.range_succ,Zt,l04 h]
   exact e2
  ·have:j=ks.length:=by omega
   subst this
   rw[Gf (by omega),B9]
   rw[l06] at hh
   exact hfin w u H hh
end
end
section
variable {L n:Nat}
def exO (ks:List Nat) (q a13 b4 k7 e5 l r:Nat):Ex:=match q with
 |0=> .cn (Yc a13 b4) k7
 |1=> .inp l
 |6=>match Tr (ks.getD l 0) e5 with
  |some k=> .po l e5 k
  |none=> .no
 |7=> .no
 |q=>match RH (q-2) (ks.getD l 0) (ks.getD r 0) with
  |some k=> .bi (q+1) l r k
  |none=> .no
def exM (ks:List Nat) (y0 y1 y2 y3:Int):Ex:=exO ks (pk y0 8).toNat (pk y1 13).toNat (pk y2 4).toNat (pk y3 7).toNat (pk y2 5).toNat (pk y1 ks.length).toNat (pk y2 ks.length).toNat
theorem B4b {ks:List Nat} {q a13 b4 k7 e5 l r:Nat} (h:2≤q) (h':q<6):exO ks q a13 b4 k7 e5 l r=match RH (q-2) (ks.getD l 0) (ks.getD r 0) with
 |some k=> .bi (q+1) l r k
 |none=> .no:=by
 obtain rfl|rfl|rfl|rfl:q=2∨q=3∨q=4∨q=5:=by omega
 all_goals rfl
theorem A6x {a b:Nat} (ha:a<13) (hb:b<4):Yc a b<33:=by
 have:=Hv.1 (show((List.range 52).all λi=>decide (Yc (i/4) (i%4)<33))=true by kernel_rfl) (4*a+b) (IL.2 (by omega))
 rw[show(4*a+b)/4=a by omega,show(4*a+b)%4=b by omega] at this
 simpa using this
theorem KG {c m:Int} (h:0<m):∃k:Nat,pk c m=k∧(k:Int)<m∧(pk c m).toNat=k:=by
 have:=ED (c:=c) h
 exact⟨(pk c m).toNat,by omega,by omega,rfl⟩
theorem C1V {ks:List Nat} {y0 y1 y2 y3:Int} (h1:1≤ks.length):(exM ks y0 y1 y2 y3).Ok ks:=by
 obtain⟨q, -,h2,e0⟩:=KG (c:=y0) (m:=8) (by decide)
 obtain⟨a, -,ha,ea⟩:=KG (c:=y1) (m:=13) (by decide)
 obtain⟨b, -,hb,eb⟩:=KG (c:=y2) (m:=4) (by decide)
 obtain⟨k, -,hk,ek⟩:=KG (c:=y3) (m:=7) (by decide)
 obtain⟨e, -,he,ee⟩:=KG (c:=y2) (m:=5) (by decide)
 obtain⟨l, -,hl,el⟩:=KG (c:=y1) (m:=ks.length) (by omega)
 obtain⟨r, -,hr,er⟩:=KG (c:=y2) (m:=ks.length) (by omega)
 unfold exM
 rw[e0,ea,eb,ek,ee,el,er]
 by_cases hq:2≤q∧q<6
 ·rw[B4b hq.1 hq.2]
  cases hu:RH (q-2) (ks.getD l 0) (ks.getD r 0) with
  |none=>exact trivial
  |some k=>exact⟨by omega,by omega,by omega,by omega,hu⟩
 ·obtain rfl|rfl|rfl|rfl:q=0∨q=1∨q=6∨q=7:=by omega
  ·exact⟨A6x (by omega) (by omega),by omega⟩
  ·show l<ks.length;omega
  ·show(match Tr (ks.getD l 0) e with
    |some k=>Ex.po l e k
    |none=> .no).Ok ks
   cases hu:Tr (ks.getD l 0) e with
   |none=>exact trivial
   |some k=>exact⟨by omega,by omega,hu⟩
  ·exact trivial
section
variable {K:KV} {x:Al} {ins:List Int} {id:Int} {ks us:List Nat} {xs:List Nd} {v w u:AV} {b r z m:Nat} {H H':Hp} {y0 y1 y2 y3:Int}
theorem A9i {ks:List Nat} (h:1≤ks.length):OC ks=BC ks:=by cases ks with|nil=>simp at h|cons _ _=>rfl
theorem A9z {xs:List Nd} (h:1≤xs.length):ndL xs=BR xs:=by cases xs with|nil=>simp at h|cons _ _=>rfl
theorem Md.proc (h:Md b r z ins id ks xs us v w u H) (h1:1≤ks.length) (h2:1≤xs.length) {D:Nat} {bb:Bool}:∃q,Fx bb (D+2) (.agg (Bs id v w u0)) (.agg (Bs id (BC ks) (BR xs) u0)) H q:=by
 obtain⟨q1,e1⟩:=XZ (D:=D) (b:=bb) h.sv h.nv
 obtain⟨q2,e2⟩:=B41 (D:=D) (b:=bb) h.sw h.nw
 rw[A9i h1] at e1
 rw[A9z h2] at e2
 exact⟨_,Pn (D:=D+1) (A0 (q:=false) E5 (A0 e1 (A0 e2 (Kb (b:=bb) (D:=D+1) (H:=H) (λx:Value=>x) [.int .i64 u0.p0,.int .i64 u0.q0,.int .i64 u0.p1,.int .i64 u0.q1,.int .i64 u0.p2,.int .i64 u0.q2,.int .i64 u0.p3,.int .i64 u0.q3,.int .i64 u0.p4,.int .i64 u0.q4,.int .i64 u0.p5,.int .i64 u0.q5,.int .i64 u0.p6,.int .i64 u0.q6,
  .string ⟨⟨u0.fn⟩⟩,.string ⟨⟨u0.fd⟩⟩,.string ⟨⟨u0.on⟩⟩,.string ⟨⟨u0.od⟩⟩,.int .i64 u0.kd,.int .i64 u0.sc]))))⟩
theorem C1r {y:Nd} {D:Nat} {b:Bool} {H:Hp}:Fx b (D+1) (.agg y.cs) (.agg y.cs) H false:= λK=>by cases D<;>cases b<;>kernel_rfl
theorem Md.ty (h:Md b r z ins id ks (Kr ks) ks v w u H) (h1:1≤ks.length) {y:Nd} {t:AV} (hT:CS (rt (L+20) (n+42)) BY [.agg (Bs id (BC ks) (BR (Kr ks)) u0),.agg y.cs,I ks.length,OC ks] t) {K:AV→Al}:
 Ah (rt (L+20) (n+42)) BY [.agg (Bs id v w u0),.agg y.cs,I ks.length,u] H K=K t:=by
 obtain⟨q1,e1⟩:=h.proc h1 (by rw[DP];exact h1) (D:=depth-2) (bb:=true)
 obtain⟨q2,e2⟩:=B8n (b:=true) h.su h.nu
 exact Be hT (A0 e1 (A0 (C1r (D:=depth-1)) (A0 (q:=false) E5 (A0 e2 Bp))))
end
end
section
variable {L n:Nat}
section
variable {K:KV} {x:Al} {ins:List Int} {id:Int} {ks us:List Nat} {xs:List Nd} {v w u:AV} {b r z m:Nat} {H H':Hp} {y0 y1 y2 y3:Int}
theorem C3T {a1 i4 j5:AV} {k49:AV→AV→AV→Hp→Al} (h:Md b r z ins id ks (Kr ks) ks v w u H) (k1:1≤ks.length) (k3:ks.length≤3) (k7:∀k∈ks,k<7) (i0:JU y0) (i1:JU y1) (i2:JU y2) (i3:JU y3)
 (hfin:∀w' u' H',Md b r z ins id ks (Kr ks++(exM ks y0 y1 y2 y3).nd) (ks++(exM ks y0 y1 y2 y3).ty ks) v w' u' H'→k49 (.ptr z 0 0) (.ptr r 0 0) u' H'=x) (f:Nat):
 IK (L+20) (rt (L+20) (n+42)) K k49 (f+2) a1 (.list 1 [I y0,I y1,I y2,I y3]) (Bo true) (.ptr b 0 0) (.ptr z 0 0) (.ptr r 0 0) i4 u j5 (I ((0:Nat):Int)) H=x:=by
 have ex:∀w' u' H',Md b r z ins id ks (Kr ks++(exM ks y0 y1 y2 y3).nd) (ks++(exM ks y0 y1 y2 y3).ty ks) v w' u' H'→IK (L+20) (rt (L+20) (n+42)) K k49 (f+1) a1 (.list 1 [I y0,I y1,I y2,I y3]) (Bo true) (.ptr b 0 0) (.ptr z 0 0) (.ptr r 0 0) i4 u' j5 (I ((0+1:Nat):Int)) H'=x:=by
  intro w' u' H' hh
  rw[NN]
  unfold Kk AU Bw Ar E4 CH
  have el:∀{K:AV→Al},AN Hw (.list 1 [I y0,I y1,I y2,I y3]) K=K (I ((1:Nat):Int)):= λ{K}=>_root_.id rfl
  rw[el,Gf (by omega)]
  simp only[gTF,Ci,TB]
  rw[B9]
  exact hfin w' u' H' hh
 rw[NN]
 unfold Kk AU Bw Ar E4 CH
 have el:∀{K:AV→Al},AN Hw (.list 1 [I y0,I y1,I y2,I y3]) K=K (I ((1:Nat):Int)):= λ{K}=>_root_.id rfl
 have e14:(AV.v (.int .i64 14))=I ((14:Nat):Int):=rfl
 have hw:=h.sw
 rw[DP] at hw
 rw[el,Ge (by omega),e14]
 simp only[gT,Ci,Vg,h.ld2,I5 (t:=Ax) rfl hw]
 rw[Ge (by omega),Ci,Vu,D3]
 refine KN λk76 h76=> ?_
 refine KN λk80 h80=> ?_
 have hk80:∀w' u' H',Md b r z ins id ks (Kr ks++(exM ks y0 y1 y2 y3).nd) (ks++(exM ks y0 y1 y2 y3).ty ks) v w' u' H'→k80 u' H'=x:=by
  intro w' u' H' hh
  rw[h80,h76]
  have ad:∀{K:AV→Al},Go.Abs.Ak Ab .add (I ((0:Nat):Int)) (.v (.int .i64 1)) K=K (I ((0+1:Nat):Int)):= λ{K}=>DS (by omega)
  simp only[ad]
  exact ex w' u' H' hh
 clear h76 h80 ex hfin
 have ia0:∀{K:AV→Al},Bv Hw (.list 1 [I y0,I y1,I y2,I y3]) (I ((0:Nat):Int)) K=K (.iptr [I y0,I y1,I y2,I y3]):= λ{K}=>_root_.id rfl
 have ld0:∀{H} {K:AV→Al},Aq Cc (.iptr [I y0,I y1,I y2,I y3]) H K=K (.agg [I y0,I y1,I y2,I y3]):= λ{H K}=>_root_.id rfl
 obtain⟨H1,e1,m1,w1,kp1⟩:=Ed (e:=FH) (zs:=[zI,zI,zI,zI]) (vs:=[I y0,I y1,I y2,I y3]) h.wf rfl
 rw[ia0,ld0,Ba (cs:=[zI,zI,zI,zI]) rfl,B0 (cs:=[zI,zI,zI,zI]) (vs:=[I y0,I y1,I y2,I y3]) (Ay (by simp)) rfl rfl rfl,←e1]
 have o4:=h.oth
 have h1:=h.grow w1 λs x hs=>(kp1 s x hs).1
 generalize A3 H=q4 at m1 o4
 clear kp1 e1
 have hw1:=h1.sw
 rw[DP] at hw1
 rw[h1.ld2,I5 (t:=Ax) rfl hw1]
 have y4:∀{H2:Hp} {K:AV→Al},Au H2 q4=some (.cells true FH [I y0,I y1,I y2,I y3])→(Bv Cc (.ptr q4 0 0) (.v (.int .i64 0)) λp=>Aq Ab p H2 K)=K (I y0):= λ{H2 K} hl=>by
  rw[DE (z:=0) 0 rfl rfl (by decide),AQ (p:=0) rfl hl (by simp)];rfl
 have y41:∀{H2:Hp} {K:AV→Al},Au H2 q4=some (.cells true FH [I y0,I y1,I y2,I y3])→(Bv Cc (.ptr q4 0 0) (.v (.int .i64 1)) λp=>Aq Ab p H2 K)=K (I y1):= λ{H2 K} hl=>by
  rw[DE (z:=1) 1 rfl rfl (by decide),AQ (p:=1) rfl hl (by simp)];rfl
 have y42:∀{H2:Hp} {K:AV→Al},Au H2 q4=some (.cells true FH [I y0,I y1,I y2,I y3])→(Bv Cc (.ptr q4 0 0) (.v (.int .i64 2)) λp=>Aq Ab p H2 K)=K (I y2):= λ{H2 K} hl=>by
  rw[DE (z:=2) 2 rfl rfl (by decide),AQ (p:=2) rfl hl (by simp)];rfl
 have y43:∀{H2:Hp} {K:AV→Al},Au H2 q4=some (.cells true FH [I y0,I y1,I y2,I y3])→(Bv Cc (.ptr q4 0 0) (.v (.int .i64 3)) λp=>Aq Ab p H2 K)=K (I y3):= λ{H2 K} hl=>by
  rw[DE (z:=3) 3 rfl rfl (by decide),AQ (p:=3) rfl hl (by simp)];rfl
 obtain⟨q,pq,hq,eq⟩:=KG (c:=y0) (m:=8) (by decide)
 obtain⟨a13,pa,ha,ea⟩:=KG (c:=y1) (m:=13) (by decide)
 obtain⟨b4,pb,hb,eb⟩:=KG (c:=y2) (m:=4) (by decide)
 obtain⟨k7',pk7,hk,ek⟩:=KG (c:=y3) (m:=7) (by decide)
 obtain⟨e5,pe,he,ee⟩:=KG (c:=y2) (m:=5) (by decide)
 obtain⟨l,pl,hl,el⟩:=KG (c:=y1) (m:=ks.length) (by omega)
 obtain⟨rr,pr,hr,er⟩:=KG (c:=y2) (m:=ks.length) (by omega)
 have hpk0:∀H K,Ah (rt (L+20) (n+42)) BI [I y0,.v (.int .i64 8)] H K=K (I (q:Int)):=by rw[←pq];exact Km (n:=n+41) i0 (by decide) (by decide)
 have hpk13:∀H K,Ah (rt (L+20) (n+42)) BI [I y1,.v (.int .i64 13)] H K=K (I (a13:Int)):=by rw[←pa];exact Km (n:=n+41) i1 (by decide) (by decide)
 have hpk4:∀H K,Ah (rt (L+20) (n+42)) BI [I y2,.v (.int .i64 4)] H K=K (I (b4:Int)):=by rw[←pb];exact Km (n:=n+41) i2 (by decide) (by decide)
 have hpk5:∀H K,Ah (rt (L+20) (n+42)) BI [I y2,.v (.int .i64 5)] H K=K (I (e5:Int)):=by rw[←pe];exact Km (n:=n+41) i2 (by decide) (by decide)
 have hpkl:∀H K,Ah (rt (L+20) (n+42)) BI [I y1,I ks.length] H K=K (I (l:Int)):=by rw[←pl];exact Km (n:=n+41) i1 (by omega) (by omega)
 have hpkr:∀H K,Ah (rt (L+20) (n+42)) BI [I y2,I ks.length] H K=K (I (rr:Int)):=by rw[←pr];exact Km (n:=n+41) i2 (by omega) (by omega)
 have hun:∀H K,Ah (rt (L+20) (n+42)) EO [I y3] H K=K (.agg (Cb (uu k7'))):=by rw[←ek];exact A7Y (n:=n) i3
 have hex:exM ks y0 y1 y2 y3=exO ks q a13 b4 k7' e5 l rr:=by unfold exM;rw[eq,ea,eb,ek,ee,el,er]
 rw[hex] at hk80
 clear hex pq pa pb pk7 pe pl pr eq ea eb ek ee el er
 have bd:∀{z:Int} {K:AV→Al},Bi AE [(0,1,I z)] K=K (.agg (Nd.mk z [] [] u0 0 0 0).cs):= λ{z K}=>_root_.id rfl
 have ad:∀{K:AV→Al},Go.Abs.Ak Ab .add (.v (.int .i64 1)) (I (q:Int)) K=K (I ((q+1:Nat):Int)):= λ{K}=>by
  rw[Cv,Ca (by omega) (by omega)];rw[show(1:Int)+(q:Int)=((q+1:Nat):Int) by omega]
 rw[y4 m1,hpk0,ad,bd]
 obtain⟨H2,e2,m2,w2,kp2⟩:=Ed (e:=AF) (zs:=(Nd.mk 0 [] [] u0 0 0 0).cs) (vs:=(Nd.mk ((q+1:Nat):Int) [] [] u0 0 0 0).cs) h1.wf rfl
 rw[Ba (cs:=(Nd.mk 0 [] [] u0 0 0 0).cs) rfl,B0 (cs:=(Nd.mk 0 [] [] u0 0 0 0).cs) (vs:=(Nd.mk ((q+1:Nat):Int) [] [] u0 0 0 0).cs) (Ay (by simp)) rfl rfl rfl,←e2]
 have o:=h1.oth
 have h2:=h1.grow w2 λs x hs=>(kp2 s x hs).1
 obtain⟨m4,nqm⟩:=kp2 _ _ m1
 generalize A3 H1=m at m2 o nqm
 clear kp2 e2
 refine KN λk101 h101=> ?_
 have tail:∀(nd:Nd) (Hm:Hp) (U:UD) (e:Int),Md b r z ins id ks (Kr ks) ks v w u Hm→Au Hm m=some (.cells true AF nd.cs)→
  CS (rt (L+20) (n+42)) BY [.agg (Bs id (BC ks) (BR (Kr ks)) u0),.agg nd.cs,I ks.length,OC ks] (.tup [.agg (Cb U),I e])→
  (e=0∧nd.op≠8→∃k,U=uu k∧(exO ks q a13 b4 k7' e5 l rr).nd=[nd]∧(exO ks q a13 b4 k7' e5 l rr).ty ks=[k])→(¬(e=0∧nd.op≠8)→(exO ks q a13 b4 k7' e5 l rr).nd=[]∧(exO ks q a13 b4 k7' e5 l rr).ty ks=[])→k101 Hm=x:=by
  intro nd Hm U e hm mm hT hg hbad
  have lp:∀{K},Aq A7 (.ptr r 0 0) Hm K=K (.agg (Bs id v w u0)):= λ{K}=>Bk rfl rfl hm.hr
  have ln:∀{K},Aq AE (.ptr m 0 0) Hm K=K (.agg nd.cs):= λ{K}=>Bk rfl rfl mm
  rw[h101]
  simp only[lp,ln,hm.ty k1 hT]
  obtain⟨H3,e3,m3,w3,kp3⟩:=Ed (e:=Aw) (zs:=E9) (vs:=Cb U) hm.wf rfl
  rw[CY,CX,Ba (cs:=E9) rfl,B0 (cs:=E9) (vs:=Cb U) (Ay (by simp)) rfl rfl rfl,←e3]
  have o3:=hm.oth
  have h3:=hm.grow w3 λs x hs=>(kp3 s x hs).1
  obtain⟨m5, -⟩:=kp3 _ _ mm
  generalize A3 Hm=q3 at m3 o3
  clear kp3 e3
  have ln3:∀{K},Aq AE (.ptr m 0 0) H3 K=K (.agg nd.cs):= λ{K}=>Bk rfl rfl m5
  have lo3:∀{K},Aq Ab (.ptr m 0 0) H3 K=K (I nd.op):= λ{K}=>AQ (p:=0) rfl m5 (show 0<26 by decide)
  rw[Dy]
  by_cases he0:e=0
  ·rw[decide_eq_true he0]
   simp only[gT,Ci,ntT,Vg,lo3,Hu,Vu,TB]
   by_cases h8:nd.op=8
   ·obtain⟨g1,g2⟩:=hbad λhh=>hh.2 h8
    rw[decide_eq_true h8]
    show As (Bo false) _ _=_
    rw[B9]
    refine hk80 w u H3 ?_
    rw[g1,g2,l1o,l1o]
    exact h3
   ·obtain⟨k,rfl,g1,g2⟩:=hg ⟨he0,h8⟩
    rw[decide_eq_false h8]
    show As (Bo true) _ _=_
    obtain⟨w',H4,a1,a2,a3,a4⟩:=h3.w1 nd (by rw[DP];omega)
    obtain⟨u',H5,b1,b2⟩:=a3.u1 k (by omega)
    have lu:∀{K},Aq Ag (.ptr q3 0 0) (Go.Abs.upd H4 r (GL id v w' u0)) K=K (.agg (Cb (uu k))):= λ{K}=>Bk rfl rfl (a4 _ _ o3.r o3.w m3)
    rw[D3,h3.ld2,ln3,C57,a1,a2,lu,B1B,b1]
    refine hk80 w' u' H5 ?_
    rw[g1,g2]
    exact b2
  ·obtain⟨g1,g2⟩:=hbad λhh=>he0 hh.1
   rw[decide_eq_false he0]
   simp only[gTF,Ci,gU,TB]
   rw[B9]
   refine hk80 w u H3 ?_
   rw[g1,g2,l1o,l1o]
   exact h3
 clear h101 hk80
 have lo:∀{K},Aq Ab (.ptr m 0 0) H2 K=K (I ((q+1:Nat):Int)):= λ{K}=>AQ (p:=0) rfl m2 (show 0<26 by decide)
 rw[Vg,lo]
 refine KN λk145 h145=> ?_
 have h145':∀H,k145 H=k101 H:= λH=>by rw[h145]
 clear h145
 have sm:∀{cs:List AV} {Hx:Hp},Au Hx q4=some (.cells true FH [I y0,I y1,I y2,I y3])→Au (Go.Abs.upd Hx m (.cells true AF cs)) q4=some (.cells true FH [I y0,I y1,I y2,I y3]):= λhl=>by rw[Ap nqm];exact hl
 rw[Dy]
 by_cases hq26:2≤q∧q<6
 ·have hT:=A9q (L:=L) (n:=n) (id:=id) (o:=u0) (xs:=Kr ks) (op:=q+1) k1 k3 k7 (show l<ks.length by omega) (show rr<ks.length by omega) (by omega) (by omega)
  rw[show q+1-3=q-2 by omega] at hT
  rw[decide_eq_false (by omega),B9,Dy,decide_eq_false (by omega),B9,Dy,decide_eq_false (by omega),B9,Dy,decide_eq_false (by omega),B9,
   y41 m4,hpkl,Vg,E1 m2 (show 24<26 by decide) rfl rfl rfl,y42 (sm m4),hpkr,Vg,E1 (A9 m2) (show 25<26 by decide) rfl rfl rfl,h145']
  have hx:=B4b (ks:=ks) (a13:=a13) (b4:=b4) (k7:=k7') (e5:=e5) (l:=l) (r:=rr) hq26.1 hq26.2
  have hm:=(h2.upd o (.cells true AF ((Nd.mk ((q+1:Nat):Int) [] [] u0 0 0 0).cs.set 24 (I (l:Int))))).upd o (.cells true AF (((Nd.mk ((q+1:Nat):Int) [] [] u0 0 0 0).cs.set 24 (I (l:Int))).set 25 (I (rr:Int))))
  cases hu:RH (q-2) (ks.getD l 0) (ks.getD rr 0) with
  |none=>
   rw[hu] at hT hx
   exact tail (biN (q+1) l rr) _ u0 90 hm (A9 (A9 m2)) hT (λhh=>absurd hh.1 (by decide)) (λ_=>by rw[hx];exact⟨rfl,rfl⟩)
  |some k=>
   rw[hu] at hT hx
   refine tail (biN (q+1) l rr) _ (uu k) 0 hm (A9 (A9 m2)) hT (λ_=>⟨k,rfl,by rw[hx];exact⟨rfl,rfl⟩⟩) (λhh=>absurd ⟨rfl,?_⟩ hh)
   show((q+1:Nat):Int)≠8
   omega
 ·obtain rfl|rfl|rfl|rfl:q=0∨q=1∨q=6∨q=7:=by omega
  ·have ia1:∀{K:AV→Al},Bv Cc (.ptr q4 0 0) (.v (.int .i64 1)) K=K (.ptr q4 1 0):= λ{K}=>DE (z:=1) 1 rfl rfl (by decide)
   have ia2:∀{K:AV→Al},Bv Cc (.ptr q4 0 0) (.v (.int .i64 2)) K=K (.ptr q4 2 0):= λ{K}=>DE (z:=2) 2 rfl rfl (by decide)
   have d1:∀{K:AV→Al},Aq Ab (.ptr q4 1 0) H2 K=K (I y1):= λ{K}=>AQ (p:=1) rfl m4 (by simp)
   have d2:∀{K:AV→Al},Aq Ab (.ptr q4 2 0) H2 K=K (I y2):= λ{K}=>AQ (p:=2) rfl m4 (by simp)
   have sb:∀{K:AV→Al},Go.Abs.Ak Ab .sub (I (a13:Int)) (.v (.int .i64 6)) K=K (I ((a13:Int)-6)):= λ{K}=>by rw[GE,Ca (by omega) (by omega)]
   have ad4:∀{K:AV→Al},Go.Abs.Ak Ab .add (.v (.int .i64 1)) (I (b4:Int)) K=K (I (1+(b4:Int))):= λ{K}=>by rw[Cv,Ca (by omega) (by omega)]
   have hof:∀H K,Ah (rt (L+20) (n+42)) EP [I ((a13:Int)-6),I (1+(b4:Int))] H K=K (.tup [.agg (VI (Yc a13 b4)),I 0]):=by
    have:=C10 L (n+2) (4*a13+b4) (by omega)
    rw[show(4*a13+b4)/4=a13 by omega,show(4*a13+b4)%4=b4 by omega] at this
    exact this
   have hT:=A5R (L:=L) (n:=n) (id:=id) (o:=u0) (xs:=Kr ks) (ks:=ks) (at_:=ks.length) (w:=OC ks) (A6x (a:=a13) (b:=b4) (by omega) (by omega)) (show k7'<7 by omega)
   rw[decide_eq_true (by rfl),D3]
   simp only[ia1,ia2,d1,d2,hpk13,hpk4,sb,ad4,hof,CY,CX,Vg,BH]
   rw[Yj (vs:=VI (Yc a13 b4)) m2 (show 1+2≤26 by decide) rfl rfl,Ci,y43 (sm m4),hun,Yj (vs:=Cb (uu k7')) (A9 m2) (show 3+20≤26 by decide) rfl rfl,h145']
   have hm:=(h2.upd o (.cells true AF (splice (Nd.mk ((0+1:Nat):Int) [] [] u0 0 0 0).cs 1 (VI (Yc a13 b4))))).upd o (.cells true AF (splice (splice (Nd.mk ((0+1:Nat):Int) [] [] u0 0 0 0).cs 1 (VI (Yc a13 b4))) 3 (Cb (uu k7'))))
   exact tail (cnN (Yc a13 b4) k7') _ (uu k7') 0 hm (A9 (A9 m2)) hT (λ_=>⟨k7',rfl,rfl,rfl⟩) (λhh=>absurd ⟨rfl,show(1:Int)≠8 by decide⟩ hh)
  ·have hT:=Us (L:=L) (n:=n+39) (id:=id) (o:=u0) (xs:=Kr ks) (ks:=ks) (i:=l) (by omega) (by omega) (at_:=ks.length) (w:=OC ks)
   have eg:ks[l]'(by omega)=ks.getD l 0:=by simp[List.getD,Ka (show l<ks.length by omega)]
   rw[eg] at hT
   rw[decide_eq_false (by decide),B9,Dy,decide_eq_true (by rfl),D3,y41 m4,h2.ld1,I5 (t:=Am) rfl h2.sv,hpkl,Vg,E1 m2 (show 23<26 by decide) rfl rfl rfl,h145']
   have hm:=h2.upd o (.cells true AF ((Nd.mk ((1+1:Nat):Int) [] [] u0 0 0 0).cs.set 23 (I (l:Int))))
   exact tail (UP l) _ (uu (ks.getD l 0)) 0 hm (A9 m2) hT (λ_=>⟨ks.getD l 0,rfl,rfl,rfl⟩) (λhh=>absurd ⟨rfl,show(2:Int)≠8 by decide⟩ hh)
  ·have hT:=A9p (L:=L) (n:=n) (id:=id) (o:=u0) (xs:=Kr ks) k1 k3 k7 (show l<ks.length by omega) (show e5<5 by omega)
   have bs5:∀{Hx:Hp} {K:KV},Ft CV 1 Ab 5 [(0,1,(AV.v (.int .i64 2))),(1,1,(AV.v (.int .i64 (-1)))),(2,1,(AV.v (.int .i64 3))),(3,1,(AV.v (.int .i64 (-2)))),(4,1,(AV.v (.int .i64 1)))] Hx K=K (.sl 1 (A3 Hx) 0 5) ((A3 Hx,.cells false CV [I 2,I (-1),I 3,I (-2),I 1])::Hx):= λ{Hx K}=>by
    have e:Ft CV 1 Ab 5 [(0,1,(AV.v (.int .i64 2))),(1,1,(AV.v (.int .i64 (-1)))),(2,1,(AV.v (.int .i64 3))),(3,1,(AV.v (.int .i64 (-2)))),(4,1,(AV.v (.int .i64 1)))] Hx K=HM Hx (λs=>K (.sl 1 s 0 5) ((s,.cells false CV [I 2,I (-1),I 3,I (-2),I 1])::Hx)):=_root_.id rfl
    rw[e,BW]
   have ia5:∀{s:Nat} {K:AV→Al},Bv Af (.sl 1 s 0 5) (I (e5:Int)) K=K (.ptr s e5 0):= λ{s K}=>by
    have e1:Bv Af (.sl 1 s 0 5) (I (e5:Int)) K=iN (e5:Int) λm=>ck (Nat.blt m 5) (fN (Nat.add 0 (Nat.mul m 1)) λp=>K (.ptr s p 0)):=_root_.id rfl
    rw[e1,J6,DL]
    have h3:Nat.blt e5 5=true:=by rw[TU];omega
    rw[h3]
    show K (.ptr s (0+e5*1) 0)=_
    rw[K1,l28]
   have gd:([I 2,I (-1),I 3,I (-2),I 1]:List AV).getD e5 .dk=I (Yh e5):=by
    obtain rfl|rfl|rfl|rfl|rfl:e5=0∨e5=1∨e5=2∨e5=3∨e5=4:=by omega
    all_goals rfl
   rw[decide_eq_false (by decide),B9,Dy,decide_eq_false (by decide),B9,Dy,decide_eq_true (by rfl),D3,y41 m4,hpkl,Vg,E1 m2 (show 24<26 by decide) rfl rfl rfl,bs5]
   have m3:=A9 (q:=true) (e:=AF) (cs:=(Nd.mk ((6+1:Nat):Int) [] [] u0 0 0 0).cs.set 24 (I (l:Int))) m2
   have h3:=h2.upd o (.cells true AF ((Nd.mk ((6+1:Nat):Int) [] [] u0 0 0 0).cs.set 24 (I (l:Int))))
   have s3:=sm (cs:=(Nd.mk ((6+1:Nat):Int) [] [] u0 0 0 0).cs.set 24 (I (l:Int))) m4
   generalize Go.Abs.upd H2 m (.cells true AF ((Nd.mk ((6+1:Nat):Int) [] [] u0 0 0 0).cs.set 24 (I (l:Int))))=H3 at m3 h3 s3
   have w4:=B3 (x:= .cells false CV [I 2,I (-1),I 3,I (-2),I 1]) h3.wf
   have k4:∀s x,Au H3 s=some x→Au ((A3 H3,.cells false CV [I 2,I (-1),I 3,I (-2),I 1])::H3) s=some x:= λs x hs=>Bh (h3.wf.lt hs) hs
   have h4:=h3.grow w4 k4
   have m4':=k4 _ _ m3
   have s4:=k4 _ _ s3
   have n4:=Ay (H:=H3) (x:= .cells false CV [I 2,I (-1),I 3,I (-2),I 1]) (by simp)
   generalize ((A3 H3,Row.cells false CV [I 2,I (-1),I 3,I (-2),I 1])::H3)=H4 at h4 m4' s4 n4
   rw[y42 s4,hpk5,ia5,AQ (p:=e5) rfl n4 (show e5<5 by omega),gd,Vg,E1 m4' (show 23<26 by decide) rfl rfl rfl,h145']
   have hm:=h4.upd o (.cells true AF (((Nd.mk ((6+1:Nat):Int) [] [] u0 0 0 0).cs.set 24 (I (l:Int))).set 23 (I (Yh e5))))
   have hx:exO ks 6 a13 b4 k7' e5 l rr=match Tr (ks.getD l 0) e5 with
    |some k=> .po l e5 k
    |none=> .no:=rfl
   cases hu:Tr (ks.getD l 0) e5 with
   |none=>
    rw[hu] at hT hx
    exact tail (poN l e5) _ u0 90 hm (A9 m4') hT (λhh=>absurd hh.1 (by decide)) (λ_=>by rw[hx];exact⟨rfl,rfl⟩)
   |some k=>
    rw[hu] at hT hx
    exact tail (poN l e5) _ (uu k) 0 hm (A9 m4') hT (λ_=>⟨k,rfl,by rw[hx];exact⟨rfl,rfl⟩⟩) (λhh=>absurd ⟨rfl,show(7:Int)≠8 by decide⟩ hh)
  ·have g7:=K3 k7 (show l<ks.length by omega)
   have he:=Hv.1 (show((List.range 7).all λk=>decide ((usq k).2=0∨(usq k).2=70))=true by kernel_rfl) (ks.getD l 0) (IL.2 g7)
   have hT:=B6z (L:=L) (n:=n) (id:=id) (o:=u0) (xs:=Kr ks) (of_decide_eq_true he) k1 k3 (show l<ks.length by omega) (C3B L (n+1) _ g7).o
   rw[decide_eq_false (by decide),B9,Dy,decide_eq_false (by decide),B9,Dy,decide_eq_false (by decide),B9,Dy,decide_eq_true (by rfl),D3,y41 m4,hpkl,Vg,E1 m2 (show 24<26 by decide) rfl rfl rfl,h145']
   have hm:=h2.upd o (.cells true AF ((Nd.mk ((7+1:Nat):Int) [] [] u0 0 0 0).cs.set 24 (I (l:Int))))
   by_cases h0:(usq (ks.getD l 0)).2=0
   ·rw[if_pos h0] at hT
    exact tail (sqN l) _ _ 0 hm (A9 m2) hT (λhh=>absurd rfl hh.2) (λ_=>⟨rfl,rfl⟩)
   ·rw[if_neg h0] at hT
    exact tail (sqN l) _ u0 90 hm (A9 m2) hT (λhh=>absurd rfl hh.2) (λ_=>⟨rfl,rfl⟩)
end
end
section
variable {L n:Nat}
abbrev Y4:=Option (Int×Int×Int×Int)
def exY (ks:List Nat):Y4→Ex
 |none=> .no
 |some (a,b,c,d)=>exM ks a b c d
def yA:Y4→AV
 |none=>AM
 |some (a,b,c,d)=> .list 1 [I a,I b,I c,I d]
def yI:Y4→Prop
 |none=>True
 |some (a,b,c,d)=>JU a∧JU b∧JU c∧JU d
def ZJ (ins:List Int) (count:Int) (y:Y4):Pr:=⟨1+(pk count 900).toNat,ksM ins ((pk count 3).toNat+1),exY (ksM ins ((pk count 3).toNat+1)) y⟩
section
variable {K:KV} {x:Al} {ins:List Int} {id:Int} {ks us:List Nat} {xs:List Nd} {v w u:AV} {b r z m:Nat} {H H':Hp} {count:Int} {y:Y4}
theorem A9G (h:ins.length=3):(ksM ins ((pk count 3).toNat+1)).length=(pk count 3).toNat+1∧(pk count 3).toNat<3:=by
 have pr:=ED (c:=count) (n:=3) (by decide)
 unfold ksM
 rw[l1u,l0g]
 omega
theorem B8i {i:Nat}:∀k∈ksM ins i,k<7:=by
 intro k hk
 obtain⟨c,_,rfl⟩:=l2a.1 hk
 have pr:=ED (c:=c) (n:=7) (by decide)
 omega
theorem A87 (h:ins.length=3):(ZJ ins count y).Ok:=by
 have pr:=ED (c:=count) (n:=900) (by decide)
 obtain⟨h1,h2⟩:=A9G (count:=count) h
 have h3:(ZJ ins count y).ks.length=(pk count 3).toNat+1:=h1
 refine⟨by show 1≤1+_;omega,by show 1+_<950;omega,by rw[h3];omega,by rw[h3];omega,B8i,?_⟩
 match y with
 |none=>exact trivial
 |some (a,b,c,d)=>exact C1V (by show 1≤(ksM ins ((pk count 3).toNat+1)).length;rw[h1];omega)
theorem B3l (sv:B1 H Aw 20 v ks.length (ks.flatMap Gg)) (nv:ks=[]→v=AM) (sw:B1 H AF 26 w xs.length (xs.flatMap ndC)) (nw:xs=[]→w=AM) (h1:1≤ks.length) (h2:1≤xs.length) {D:Nat} {bb:Bool} {o:UD}:∃q,Fx bb (D+2) (.agg (Bs id v w o)) (.agg (Bs id (BC ks) (BR xs) o)) H q:=by
 obtain⟨q1,e1⟩:=XZ (D:=D) (b:=bb) sv nv
 obtain⟨q2,e2⟩:=B41 (D:=D) (b:=bb) sw nw
 rw[A9i h1] at e1
 rw[A9z h2] at e2
 exact⟨_,Pn (D:=D+1) (A0 (q:=false) E5 (A0 e1 (A0 e2 (Kb (b:=bb) (D:=D+1) (H:=H) (λx:Value=>x) [.int .i64 o.p0,.int .i64 o.q0,.int .i64 o.p1,.int .i64 o.q1,.int .i64 o.p2,.int .i64 o.q2,.int .i64 o.p3,.int .i64 o.q3,.int .i64 o.p4,.int .i64 o.q4,.int .i64 o.p5,.int .i64 o.q5,.int .i64 o.p6,.int .i64 o.q6,
  .string ⟨⟨o.fn⟩⟩,.string ⟨⟨o.fd⟩⟩,.string ⟨⟨o.on⟩⟩,.string ⟨⟨o.od⟩⟩,.int .i64 o.kd,.int .i64 o.sc]))))⟩
theorem A3b {o:UD} (h1:AV.one v=true) (h2:AV.one w=true):(Bs id v w o).all AV.one=true:=by
 show(true&&(AV.one v&&(AV.one w&&true)))=true
 rw[h1,h2];rfl
theorem C1s (h:Md b r z ins id ks xs us v w u H) (h1:1≤ks.length) (h2:1≤xs.length) (h3:us.length=xs.length) (h4:us.length<1000) (hK:∀v0 H0,(∀b,∃q,Fx b depth v0 (.agg (Bs id (BC ks) (BR xs) (uu (us.getD (xs.length-1) 0)))) H0 q)→K v0 H0=x):
 (AN Am u λv38=>
  Go.Abs.Ak Ab .sub v38 (AV.v (.int .i64 1)) λv39=>
  Bv Am u v39 λv40=>
  Aq Ag v40 H λv41=>
  AL 3 (.ptr r 0 0) λv42=>
  Ck Ag v42 v41 H λH43=>
  Aq A7 (.ptr r 0 0) H43 λv45=>
  Ck A7 (.ptr z 0 0) v45 H43 λH46=>
  Aq A7 (.ptr z 0 0) H46 λv48=>
  K v48 H46)=x:=by
 have hlt:us.length-1<us.length:=by omega
 obtain⟨a,g1,g2⟩:=A9h h.su hlt
 have eg:us[us.length-1]=us.getD (xs.length-1) 0:=by rw[←h3];simp[List.getD,Ka hlt]
 rw[eg] at g2
 generalize us.getD (xs.length-1) 0=k at g2 hK
 obtain⟨cs,c1,c2⟩:=h.hz
 rw[I5 (t:=Am) rfl h.su,A33 (by omega) (by omega),g1,g2,Vg,Yj (vs:=Cb (uu k)) h.hr (show 3+20≤23 by decide) rfl rfl]
 have r1:=A9 (q:=true) (e:=B4) (cs:=Bs id v w (uu k)) h.hr
 have z1:Au (Go.Abs.upd H r (GL id v w (uu k))) z=some (.cells true B4 cs):=by rw[Ap h.zr];exact c2
 have es:splice (Bs id v w u0) 3 (Cb (uu k))=Bs id v w (uu k):=rfl
 rw[es,Bk (cs:=Bs id v w (uu k)) rfl rfl r1,B0 z1 (by rw[c1];rfl) (by rw[c1];rfl) (A3b (B1.one h.sv) (B1.one h.sw)),Bk (cs:=Bs id v w (uu k)) rfl rfl (A9 z1)]
 refine hK _ _ λq=> ?_
 refine B3l (D:=depth-2) (h.sv.kp λs x hs hl=> ?_) h.nv (h.sw.kp λs x hs hl=> ?_) h.nw h1 h2
 ·have:=h.av s hs
  rw[Ap this.2.2.1,Ap this.2.1];exact hl
 ·have:=h.aw s hs
  rw[Ap this.2.2.1,Ap this.2.1];exact hl
theorem B38 (hL:100<L) (hi:ins.length=3) (hi64:∀c∈ins,JU c) (hc:JU count) (hy:yI y):
 CS (rt (L+20) (n+43)) Oy [.agg (Ev ins),I count,yA y,Bo true] (.agg (Bs (ZJ ins count y).id (BC (ZJ ins count y).ks) (BR (ZJ ins count y).xs) (uu (ZJ ins count y).out))):=by
 intro K hK
 have hp:=A87 (count:=count) (y:=y) hi
 obtain⟨p1,p2,p3⟩:=XG hp
 obtain⟨l1,l2⟩:=A9G (count:=count) hi
 have pr:=ED (c:=count) (n:=900) (by decide)
 rw[A0Z]
 unfold Sg Ar
 have k1:∀H K,Ah (rt (L+20) (n+42)) BI [I count,.v (.int .i64 900)] H K=K (I (pk count 900)):=Km (n:=n+41) hc (by decide) (by decide)
 have eid:((ZJ ins count y).id:Int)=1+pk count 900:=by show((1+(pk count 900).toNat:Nat):Int)=_;omega
 have ad:∀{K:AV→Al},Go.Abs.Ak Ab .add (.v (.int .i64 1)) (I (pk count 900)) K=K (I ((ZJ ins count y).id:Int)):= λ{K}=>by rw[Cv,Ca (by omega) (by omega),eid]
 have bd:∀{i:Int} {K:AV→Al},Bi A7 [(0,1,I i)] K=K (.agg (Bs i AM AM u0)):= λ{i K}=>_root_.id rfl
 rw[Fa (A3l ins)]
 have hb:=Ay (H:=[]) (x:= .cells true QX (Ev ins)) (by simp)
 have w0:=B3 (x:= .cells true QX (Ev ins)) F3
 generalize ((A3 [],Row.cells true QX (Ev ins))::([]:Hp))=H0 at hb w0
 generalize A3 []=b at hb
 rw[Ba (cs:=Bs 0 AM AM u0) rfl]
 have hz:=Ay (H:=H0) (x:= .cells true B4 (Bs 0 AM AM u0)) (by simp)
 have b1:=Bh (x:= .cells true B4 (Bs 0 AM AM u0)) (w0.lt hb) hb
 have w1:=B3 (x:= .cells true B4 (Bs 0 AM AM u0)) w0
 generalize ((A3 H0,Row.cells true B4 (Bs 0 AM AM u0))::H0)=H1 at hz w1 b1
 generalize A3 H0=z at hz
 rw[k1,ad,bd,Ba (cs:=Bs 0 AM AM u0) rfl]
 obtain⟨H2,e2,r2,w2,kp⟩:=Ed (e:=B4) (zs:=Bs 0 AM AM u0) (vs:=Bs (ZJ ins count y).id AM AM u0) w1 rfl
 rw[B0 (cs:=Bs 0 AM AM u0) (vs:=Bs (ZJ ins count y).id AM AM u0) (Ay (by simp)) rfl rfl rfl,←e2]
 obtain⟨b2,nbr⟩:=kp _ _ b1
 obtain⟨z2,nzr⟩:=kp _ _ hz
 generalize A3 H1=r at r2 nbr nzr
 have no:∀{s:Nat} {P:Prop},Bb AM s→P:= λ⟨_,_,_,h⟩=>by cases h
 have h0:Md b r z ins (ZJ ins count y).id (ksM ins 0) [] [] AM AM AM H2:=⟨b2,r2,⟨_,rfl,z2⟩,.inl ⟨rfl,rfl,rfl⟩,λ_=>rfl,.inl ⟨rfl,rfl,rfl⟩,λ_=>rfl,.inl ⟨rfl,rfl,rfl⟩,λ_=>rfl,nbr,nzr,λ_=>no,λ_=>no,λ_=>no,w2⟩
 simp only[Cl]
 refine C3R hL hi hi64 hc (λv H hh=> ?_) (L+20) 0 AM H2 (by omega) (by omega) h0
 refine C3S (n:=n) hL (by rw[l1];omega) (λw u H hh=> ?_) (L+20) 0 AM AM H (by omega) (by omega) hh
 have fin:∀w' u' H',Md b r z ins (ZJ ins count y).id (ZJ ins count y).ks (ZJ ins count y).xs (ZJ ins count y).ty v w' u' H'→_:= λw' u' H' hh'=>C1s (K:=K) hh' hp.k1 p2 p1 (by omega) hK
 match y with
 |none=>
  show IK (L+20) (rt (L+20) (n+42)) K _ ((L+19)+1) _ AM _ _ _ _ _ _ _ _ H=_
  rw[NN]
  unfold Kk AU Bw Ar E4 CH
  have el:∀{K:AV→Al},AN Hw AM K=K (I ((0:Nat):Int)):= λ{K}=>_root_.id rfl
  have e0:(AV.v (.int .i64 0))=I ((0:Nat):Int):=rfl
  rw[el,e0,Gf (by omega)]
  simp only[gTF,Ci,TB]
  rw[B9]
  refine fin w u H ?_
  show Md b r z ins _ _ (Kr _++[]) (_++[]) v w u H
  rw[l1o,l1o]
  exact hh
 |some (y0,y1,y2,y3)=>
  exact C3T (n:=n) hh (by rw[l1];omega) (by rw[l1];omega) B8i hy.1 hy.2.1 hy.2.2.1 hy.2.2.2 (λw' u' H' hh'=>fin w' u' H' hh') (L+18)
end
end
end Go.Abs
end
