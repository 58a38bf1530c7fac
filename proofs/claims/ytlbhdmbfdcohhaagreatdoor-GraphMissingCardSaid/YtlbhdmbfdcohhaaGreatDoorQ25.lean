import Derived.Test.YtlbhdmbfdcohhaaGreatDoorQ23
import Derived.Test.YtlbhdmbfdcohhaaGreatDoorQ24
set_option linter.all false
set_option maxHeartbeats 100000000
noncomputable section
namespace Go.Abs
open Go.RowKit Go.Proofs
set_option maxRecDepth 100000
section
variable {L n:Nat}
attribute [local irreducible] Ah rt YF eBi eEq cnd Go.Abs.Ak Go.Abs.Uc As
theorem B8M {t:Int×Int} (h: -8≤t.2∧t.2≤8∧t.2≠0):PS (rt (L+20) (n+41)) GD [.agg (MX t)] (Bo false):=by
 refine CS.ps (λK hK=> ?_) (λH=> λK=>by kernel_rfl)
 have h1:PO (rt (L+20) (n+40)) BU [.agg (qa t.2)] (Bo true):=(A0c (by omega) (by omega)).o
 have h2:PO (rt (L+20) (n+40)) I4 [.agg (qa t.2)] (Bo false):=by
  have:=(B5w (L:=L) (n:=n) (z:=t.2) (by omega) (by omega)).o
  rw[decide_eq_false h.2.2] at this
  exact this
 rewrite [TS]
 unfold KM Bw E4
 try rewrite [zO]
 try rewrite [bO]
 try rewrite [qO]
 try rewrite [cO]
 generalize rt (L+20) (n+40)=R at*
 conv=>lhs;whnf
 rewrite [h1]
 conv=>lhs;whnf
 rewrite [h2]
 conv=>lhs;whnf
 exact hK _ _ (λb=>⟨false,λK=>by kernel_rfl⟩)
abbrev A0b:AV:= .fn (.func GD) [] []
abbrev B2w:AV:= .fn (.func IJ) [] []
section
variable {ts:ZB} {K:KV} {x:Al}
theorem lTm {t:Int×Int} {H:Hp} {K:AV→Al}:Aq BG (.iptr (MX t)) H K=K (.agg (MX t)):=id rfl
theorem B7g {k4:Hp→Al} {H:Hp} (ht:TmsOk ts):∀(f i:Nat),i≤ts.length→ts.length-i<f→
 Cy (L+20) (rt (L+20) (n+41)) K k4 f (Fw ts) A0b (I ts.length) (I i) H=k4 H:=by
 have hb:=ht.len
 intro f
 induction f with
 |zero=>intro i _ h;omega
 |succ f ih=>
  intro i hi hf
  rw[Ip]
  unfold Dq Ar
  by_cases h:i<ts.length
  ·have hr:=ht.rng _ (Ow h)
   rw[Ge (by omega),D3,SN h,lTm]
   have ez:∀K,Eb (E (L+20)) (rt (L+20) (n+41)) A0b [.agg (MX ts[i])] H K=Ah (rt (L+20) (n+41)) GD [.agg (MX ts[i])] H λv=>K v H:= λK=>by kernel_rfl
   rw[ez,B8M hr.2.2,B9,DS (by omega)]
   exact ih (i+1) (by omega) (by omega)
  ·rw[Gf (by omega),B9]
theorem A7E (ht:TmsOk ts):CS (rt (L+20) (n+43)) Co [Fw ts,A0b] (Bo false):=by
 have hb:=ht.len
 intro K hK
 rw[HV]
 unfold De Ar
 have hi:CS (rt (L+20) (n+42)) D2 [Fw ts,A0b] (I (-1)):=by
  intro K hK
  rw[IE]
  unfold D0 Ar
  simp only[Cl]
  have e0:(AV.v (.int .i64 0))=I ((0:Nat):Int):=rfl
  rw[NI,e0,B7g ht _ 0 (by omega) (by omega)]
  exact hK _ _ (λb=>⟨false,λK=>by kernel_rfl⟩)
 rw[Be (q:=false) hi (λK=>by cases ts<;>kernel_rfl),LV]
 exact hK _ _ (λb=>⟨false,λK=>by kernel_rfl⟩)
theorem B2d {t:Int×Int}:PS (rt (L+20) (n+1)) IJ [.agg (MX t)] (I t.1):=by
 refine CS.ps (λK hK=> ?_) (λH=> λK=>by kernel_rfl)
 rewrite [Wy]
 unfold NT
 try rewrite [zO]
 try rewrite [bO]
 try rewrite [qO]
 try rewrite [cO]
 generalize rt (L+20) (n+0)=R at*
 conv=>lhs;whnf
 exact hK _ _ (λb=>⟨false,λK=>by kernel_rfl⟩)
theorem C0C {k4:Hp→Al} (ht:TmsOk ts) (hx:∀H,k4 H=x):∀(f i:Nat) (H:Hp),i≤ts.length→ts.length-i<f→Wf H→
 DZ (L+20) (rt (L+20) (n+1)) K k4 f (Fw ts) B2w (Fw ts) (I ts.length) (I i) H=x:=by
 have hb:=ht.len
 intro f
 induction f with
 |zero=>intro i H _ h;omega
 |succ f ih=>
  intro i H hi hf w
  rw[Mk]
  unfold FF AU Bw Ar E4 CH
  by_cases h:i<ts.length
  ·have hr:=ht.rng _ (Ow h)
   rw[Ge (by omega),D3,SN h,lTm,Ba (cs:=[zI,zS,zS]) rfl]
   have hn0:=Ay (H:=H) (x:= .cells true AO [zI,zS,zS]) (by simp)
   rw[B0 (vs:=MX ts[i]) hn0 rfl rfl rfl]
   have hr1:=A9 (q:=true) (e:=AO) (cs:=MX ts[i]) hn0
   have w1:=BL (r:=A3 H) (y:= .cells true AO (MX ts[i])) (B3 (x:= .cells true AO [zI,zS,zS]) w)
   generalize upd ((A3 H,Row.cells true AO [zI,zS,zS])::H) (A3 H) (.cells true AO (MX ts[i]))=H1 at hr1 w1
   generalize A3 H=r at hr1
   have m1:∀K,Aq BG (.ptr r 0 0) H1 K=K (.agg (MX ts[i])):= λK=>EZ (p:=0) rfl hr1 (show 3≤3 from NU _)
   have ez:∀(t:Int×Int) (K:KV),Eb (E (L+20)) (rt (L+20) (n+1)) B2w [.agg (MX t)] H1 K=K (I t.1) H1:= λt K=>by
    have:Eb (E (L+20)) (rt (L+20) (n+1)) B2w [.agg (MX t)] H1 K=Ah (rt (L+20) (n+1)) IJ [.agg (MX t)] H1 λv=>K v H1:=by kernel_rfl
    rw[this,B2d]
   have i1:∀K,Go.Abs.Ak Ab .lss (I ts[i].1) (.v (.int .i64 1)) K=K (Bo false):= λK=>Gf (by omega)
   have i2:∀K,Go.Abs.Ak Ab .gtr (I ts[i].1) (.v (.int .i64 1000000)) K=K (Bo false):= λK=>by rw[Ey,decide_eq_false (by omega)]
   rw[m1,ez]
   simp only[i1,i2,gT,Ci,TB]
   by_cases hi0:0<i
   ·have i3:∀K,Go.Abs.Ak Ab .gtr (I (i:Int)) (.v (.int .i64 0)) K=K (Bo true):= λK=>by rw[Ey,decide_eq_true (by omega)]
    have hi1:i-1<ts.length:=by omega
    have mm:∀K,eMM false (I ((i-1:Nat):Int)) (.v (.int .i64 0)) K=K (I ((i-1:Nat):Int)):= λK=>by
     have e:eMM false (I ((i-1:Nat):Int)) (.v (.int .i64 0)) K=ck (decide (IntKind.i64=IntKind.i64)) (@Bool.rec (λ_=>Al) (K (.v (.int .i64 0))) (K (I ((i-1:Nat):Int))) (Zu 0 ((i-1:Nat):Int))):=rfl
     rw[e,J5,decide_eq_true (Int.natCast_nonneg _)];rfl
    have hasc:ts[i-1].1<ts[i].1:=(l20.1 ht.asc) (i-1) i hi1 h (by omega)
    have i7:∀K,Go.Abs.Ak Ab .geq (I ts[i-1].1) (I ts[i].1) K=K (Bo false):= λK=>by rw[LV,decide_eq_false (by omega)]
    simp only[i3,Ci,gT,A33 hi0 (by omega:i<1000000000),mm,SN hi1,lTm,ez,i7,Vu,TB]
    rw[B9,DS (by omega)]
    exact ih (i+1) H1 (by omega) (by omega) w1
   ·have i3:∀K,Go.Abs.Ak Ab .gtr (I (i:Int)) (.v (.int .i64 0)) K=K (Bo false):= λK=>by rw[Ey,decide_eq_false (by omega)]
    simp only[i3,Ci,gT,gTF,Vu,TB]
    rw[B9,DS (by omega)]
    exact ih (i+1) H1 (by omega) (by omega) w1
  ·rw[Gf (by omega),B9]
   exact hx H
theorem B0l (ht:TmsOk ts):CS (rt (L+20) (n+2)) Eo [Fw ts,B2w] (Bo true):=by
 have hb:=ht.len
 intro K hK
 rw[MF]
 unfold FT Ar E4
 simp only[Cl]
 have e0:(AV.v (.int .i64 0))=I ((0:Nat):Int):=rfl
 rw[NI,e0]
 exact C0C ht (λH=>hK _ _ (λb=>⟨false,λK=>by kernel_rfl⟩)) (L+20) 0 [] (by omega) (by omega) F3
theorem A7B {c r:Int} (hc1: -80≤c) (hc2:c≤80) (hr1:0≤r) (hr2:r≤8) (ht:TmsOk ts):CS (rt (L+20) (n+44)) Ib [.agg (Va (qn c) (qd c) (Fw ts) (qn r) (qd r))] (Bo true):=by
 intro K hK
 have hb:=ht.len
 have h1:PO (rt (L+20) (n+43)) BU [.agg (qa c)] (Bo true):=(A0c (n:=n+3) (by omega) (by omega)).o
 have h2:PO (rt (L+20) (n+43)) BU [.agg (qa r)] (Bo true):=(A0c (n:=n+3) (by omega) (by omega)).o
 have h3:PO (rt (L+20) (n+43)) J9 [.agg (qa r)] (I (if r=0 then 0 else 1)):=(B5x (n:=n+3) (by omega) (by omega)).o
 have h4:LS (rt (L+20) (n+43)) Eo [Fw ts,B2w] (Bo true):=(B0l (n:=n+41) ht).ls
 have h5:LS (rt (L+20) (n+43)) Co [Fw ts,A0b] (Bo false):=(A7E (n:=n) ht).ls
 have hz:ts=[]∨∃t l,ts=t::l:=by cases ts with|nil=>exact .inl rfl|cons t l=>exact .inr ⟨t,l,rfl⟩
 rcases hz with rfl|⟨t,l,rfl⟩
 all_goals
  rewrite [XP]
  unfold Pj AU Ar CH
  try rewrite [zO]
  try rewrite [bO]
  try rewrite [qO]
  try rewrite [cO]
  generalize rt (L+20) (n+43)=R at*
  conv=>lhs;whnf
  rewrite [h1]
  conv=>lhs;whnf
  rewrite [h2]
  conv=>lhs;whnf
  rewrite [h3]
  conv=>lhs;whnf
  rewrite [A9L ?hc]
  case hc=>(split<;>omega)
  conv=>lhs;whnf
  rewrite [A9D ?hc]
  case hc=>(first|decide|(have hb':l.length+1≤6:=hb;show((l.length+1:Nat):Int)≤64;omega))
  conv=>lhs;whnf
  rewrite [(h4) false _ _ ?hq]
  case hq=>exact λK=>by kernel_rfl
  conv=>lhs;whnf
  rewrite [(h5) false _ _ ?hq]
  case hq=>exact λK=>by kernel_rfl
  conv=>lhs;whnf
  exact hK _ _ (λb=>⟨false,λK=>by kernel_rfl⟩)
end
end
section
variable {L n:Nat} {K:KV} {x:Al}
structure Bld (r:Nat) (l:List UInt8) (v:AV) (H:Hp):Prop where
 at_:∃tw:Nat,(tw=F5∨tw=CP)∧(Au H r=some (.cells true tw [.v (.pointer none),v])∨Au H r=some (.cells true tw [.ptr r 0 0,v]))
 sl:B1 H AS 1 v l.length (Ke l)
 ne:¬Bb v r
 wf:Wf H
structure Kp (r:Nat) (v:AV) (H:Hp) (v':AV) (H':Hp):Prop where
 keep:∀u y,Au H u=some y→u≠r→¬Bb v u→Au H' u=some y
 new:∀u,Bb v' u→Bb v u∨A3 H≤u
 nx:A3 H≤A3 H'
theorem Kp.refl (r:Nat) (v:AV) (H:Hp):Kp r v H v H:=⟨λ_ _ h _ _=>h,λ_ h=> .inl h,NU _⟩
theorem Kp.trans {r:Nat} {v v' v'':AV} {H H' H'':Hp} (w:Wf H) (h:Kp r v H v' H') (k:Kp r v' H' v'' H''):Kp r v H v'' H'':=
 ⟨λu y hu h1 h2=>k.keep u y (h.keep u y hu h1 h2) h1 (λh3=>by
  rcases h.new u h3 with h4|h4
  ·exact h2 h4
  ·have:=w.lt hu;omega),
  λu hu=>by
   rcases k.new u hu with h1|h1
   ·exact h.new u h1
   ·exact .inr (by have:=h.nx;omega),l1m h.nx k.nx⟩
theorem Bld.one {r:Nat} {l:List UInt8} {v:AV} {H:Hp} (h:Bld r l v H):B6 v=[v]∧AV.one v=true:=by
 rcases h.sl with⟨rfl,_⟩|⟨a,b,rfl,_⟩<;>exact⟨rfl,rfl⟩
theorem Bld.upd {r s:Nat} {l:List UInt8} {v:AV} {H:Hp} {y:Row} (h:Bld r l v H) (h1:s≠r) (h2:¬Bb v s):Bld r l v (upd H s y):=
 ⟨by rw[Ap h1.symm];exact h.at_,h.sl.lat h.wf (Lat.upd H s y (P:= λu=>u=s) rfl) (λu hu e=>h2 (e▸hu)),h.ne,BL h.wf⟩
theorem Bld.cons {r:Nat} {l:List UInt8} {v:AV} {H:Hp} {y:Row} (h:Bld r l v H):Bld r l v ((A3 H,y)::H):=by
 refine⟨?_,h.sl.lat h.wf (Lat.cons H y (λ_=>False)) (λ_ _ h=>h),h.ne,B3 h.wf⟩
 obtain⟨tw,h0,h1|h1⟩:=h.at_
 ·exact⟨tw,h0,.inl (Bh (h.wf.lt h1) h1)⟩
 ·exact⟨tw,h0,.inr (Bh (h.wf.lt h1) h1)⟩
theorem A3Z {r:Nat} {l s:List UInt8} {v:AV} {H:Hp} (h:Bld r l v H) (hb:l.length+s.length<1000000000)
 (hx:∀v' H',Bld r (l++s) v' H'→Kp r v H v' H'→K (.tup [I s.length,.v .nilIface]) H'=x):(rt (L+20) (n+2)).call Bq [.ptr r 0 0,S s] H K=x:=by
 rw[Le]
 unfold EY
 rw[Me]
 unfold F9
 have a0:∀K:AV→Al,AL 0 (.ptr r 0 0) K=K (.ptr r 0 0):= λK=>id rfl
 have a1:∀K:AV→Al,AL 1 (.ptr r 0 0) K=K (.ptr r 1 0):= λK=>id rfl
 obtain⟨tw,htw,hat⟩:=h.at_
 have main:∀H1,Au H1 r=some (.cells true tw [.ptr r 0 0,v])→Bld r l v H1→Kp r v H v H1→(IC (.ptr r 0 0) λv3=>AL 1 v3 λv4=>Aq A8 v4 H1 λv5=>Ea AS 1 AD Ad v5 (S s) H1 λv6 H7=>
  IC (.ptr r 0 0) λv8=>AL 1 v8 λv9=>Ck A8 v9 v6 H7 λH10=>AN Ad (S s) λv12=>K (.tup [v12,.v .nilIface]) H10)=x:= λH1 hl1 hB1 hK1=>by
  rw[Hf,a1,AQ (p:=1) rfl hl1 (by simp)]
  show Ea AS 1 AD Ad v (S s) H1 _=x
  obtain⟨v',H',h1,h2,h3,h4⟩:=apt (ie:=AD) (i2:=Ad) hB1.sl (λK=>C1Z (K:=K)) (by rw[Ns];omega) (B01 s) (by decide) rfl rfl (by show(l.length+s.length)*1≤_;omega) (by omega)
  rw[h1,Hf,a1]
  have hl2:Au H' r=some (.cells true tw [.ptr r 0 0,v]):=h4.keep hB1.wf r _ hl1 hB1.ne
  have hw2:=h4.wf hB1.wf
  rw[A4V] at h2
  have hone:B6 v'=[v']∧AV.one v'=true:=by
   rcases h2 with⟨rfl,_⟩|⟨a,b,rfl,_⟩<;>exact⟨rfl,rfl⟩
  rw[E1 (q:=true) (e:=tw) (cs:=[.ptr r 0 0,v]) hl2 (by simp) rfl hone.1 hone.2,MS rfl]
  have hr1:=hB1.wf.lt hl1
  have hne:¬Bb v' r:= λhu=>by have:=h3 r hu;omega
  refine hx v' _ ⟨⟨tw,htw,.inr (A9 hl2)⟩,?_,hne,BL hw2⟩ ?_
  ·rw[FK]
   exact h2.lat hw2 (Lat.upd H' r _ (P:= λu=>u=r) rfl) (λu hu e=>hne (e▸hu))
  ·refine hK1.trans h.wf ⟨λu y hu hn hv=> ?_,λu hu=> .inr (by rw[h3 u hu];exact NU _),by rw[Cr];exact h4.nx⟩
   rw[Ap hn];exact h4.keep hB1.wf u y hu hv
 rw[Hf,a0]
 rcases hat with hl|hl
 ·rw[AQ (p:=0) rfl hl (by simp)]
  show Zy BE Bn .eql (.v (.pointer none)) (.v (.pointer none)) _=x
  have e1:∀K:AV→Al,Zy BE Bn .eql (.v (.pointer none)) (.v (.pointer none)) K=K (Bo true):= λK=>id rfl
  rw[e1,D3]
  have e2:∀K:AV→Al,B1m Bn (.ptr r 0 0) H K=K (.ptr r 0 0):= λK=>by
   have:B1m Bn (.ptr r 0 0) H K=Ks H r λx=>Ma x λ_ cs=>Ia cs 0 λcl=>ck (Nat.blt (Nat.add 0 0) cl&& !Nat.beq Bn.size 0) (K (.ptr r 0 0)):=rfl
   rw[this,Cm hl];rfl
  have e3:∀K:AV→Al,B1f A8l CP (.ptr r 0 0) H K=K (.ptr r 0 0):= λK=>by
   have:B1f A8l CP (.ptr r 0 0) H K=Ks H r λx=>A2l x λq E cs=>Ia cs 0 λcl=>ck (q&&B74 A8l E cl (Nat.add 0 0) CP) (K (.ptr r 0 0)):=rfl
   rw[this,Cm hl];rcases htw with rfl|rfl<;>rfl
  rw[e2,e3,Hf,a0,E1 (q:=true) (e:=tw) (cs:=[.v (.pointer none),v]) hl (by simp) rfl rfl rfl]
  refine main _ (A9 hl) ⟨⟨tw,htw,.inr (A9 hl)⟩,h.sl.lat h.wf (Lat.upd H r _ (P:= λu=>u=r) rfl) (λu hu e=>h.ne (e▸hu)),h.ne,BL h.wf⟩ ⟨λu y hu hn _=>by rw[Ap hn];exact hu,λu hu=> .inl hu,by rw[Cr];exact NU _⟩
 ·rw[AQ (p:=0) rfl hl (by simp)]
  show Zy BE Bn .eql (.ptr r 0 0) (.v (.pointer none)) _=x
  have e1:∀K:AV→Al,Zy BE Bn .eql (.ptr r 0 0) (.v (.pointer none)) K=K (Bo false):= λK=>id rfl
  rw[e1,B9,Hf,a0,AQ (p:=0) rfl hl (by simp)]
  show Zy BE Bn .neq (.ptr r 0 0) (.ptr r 0 0) _=x
  have e2:∀K:AV→Al,Zy BE Bn .neq (.ptr r 0 0) (.ptr r 0 0) K=K (Bo false):= λK=>by
   have:Zy BE Bn .neq (.ptr r 0 0) (.ptr r 0 0) K=ck (Nat.beq r r&&(Nat.beq (Nat.add 0 0) (Nat.add 0 0)&& !Nat.beq Bn.size 0)) (K (Bo false)):=rfl
   rw[this,l29];rfl
  rw[e2,B9]
  exact main H hl h (Kp.refl r v H)
end
section
variable {L n:Nat} {K:KV} {x:Al}
def Sr (H:Hp) (r:Nat) (v a:AV) (cs:List AV):Prop:=a= .list cs.length cs∨(a=AM∧cs=[])∨∃k q e,a= .sl 1 k 0 cs.length∧Au H k=some (.cells q e cs)∧k≠r∧¬Bb v k
theorem Sr.kp {H H':Hp} {r:Nat} {v v' a:AV} {cs:List AV} (h:Sr H r v a cs) (w:Wf H) (k:Kp r v H v' H'):Sr H' r v' a cs:=by
 rcases h with h|h|⟨i,q,e,h1,h2,h3,h4⟩
 ·exact .inl h
 ·exact .inr (.inl h)
 ·refine .inr (.inr ⟨i,q,e,h1,k.keep i _ h2 h3 h4,h3,λhu=> ?_⟩)
  rcases k.new i hu with h5|h5
  ·exact h4 h5
  ·have:=w.lt h2;omega
theorem Sr.len {H:Hp} {r:Nat} {v a:AV} {cs:List AV} {t:TI} {e z:Nat} {K:AV→Al} (h:Sr H r v a cs) (hd:t.d= .slice e z):AN t a K=K (I cs.length):=by
 obtain⟨s,b,d,zr⟩:=t
 simp only at hd
 subst hd
 rcases h with rfl|⟨rfl,rfl⟩|⟨i,q,e,rfl,_⟩<;>exact id rfl
theorem Sr.get {H:Hp} {r i:Nat} {v a:AV} {cs:List AV} {t tt:TI} {e:Nat} {K:AV→Al} (h:Sr H r v a cs) (hd:t.d= .slice e 1) (hs:tt.d.isAgg=false) (hi:i<cs.length):(Bv t a (I i) λp=>Aq tt p H K)=K (cs.getD i .dk):=by
 rcases h with rfl|⟨_,rfl⟩|⟨k,q,e',rfl,hl,_⟩
 ·rw[Ub hd rfl (by omega) (by omega),Xj,QG hs]
 ·simp at hi
 ·rw[A4P hd (by omega) (by omega),Xj,AQ (p:=i) hs hl hi]
theorem C2W {r:Nat} {a:AV} {zs:List Int} {k2:Hp→Al} (hl:zs.length<100) (hz:∀z∈zs, -10≤z∧z<390) {l:List UInt8} (hb:l.length<900000000) {v0:AV} {H0:Hp} (w0:Wf H0)
 (hx:∀v' H',Bld r (l++GS zs) v' H'→Kp r v0 H0 v' H'→k2 H'=x):∀(f i:Nat) (v:AV) (H:Hp),i≤zs.length→zs.length-i<f→Bld r (l++GS (zs.take i)) v H→Kp r v0 H0 v H→Sr H r v a (Ev zs)→
 D5 (L+20) (rt (L+20) (n+9)) K k2 f (.ptr r 0 0) a (I zs.length) (I i) H=x:=by
 intro f
 induction f with
 |zero=>intro i v H _ h;omega
 |succ f ih=>
  intro i v H hi hf hB hk hs
  rw[Ld]
  unfold EX Ar
  by_cases h:i<zs.length
  ·have hzi:=hz zs[i] (Ow h)
   have hlen:=Ek (zs.take i)
   have h5:(zs.take i).length≤zs.length:=by simp;omega
   have h6:=Qf zs[i]
   rw[Ge (by omega),D3,hs.get rfl rfl (by simp[Ev];omega),Pm h,A5u (L:=L) (n:=n+1) hzi.1 hzi.2,CY,CX,Hf]
   have a0:∀K:AV→Al,AL 0 (.ptr r 0 0) K=K (.ptr r 0 0):= λK=>id rfl
   rw[a0]
   refine A3Z (n:=n+7) hB (by rw[FK];omega) λv' H' hB' hk'=> ?_
   rw[DS (by omega)]
   rw[l0k,←A3v zs h] at hB'
   exact ih (i+1) v' H' (by omega) (by omega) hB' (hk.trans w0 hk') (hs.kp hB.wf hk')
  ·rw[Gf (by omega),B9]
   have:i=zs.length:=by omega
   subst this
   rw[l06] at hB
   exact hx v H hB hk
theorem B0m {r:Nat} {a v:AV} {zs:List Int} {l:List UInt8} {H:Hp} (hL:100<L) (hl:zs.length<100) (hz:∀z∈zs, -10≤z∧z<390) (hb:l.length<900000000) (hB:Bld r l v H) (hs:Sr H r v a (Ev zs))
 (hx:∀v' H',Bld r (l++GS zs) v' H'→Kp r v H v' H'→K (.tup []) H'=x):(rt (L+20) (n+10)).call Bz [.ptr r 0 0,a] H K=x:=by
 rw[LC]
 unfold XA2 Ar
 rw[hs.len rfl]
 simp only[Cl]
 have e0:(AV.v (.int .i64 0))=I ((0:Nat):Int):=rfl
 have e1:(Ev zs).length=zs.length:=by simp[Ev]
 rw[e0,e1]
 exact C2W (n:=n) hl hz hb hB.wf hx (L+20) 0 v H (by omega) (by omega) (by simpa [GS] using hB) (Kp.refl r v H) hs
theorem C2U {r:Nat} {a:AV} {zs:List (List UInt8)} {k2:Hp→Al} (hl:zs.length<100) (hz:∀z∈zs,z.length<390) {l:List UInt8} (hb:l.length<900000000) {v0:AV} {H0:Hp} (w0:Wf H0)
 (hx:∀v' H',Bld r (l++FX zs) v' H'→Kp r v0 H0 v' H'→k2 H'=x):∀(f i:Nat) (v:AV) (H:Hp),i≤zs.length→zs.length-i<f→Bld r (l++FX (zs.take i)) v H→Kp r v0 H0 v H→Sr H r v a (B5 zs)→
 DX (L+20) (rt (L+20) (n+9)) K k2 f (.ptr r 0 0) a (I zs.length) (I i) H=x:=by
 intro f
 induction f with
 |zero=>intro i v H _ h;omega
 |succ f ih=>
  intro i v H hi hf hB hk hs
  rw[Mb]
  unfold F7 Ar
  by_cases h:i<zs.length
  ·have hzi:=hz zs[i] (Ow h)
   have hlen:=Ej (zs.take i) (λs hs=>hz s (l24 hs))
   have h5:(zs.take i).length≤zs.length:=by simp;omega
   have h6:(A4M zs[i]).length≤400:=by unfold A4M;rw[FK];have:=Qf (zs[i].length:Int);omega
   rw[Ge (by omega),D3,hs.get rfl rfl (by simp[B5];omega),Mr h,A5t L n hzi,CY,CX,Hf]
   have a0:∀K:AV→Al,AL 0 (.ptr r 0 0) K=K (.ptr r 0 0):= λK=>id rfl
   rw[a0]
   refine A3Z (n:=n+7) hB (by rw[FK];omega) λv' H' hB' hk'=> ?_
   rw[DS (by omega)]
   rw[l0k,←A3u zs h] at hB'
   exact ih (i+1) v' H' (by omega) (by omega) hB' (hk.trans w0 hk') (hs.kp hB.wf hk')
  ·rw[Gf (by omega),B9]
   have:i=zs.length:=by omega
   subst this
   rw[l06] at hB
   exact hx v H hB hk
theorem A40 {r:Nat} {a v:AV} {zs:List (List UInt8)} {l:List UInt8} {H:Hp} (hL:100<L) (hl:zs.length<100) (hz:∀z∈zs,z.length<390) (hb:l.length<900000000) (hB:Bld r l v H) (hs:Sr H r v a (B5 zs))
 (hx:∀v' H',Bld r (l++FX zs) v' H'→Kp r v H v' H'→K (.tup []) H'=x):(rt (L+20) (n+10)).call BN [.ptr r 0 0,a] H K=x:=by
 rw[MB]
 unfold FQ Ar
 rw[hs.len rfl]
 simp only[Cl]
 have e0:(AV.v (.int .i64 0))=I ((0:Nat):Int):=rfl
 have e1:(B5 zs).length=zs.length:=by simp[B5]
 rw[e0,e1]
 exact C2U (n:=n) hl hz hb hB.wf hx (L+20) 0 v H (by omega) (by omega) (by simpa [FX] using hB) (Kp.refl r v H) hs
end
section
variable {L n:Nat} {K:KV} {x:Al}
abbrev Rts:=List (List UInt8×List UInt8)
def rtC (q:List UInt8×List UInt8):List AV:=[S q.1,S q.2]
def O5 (l:Rts):List UInt8:=(l.map λq=>FX [q.1,q.2]).flatten
theorem B1b (l:Rts) {i:Nat} (h:i<l.length):O5 (l.take (i+1))=O5 (l.take i)++FX [l[i].1,l[i].2]:=by
 unfold O5
 rw[l04 h,Zt,List.flatten_append]
 simp only[ZK,List.map_nil,l18,List.flatten_nil,l1o]
theorem LU (l:Rts) (h:∀q∈l,q.1.length<390∧q.2.length<390):(O5 l).length≤800*l.length:=by
 induction l with
 |nil=>simp[O5]
 |cons s l ih=>
  have h3:=ih (λs hs=>h s (by simp[hs]))
  have h4:=Ej [s.1,s.2] (by simp;exact h s (by simp))
  simp only[O5,ZK,l18,FK,Lf,Od] at h3 h4⊢
  omega
theorem Kp.cons {r:Nat} {v:AV} {H:Hp} {y:Row} (w:Wf H):Kp r v H v ((A3 H,y)::H):=⟨λu z hu _ _=>Bh (w.lt hu) hu,λu hu=> .inl hu,l1p _⟩
theorem Bld.lt {r:Nat} {l:List UInt8} {v:AV} {H:Hp} (h:Bld r l v H):r<A3 H:=by obtain⟨_,_,h1|h1⟩:=h.at_<;>exact h.wf.lt h1
theorem Bld.vlt {r u:Nat} {l:List UInt8} {v:AV} {H:Hp} (h:Bld r l v H) (hu:Bb v u):u<A3 H:=h.sl.lt h.wf hu
theorem C23 {r m i:Nat} {K:AV→Al} (h:i<m):Bv GU (.sl 2 r 0 m) (I i) K=K (.ptr r (2*i) 0):=by
 have e1:Bv GU (.sl 2 r 0 m) (I (i:Int)) K=iN (i:Int) λk=>ck (Nat.blt k m) (fN (Nat.add 0 (Nat.mul k 2)) λq=>K (.ptr r q 0)):=rfl
 rw[e1,J6,DL]
 have h2:Nat.blt i m=true:=by rw[TU];exact h
 have h3:Nat.add 0 (Nat.mul i 2)=2*i:=by show 0+i*2=_;omega
 rw[h2,h3];rfl
theorem C2V {r k e:Nat} {q:Bool} {rs:Rts} {k2:Hp→Al} (hl:rs.length<100) (hz:∀z∈rs,z.1.length<390∧z.2.length<390) {l:List UInt8} (hL:100<L) (hb:l.length<800000000) {v0:AV} {H0:Hp} (w0:Wf H0) (hkr:k≠r)
 (hx:∀v' H',Bld r (l++O5 rs) v' H'→Kp r v0 H0 v' H'→k2 H'=x):∀(f i:Nat) (v:AV) (H:Hp),i≤rs.length→rs.length-i<f→Bld r (l++O5 (rs.take i)) v H→Kp r v0 H0 v H→Au H k=some (.cells q e (rs.flatMap rtC))→¬Bb v k→
 DM (L+20) (rt (L+20) (n+10)) K k2 f (.ptr r 0 0) (.sl 2 k 0 rs.length) (I rs.length) (I i) H=x:=by
 intro f
 induction f with
 |zero=>intro i v H _ h;omega
 |succ f ih=>
  intro i v H hi hf hB hk hs hvk
  rw[L1]
  unfold Fo Ar
  by_cases h:i<rs.length
  ·have hzi:=hz rs[i] (Ow h)
   have hlen:=LU (rs.take i) (λs hs=>hz s (l24 hs))
   have h5:(rs.take i).length≤rs.length:=by simp;omega
   rw[Ge (by omega),D3,C23 h]
   have hfl:=B44 rtC 2 (λ_=>rfl) rs
   have hfg:=A1B rtC 2 (λ_=>rfl) rs i h
   have hld:∀K,Aq Ao (.ptr k (2*i) 0) H K=K (.agg (rtC rs[i])):= λK=>by
    rw[EZ (p:=2*i) rfl hs (by rw[hfl];show 2*i+2≤_;omega),Nat.mul_comm 2 i]
    show K (.agg (((rs.flatMap rtC).drop (i*2)).take 2))=_
    rw[hfg]
   rw[hld,Ba (cs:=[zS,zS]) rfl]
   have hn0:=Ay (H:=H) (x:= .cells true AB [zS,zS]) (by simp)
   rw[B0 (vs:=rtC rs[i]) hn0 rfl rfl rfl]
   have hr1:=A9 (q:=true) (e:=AB) (cs:=rtC rs[i]) hn0
   have hrlt:=hB.lt
   have hB1:=(hB.cons (y:= .cells true AB [zS,zS])).upd (s:=A3 H) (y:= .cells true AB (rtC rs[i])) (by omega) (λhu=>by have:=hB.vlt hu;omega)
   have hk1:Kp r v H v (upd ((A3 H,Row.cells true AB [zS,zS])::H) (A3 H) (.cells true AB (rtC rs[i]))):=⟨λu y hu h1 h2=>by
    have:=hB.wf.lt hu
    rw[Ap (by omega)];exact Bh this hu,λu hu=> .inl hu,by rw[Cr];exact l1p _⟩
   generalize upd ((A3 H,Row.cells true AB [zS,zS])::H) (A3 H) (.cells true AB (rtC rs[i]))=H1 at hr1 hB1 hk1
   generalize A3 H=t at hr1
   have g0:∀K:AV→Al,AL 0 (.ptr t 0 0) K=K (.ptr t 0 0):= λK=>id rfl
   have g1:∀K:AV→Al,AL 1 (.ptr t 0 0) K=K (.ptr t 1 0):= λK=>id rfl
   have m0:∀K,Aq Ad (.ptr t 0 0) H1 K=K (S rs[i].1):= λK=>AQ (p:=0) rfl hr1 (show 0<2 by decide)
   have m1:∀K,Aq Ad (.ptr t 1 0) H1 K=K (S rs[i].2):= λK=>AQ (p:=1) rfl hr1 (show 1<2 by decide)
   rw[g0,m0,g1,m1]
   have bs:∀K:KV,Ft AI 1 Ad 2 [(0,1,S rs[i].1),(1,1,S rs[i].2)] H1 K=K (.sl 1 (A3 H1) 0 2) ((A3 H1,.cells false AI (B5 [rs[i].1,rs[i].2]))::H1):= λK=>by
    have e:Ft AI 1 Ad 2 [(0,1,S rs[i].1),(1,1,S rs[i].2)] H1 K=HM H1 λs=>K (.sl 1 s 0 2) ((s,.cells false AI (B5 [rs[i].1,rs[i].2]))::H1):=rfl
    rw[e,BW]
   rw[bs]
   have hB2:=hB1.cons (y:= .cells false AI (B5 [rs[i].1,rs[i].2]))
   have hk2:Kp r v H v ((A3 H1,.cells false AI (B5 [rs[i].1,rs[i].2]))::H1):=hk1.trans hB.wf (Kp.cons hB1.wf)
   refine A40 (n:=n) hL (zs:=[rs[i].1,rs[i].2]) (by simp) (by simp;exact hzi) (by rw[FK];omega) hB2 (.inr (.inr ⟨A3 H1,false,AI,rfl,Ay (by simp),by have:=hB1.lt;omega,λhu=>by have:=hB1.vlt hu;omega⟩)) λv' H' hB' hk'=> ?_
   rw[DS (by omega)]
   rw[l0k,←B1b rs h] at hB'
   have hk3:=hk2.trans hB.wf hk'
   refine ih (i+1) v' H' (by omega) (by omega) hB' (hk.trans w0 hk3) (hk3.keep k _ hs hkr hvk) (λhu=> ?_)
   rcases hk3.new k hu with h6|h6
   ·exact hvk h6
   ·have:=hB.wf.lt hs;omega
  ·rw[Gf (by omega),B9]
   have:i=rs.length:=by omega
   subst this
   rw[l06] at hB
   exact hx v H hB hk
theorem B2g {r k e:Nat} {q:Bool} {v:AV} {rs:Rts} {l:List UInt8} {H:Hp} (hL:100<L) (hl:rs.length<100) (hz:∀z∈rs,z.1.length<390∧z.2.length<390) (hb:l.length<800000000) (hB:Bld r l v H) (hkr:k≠r) (hs:Au H k=some (.cells q e (rs.flatMap rtC))) (hvk:¬Bb v k)
 (hx:∀v' H',Bld r (l++O5 rs) v' H'→Kp r v H v' H'→K (.tup []) H'=x):(rt (L+20) (n+11)).call Cg [.ptr r 0 0,.sl 2 k 0 rs.length] H K=x:=by
 rw[Mg]
 unfold FB Ar
 have el:∀K,AN GU (.sl 2 k 0 rs.length) K=K (I rs.length):= λK=>id rfl
 rw[el]
 simp only[Cl]
 have e0:(AV.v (.int .i64 0))=I ((0:Nat):Int):=rfl
 rw[e0]
 exact C2V (n:=n) hl hz hL hb hB.wf hkr hx (L+20) 0 v H (by omega) (by omega) (by simpa [O5] using hB) (Kp.refl r v H) hs hvk
end
section
variable {L n:Nat} {K:KV} {x:Al}
structure Bd (r:Nat) (ks:List (Nat×Row)) (b:Nat) (l:List UInt8) (v:AV) (H:Hp):Prop where
 bld:Bld r l v H
 ks:∀p∈ks,Au H p.1=some p.2∧p.1≠r∧¬Bb v p.1
 sz:l.length≤b
theorem Bd.step {r b b':Nat} {ks:List (Nat×Row)} {l l':List UInt8} {v v':AV} {H H':Hp} (h:Bd r ks b l v H) (hB:Bld r l' v' H') (k:Kp r v H v' H') (hs:l'.length≤b'):Bd r ks b' l' v' H':=
 ⟨hB,λp hp=>by
  obtain⟨h1,h2,h3⟩:=h.ks p hp
  refine⟨k.keep p.1 _ h1 h2 h3,h2,λhu=> ?_⟩
  rcases k.new p.1 hu with h4|h4
  ·exact h3 h4
  ·have:=h.bld.wf.lt h1;omega,hs⟩
theorem Bd.less {r b:Nat} {ks:List (Nat×Row)} {p:Nat×Row} {l:List UInt8} {v:AV} {H:Hp} (h:Bd r (p::ks) b l v H):Bd r ks b l v H:=⟨h.bld,λq hq=>h.ks q (List.mem_cons_of_mem _ hq),h.sz⟩
section
variable {r b:Nat} {ks:List (Nat×Row)} {l:List UInt8} {v:AV} {H:Hp}
theorem Yr (h:Bd r ks b l v H) (hL:100<L) (hb:b<500000000) (zs:List Int) (hl:zs.length<100) (hz:∀z∈zs, -10≤z∧z<390) (hx:∀v' H',Bd r ks (b+50000) (l++GS zs) v' H'→K (.tup []) H'=x):
 (rt (L+20) (n+10)).call Bz [.ptr r 0 0,.sl 1 (A3 H) 0 zs.length] ((A3 H,.cells false CV (Ev zs))::H) K=x:=by
 have h1:=h.sz
 have h2:=Ek zs
 have h3:(Ev zs).length=zs.length:=by simp[Ev]
 refine B0m (n:=n) hL hl hz (by omega) h.bld.cons (.inr (.inr ⟨A3 H,false,CV,by rw[h3],Ay (by simp),by have:=h.bld.lt;omega,λhu=>by have:=h.bld.vlt hu;omega⟩)) λv' H' hB hk=> ?_
 exact hx v' H' (h.step hB ((Kp.cons h.bld.wf).trans h.bld.wf hk) (by rw[FK];omega))
theorem B4L (h:Bd r ks b l v H) (hL:100<L) (hb:b<500000000) (zs:List (List UInt8)) (hl:zs.length<100) (hz:∀z∈zs,z.length<390) (hx:∀v' H',Bd r ks (b+50000) (l++FX zs) v' H'→K (.tup []) H'=x):
 (rt (L+20) (n+10)).call BN [.ptr r 0 0,.sl 1 (A3 H) 0 zs.length] ((A3 H,.cells false AI (B5 zs))::H) K=x:=by
 have h1:=h.sz
 have h2:=Ej zs hz
 refine A40 (n:=n) hL hl hz (by omega) h.bld.cons (.inr (.inr ⟨A3 H,false,AI,by rw[Fm],Ay (by simp),by have:=h.bld.lt;omega,λhu=>by have:=h.bld.vlt hu;omega⟩)) λv' H' hB hk=> ?_
 exact hx v' H' (h.step hB ((Kp.cons h.bld.wf).trans h.bld.wf hk) (by rw[FK];omega))
theorem C2m (h:Bd r ks b l v H) (hL:100<L) (hb:b<500000000) (zs:List (List UInt8)) (a:AV) (ha:a= .list zs.length (B5 zs)∨(a=AM∧zs=[])) (hl:zs.length<100) (hz:∀z∈zs,z.length<390) (hx:∀v' H',Bd r ks (b+50000) (l++FX zs) v' H'→K (.tup []) H'=x):
 (rt (L+20) (n+10)).call BN [.ptr r 0 0,a] H K=x:=by
 have h1:=h.sz
 have h2:=Ej zs hz
 refine A40 (n:=n) hL hl hz (by omega) h.bld ?_ λv' H' hB hk=>hx v' H' (h.step hB hk (by rw[FK];omega))
 rcases ha with rfl|⟨rfl,rfl⟩
 ·exact .inl (by rw[Fm])
 ·exact .inr (.inl ⟨rfl,rfl⟩)
theorem A4Y (h:Bd r ks b l v H) (hL:100<L) (hb:b<500000000) (rs:Rts) (hl:rs.length<50) (hz:∀z∈rs,z.1.length<390∧z.2.length<390) (hx:∀v' H',Bd r ks (b+50000) (l++O5 rs) v' H'→K (.tup []) H'=x):
 (rt (L+20) (n+11)).call Cg [.ptr r 0 0,.sl 2 (A3 H) 0 rs.length] ((A3 H,.cells false AB (rs.flatMap rtC))::H) K=x:=by
 have h1:=h.sz
 have h2:=LU rs hz
 refine B2g (n:=n) hL (by omega) hz (by omega) h.bld.cons (by have:=h.bld.lt;omega) (Ay (by simp)) (λhu=>by have:=h.bld.vlt hu;omega) λv' H' hB hk=> ?_
 exact hx v' H' (h.step hB ((Kp.cons h.bld.wf).trans h.bld.wf hk) (by rw[FK];omega))
theorem Bd.cons {y:Row} (h:Bd r ks b l v H):Bd r ks b l v ((A3 H,y)::H):=h.step h.bld.cons (Kp.cons h.bld.wf) h.sz
theorem C2Y (h:Bld r l v H):(rt (L+20) (n+1)).call FN [.ptr r 0 0] H K=K (I l.length) H:=by
 rw[PI]
 unfold HX
 have a1:∀K:AV→Al,AL 1 (.ptr r 0 0) K=K (.ptr r 1 0):= λK=>id rfl
 rw[Hf,a1]
 have e1:∀K,Aq A8 (.ptr r 1 0) H K=K v:= λK=>by
  obtain⟨_,_,hl|hl⟩:=h.at_<;>exact AQ (p:=1) rfl hl (by simp)
 rw[e1,I5 rfl h.sl]
theorem A5r (h:Bld r l v H) (h0:0<l.length) (hb:l.length<1000000000):∃H',∀K,(rt (L+20) (n+1)).call CM [.ptr r 0 0] H K=K (S l) H':=by
 rcases h.sl with⟨_,h1,_⟩|⟨s,q,rfl,hs,hc⟩
 ·omega
 ·refine⟨upd H s .gone,λK=> ?_⟩
  rw[NS]
  unfold Gz
  have a1:∀K:AV→Al,AL 1 (.ptr r 0 0) K=K (.ptr r 1 0):= λK=>id rfl
  have e1:∀K,Aq A8 (.ptr r 1 0) H K=K (.sl 1 s 0 l.length):= λK=>by
   obtain⟨_,_,hl|hl⟩:=h.at_<;>exact AQ (p:=1) rfl hl (by simp)
  have e2:∀K,B4j (.sl 1 s 0 l.length) K=K (.ptr s 0 0):= λK=>by
   have:B4j (.sl 1 s 0 l.length) K=ck (Nat.beq 1 1&&Nat.blt 0 l.length) (K (.ptr s 0 0)):=rfl
   rw[this]
   have:(Nat.beq 1 1&&Nat.blt 0 l.length)=true:=by simp;omega
   rw[this];rfl
  have e3:∀K,AN A8 (.sl 1 s 0 l.length) K=K (I l.length):= λK=>id rfl
  have e4:∀K:KV,B1e AS (.ptr s 0 0) (I l.length) H K=K (S l) (upd H s .gone):= λK=>by
   have:B1e AS (.ptr s 0 0) (I l.length) H K=iN (l.length:Int) λn=>Ks H s λx=>Ma x λE cs=>ck (Nat.beq E AS&&(Nat.blt 0 n&&Nat.blt n 9223372036854775807)) (FU n (Dg (Nat.add 0 0) cs) λbs=>fu8 bs λl=>Oe H s .gone λH'=>K (.v (.string ⟨⟨l⟩⟩)) H'):=rfl
   rw[this,J6,Cm hs]
   show ck (Nat.beq AS AS&&(Nat.blt 0 l.length&&Nat.blt l.length 9223372036854775807)) _=_
   have g:(Nat.beq AS AS&&(Nat.blt 0 l.length&&Nat.blt l.length 9223372036854775807))=true:=by simp;omega
   rw[g]
   show FU l.length (Dg 0 (Ke l)) _=_
   have f:∀(l:List UInt8) (K:List UInt8→Al),fu8 (Ke l) K=K l:= λl=>by
    induction l with
    |nil=>intro K;rfl
    |cons b l ih=>
     intro K
     have e:fu8 (Ke (b::l)) K=iN (b.toNat:Int) λn=>fu8 (Ke l) λl=>K (UInt8.ofNat n::l):=rfl
     rw[e,J6,ih]
     simp
   rw[Ct,MM _ _ _ (by rw[l1n,Ns];exact NU _),l1n,l1z (by rw[Ns];exact NU _),f,D8]
  simp only[Hf,BH,a1,e1,e2,e3,e4,Ci]
end
end
section
variable {L n:Nat} {K:KV} {x:Al}
def tmB (t:Int×Int):List UInt8:=GS [t.1]++O5 [(qn t.2,qd t.2)]
def Oi (ts:ZB):List UInt8:=(ts.map tmB).flatten
theorem A2Z (l:ZB) {i:Nat} (h:i<l.length):Oi (l.take (i+1))=Oi (l.take i)++tmB l[i]:=by
 unfold Oi
 rw[l04 h,Zt,List.flatten_append]
 simp only[ZK,List.map_nil,l18,List.flatten_nil,l1o]
theorem UA {z:Int} {H:Hp} {K:KV}:Ft CV 1 Ab 1 [(0,1,I z)] H K=K (.sl 1 (A3 H) 0 1) ((A3 H,.cells false CV (Ev [z]))::H):=by
 have e:Ft CV 1 Ab 1 [(0,1,I z)] H K=HM H λs=>K (.sl 1 s 0 1) ((s,.cells false CV (Ev [z]))::H):=rfl
 rw[e,BW]
theorem Xa {z:List UInt8} {H:Hp} {K:KV}:Ft AI 1 Ad 1 [(0,1,S z)] H K=K (.sl 1 (A3 H) 0 1) ((A3 H,.cells false AI (B5 [z]))::H):=by
 have e:Ft AI 1 Ad 1 [(0,1,S z)] H K=HM H λs=>K (.sl 1 s 0 1) ((s,.cells false AI (B5 [z]))::H):=rfl
 rw[e,BW]
theorem A4X {a b:List UInt8} {H:Hp} {K:KV}:Ft AB 2 Ao 1 [(0,2,.agg [S a,S b])] H K=K (.sl 2 (A3 H) 0 1) ((A3 H,.cells false AB (([(a,b)]:Rts).flatMap rtC))::H):=by
 have e:Ft AB 2 Ao 1 [(0,2,.agg [S a,S b])] H K=HM H λs=>K (.sl 2 s 0 1) ((s,.cells false AB (([(a,b)]:Rts).flatMap rtC))::H):=rfl
 rw[e,BW]
theorem C58 {r c:Nat} {ks:List (Nat×Row)} {ts:ZB} {k138:AV→AV→Hp→Al} (ht:TmsOk ts) (hL:100<L) {b:Nat} (hb:b<100000000) {l:List UInt8}
 (hx:∀v' H',Bd r ks (b+100000*ts.length) (l++Oi ts) v' H'→k138 (.ptr c 0 0) (.ptr r 0 0) H'=x):∀(f i:Nat) (v:AV) (H:Hp),i≤ts.length→ts.length-i<f→Bd r ks (b+100000*i) (l++Oi (ts.take i)) v H→
 HO (L+20) (rt (L+20) (n+11)) K k138 f (.ptr c 0 0) (.ptr r 0 0) (Fw ts) (I ts.length) (I i) H=x:=by
 have hlen:=ht.len
 intro f
 induction f with
 |zero=>intro i v H _ h;omega
 |succ f ih=>
  intro i v H hi hf hB
  rw[Tk]
  unfold Kd Ar
  by_cases h:i<ts.length
  ·have hr:=ht.rng _ (Ow h)
   rw[Ge (by omega),D3,SN h,lTm,Ba (cs:=[zI,zS,zS]) rfl]
   have hn0:=Ay (H:=H) (x:= .cells true AO [zI,zS,zS]) (by simp)
   rw[B0 (vs:=MX ts[i]) hn0 rfl rfl rfl]
   have hr1:=A9 (q:=true) (e:=AO) (cs:=MX ts[i]) hn0
   have hrlt:=hB.bld.lt
   have hB0:=(hB.bld.cons (y:= .cells true AO [zI,zS,zS])).upd (s:=A3 H) (y:= .cells true AO (MX ts[i])) (by omega) (λhu=>by have:=hB.bld.vlt hu;omega)
   have hB1:Bd r ((A3 H,.cells true AO (MX ts[i]))::ks) (b+100000*i) (l++Oi (ts.take i)) v (upd ((A3 H,Row.cells true AO [zI,zS,zS])::H) (A3 H) (.cells true AO (MX ts[i]))):=⟨hB0,λp hp=>by
    rcases Xi.1 hp with rfl|hp
    ·exact⟨hr1,by simp only;omega,λhu=>by have:=hB.bld.vlt hu;omega⟩
    ·obtain⟨p1,p2,p3⟩:=hB.ks p hp
     have:=hB.bld.wf.lt p1
     exact⟨by rw[Ap (by omega)];exact Bh this p1,p2,p3⟩,hB.sz⟩
   generalize upd ((A3 H,Row.cells true AO [zI,zS,zS])::H) (A3 H) (.cells true AO (MX ts[i]))=H1 at hr1 hB1
   generalize A3 H=t at hr1 hB1
   have g0:∀K:AV→Al,AL 0 (.ptr t 0 0) K=K (.ptr t 0 0):= λK=>id rfl
   have g1:∀K:AV→Al,AL 1 (.ptr t 0 0) K=K (.ptr t 1 0):= λK=>id rfl
   have m0:∀K,Aq Ab (.ptr t 0 0) H1 K=K (I ts[i].1):= λK=>AQ (p:=0) rfl hr1 (show 0<3 by decide)
   rw[g0,m0,UA]
   refine Yr (n:=n+1) hB1 hL (by omega) [ts[i].1] (by simp) (by simp;omega) λv2 H2 hB2=> ?_
   have hr2:Au H2 t=some (.cells true AO (MX ts[i])):=(hB2.ks (t,.cells true AO (MX ts[i])) (by simp)).1
   have m1:∀K,Aq Ao (.ptr t 1 0) H2 K=K (.agg (qa ts[i].2)):= λK=>EZ (p:=1) rfl hr2 (show 3≤3 from NU _)
   rw[g1,m1,A4X]
   have hq1:=T3 (z:=ts[i].2) (by omega) (by omega)
   have hq2:=T4 ts[i].2
   refine A4Y (n:=n) hB2 hL (by omega) [(qn ts[i].2,qd ts[i].2)] (by simp) (by simp;omega) λv3 H3 hB3=> ?_
   rw[DS (by omega)]
   have e1:l++Oi (ts.take i)++GS [ts[i].1]++O5 [(qn ts[i].2,qd ts[i].2)]=l++Oi (ts.take (i+1)):=by
    rw[A2Z ts h];simp[tmB]
   have e2:b+100000*i+50000+50000=b+100000*(i+1):=by omega
   have hB4:=hB3.less
   rw[e1,e2] at hB4
   exact ih (i+1) v3 H3 (by omega) (by omega) hB4
  ·rw[Gf (by omega),B9]
   have:i=ts.length:=by omega
   subst this
   rw[l06] at hB
   exact hx v H hB
end
section
variable {L n:Nat}
def QY (r:RD) (vd:Int):List UInt8:=GS [r.k]++O5 [(r.a1,r.a2),(r.b1,r.b2),(r.c1,r.c2),(r.d1,r.d2)]++GS [vd]
def KZ (kd:Int) (m:ND) (un ca cb:List UInt8) (ts:ZB) (ra rb:List UInt8) (ps:List (List UInt8)) (pt:List UInt8) (tail:List UInt8):List UInt8:=
 []++GS [kd,m.lab,m.num,m.itm,m.tim,m.day]++FX [un]++O5 [(ca,cb)]++GS [(ts.length:Int)]++Oi ts++O5 [(ra,rb)]++GS [(ps.length:Int)]++FX ps++FX [pt]++tail
theorem B5v:PS (rt (L+20) (n+40)) Vc [.agg [I 0,AM,AM]] (.tup [S [],I 200]):=Bu (λH K=>by kernel_rfl) (by kernel_rfl)
theorem B5y:PS (rt (L+20) (n+40)) NG [.agg [I 0,AM,AM]] (Bo true):=Bu (λH K=>by kernel_rfl) (by kernel_rfl)
def Ec (ps:List (List UInt8)):AV:=match ps with
 |[]=>AM
 |p::ps=> .list (p::ps).length (B5 (p::ps))
section
variable {m:ND} {u o:UD} {ca cb ra rb:List UInt8} {T P ins nds:AV} {kd id vd:Int} {r:RD} {c:Nat} {H:Hp} {K:AV→Al}
abbrev Jf (kd:Int) (m:ND) (u:UD) (ca cb:List UInt8) (T:AV) (ra rb:List UInt8) (P:AV) (id:Int) (ins nds:AV) (o:UD) (r:RD) (vd:Int):Row:= .cells true Ai (DF kd m u ca cb T ra rb P id ins nds o r vd)
theorem PC (hT:Sl T) (hP:Sl P) (hI:Sl ins) (hN:Sl nds):(DF kd m u ca cb T ra rb P id ins nds o r vd).all AV.one=true:=by
 rcases hT with rfl|⟨_,_,rfl⟩<;>rcases hP with rfl|⟨_,_,rfl⟩<;>rcases hI with rfl|⟨_,_,rfl⟩<;>rcases hN with rfl|⟨_,_,rfl⟩<;>rfl
theorem SP (hT:Sl T) (hP:Sl P) (hI:Sl ins) (hN:Sl nds):PH true depth [.agg (DF kd m u ca cb T ra rb P id ins nds o r vd)] [.agg (DF kd m u ca cb T ra rb P id ins nds o r vd)] H false:=by
 rcases hT with rfl|⟨_,_,rfl⟩<;>rcases hP with rfl|⟨_,_,rfl⟩<;>rcases hI with rfl|⟨_,_,rfl⟩<;>rcases hN with rfl|⟨_,_,rfl⟩<;>exact λK=>by kernel_rfl
theorem RW (hI:Sl ins) (hN:Sl nds):PH true depth [.agg (Bs id ins nds o)] [.agg (Bs id ins nds o)] H false:=by
 rcases hI with rfl|⟨_,_,rfl⟩<;>rcases hN with rfl|⟨_,_,rfl⟩<;>exact λK=>by kernel_rfl
theorem cA (hl:Au H c=some (Jf kd m u ca cb T ra rb P id ins nds o r vd)):Aq Ac (.ptr c 0 0) H K=K (.agg (DF kd m u ca cb T ra rb P id ins nds o r vd)):=Bk rfl rfl hl
theorem cI0 (hl:Au H c=some (Jf kd m u ca cb T ra rb P id ins nds o r vd)):Aq Ab (.ptr c 0 0) H K=K (I kd):=AQ (p:=0) rfl hl (show 0<68 by decide)
theorem cI1 (hl:Au H c=some (Jf kd m u ca cb T ra rb P id ins nds o r vd)):Aq Ab (.ptr c 1 0) H K=K (I m.lab):=AQ (p:=1) rfl hl (show 1<68 by decide)
theorem cI2 (hl:Au H c=some (Jf kd m u ca cb T ra rb P id ins nds o r vd)):Aq Ab (.ptr c 2 0) H K=K (I m.num):=AQ (p:=2) rfl hl (show 2<68 by decide)
theorem cI3 (hl:Au H c=some (Jf kd m u ca cb T ra rb P id ins nds o r vd)):Aq Ab (.ptr c 3 0) H K=K (I m.itm):=AQ (p:=3) rfl hl (show 3<68 by decide)
theorem cI4 (hl:Au H c=some (Jf kd m u ca cb T ra rb P id ins nds o r vd)):Aq Ab (.ptr c 4 0) H K=K (I m.tim):=AQ (p:=4) rfl hl (show 4<68 by decide)
theorem cI5 (hl:Au H c=some (Jf kd m u ca cb T ra rb P id ins nds o r vd)):Aq Ab (.ptr c 5 0) H K=K (I m.day):=AQ (p:=5) rfl hl (show 5<68 by decide)
theorem cU (hl:Au H c=some (Jf kd m u ca cb T ra rb P id ins nds o r vd)):Aq Ag (.ptr c 6 0) H K=K (.agg (Cb u)):=EZ (p:=6) rfl hl (show 26≤68 by decide)
theorem cC (hl:Au H c=some (Jf kd m u ca cb T ra rb P id ins nds o r vd)):Aq Ao (.ptr c 26 0) H K=K (.agg ([S ca,S cb])):=EZ (p:=26) rfl hl (show 28≤68 by decide)
theorem cT (hl:Au H c=some (Jf kd m u ca cb T ra rb P id ins nds o r vd)):Aq A5 (.ptr c 28 0) H K=K (T):=AQ (p:=28) rfl hl (show 28<68 by decide)
theorem cR (hl:Au H c=some (Jf kd m u ca cb T ra rb P id ins nds o r vd)):Aq Ao (.ptr c 29 0) H K=K (.agg ([S ra,S rb])):=EZ (p:=29) rfl hl (show 31≤68 by decide)
theorem cP (hl:Au H c=some (Jf kd m u ca cb T ra rb P id ins nds o r vd)):Aq Ae (.ptr c 31 0) H K=K (P):=AQ (p:=31) rfl hl (show 31<68 by decide)
theorem cPr (hl:Au H c=some (Jf kd m u ca cb T ra rb P id ins nds o r vd)):Aq A7 (.ptr c 32 0) H K=K (.agg (Bs id ins nds o)):=EZ (p:=32) rfl hl (show 55≤68 by decide)
theorem cRk (hl:Au H c=some (Jf kd m u ca cb T ra rb P id ins nds o r vd)):Aq Ab (.ptr c 55 0) H K=K (I r.k):=AQ (p:=55) rfl hl (show 55<68 by decide)
theorem cR1 (hl:Au H c=some (Jf kd m u ca cb T ra rb P id ins nds o r vd)):Aq Ao (.ptr c 56 0) H K=K (.agg ([S r.a1,S r.a2])):=EZ (p:=56) rfl hl (show 58≤68 by decide)
theorem cR2 (hl:Au H c=some (Jf kd m u ca cb T ra rb P id ins nds o r vd)):Aq Ao (.ptr c 58 0) H K=K (.agg ([S r.b1,S r.b2])):=EZ (p:=58) rfl hl (show 60≤68 by decide)
theorem cR3 (hl:Au H c=some (Jf kd m u ca cb T ra rb P id ins nds o r vd)):Aq Ao (.ptr c 60 0) H K=K (.agg ([S r.c1,S r.c2])):=EZ (p:=60) rfl hl (show 62≤68 by decide)
theorem cR4 (hl:Au H c=some (Jf kd m u ca cb T ra rb P id ins nds o r vd)):Aq Ao (.ptr c 62 0) H K=K (.agg ([S r.d1,S r.d2])):=EZ (p:=62) rfl hl (show 64≤68 by decide)
theorem cV (hl:Au H c=some (Jf kd m u ca cb T ra rb P id ins nds o r vd)):Aq Ab (.ptr c 64 0) H K=K (I vd):=AQ (p:=64) rfl hl (show 64<68 by decide)
theorem cS (hl:Au H c=some (Jf kd m u ca cb T ra rb P id ins nds o r vd)):Aq Jw (.ptr c 65 0) H K=K (.agg ([I 0,AM,AM])):=EZ (p:=65) rfl hl (show 68≤68 by decide)
theorem fA {c j k:Nat} {K:AV→Al}:AL j (.ptr c k 0) K=K (.ptr c (k+j) 0):=by
 have e:AL j (.ptr c k 0) K=fN (Nat.add k j) λq=>K (.ptr c q 0):=rfl
 rw[e,DL];rfl
end
theorem VZ (ts:ZB) (h:∀t∈ts,(qn t.2).length<390∧(qd t.2).length<390):(Oi ts).length≤900*ts.length:=by
 induction ts with
 |nil=>simp[Oi]
 |cons t l ih=>
  have h1:=ih (λt ht=>h t (by simp[ht]))
  have h2:=Ek [t.1]
  have h3:=LU [(qn t.2,qd t.2)] (by simp;exact h t (by simp))
  simp only[Oi,ZK,l18,FK,Lf,Od,tmB] at h1 h2 h3⊢
  omega
theorem Bd.tms0 {r b:Nat} {ks:List (Nat×Row)} {l:List UInt8} {v:AV} {H:Hp} (ts:ZB) (h:Bd r ks b l v H):Bd r ks (b+100000*0) (l++Oi (ts.take 0)) v H:=by
 rw[show Oi (ts.take 0)=[] from rfl,l1o];exact h
theorem B7D (z:Int):0<(enc z).length:=by
 unfold enc B4g
 split<;>simp
theorem B7O {a b c d e f:Int} {H:Hp} {K:KV}:Ft CV 1 Ab 6 [(0,1,I a),(1,1,I b),(2,1,I c),(3,1,I d),(4,1,I e),(5,1,I f)] H K=K (.sl 1 (A3 H) 0 6) ((A3 H,.cells false CV (Ev [a,b,c,d,e,f]))::H):=by
 have g:Ft CV 1 Ab 6 [(0,1,I a),(1,1,I b),(2,1,I c),(3,1,I d),(4,1,I e),(5,1,I f)] H K=HM H λs=>K (.sl 1 s 0 6) ((s,.cells false CV (Ev [a,b,c,d,e,f]))::H):=rfl
 rw[g,BW]
theorem B7N {a1 a2 b1 b2 c1 c2 d1 d2:List UInt8} {H:Hp} {K:KV}:Ft AB 2 Ao 4 [(0,2,.agg [S a1,S a2]),(2,2,.agg [S b1,S b2]),(4,2,.agg [S c1,S c2]),(6,2,.agg [S d1,S d2])] H K=K (.sl 2 (A3 H) 0 4) ((A3 H,.cells false AB (([(a1,a2),(b1,b2),(c1,c2),(d1,d2)]:Rts).flatMap rtC))::H):=by
 have g:Ft AB 2 Ao 4 [(0,2,.agg [S a1,S a2]),(2,2,.agg [S b1,S b2]),(4,2,.agg [S c1,S c2]),(6,2,.agg [S d1,S d2])] H K=HM H λs=>K (.sl 2 s 0 4) ((s,.cells false AB (([(a1,a2),(b1,b2),(c1,c2),(d1,d2)]:Rts).flatMap rtC))::H):=rfl
 rw[g,BW]
theorem Ua {ps:List (List UInt8)} {K:AV→Al}:AN Ae (Ec ps) K=K (I ps.length):=by cases ps<;>exact id rfl
section
variable {m:ND} {u o:UD} {ca cb ra rb un pt:List UInt8} {ts:ZB} {ps:List (List UInt8)} {ins nds:AV} {kd id vd pe:Int} {r:RD}
set_option maxHeartbeats 2000000 in
theorem A7D (hL:100<L) (hm:m.ok) (hkd:kd=1∨kd=2∨kd=3) (ht:TmsOk ts) (hI:Sl ins) (hN:Sl nds) (hp:ps.length≤6) (hpl:∀s∈ps,s.length<390) (hun:un.length<390) (hpt:pt.length<390)
 (hr:r.k=0∨r.k=1∨r.k=2∨r.k=3) (hrl:∀q∈[(r.a1,r.a2),(r.b1,r.b2),(r.c1,r.c2),(r.d1,r.d2)],q.1.length<390∧q.2.length<390) (hv:0≤vd∧vd≤3) (hcl:ca.length<10∧cb.length<10∧ra.length<10∧rb.length<10)
 (hst:LS (rt (L+20) (n+61)) Df [.agg (DF kd m u ca cb (Fw ts) ra rb (Ec ps) id ins nds o r vd)] (Bo true))
 (hup:PS (rt (L+20) (n+61)) Hh [.agg (Cb u)] (.tup [S un,I 0])) (hpp:LS (rt (L+20) (n+61)) ER [.agg (Bs id ins nds o)] (.tup [S pt,I pe])):
 CS (rt (L+20) (n+62)) I3 [.agg (DF kd m u ca cb (Fw ts) ra rb (Ec ps) id ins nds o r vd)] (.tup [S (KZ kd m un ca cb ts ra rb ps pt (if kd=3 then QY r vd else[])),I 0]):=by
 intro K hK
 obtain⟨q1,q2,q3,q4,q5,q6,q7,q8,q9,q10⟩:=hm
 have hT:=F4 ts
 have hP:Sl (Ec ps):=by cases ps with|nil=>exact .inl rfl|cons p l=>exact .inr ⟨_,_,rfl⟩
 have hlt:=ht.len
 rw[TR]
 unfold KL AU Ar CH
 rw[Fa (PC hT hP hI hN)]
 have hc0:=Ay (H:=[]) (x:=Jf kd m u ca cb (Fw ts) ra rb (Ec ps) id ins nds o r vd) (by simp)
 have w0:=B3 (x:=Jf kd m u ca cb (Fw ts) ra rb (Ec ps) id ins nds o r vd) F3
 generalize ((A3 [],Jf kd m u ca cb (Fw ts) ra rb (Ec ps) id ins nds o r vd)::([]:Hp))=H0 at hc0 w0
 generalize A3 []=c at hc0
 have hst':∀K,Ah (rt (L+20) (n+61)) Df [.agg (DF kd m u ca cb (Fw ts) ra rb (Ec ps) id ins nds o r vd)] H0 K=K (Bo true):= λK=>by rw[zO];exact hst false _ _ (SP hT hP hI hN) K
 rw[cA hc0,hst',ntT,B9]
 have f0:∀{j:Nat} {K:AV→Al},AL j (.ptr c 0 0) K=K (.ptr c j 0):= λ{j K}=>by rw[fA,K1]
 rw[f0,cS hc0,B5v (n:=n+21),CY,CX,Hu]
 simp only[show(!decide ((200:Int)=0))=true from rfl,gT,Ci,f0,cS hc0]
 simp only[B5y (L:=L) (n:=n+21) H0,ntT,Ci,Vu]
 rw[B9,Ba (cs:=[.v (.pointer none),zL]) rfl]
 have hrn:=Ay (H:=H0) (x:= .cells true F5 [.v (.pointer none),zL]) (by simp)
 have hclt:=w0.lt hc0
 have hB0:Bd (A3 H0) [(c,Jf kd m u ca cb (Fw ts) ra rb (Ec ps) id ins nds o r vd)] 0 [] AM ((A3 H0,.cells true F5 [.v (.pointer none),zL])::H0):=
  ⟨⟨⟨_,.inl rfl,.inl hrn⟩,.inl ⟨rfl,rfl,rfl⟩,λ⟨_,_,_,h⟩=>(by cases h),B3 w0⟩,λp hp=>by
   simp only[l2f] at hp
   subst hp
   exact⟨Bh hclt hc0,by simp only;omega,λ⟨_,_,_,h⟩=>(by cases h)⟩,NU _⟩
 generalize ((A3 H0,Row.cells true F5 [.v (.pointer none),zL])::H0)=H1 at hB0
 generalize A3 H0=rw_ at hB0
 have crt:∀{b l v H},Bd rw_ [(c,Jf kd m u ca cb (Fw ts) ra rb (Ec ps) id ins nds o r vd)] b l v H→Au H c=some (Jf kd m u ca cb (Fw ts) ra rb (Ec ps) id ins nds o r vd):= λh=>(h.ks (c,_) (l2f.2 rfl)).1
 have hl:=crt hB0
 simp only[Cl]
 rw[cI0 hl,cI1 hl,cI2 hl,cI3 hl,cI4 hl,cI5 hl,B7O]
 refine Yr (n:=n+51) hB0 hL (by decide) [kd,m.lab,m.num,m.itm,m.tim,m.day] (by simp) (by simp only[Xi,List.mem_nil_iff,or_false];rintro z (rfl|rfl|rfl|rfl|rfl|rfl)<;>omega) λv2 H2 hB2=> ?_
 have hl:=crt hB2
 rw[cU hl,hup,CY,CX,Xa]
 refine B4L (n:=n+51) hB2 hL (by decide) [un] (by simp) (by simpa using hun) λv3 H3 hB3=> ?_
 have hl:=crt hB3
 have g0:∀{K:AV→Al},AL 0 (.ptr c 26 0) K=K (.ptr c 26 0):=_root_.id rfl
 have g2:∀{K:AV→Al},AL 2 (.ptr c 26 0) K=K (.ptr c 28 0):=_root_.id rfl
 have g3:∀{K:AV→Al},AL 3 (.ptr c 26 0) K=K (.ptr c 29 0):=_root_.id rfl
 rw[g0,cC hl,A4X]
 refine A4Y (n:=n+50) hB3 hL (by decide) [(ca,cb)] (by simp) (by simp;omega) λv4 H4 hB4=> ?_
 have hl:=crt hB4
 rw[g2,cT hl,NI,UA]
 refine Yr (n:=n+51) hB4 hL (by decide) [(ts.length:Int)] (by simp) (by simp;omega) λv5 H5 hB5=> ?_
 have hl:=crt hB5
 rw[g2,cT hl,NI]
 have e0:(AV.v (.int .i64 0))=I ((0:Nat):Int):=rfl
 rw[e0]
 refine C58 (n:=n+50) (c:=c) ht hL (b:=200000) (by decide) ?_ (L+20) 0 v5 H5 (by omega) (by omega) (hB5.tms0 ts)
 intro v6 H6 hB6
 simp only[f0]
 have hl:=crt hB6
 have hb6:200000+100000*ts.length≤800000:=by omega
 have hB6:Bd rw_ [(c,Jf kd m u ca cb (Fw ts) ra rb (Ec ps) id ins nds o r vd)] 800000 _ v6 H6:=⟨hB6.bld,hB6.ks,l1m hB6.sz hb6⟩
 rw[g3,cR hl,A4X]
 refine A4Y (n:=n+50) hB6 hL (by decide) [(ra,rb)] (by simp) (by simp;omega) λv7 H7 hB7=> ?_
 have hl:=crt hB7
 rw[cP hl,Ua,UA]
 refine Yr (n:=n+51) hB7 hL (by decide) [(ps.length:Int)] (by simp) (by simp;omega) λv8 H8 hB8=> ?_
 have hl:=crt hB8
 rw[cP hl]
 refine C2m (n:=n+51) hB8 hL (by decide) ps (Ec ps) (by cases ps with|nil=>exact .inr ⟨rfl,rfl⟩|cons p l=>exact .inl rfl) (by omega) hpl λv9 H9 hB9=> ?_
 have hl:=crt hB9
 have hpp':∀K,Ah (rt (L+20) (n+61)) ER [.agg (Bs id ins nds o)] H9 K=K (.tup [S pt,I pe]):= λK=>by rw[zO];exact hpp false _ _ (RW hI hN) K
 rw[cPr hl,hpp',CY,CX,Xa]
 refine B4L (n:=n+51) hB9 hL (by decide) [pt] (by simp) (by simpa using hpt) λv10 H10 hB10=> ?_
 have hl:=crt hB10
 have hlen:∀tail:List UInt8,tail.length≤5000→(KZ kd m un ca cb ts ra rb ps pt tail).length≤32768∧0<(KZ kd m un ca cb ts ra rb ps pt tail).length:= λtail htl=>by
  have a1:=Ek [kd,m.lab,m.num,m.itm,m.tim,m.day]
  have a2:=Ej [un] (by simpa using hun)
  have a3:=LU [(ca,cb)] (by simp;omega)
  have a4:=Ek [(ts.length:Int)]
  have a5:=VZ ts (λt h=>by have:=ht.rng t h;have:=T3 (z:=t.2) (by omega) (by omega);have:=T4 t.2;omega)
  have a6:=LU [(ra,rb)] (by simp;omega)
  have a7:=Ek [(ps.length:Int)]
  have a8:=Ej ps hpl
  have a9:=Ej [pt] (by simpa using hpt)
  have a10:0<(GS [kd,m.lab,m.num,m.itm,m.tim,m.day]).length:=by
   have:=B7D kd
   simp only[GS,ZK,l18,FK];omega
  simp only[Lf,Od] at a1 a2 a3 a4 a6 a7 a9
  simp only[KZ,FK,Od]
  omega
 have fin:∀(tail:List UInt8) (b:Nat) (v:AV) (H:Hp),tail.length≤5000→(if kd=3 then QY r vd else[])=tail→Bd rw_ [(c,Jf kd m u ca cb (Fw ts) ra rb (Ec ps) id ins nds o r vd)] b (KZ kd m un ca cb ts ra rb ps pt tail) v H→
  (AL 0 (.ptr rw_ 0 0) λv96=>(rt (L+20) (n+61)).call FN [v96] H λv97 H98=>Go.Abs.Ak Ab .gtr v97 (.v (.int .i64 32768)) λv99=>
   As v99 (K (.tup [.v (.string ⟨⟨[]⟩⟩),.v (.int .i64 210)]) H98) (AL 0 (.ptr rw_ 0 0) λv100=>(rt (L+20) (n+61)).call CM [v100] H98 λv101 H102=>K (.tup [v101,.v (.int .i64 0)]) H102))=some (.tup [S (KZ kd m un ca cb ts ra rb ps pt (if kd=3 then QY r vd else[])),I 0],[]):= λtail b v H htl he hB=>by
  obtain⟨k1,k2⟩:=hlen tail htl
  have r0:∀{K:AV→Al},AL 0 (.ptr rw_ 0 0) K=K (.ptr rw_ 0 0):=_root_.id rfl
  rw[r0,C2Y (n:=n+60) hB.bld,Ey,decide_eq_false (by omega),B9,r0]
  obtain⟨H',e⟩:=A5r (L:=L) (n:=n+60) hB.bld k2 (by omega)
  rw[e,he]
  rw[he] at hK
  exact hK _ _ (λb=>⟨false,λK=>by kernel_rfl⟩)
 rw[cI0 hl,Dy]
 by_cases h3:kd=3
 ·rw[decide_eq_true h3,D3]
  have j0:∀{K:AV→Al},AL 0 (.ptr c 55 0) K=K (.ptr c 55 0):=_root_.id rfl
  have j1:∀{K:AV→Al},AL 1 (.ptr c 55 0) K=K (.ptr c 56 0):=_root_.id rfl
  have j3:∀{K:AV→Al},AL 3 (.ptr c 55 0) K=K (.ptr c 58 0):=_root_.id rfl
  have j5:∀{K:AV→Al},AL 5 (.ptr c 55 0) K=K (.ptr c 60 0):=_root_.id rfl
  have j7:∀{K:AV→Al},AL 7 (.ptr c 55 0) K=K (.ptr c 62 0):=_root_.id rfl
  rw[j0,cRk hl,UA]
  refine Yr (n:=n+51) hB10 hL (by decide) [r.k] (by simp) (by simp;omega) λv11 H11 hB11=> ?_
  have hl:=crt hB11
  rw[j1,cR1 hl,j3,cR2 hl,j5,cR3 hl,j7,cR4 hl,B7N]
  refine A4Y (n:=n+50) hB11 hL (by decide) [(r.a1,r.a2),(r.b1,r.b2),(r.c1,r.c2),(r.d1,r.d2)] (by simp) hrl λv12 H12 hB12=> ?_
  have hl:=crt hB12
  rw[cV hl,UA]
  refine Yr (n:=n+51) hB12 hL (by decide) [vd] (by simp) (by simp;omega) λv13 H13 hB13=> ?_
  refine fin (QY r vd) (800000+50000+50000+50000+50000+50000+50000+50000) v13 H13 ?_ (by rw[if_pos h3]) ?_
  ·have a1:=Ek [r.k]
   have a2:=LU [(r.a1,r.a2),(r.b1,r.b2),(r.c1,r.c2),(r.d1,r.d2)] hrl
   have a3:=Ek [vd]
   simp only[Lf,Od] at a1 a2 a3
   simp only[QY,FK]
   omega
  ·have:KZ kd m un ca cb ts ra rb ps pt (QY r vd)=[]++GS [kd,m.lab,m.num,m.itm,m.tim,m.day]++FX [un]++O5 [(ca,cb)]++GS [(ts.length:Int)]++Oi ts++O5 [(ra,rb)]++GS [(ps.length:Int)]++FX ps++FX [pt]++GS [r.k]++O5 [(r.a1,r.a2),(r.b1,r.b2),(r.c1,r.c2),(r.d1,r.d2)]++GS [vd]:=by
    unfold KZ QY;simp only[l0k]
   rw[this]
   exact hB13
 ·rw[decide_eq_false h3,B9]
  refine fin [] (800000+50000+50000+50000+50000) v10 H10 (by simp) (by rw[if_neg h3]) ?_
  have:KZ kd m un ca cb ts ra rb ps pt []=[]++GS [kd,m.lab,m.num,m.itm,m.tim,m.day]++FX [un]++O5 [(ca,cb)]++GS [(ts.length:Int)]++Oi ts++O5 [(ra,rb)]++GS [(ps.length:Int)]++FX ps++FX [pt]:=by
   unfold KZ;rw[l1o]
  rw[this]
  exact hB10
end
end
end Go.Abs
end
