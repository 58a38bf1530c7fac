import Derived.Test.YtlbhdmbfdcohhaaGreatDoorP23
import Derived.Test.YtlbhdmbfdcohhaaGreatDoorP24
set_option linter.all false
set_option maxHeartbeats 100000000
noncomputable section
namespace Go.Abs
open Go.RowKit Go.Proofs
set_option maxRecDepth 100000
section
variable {L n:Nat}
attribute [local irreducible] Ah rt Yb eBi eEq cnd Go.Abs.Aj Go.Abs.T8 Ar
theorem B87 {t:Int×Int} (h: -8≤t.2∧t.2≤8∧t.2≠0):PS (rt (L+20) (n+41)) Ge [.agg (Mv t)] (Bo false):=by
 refine CS.ps (λK hK=> ?_) (λH=> λK=>by kernel_rfl)
 have h1:PO (rt (L+20) (n+40)) BR [.agg (qa t.2)] (Bo true):=(Z9 (by omega) (by omega)).o
 have h2:PO (rt (L+20) (n+40)) XA3 [.agg (qa t.2)] (Bo false):=by
  have:=(B4L (L:=L) (n:=n) (z:=t.2) (by omega) (by omega)).o
  rw[decide_eq_false h.2.2] at this
  exact this
 rewrite [Tu]
 unfold Kq Bu DW
 try rewrite [zO]
 try rewrite [bO]
 try rewrite [qO]
 try rewrite [cO]
 generalize rt (L+20) (n+40)=R at*
 conv=>lhs;whnf
 rewrite [h1]
 conv=>lhs;whnf
 rewrite [h2]
 conv=>lhs;whnf
 exact hK _ _ (λb=>⟨false,λK=>by kernel_rfl⟩)
abbrev Z8:AV:= .fn (.func Ge) [] []
abbrev B1T:AV:= .fn (.func Iq) [] []
section
variable {ts:YT} {K:KV} {x:Am}
theorem lTm {t:Int×Int} {H:Hp} {K:AV→Am}:Ap BF (.iptr (Mv t)) H K=K (.agg (Mv t)):=id rfl
theorem B6r {k4:Hp→Am} {H:Hp} (ht:TmsOk ts):∀(f i:Nat),i≤ts.length→ts.length-i<f→
 Cr (L+20) (rt (L+20) (n+41)) K k4 f (EY ts) Z8 (I ts.length) (I i) H=k4 H:=by
 have hb:=ht.len
 intro f
 induction f with
 |zero=>intro i _ h;omega
 |succ f ih=>
  intro i hi hf
  rw[HM]
  unfold Dd Aq
  by_cases h:i<ts.length
  ·have hr:=ht.rng _ (Qu h)
   rw[FR (by omega),Do,Si h,lTm]
   have ez:∀K,Em (E (L+20)) (rt (L+20) (n+41)) Z8 [.agg (Mv ts[i])] H K=Ah (rt (L+20) (n+41)) Ge [.agg (Mv ts[i])] H λv=>K v H:= λK=>by kernel_rfl
   rw[ez,B87 hr.2.2,BC,DH (by omega)]
   exact ih (i+1) (by omega) (by omega)
  ·rw[FT (by omega),BC]
theorem A6P (ht:TmsOk ts):CS (rt (L+20) (n+43)) Ci [EY ts,Z8] (Bo false):=by
 have hb:=ht.len
 intro K hK
 rw[Hq]
 unfold CP Aq
 have hi:CS (rt (L+20) (n+42)) Dn [EY ts,Z8] (I (-1)):=by
  intro K hK
  rw[Im]
  unfold Dl Aq
  simp only[Cm]
  have e0:(AV.v (.int .i64 0))=I ((0:Nat):Int):=rfl
  rw[Ng,e0,B6r ht _ 0 (by omega) (by omega)]
  exact hK _ _ (λb=>⟨false,λK=>by kernel_rfl⟩)
 rw[AZ (q:=false) hi (λK=>by cases ts<;>kernel_rfl),Lx]
 exact hK _ _ (λb=>⟨false,λK=>by kernel_rfl⟩)
theorem B1y {t:Int×Int}:PS (rt (L+20) (n+1)) Iq [.agg (Mv t)] (I t.1):=by
 refine CS.ps (λK hK=> ?_) (λH=> λK=>by kernel_rfl)
 rewrite [VN]
 unfold Nr
 try rewrite [zO]
 try rewrite [bO]
 try rewrite [qO]
 try rewrite [cO]
 generalize rt (L+20) (n+0)=R at*
 conv=>lhs;whnf
 exact hK _ _ (λb=>⟨false,λK=>by kernel_rfl⟩)
theorem B9X {k4:Hp→Am} (ht:TmsOk ts) (hx:∀H,k4 H=x):∀(f i:Nat) (H:Hp),i≤ts.length→ts.length-i<f→Wf H→
 DG (L+20) (rt (L+20) (n+1)) K k4 f (EY ts) B1T (EY ts) (I ts.length) (I i) H=x:=by
 have hb:=ht.len
 intro f
 induction f with
 |zero=>intro i H _ h;omega
 |succ f ih=>
  intro i H hi hf w
  rw[L9]
  unfold Fq AR Bu Aq DW Cz
  by_cases h:i<ts.length
  ·have hr:=ht.rng _ (Qu h)
   rw[FR (by omega),Do,Si h,lTm,Ba (cs:=[zI,zS,zS]) rfl]
   have hn0:=A0 (H:=H) (x:= .cells true AN [zI,zS,zS]) (by simp)
   rw[B0 (vs:=Mv ts[i]) hn0 rfl rfl rfl]
   have hr1:=A8 (q:=true) (e:=AN) (cs:=Mv ts[i]) hn0
   have w1:=C7 (r:=A7 H) (y:= .cells true AN (Mv ts[i])) (BP (x:= .cells true AN [zI,zS,zS]) w)
   generalize upd ((A7 H,Row.cells true AN [zI,zS,zS])::H) (A7 H) (.cells true AN (Mv ts[i]))=H1 at hr1 w1
   generalize A7 H=r at hr1
   have m1:∀K,Ap BF (.ptr r 0 0) H1 K=K (.agg (Mv ts[i])):= λK=>EF (p:=0) rfl hr1 (show 3≤3 from NV _)
   have ez:∀(t:Int×Int) (K:KV),Em (E (L+20)) (rt (L+20) (n+1)) B1T [.agg (Mv t)] H1 K=K (I t.1) H1:= λt K=>by
    have:Em (E (L+20)) (rt (L+20) (n+1)) B1T [.agg (Mv t)] H1 K=Ah (rt (L+20) (n+1)) Iq [.agg (Mv t)] H1 λv=>K v H1:=by kernel_rfl
    rw[this,B1y]
   have i1:∀K,Go.Abs.Aj Ab .lss (I ts[i].1) (.v (.int .i64 1)) K=K (Bo false):= λK=>FT (by omega)
   have i2:∀K,Go.Abs.Aj Ab .gtr (I ts[i].1) (.v (.int .i64 1000000)) K=K (Bo false):= λK=>by rw[DQ,decide_eq_false (by omega)]
   rw[m1,ez]
   simp only[i1,i2,gT,BN,QC]
   by_cases hi0:0<i
   ·have i3:∀K,Go.Abs.Aj Ab .gtr (I (i:Int)) (.v (.int .i64 0)) K=K (Bo true):= λK=>by rw[DQ,decide_eq_true (by omega)]
    have hi1:i-1<ts.length:=by omega
    have mm:∀K,eMM false (I ((i-1:Nat):Int)) (.v (.int .i64 0)) K=K (I ((i-1:Nat):Int)):= λK=>by
     have e:eMM false (I ((i-1:Nat):Int)) (.v (.int .i64 0)) K=ck (decide (IntKind.i64=IntKind.i64)) (@Bool.rec (λ_=>Am) (K (.v (.int .i64 0))) (K (I ((i-1:Nat):Int))) (YL 0 ((i-1:Nat):Int))):=rfl
     rw[e,Jc,decide_eq_true (Int.natCast_nonneg _)];rfl
    have hasc:ts[i-1].1<ts[i].1:=(l20.1 ht.asc) (i-1) i hi1 h (by omega)
    have i7:∀K,Go.Abs.Aj Ab .geq (I ts[i-1].1) (I ts[i].1) K=K (Bo false):= λK=>by rw[Lx,decide_eq_false (by omega)]
    simp only[i3,BN,gT,A2q hi0 (by omega:i<1000000000),mm,Si hi1,lTm,ez,i7,Un,QC]
    rw[BC,DH (by omega)]
    exact ih (i+1) H1 (by omega) (by omega) w1
   ·have i3:∀K,Go.Abs.Aj Ab .gtr (I (i:Int)) (.v (.int .i64 0)) K=K (Bo false):= λK=>by rw[DQ,decide_eq_false (by omega)]
    simp only[i3,BN,gT,gTF,Un,QC]
    rw[BC,DH (by omega)]
    exact ih (i+1) H1 (by omega) (by omega) w1
  ·rw[FT (by omega),BC]
   exact hx H
theorem A9M (ht:TmsOk ts):CS (rt (L+20) (n+2)) DT [EY ts,B1T] (Bo true):=by
 have hb:=ht.len
 intro K hK
 rw[LZ]
 unfold F1 Aq DW
 simp only[Cm]
 have e0:(AV.v (.int .i64 0))=I ((0:Nat):Int):=rfl
 rw[Ng,e0]
 exact B9X ht (λH=>hK _ _ (λb=>⟨false,λK=>by kernel_rfl⟩)) (L+20) 0 [] (by omega) (by omega) Fw
theorem A6N {c r:Int} (hc1: -80≤c) (hc2:c≤80) (hr1:0≤r) (hr2:r≤8) (ht:TmsOk ts):CS (rt (L+20) (n+44)) Hz [.agg (Ur (qn c) (qd c) (EY ts) (qn r) (qd r))] (Bo true):=by
 intro K hK
 have hb:=ht.len
 have h1:PO (rt (L+20) (n+43)) BR [.agg (qa c)] (Bo true):=(Z9 (n:=n+3) (by omega) (by omega)).o
 have h2:PO (rt (L+20) (n+43)) BR [.agg (qa r)] (Bo true):=(Z9 (n:=n+3) (by omega) (by omega)).o
 have h3:PO (rt (L+20) (n+43)) Jf [.agg (qa r)] (I (if r=0 then 0 else 1)):=(B4M (n:=n+3) (by omega) (by omega)).o
 have h4:LS (rt (L+20) (n+43)) DT [EY ts,B1T] (Bo true):=(A9M (n:=n+41) ht).ls
 have h5:LS (rt (L+20) (n+43)) Ci [EY ts,Z8] (Bo false):=(A6P (n:=n) ht).ls
 have hz:ts=[]∨∃t l,ts=t::l:=by cases ts with|nil=>exact .inl rfl|cons t l=>exact .inr ⟨t,l,rfl⟩
 rcases hz with rfl|⟨t,l,rfl⟩
 all_goals
  rewrite [Xr]
  unfold OA AR Aq Cz
  try rewrite [zO]
  try rewrite [bO]
  try rewrite [qO]
  try rewrite [cO]
  generalize rt (L+20) (n+43)=R at*
  conv=>lhs;whnf
  rewrite [h1]
  conv=>lhs;whnf
  rewrite [h2]
  conv=>lhs;whnf
  rewrite [h3]
  conv=>lhs;whnf
  rewrite [A97 ?hc]
  case hc=>(split<;>omega)
  conv=>lhs;whnf
  rewrite [A8W ?hc]
  case hc=>(first|decide|(have hb':l.length+1≤6:=hb;show((l.length+1:Nat):Int)≤64;omega))
  conv=>lhs;whnf
  rewrite [(h4) false _ _ ?hq]
  case hq=>exact λK=>by kernel_rfl
  conv=>lhs;whnf
  rewrite [(h5) false _ _ ?hq]
  case hq=>exact λK=>by kernel_rfl
  conv=>lhs;whnf
  exact hK _ _ (λb=>⟨false,λK=>by kernel_rfl⟩)
end
end
section
variable {L n:Nat} {K:KV} {x:Am}
structure Bld (r:Nat) (l:List UInt8) (v:AV) (H:Hp):Prop where
 at_:∃tw:Nat,(tw=Ff∨tw=CH)∧(Aw H r=some (.cells true tw [.v (.pointer none),v])∨Aw H r=some (.cells true tw [.ptr r 0 0,v]))
 sl:B3 H AS 1 v l.length (JA l)
 ne:¬Bh v r
 wf:Wf H
structure Kp (r:Nat) (v:AV) (H:Hp) (v':AV) (H':Hp):Prop where
 keep:∀u y,Aw H u=some y→u≠r→¬Bh v u→Aw H' u=some y
 new:∀u,Bh v' u→Bh v u∨A7 H≤u
 nx:A7 H≤A7 H'
theorem Kp.refl (r:Nat) (v:AV) (H:Hp):Kp r v H v H:=⟨λ_ _ h _ _=>h,λ_ h=> .inl h,NV _⟩
theorem Kp.trans {r:Nat} {v v' v'':AV} {H H' H'':Hp} (w:Wf H) (h:Kp r v H v' H') (k:Kp r v' H' v'' H''):Kp r v H v'' H'':=
 ⟨λu y hu h1 h2=>k.keep u y (h.keep u y hu h1 h2) h1 (λh3=>by
  rcases h.new u h3 with h4|h4
  ·exact h2 h4
  ·have:=w.lt hu;omega),
  λu hu=>by
   rcases k.new u hu with h1|h1
   ·exact h.new u h1
   ·exact .inr (by have:=h.nx;omega),l1m h.nx k.nx⟩
theorem Bld.one {r:Nat} {l:List UInt8} {v:AV} {H:Hp} (h:Bld r l v H):B7 v=[v]∧AV.one v=true:=by
 rcases h.sl with⟨rfl,_⟩|⟨a,b,rfl,_⟩<;>exact⟨rfl,rfl⟩
theorem Bld.upd {r s:Nat} {l:List UInt8} {v:AV} {H:Hp} {y:Row} (h:Bld r l v H) (h1:s≠r) (h2:¬Bh v s):Bld r l v (upd H s y):=
 ⟨by rw[As h1.symm];exact h.at_,h.sl.lat h.wf (Lat.upd H s y (P:= λu=>u=s) rfl) (λu hu e=>h2 (e▸hu)),h.ne,C7 h.wf⟩
theorem Bld.cons {r:Nat} {l:List UInt8} {v:AV} {H:Hp} {y:Row} (h:Bld r l v H):Bld r l v ((A7 H,y)::H):=by
 refine⟨?_,h.sl.lat h.wf (Lat.cons H y (λ_=>False)) (λ_ _ h=>h),h.ne,BP h.wf⟩
 obtain⟨tw,h0,h1|h1⟩:=h.at_
 ·exact⟨tw,h0,.inl (Bn (h.wf.lt h1) h1)⟩
 ·exact⟨tw,h0,.inr (Bn (h.wf.lt h1) h1)⟩
theorem A3j {r:Nat} {l s:List UInt8} {v:AV} {H:Hp} (h:Bld r l v H) (hb:l.length+s.length<1000000000)
 (hx:∀v' H',Bld r (l++s) v' H'→Kp r v H v' H'→K (.tup [I s.length,.v .nilIface]) H'=x):(rt (L+20) (n+2)).call Bp [.ptr r 0 0,S s] H K=x:=by
 rw[K6]
 unfold EE
 rw[L4]
 unfold Fi
 have a0:∀K:AV→Am,AH 0 (.ptr r 0 0) K=K (.ptr r 0 0):= λK=>id rfl
 have a1:∀K:AV→Am,AH 1 (.ptr r 0 0) K=K (.ptr r 1 0):= λK=>id rfl
 obtain⟨tw,htw,hat⟩:=h.at_
 have main:∀H1,Aw H1 r=some (.cells true tw [.ptr r 0 0,v])→Bld r l v H1→Kp r v H v H1→(Ik (.ptr r 0 0) λv3=>AH 1 v3 λv4=>Ap A6 v4 H1 λv5=>Ea AS 1 AD Ad v5 (S s) H1 λv6 H7=>
  Ik (.ptr r 0 0) λv8=>AH 1 v8 λv9=>Cb A6 v9 v6 H7 λH10=>AM Ad (S s) λv12=>K (.tup [v12,.v .nilIface]) H10)=x:= λH1 hl1 hB1 hK1=>by
  rw[GA,a1,AW (p:=1) rfl hl1 (by simp)]
  show Ea AS 1 AD Ad v (S s) H1 _=x
  obtain⟨v',H',h1,h2,h3,h4⟩:=apt (ie:=AD) (i2:=Ad) hB1.sl (λK=>C1k (K:=K)) (by rw[MO];omega) (A9p s) (by decide) rfl rfl (by show(l.length+s.length)*1≤_;omega) (by omega)
  rw[h1,GA,a1]
  have hl2:Aw H' r=some (.cells true tw [.ptr r 0 0,v]):=h4.keep hB1.wf r _ hl1 hB1.ne
  have hw2:=h4.wf hB1.wf
  rw[A4b] at h2
  have hone:B7 v'=[v']∧AV.one v'=true:=by
   rcases h2 with⟨rfl,_⟩|⟨a,b,rfl,_⟩<;>exact⟨rfl,rfl⟩
  rw[E9 (q:=true) (e:=tw) (cs:=[.ptr r 0 0,v]) hl2 (by simp) rfl hone.1 hone.2,Mr rfl]
  have hr1:=hB1.wf.lt hl1
  have hne:¬Bh v' r:= λhu=>by have:=h3 r hu;omega
  refine hx v' _ ⟨⟨tw,htw,.inr (A8 hl2)⟩,?_,hne,C7 hw2⟩ ?_
  ·rw[F5]
   exact h2.lat hw2 (Lat.upd H' r _ (P:= λu=>u=r) rfl) (λu hu e=>hne (e▸hu))
  ·refine hK1.trans h.wf ⟨λu y hu hn hv=> ?_,λu hu=> .inr (by rw[h3 u hu];exact NV _),by rw[Ee];exact h4.nx⟩
   rw[As hn];exact h4.keep hB1.wf u y hu hv
 rw[GA,a0]
 rcases hat with hl|hl
 ·rw[AW (p:=0) rfl hl (by simp)]
  show YO BD Bk .eql (.v (.pointer none)) (.v (.pointer none)) _=x
  have e1:∀K:AV→Am,YO BD Bk .eql (.v (.pointer none)) (.v (.pointer none)) K=K (Bo true):= λK=>id rfl
  rw[e1,Do]
  have e2:∀K:AV→Am,B0K Bk (.ptr r 0 0) H K=K (.ptr r 0 0):= λK=>by
   have:B0K Bk (.ptr r 0 0) H K=Lf H r λx=>L2 x λ_ cs=>Hw cs 0 λcl=>ck (Nat.blt (Nat.add 0 0) cl&& !Nat.beq Bk.size 0) (K (.ptr r 0 0)):=rfl
   rw[this,C6 hl];rfl
  have e3:∀K:AV→Am,B0F A7y CH (.ptr r 0 0) H K=K (.ptr r 0 0):= λK=>by
   have:B0F A7y CH (.ptr r 0 0) H K=Lf H r λx=>A1E x λq E cs=>Hw cs 0 λcl=>ck (q&&B6i A7y E cl (Nat.add 0 0) CH) (K (.ptr r 0 0)):=rfl
   rw[this,C6 hl];rcases htw with rfl|rfl<;>rfl
  rw[e2,e3,GA,a0,E9 (q:=true) (e:=tw) (cs:=[.v (.pointer none),v]) hl (by simp) rfl rfl rfl]
  refine main _ (A8 hl) ⟨⟨tw,htw,.inr (A8 hl)⟩,h.sl.lat h.wf (Lat.upd H r _ (P:= λu=>u=r) rfl) (λu hu e=>h.ne (e▸hu)),h.ne,C7 h.wf⟩ ⟨λu y hu hn _=>by rw[As hn];exact hu,λu hu=> .inl hu,by rw[Ee];exact NV _⟩
 ·rw[AW (p:=0) rfl hl (by simp)]
  show YO BD Bk .eql (.ptr r 0 0) (.v (.pointer none)) _=x
  have e1:∀K:AV→Am,YO BD Bk .eql (.ptr r 0 0) (.v (.pointer none)) K=K (Bo false):= λK=>id rfl
  rw[e1,BC,GA,a0,AW (p:=0) rfl hl (by simp)]
  show YO BD Bk .neq (.ptr r 0 0) (.ptr r 0 0) _=x
  have e2:∀K:AV→Am,YO BD Bk .neq (.ptr r 0 0) (.ptr r 0 0) K=K (Bo false):= λK=>by
   have:YO BD Bk .neq (.ptr r 0 0) (.ptr r 0 0) K=ck (Nat.beq r r&&(Nat.beq (Nat.add 0 0) (Nat.add 0 0)&& !Nat.beq Bk.size 0)) (K (Bo false)):=rfl
   rw[this,l29];rfl
  rw[e2,BC]
  exact main H hl h (Kp.refl r v H)
end
section
variable {L n:Nat} {K:KV} {x:Am}
def Sr (H:Hp) (r:Nat) (v a:AV) (cs:List AV):Prop:=a= .list cs.length cs∨(a=AP∧cs=[])∨∃k q e,a= .sl 1 k 0 cs.length∧Aw H k=some (.cells q e cs)∧k≠r∧¬Bh v k
theorem Sr.kp {H H':Hp} {r:Nat} {v v' a:AV} {cs:List AV} (h:Sr H r v a cs) (w:Wf H) (k:Kp r v H v' H'):Sr H' r v' a cs:=by
 rcases h with h|h|⟨i,q,e,h1,h2,h3,h4⟩
 ·exact .inl h
 ·exact .inr (.inl h)
 ·refine .inr (.inr ⟨i,q,e,h1,k.keep i _ h2 h3 h4,h3,λhu=> ?_⟩)
  rcases k.new i hu with h5|h5
  ·exact h4 h5
  ·have:=w.lt h2;omega
theorem Sr.len {H:Hp} {r:Nat} {v a:AV} {cs:List AV} {t:TI} {e z:Nat} {K:AV→Am} (h:Sr H r v a cs) (hd:t.d= .slice e z):AM t a K=K (I cs.length):=by
 obtain⟨s,b,d,zr⟩:=t
 simp only at hd
 subst hd
 rcases h with rfl|⟨rfl,rfl⟩|⟨i,q,e,rfl,_⟩<;>exact id rfl
theorem Sr.get {H:Hp} {r i:Nat} {v a:AV} {cs:List AV} {t tt:TI} {e:Nat} {K:AV→Am} (h:Sr H r v a cs) (hd:t.d= .slice e 1) (hs:tt.d.isAgg=false) (hi:i<cs.length):(B1 t a (I i) λp=>Ap tt p H K)=K (cs.getD i .dk):=by
 rcases h with rfl|⟨_,rfl⟩|⟨k,q,e',rfl,hl,_⟩
 ·rw[T7 hd rfl (by omega) (by omega),WB,Qm hs]
 ·simp at hi
 ·rw[A44 hd (by omega) (by omega),WB,AW (p:=i) hs hl hi]
theorem C2b {r:Nat} {a:AV} {zs:List Int} {k2:Hp→Am} (hl:zs.length<100) (hz:∀z∈zs, -10≤z∧z<390) {l:List UInt8} (hb:l.length<900000000) {v0:AV} {H0:Hp} (w0:Wf H0)
 (hx:∀v' H',Bld r (l++Gu zs) v' H'→Kp r v0 H0 v' H'→k2 H'=x):∀(f i:Nat) (v:AV) (H:Hp),i≤zs.length→zs.length-i<f→Bld r (l++Gu (zs.take i)) v H→Kp r v0 H0 v H→Sr H r v a (D3 zs)→
 Dr (L+20) (rt (L+20) (n+9)) K k2 f (.ptr r 0 0) a (I zs.length) (I i) H=x:=by
 intro f
 induction f with
 |zero=>intro i v H _ h;omega
 |succ f ih=>
  intro i v H hi hf hB hk hs
  rw[K5]
  unfold ED Aq
  by_cases h:i<zs.length
  ·have hzi:=hz zs[i] (Qu h)
   have hlen:=DP (zs.take i)
   have h5:(zs.take i).length≤zs.length:=by simp;omega
   have h6:=Px zs[i]
   rw[FR (by omega),Do,hs.get rfl rfl (by simp[D3];omega),OD h,A4D (L:=L) (n:=n+1) hzi.1 hzi.2,CJ,CI,GA]
   have a0:∀K:AV→Am,AH 0 (.ptr r 0 0) K=K (.ptr r 0 0):= λK=>id rfl
   rw[a0]
   refine A3j (n:=n+7) hB (by rw[F5];omega) λv' H' hB' hk'=> ?_
   rw[DH (by omega)]
   rw[l0k,←A2Q zs h] at hB'
   exact ih (i+1) v' H' (by omega) (by omega) hB' (hk.trans w0 hk') (hs.kp hB.wf hk')
  ·rw[FT (by omega),BC]
   have:i=zs.length:=by omega
   subst this
   rw[l06] at hB
   exact hx v H hB hk
theorem A9N {r:Nat} {a v:AV} {zs:List Int} {l:List UInt8} {H:Hp} (hL:100<L) (hl:zs.length<100) (hz:∀z∈zs, -10≤z∧z<390) (hb:l.length<900000000) (hB:Bld r l v H) (hs:Sr H r v a (D3 zs))
 (hx:∀v' H',Bld r (l++Gu zs) v' H'→Kp r v H v' H'→K (.tup []) H'=x):(rt (L+20) (n+10)).call Bx [.ptr r 0 0,a] H K=x:=by
 rw[Lb]
 unfold ET Aq
 rw[hs.len rfl]
 simp only[Cm]
 have e0:(AV.v (.int .i64 0))=I ((0:Nat):Int):=rfl
 have e1:(D3 zs).length=zs.length:=by simp[D3]
 rw[e0,e1]
 exact C2b (n:=n) hl hz hb hB.wf hx (L+20) 0 v H (by omega) (by omega) (by simpa [Gu] using hB) (Kp.refl r v H) hs
theorem C29 {r:Nat} {a:AV} {zs:List (List UInt8)} {k2:Hp→Am} (hl:zs.length<100) (hz:∀z∈zs,z.length<390) {l:List UInt8} (hb:l.length<900000000) {v0:AV} {H0:Hp} (w0:Wf H0)
 (hx:∀v' H',Bld r (l++F7 zs) v' H'→Kp r v0 H0 v' H'→k2 H'=x):∀(f i:Nat) (v:AV) (H:Hp),i≤zs.length→zs.length-i<f→Bld r (l++F7 (zs.take i)) v H→Kp r v0 H0 v H→Sr H r v a (BB zs)→
 DE (L+20) (rt (L+20) (n+9)) K k2 f (.ptr r 0 0) a (I zs.length) (I i) H=x:=by
 intro f
 induction f with
 |zero=>intro i v H _ h;omega
 |succ f ih=>
  intro i v H hi hf hB hk hs
  rw[L3]
  unfold Fg Aq
  by_cases h:i<zs.length
  ·have hzi:=hz zs[i] (Qu h)
   have hlen:=DO (zs.take i) (λs hs=>hz s (l24 hs))
   have h5:(zs.take i).length≤zs.length:=by simp;omega
   have h6:(A41 zs[i]).length≤400:=by unfold A41;rw[F5];have:=Px (zs[i].length:Int);omega
   rw[FR (by omega),Do,hs.get rfl rfl (by simp[BB];omega),LI h,A4C L n hzi,CJ,CI,GA]
   have a0:∀K:AV→Am,AH 0 (.ptr r 0 0) K=K (.ptr r 0 0):= λK=>id rfl
   rw[a0]
   refine A3j (n:=n+7) hB (by rw[F5];omega) λv' H' hB' hk'=> ?_
   rw[DH (by omega)]
   rw[l0k,←A2P zs h] at hB'
   exact ih (i+1) v' H' (by omega) (by omega) hB' (hk.trans w0 hk') (hs.kp hB.wf hk')
  ·rw[FT (by omega),BC]
   have:i=zs.length:=by omega
   subst this
   rw[l06] at hB
   exact hx v H hB hk
theorem A3k {r:Nat} {a v:AV} {zs:List (List UInt8)} {l:List UInt8} {H:Hp} (hL:100<L) (hl:zs.length<100) (hz:∀z∈zs,z.length<390) (hb:l.length<900000000) (hB:Bld r l v H) (hs:Sr H r v a (BB zs))
 (hx:∀v' H',Bld r (l++F7 zs) v' H'→Kp r v H v' H'→K (.tup []) H'=x):(rt (L+20) (n+10)).call BL [.ptr r 0 0,a] H K=x:=by
 rw[LV]
 unfold Fz Aq
 rw[hs.len rfl]
 simp only[Cm]
 have e0:(AV.v (.int .i64 0))=I ((0:Nat):Int):=rfl
 have e1:(BB zs).length=zs.length:=by simp[BB]
 rw[e0,e1]
 exact C29 (n:=n) hl hz hb hB.wf hx (L+20) 0 v H (by omega) (by omega) (by simpa [F7] using hB) (Kp.refl r v H) hs
end
section
variable {L n:Nat} {K:KV} {x:Am}
abbrev Rts:=List (List UInt8×List UInt8)
def rtC (q:List UInt8×List UInt8):List AV:=[S q.1,S q.2]
def NT (l:Rts):List UInt8:=(l.map λq=>F7 [q.1,q.2]).flatten
theorem B0B (l:Rts) {i:Nat} (h:i<l.length):NT (l.take (i+1))=NT (l.take i)++F7 [l[i].1,l[i].2]:=by
 unfold NT
 rw[l04 h,l01,List.flatten_append]
 simp only[l1i,List.map_nil,l18,List.flatten_nil,l1o]
theorem Lw (l:Rts) (h:∀q∈l,q.1.length<390∧q.2.length<390):(NT l).length≤800*l.length:=by
 induction l with
 |nil=>simp[NT]
 |cons s l ih=>
  have h3:=ih (λs hs=>h s (by simp[hs]))
  have h4:=DO [s.1,s.2] (by simp;exact h s (by simp))
  simp only[NT,l1i,l18,F5,L0,N2] at h3 h4⊢
  omega
theorem Kp.cons {r:Nat} {v:AV} {H:Hp} {y:Row} (w:Wf H):Kp r v H v ((A7 H,y)::H):=⟨λu z hu _ _=>Bn (w.lt hu) hu,λu hu=> .inl hu,l1p _⟩
theorem Bld.lt {r:Nat} {l:List UInt8} {v:AV} {H:Hp} (h:Bld r l v H):r<A7 H:=by obtain⟨_,_,h1|h1⟩:=h.at_<;>exact h.wf.lt h1
theorem Bld.vlt {r u:Nat} {l:List UInt8} {v:AV} {H:Hp} (h:Bld r l v H) (hu:Bh v u):u<A7 H:=h.sl.lt h.wf hu
theorem C1o {r m i:Nat} {K:AV→Am} (h:i<m):B1 Gw (.sl 2 r 0 m) (I i) K=K (.ptr r (2*i) 0):=by
 have e1:B1 Gw (.sl 2 r 0 m) (I (i:Int)) K=iN (i:Int) λk=>ck (Nat.blt k m) (fN (Nat.add 0 (Nat.mul k 2)) λq=>K (.ptr r q 0)):=rfl
 rw[e1,JM,DX]
 have h2:Nat.blt i m=true:=by rw[TS];exact h
 have h3:Nat.add 0 (Nat.mul i 2)=2*i:=by show 0+i*2=_;omega
 rw[h2,h3];rfl
theorem C2a {r k e:Nat} {q:Bool} {rs:Rts} {k2:Hp→Am} (hl:rs.length<100) (hz:∀z∈rs,z.1.length<390∧z.2.length<390) {l:List UInt8} (hL:100<L) (hb:l.length<800000000) {v0:AV} {H0:Hp} (w0:Wf H0) (hkr:k≠r)
 (hx:∀v' H',Bld r (l++NT rs) v' H'→Kp r v0 H0 v' H'→k2 H'=x):∀(f i:Nat) (v:AV) (H:Hp),i≤rs.length→rs.length-i<f→Bld r (l++NT (rs.take i)) v H→Kp r v0 H0 v H→Aw H k=some (.cells q e (rs.flatMap rtC))→¬Bh v k→
 D4 (L+20) (rt (L+20) (n+10)) K k2 f (.ptr r 0 0) (.sl 2 k 0 rs.length) (I rs.length) (I i) H=x:=by
 intro f
 induction f with
 |zero=>intro i v H _ h;omega
 |succ f ih=>
  intro i v H hi hf hB hk hs hvk
  rw[KP]
  unfold XA0 Aq
  by_cases h:i<rs.length
  ·have hzi:=hz rs[i] (Qu h)
   have hlen:=Lw (rs.take i) (λs hs=>hz s (l24 hs))
   have h5:(rs.take i).length≤rs.length:=by simp;omega
   rw[FR (by omega),Do,C1o h]
   have hfl:=B3r rtC 2 (λ_=>rfl) rs
   have hfg:=A0W rtC 2 (λ_=>rfl) rs i h
   have hld:∀K,Ap Ao (.ptr k (2*i) 0) H K=K (.agg (rtC rs[i])):= λK=>by
    rw[EF (p:=2*i) rfl hs (by rw[hfl];show 2*i+2≤_;omega),Nat.mul_comm 2 i]
    show K (.agg (((rs.flatMap rtC).drop (i*2)).take 2))=_
    rw[hfg]
   rw[hld,Ba (cs:=[zS,zS]) rfl]
   have hn0:=A0 (H:=H) (x:= .cells true AA [zS,zS]) (by simp)
   rw[B0 (vs:=rtC rs[i]) hn0 rfl rfl rfl]
   have hr1:=A8 (q:=true) (e:=AA) (cs:=rtC rs[i]) hn0
   have hrlt:=hB.lt
   have hB1:=(hB.cons (y:= .cells true AA [zS,zS])).upd (s:=A7 H) (y:= .cells true AA (rtC rs[i])) (by omega) (λhu=>by have:=hB.vlt hu;omega)
   have hk1:Kp r v H v (upd ((A7 H,Row.cells true AA [zS,zS])::H) (A7 H) (.cells true AA (rtC rs[i]))):=⟨λu y hu h1 h2=>by
    have:=hB.wf.lt hu
    rw[As (by omega)];exact Bn this hu,λu hu=> .inl hu,by rw[Ee];exact l1p _⟩
   generalize upd ((A7 H,Row.cells true AA [zS,zS])::H) (A7 H) (.cells true AA (rtC rs[i]))=H1 at hr1 hB1 hk1
   generalize A7 H=t at hr1
   have g0:∀K:AV→Am,AH 0 (.ptr t 0 0) K=K (.ptr t 0 0):= λK=>id rfl
   have g1:∀K:AV→Am,AH 1 (.ptr t 0 0) K=K (.ptr t 1 0):= λK=>id rfl
   have m0:∀K,Ap Ad (.ptr t 0 0) H1 K=K (S rs[i].1):= λK=>AW (p:=0) rfl hr1 (show 0<2 by decide)
   have m1:∀K,Ap Ad (.ptr t 1 0) H1 K=K (S rs[i].2):= λK=>AW (p:=1) rfl hr1 (show 1<2 by decide)
   rw[g0,m0,g1,m1]
   have bs:∀K:KV,Fp AL 1 Ad 2 [(0,1,S rs[i].1),(1,1,S rs[i].2)] H1 K=K (.sl 1 (A7 H1) 0 2) ((A7 H1,.cells false AL (BB [rs[i].1,rs[i].2]))::H1):= λK=>by
    have e:Fp AL 1 Ad 2 [(0,1,S rs[i].1),(1,1,S rs[i].2)] H1 K=Ij H1 λs=>K (.sl 1 s 0 2) ((s,.cells false AL (BB [rs[i].1,rs[i].2]))::H1):=rfl
    rw[e,Cg]
   rw[bs]
   have hB2:=hB1.cons (y:= .cells false AL (BB [rs[i].1,rs[i].2]))
   have hk2:Kp r v H v ((A7 H1,.cells false AL (BB [rs[i].1,rs[i].2]))::H1):=hk1.trans hB.wf (Kp.cons hB1.wf)
   refine A3k (n:=n) hL (zs:=[rs[i].1,rs[i].2]) (by simp) (by simp;exact hzi) (by rw[F5];omega) hB2 (.inr (.inr ⟨A7 H1,false,AL,rfl,A0 (by simp),by have:=hB1.lt;omega,λhu=>by have:=hB1.vlt hu;omega⟩)) λv' H' hB' hk'=> ?_
   rw[DH (by omega)]
   rw[l0k,←B0B rs h] at hB'
   have hk3:=hk2.trans hB.wf hk'
   refine ih (i+1) v' H' (by omega) (by omega) hB' (hk.trans w0 hk3) (hk3.keep k _ hs hkr hvk) (λhu=> ?_)
   rcases hk3.new k hu with h6|h6
   ·exact hvk h6
   ·have:=hB.wf.lt hs;omega
  ·rw[FT (by omega),BC]
   have:i=rs.length:=by omega
   subst this
   rw[l06] at hB
   exact hx v H hB hk
theorem B1B {r k e:Nat} {q:Bool} {v:AV} {rs:Rts} {l:List UInt8} {H:Hp} (hL:100<L) (hl:rs.length<100) (hz:∀z∈rs,z.1.length<390∧z.2.length<390) (hb:l.length<800000000) (hB:Bld r l v H) (hkr:k≠r) (hs:Aw H k=some (.cells q e (rs.flatMap rtC))) (hvk:¬Bh v k)
 (hx:∀v' H',Bld r (l++NT rs) v' H'→Kp r v H v' H'→K (.tup []) H'=x):(rt (L+20) (n+11)).call BY [.ptr r 0 0,.sl 2 k 0 rs.length] H K=x:=by
 rw[L6]
 unfold Fk Aq
 have el:∀K,AM Gw (.sl 2 k 0 rs.length) K=K (I rs.length):= λK=>id rfl
 rw[el]
 simp only[Cm]
 have e0:(AV.v (.int .i64 0))=I ((0:Nat):Int):=rfl
 rw[e0]
 exact C2a (n:=n) hl hz hL hb hB.wf hkr hx (L+20) 0 v H (by omega) (by omega) (by simpa [NT] using hB) (Kp.refl r v H) hs hvk
end
section
variable {L n:Nat} {K:KV} {x:Am}
structure Bd (r:Nat) (ks:List (Nat×Row)) (b:Nat) (l:List UInt8) (v:AV) (H:Hp):Prop where
 bld:Bld r l v H
 ks:∀p∈ks,Aw H p.1=some p.2∧p.1≠r∧¬Bh v p.1
 sz:l.length≤b
theorem Bd.step {r b b':Nat} {ks:List (Nat×Row)} {l l':List UInt8} {v v':AV} {H H':Hp} (h:Bd r ks b l v H) (hB:Bld r l' v' H') (k:Kp r v H v' H') (hs:l'.length≤b'):Bd r ks b' l' v' H':=
 ⟨hB,λp hp=>by
  obtain⟨h1,h2,h3⟩:=h.ks p hp
  refine⟨k.keep p.1 _ h1 h2 h3,h2,λhu=> ?_⟩
  rcases k.new p.1 hu with h4|h4
  ·exact h3 h4
  ·have:=h.bld.wf.lt h1;omega,hs⟩
theorem Bd.less {r b:Nat} {ks:List (Nat×Row)} {p:Nat×Row} {l:List UInt8} {v:AV} {H:Hp} (h:Bd r (p::ks) b l v H):Bd r ks b l v H:=⟨h.bld,λq hq=>h.ks q (List.mem_cons_of_mem _ hq),h.sz⟩
section
variable {r b:Nat} {ks:List (Nat×Row)} {l:List UInt8} {v:AV} {H:Hp}
theorem XH (h:Bd r ks b l v H) (hL:100<L) (hb:b<500000000) (zs:List Int) (hl:zs.length<100) (hz:∀z∈zs, -10≤z∧z<390) (hx:∀v' H',Bd r ks (b+50000) (l++Gu zs) v' H'→K (.tup []) H'=x):
 (rt (L+20) (n+10)).call Bx [.ptr r 0 0,.sl 1 (A7 H) 0 zs.length] ((A7 H,.cells false CK (D3 zs))::H) K=x:=by
 have h1:=h.sz
 have h2:=DP zs
 have h3:(D3 zs).length=zs.length:=by simp[D3]
 refine A9N (n:=n) hL hl hz (by omega) h.bld.cons (.inr (.inr ⟨A7 H,false,CK,by rw[h3],A0 (by simp),by have:=h.bld.lt;omega,λhu=>by have:=h.bld.vlt hu;omega⟩)) λv' H' hB hk=> ?_
 exact hx v' H' (h.step hB ((Kp.cons h.bld.wf).trans h.bld.wf hk) (by rw[F5];omega))
theorem B47 (h:Bd r ks b l v H) (hL:100<L) (hb:b<500000000) (zs:List (List UInt8)) (hl:zs.length<100) (hz:∀z∈zs,z.length<390) (hx:∀v' H',Bd r ks (b+50000) (l++F7 zs) v' H'→K (.tup []) H'=x):
 (rt (L+20) (n+10)).call BL [.ptr r 0 0,.sl 1 (A7 H) 0 zs.length] ((A7 H,.cells false AL (BB zs))::H) K=x:=by
 have h1:=h.sz
 have h2:=DO zs hz
 refine A3k (n:=n) hL hl hz (by omega) h.bld.cons (.inr (.inr ⟨A7 H,false,AL,by rw[Jp],A0 (by simp),by have:=h.bld.lt;omega,λhu=>by have:=h.bld.vlt hu;omega⟩)) λv' H' hB hk=> ?_
 exact hx v' H' (h.step hB ((Kp.cons h.bld.wf).trans h.bld.wf hk) (by rw[F5];omega))
theorem C1C (h:Bd r ks b l v H) (hL:100<L) (hb:b<500000000) (zs:List (List UInt8)) (a:AV) (ha:a= .list zs.length (BB zs)∨(a=AP∧zs=[])) (hl:zs.length<100) (hz:∀z∈zs,z.length<390) (hx:∀v' H',Bd r ks (b+50000) (l++F7 zs) v' H'→K (.tup []) H'=x):
 (rt (L+20) (n+10)).call BL [.ptr r 0 0,a] H K=x:=by
 have h1:=h.sz
 have h2:=DO zs hz
 refine A3k (n:=n) hL hl hz (by omega) h.bld ?_ λv' H' hB hk=>hx v' H' (h.step hB hk (by rw[F5];omega))
 rcases ha with rfl|⟨rfl,rfl⟩
 ·exact .inl (by rw[Jp])
 ·exact .inr (.inl ⟨rfl,rfl⟩)
theorem A4e (h:Bd r ks b l v H) (hL:100<L) (hb:b<500000000) (rs:Rts) (hl:rs.length<50) (hz:∀z∈rs,z.1.length<390∧z.2.length<390) (hx:∀v' H',Bd r ks (b+50000) (l++NT rs) v' H'→K (.tup []) H'=x):
 (rt (L+20) (n+11)).call BY [.ptr r 0 0,.sl 2 (A7 H) 0 rs.length] ((A7 H,.cells false AA (rs.flatMap rtC))::H) K=x:=by
 have h1:=h.sz
 have h2:=Lw rs hz
 refine B1B (n:=n) hL (by omega) hz (by omega) h.bld.cons (by have:=h.bld.lt;omega) (A0 (by simp)) (λhu=>by have:=h.bld.vlt hu;omega) λv' H' hB hk=> ?_
 exact hx v' H' (h.step hB ((Kp.cons h.bld.wf).trans h.bld.wf hk) (by rw[F5];omega))
theorem Bd.cons {y:Row} (h:Bd r ks b l v H):Bd r ks b l v ((A7 H,y)::H):=h.step h.bld.cons (Kp.cons h.bld.wf) h.sz
theorem C2d (h:Bld r l v H):(rt (L+20) (n+1)).call Fu [.ptr r 0 0] H K=K (I l.length) H:=by
 rw[Pb]
 unfold Hu
 have a1:∀K:AV→Am,AH 1 (.ptr r 0 0) K=K (.ptr r 1 0):= λK=>id rfl
 rw[GA,a1]
 have e1:∀K,Ap A6 (.ptr r 1 0) H K=K v:= λK=>by
  obtain⟨_,_,hl|hl⟩:=h.at_<;>exact AW (p:=1) rfl hl (by simp)
 rw[e1,IJ rfl h.sl]
theorem A4B (h:Bld r l v H) (h0:0<l.length) (hb:l.length<1000000000):∃H',∀K,(rt (L+20) (n+1)).call CD [.ptr r 0 0] H K=K (S l) H':=by
 rcases h.sl with⟨_,h1,_⟩|⟨s,q,rfl,hs,hc⟩
 ·omega
 ·refine⟨upd H s .gone,λK=> ?_⟩
  rw[Np]
  unfold FY
  have a1:∀K:AV→Am,AH 1 (.ptr r 0 0) K=K (.ptr r 1 0):= λK=>id rfl
  have e1:∀K,Ap A6 (.ptr r 1 0) H K=K (.sl 1 s 0 l.length):= λK=>by
   obtain⟨_,_,hl|hl⟩:=h.at_<;>exact AW (p:=1) rfl hl (by simp)
  have e2:∀K,B3G (.sl 1 s 0 l.length) K=K (.ptr s 0 0):= λK=>by
   have:B3G (.sl 1 s 0 l.length) K=ck (Nat.beq 1 1&&Nat.blt 0 l.length) (K (.ptr s 0 0)):=rfl
   rw[this]
   have:(Nat.beq 1 1&&Nat.blt 0 l.length)=true:=by simp;omega
   rw[this];rfl
  have e3:∀K,AM A6 (.sl 1 s 0 l.length) K=K (I l.length):= λK=>id rfl
  have e4:∀K:KV,B0E AS (.ptr s 0 0) (I l.length) H K=K (S l) (upd H s .gone):= λK=>by
   have:B0E AS (.ptr s 0 0) (I l.length) H K=iN (l.length:Int) λn=>Lf H s λx=>L2 x λE cs=>ck (Nat.beq E AS&&(Nat.blt 0 n&&Nat.blt n 9223372036854775807)) (F2 n (Da (Nat.add 0 0) cs) λbs=>fu8 bs λl=>Qf H s .gone λH'=>K (.v (.string ⟨⟨l⟩⟩)) H'):=rfl
   rw[this,JM,C6 hs]
   show ck (Nat.beq AS AS&&(Nat.blt 0 l.length&&Nat.blt l.length 9223372036854775807)) _=_
   have g:(Nat.beq AS AS&&(Nat.blt 0 l.length&&Nat.blt l.length 9223372036854775807))=true:=by simp;omega
   rw[g]
   show F2 l.length (Da 0 (JA l)) _=_
   have f:∀(l:List UInt8) (K:List UInt8→Am),fu8 (JA l) K=K l:= λl=>by
    induction l with
    |nil=>intro K;rfl
    |cons b l ih=>
     intro K
     have e:fu8 (JA (b::l)) K=iN (b.toNat:Int) λn=>fu8 (JA l) λl=>K (UInt8.ofNat n::l):=rfl
     rw[e,JM,ih]
     simp
   rw[Ct,Mj _ _ _ (by rw[l1n,MO];exact NV _),l1n,l1z (by rw[MO];exact NV _),f,Ez]
  simp only[GA,BK,a1,e1,e2,e3,e4,BN]
end
end
section
variable {L n:Nat} {K:KV} {x:Am}
def tmB (t:Int×Int):List UInt8:=Gu [t.1]++NT [(qn t.2,qd t.2)]
def N7 (ts:YT):List UInt8:=(ts.map tmB).flatten
theorem A2m (l:YT) {i:Nat} (h:i<l.length):N7 (l.take (i+1))=N7 (l.take i)++tmB l[i]:=by
 unfold N7
 rw[l04 h,l01,List.flatten_append]
 simp only[l1i,List.map_nil,l18,List.flatten_nil,l1o]
theorem TV {z:Int} {H:Hp} {K:KV}:Fp CK 1 Ab 1 [(0,1,I z)] H K=K (.sl 1 (A7 H) 0 1) ((A7 H,.cells false CK (D3 [z]))::H):=by
 have e:Fp CK 1 Ab 1 [(0,1,I z)] H K=Ij H λs=>K (.sl 1 s 0 1) ((s,.cells false CK (D3 [z]))::H):=rfl
 rw[e,Cg]
theorem Ww {z:List UInt8} {H:Hp} {K:KV}:Fp AL 1 Ad 1 [(0,1,S z)] H K=K (.sl 1 (A7 H) 0 1) ((A7 H,.cells false AL (BB [z]))::H):=by
 have e:Fp AL 1 Ad 1 [(0,1,S z)] H K=Ij H λs=>K (.sl 1 s 0 1) ((s,.cells false AL (BB [z]))::H):=rfl
 rw[e,Cg]
theorem A4d {a b:List UInt8} {H:Hp} {K:KV}:Fp AA 2 Ao 1 [(0,2,.agg [S a,S b])] H K=K (.sl 2 (A7 H) 0 1) ((A7 H,.cells false AA (([(a,b)]:Rts).flatMap rtC))::H):=by
 have e:Fp AA 2 Ao 1 [(0,2,.agg [S a,S b])] H K=Ij H λs=>K (.sl 2 s 0 1) ((s,.cells false AA (([(a,b)]:Rts).flatMap rtC))::H):=rfl
 rw[e,Cg]
theorem C4i {r c:Nat} {ks:List (Nat×Row)} {ts:YT} {k138:AV→AV→Hp→Am} (ht:TmsOk ts) (hL:100<L) {b:Nat} (hb:b<100000000) {l:List UInt8}
 (hx:∀v' H',Bd r ks (b+100000*ts.length) (l++N7 ts) v' H'→k138 (.ptr c 0 0) (.ptr r 0 0) H'=x):∀(f i:Nat) (v:AV) (H:Hp),i≤ts.length→ts.length-i<f→Bd r ks (b+100000*i) (l++N7 (ts.take i)) v H→
 Hh (L+20) (rt (L+20) (n+11)) K k138 f (.ptr c 0 0) (.ptr r 0 0) (EY ts) (I ts.length) (I i) H=x:=by
 have hlen:=ht.len
 intro f
 induction f with
 |zero=>intro i v H _ h;omega
 |succ f ih=>
  intro i v H hi hf hB
  rw[SL]
  unfold J8 Aq
  by_cases h:i<ts.length
  ·have hr:=ht.rng _ (Qu h)
   rw[FR (by omega),Do,Si h,lTm,Ba (cs:=[zI,zS,zS]) rfl]
   have hn0:=A0 (H:=H) (x:= .cells true AN [zI,zS,zS]) (by simp)
   rw[B0 (vs:=Mv ts[i]) hn0 rfl rfl rfl]
   have hr1:=A8 (q:=true) (e:=AN) (cs:=Mv ts[i]) hn0
   have hrlt:=hB.bld.lt
   have hB0:=(hB.bld.cons (y:= .cells true AN [zI,zS,zS])).upd (s:=A7 H) (y:= .cells true AN (Mv ts[i])) (by omega) (λhu=>by have:=hB.bld.vlt hu;omega)
   have hB1:Bd r ((A7 H,.cells true AN (Mv ts[i]))::ks) (b+100000*i) (l++N7 (ts.take i)) v (upd ((A7 H,Row.cells true AN [zI,zS,zS])::H) (A7 H) (.cells true AN (Mv ts[i]))):=⟨hB0,λp hp=>by
    rcases XQ.1 hp with rfl|hp
    ·exact⟨hr1,by simp only;omega,λhu=>by have:=hB.bld.vlt hu;omega⟩
    ·obtain⟨p1,p2,p3⟩:=hB.ks p hp
     have:=hB.bld.wf.lt p1
     exact⟨by rw[As (by omega)];exact Bn this p1,p2,p3⟩,hB.sz⟩
   generalize upd ((A7 H,Row.cells true AN [zI,zS,zS])::H) (A7 H) (.cells true AN (Mv ts[i]))=H1 at hr1 hB1
   generalize A7 H=t at hr1 hB1
   have g0:∀K:AV→Am,AH 0 (.ptr t 0 0) K=K (.ptr t 0 0):= λK=>id rfl
   have g1:∀K:AV→Am,AH 1 (.ptr t 0 0) K=K (.ptr t 1 0):= λK=>id rfl
   have m0:∀K,Ap Ab (.ptr t 0 0) H1 K=K (I ts[i].1):= λK=>AW (p:=0) rfl hr1 (show 0<3 by decide)
   rw[g0,m0,TV]
   refine XH (n:=n+1) hB1 hL (by omega) [ts[i].1] (by simp) (by simp;omega) λv2 H2 hB2=> ?_
   have hr2:Aw H2 t=some (.cells true AN (Mv ts[i])):=(hB2.ks (t,.cells true AN (Mv ts[i])) (by simp)).1
   have m1:∀K,Ap Ao (.ptr t 1 0) H2 K=K (.agg (qa ts[i].2)):= λK=>EF (p:=1) rfl hr2 (show 3≤3 from NV _)
   rw[g1,m1,A4d]
   have hq1:=SZ (z:=ts[i].2) (by omega) (by omega)
   have hq2:=Ta ts[i].2
   refine A4e (n:=n) hB2 hL (by omega) [(qn ts[i].2,qd ts[i].2)] (by simp) (by simp;omega) λv3 H3 hB3=> ?_
   rw[DH (by omega)]
   have e1:l++N7 (ts.take i)++Gu [ts[i].1]++NT [(qn ts[i].2,qd ts[i].2)]=l++N7 (ts.take (i+1)):=by
    rw[A2m ts h];simp[tmB]
   have e2:b+100000*i+50000+50000=b+100000*(i+1):=by omega
   have hB4:=hB3.less
   rw[e1,e2] at hB4
   exact ih (i+1) v3 H3 (by omega) (by omega) hB4
  ·rw[FT (by omega),BC]
   have:i=ts.length:=by omega
   subst this
   rw[l06] at hB
   exact hx v H hB
end
section
variable {L n:Nat}
def Q9 (r:RD) (vd:Int):List UInt8:=Gu [r.k]++NT [(r.a1,r.a2),(r.b1,r.b2),(r.c1,r.c2),(r.d1,r.d2)]++Gu [vd]
def K0 (kd:Int) (m:ND) (un ca cb:List UInt8) (ts:YT) (ra rb:List UInt8) (ps:List (List UInt8)) (pt:List UInt8) (tail:List UInt8):List UInt8:=
 []++Gu [kd,m.lab,m.num,m.itm,m.tim,m.day]++F7 [un]++NT [(ca,cb)]++Gu [(ts.length:Int)]++N7 ts++NT [(ra,rb)]++Gu [(ps.length:Int)]++F7 ps++F7 [pt]++tail
theorem B4K:PS (rt (L+20) (n+40)) Ut [.agg [I 0,AP,AP]] (.tup [S [],I 200]):=Bt (λH K=>by kernel_rfl) (by kernel_rfl)
theorem B4N:PS (rt (L+20) (n+40)) Nb [.agg [I 0,AP,AP]] (Bo true):=Bt (λH K=>by kernel_rfl) (by kernel_rfl)
def FQ (ps:List (List UInt8)):AV:=match ps with
 |[]=>AP
 |p::ps=> .list (p::ps).length (BB (p::ps))
section
variable {m:ND} {u o:UD} {ca cb ra rb:List UInt8} {T P ins nds:AV} {kd id vd:Int} {r:RD} {c:Nat} {H:Hp} {K:AV→Am}
abbrev IA (kd:Int) (m:ND) (u:UD) (ca cb:List UInt8) (T:AV) (ra rb:List UInt8) (P:AV) (id:Int) (ins nds:AV) (o:UD) (r:RD) (vd:Int):Row:= .cells true Ak (Dy kd m u ca cb T ra rb P id ins nds o r vd)
theorem OU (hT:Sl T) (hP:Sl P) (hI:Sl ins) (hN:Sl nds):(Dy kd m u ca cb T ra rb P id ins nds o r vd).all AV.one=true:=by
 rcases hT with rfl|⟨_,_,rfl⟩<;>rcases hP with rfl|⟨_,_,rfl⟩<;>rcases hI with rfl|⟨_,_,rfl⟩<;>rcases hN with rfl|⟨_,_,rfl⟩<;>rfl
theorem Sk (hT:Sl T) (hP:Sl P) (hI:Sl ins) (hN:Sl nds):Py true depth [.agg (Dy kd m u ca cb T ra rb P id ins nds o r vd)] [.agg (Dy kd m u ca cb T ra rb P id ins nds o r vd)] H false:=by
 rcases hT with rfl|⟨_,_,rfl⟩<;>rcases hP with rfl|⟨_,_,rfl⟩<;>rcases hI with rfl|⟨_,_,rfl⟩<;>rcases hN with rfl|⟨_,_,rfl⟩<;>exact λK=>by kernel_rfl
theorem Rv (hI:Sl ins) (hN:Sl nds):Py true depth [.agg (Br id ins nds o)] [.agg (Br id ins nds o)] H false:=by
 rcases hI with rfl|⟨_,_,rfl⟩<;>rcases hN with rfl|⟨_,_,rfl⟩<;>exact λK=>by kernel_rfl
theorem cA (hl:Aw H c=some (IA kd m u ca cb T ra rb P id ins nds o r vd)):Ap Ac (.ptr c 0 0) H K=K (.agg (Dy kd m u ca cb T ra rb P id ins nds o r vd)):=Bf rfl rfl hl
theorem cI0 (hl:Aw H c=some (IA kd m u ca cb T ra rb P id ins nds o r vd)):Ap Ab (.ptr c 0 0) H K=K (I kd):=AW (p:=0) rfl hl (show 0<68 by decide)
theorem cI1 (hl:Aw H c=some (IA kd m u ca cb T ra rb P id ins nds o r vd)):Ap Ab (.ptr c 1 0) H K=K (I m.lab):=AW (p:=1) rfl hl (show 1<68 by decide)
theorem cI2 (hl:Aw H c=some (IA kd m u ca cb T ra rb P id ins nds o r vd)):Ap Ab (.ptr c 2 0) H K=K (I m.num):=AW (p:=2) rfl hl (show 2<68 by decide)
theorem cI3 (hl:Aw H c=some (IA kd m u ca cb T ra rb P id ins nds o r vd)):Ap Ab (.ptr c 3 0) H K=K (I m.itm):=AW (p:=3) rfl hl (show 3<68 by decide)
theorem cI4 (hl:Aw H c=some (IA kd m u ca cb T ra rb P id ins nds o r vd)):Ap Ab (.ptr c 4 0) H K=K (I m.tim):=AW (p:=4) rfl hl (show 4<68 by decide)
theorem cI5 (hl:Aw H c=some (IA kd m u ca cb T ra rb P id ins nds o r vd)):Ap Ab (.ptr c 5 0) H K=K (I m.day):=AW (p:=5) rfl hl (show 5<68 by decide)
theorem cU (hl:Aw H c=some (IA kd m u ca cb T ra rb P id ins nds o r vd)):Ap Ag (.ptr c 6 0) H K=K (.agg (BW u)):=EF (p:=6) rfl hl (show 26≤68 by decide)
theorem cC (hl:Aw H c=some (IA kd m u ca cb T ra rb P id ins nds o r vd)):Ap Ao (.ptr c 26 0) H K=K (.agg ([S ca,S cb])):=EF (p:=26) rfl hl (show 28≤68 by decide)
theorem cT (hl:Aw H c=some (IA kd m u ca cb T ra rb P id ins nds o r vd)):Ap A3 (.ptr c 28 0) H K=K (T):=AW (p:=28) rfl hl (show 28<68 by decide)
theorem cR (hl:Aw H c=some (IA kd m u ca cb T ra rb P id ins nds o r vd)):Ap Ao (.ptr c 29 0) H K=K (.agg ([S ra,S rb])):=EF (p:=29) rfl hl (show 31≤68 by decide)
theorem cP (hl:Aw H c=some (IA kd m u ca cb T ra rb P id ins nds o r vd)):Ap Ae (.ptr c 31 0) H K=K (P):=AW (p:=31) rfl hl (show 31<68 by decide)
theorem cPr (hl:Aw H c=some (IA kd m u ca cb T ra rb P id ins nds o r vd)):Ap A5 (.ptr c 32 0) H K=K (.agg (Br id ins nds o)):=EF (p:=32) rfl hl (show 55≤68 by decide)
theorem cRk (hl:Aw H c=some (IA kd m u ca cb T ra rb P id ins nds o r vd)):Ap Ab (.ptr c 55 0) H K=K (I r.k):=AW (p:=55) rfl hl (show 55<68 by decide)
theorem cR1 (hl:Aw H c=some (IA kd m u ca cb T ra rb P id ins nds o r vd)):Ap Ao (.ptr c 56 0) H K=K (.agg ([S r.a1,S r.a2])):=EF (p:=56) rfl hl (show 58≤68 by decide)
theorem cR2 (hl:Aw H c=some (IA kd m u ca cb T ra rb P id ins nds o r vd)):Ap Ao (.ptr c 58 0) H K=K (.agg ([S r.b1,S r.b2])):=EF (p:=58) rfl hl (show 60≤68 by decide)
theorem cR3 (hl:Aw H c=some (IA kd m u ca cb T ra rb P id ins nds o r vd)):Ap Ao (.ptr c 60 0) H K=K (.agg ([S r.c1,S r.c2])):=EF (p:=60) rfl hl (show 62≤68 by decide)
theorem cR4 (hl:Aw H c=some (IA kd m u ca cb T ra rb P id ins nds o r vd)):Ap Ao (.ptr c 62 0) H K=K (.agg ([S r.d1,S r.d2])):=EF (p:=62) rfl hl (show 64≤68 by decide)
theorem cV (hl:Aw H c=some (IA kd m u ca cb T ra rb P id ins nds o r vd)):Ap Ab (.ptr c 64 0) H K=K (I vd):=AW (p:=64) rfl hl (show 64<68 by decide)
theorem cS (hl:Aw H c=some (IA kd m u ca cb T ra rb P id ins nds o r vd)):Ap IR (.ptr c 65 0) H K=K (.agg ([I 0,AP,AP])):=EF (p:=65) rfl hl (show 68≤68 by decide)
theorem fA {c j k:Nat} {K:AV→Am}:AH j (.ptr c k 0) K=K (.ptr c (k+j) 0):=by
 have e:AH j (.ptr c k 0) K=fN (Nat.add k j) λq=>K (.ptr c q 0):=rfl
 rw[e,DX];rfl
end
theorem Vy (ts:YT) (h:∀t∈ts,(qn t.2).length<390∧(qd t.2).length<390):(N7 ts).length≤900*ts.length:=by
 induction ts with
 |nil=>simp[N7]
 |cons t l ih=>
  have h1:=ih (λt ht=>h t (by simp[ht]))
  have h2:=DP [t.1]
  have h3:=Lw [(qn t.2,qd t.2)] (by simp;exact h t (by simp))
  simp only[N7,l1i,l18,F5,L0,N2,tmB] at h1 h2 h3⊢
  omega
theorem Bd.tms0 {r b:Nat} {ks:List (Nat×Row)} {l:List UInt8} {v:AV} {H:Hp} (ts:YT) (h:Bd r ks b l v H):Bd r ks (b+100000*0) (l++N7 (ts.take 0)) v H:=by
 rw[show N7 (ts.take 0)=[] from rfl,l1o];exact h
theorem B6P (z:Int):0<(enc z).length:=by
 unfold enc B3D
 split<;>simp
theorem B70 {a b c d e f:Int} {H:Hp} {K:KV}:Fp CK 1 Ab 6 [(0,1,I a),(1,1,I b),(2,1,I c),(3,1,I d),(4,1,I e),(5,1,I f)] H K=K (.sl 1 (A7 H) 0 6) ((A7 H,.cells false CK (D3 [a,b,c,d,e,f]))::H):=by
 have g:Fp CK 1 Ab 6 [(0,1,I a),(1,1,I b),(2,1,I c),(3,1,I d),(4,1,I e),(5,1,I f)] H K=Ij H λs=>K (.sl 1 s 0 6) ((s,.cells false CK (D3 [a,b,c,d,e,f]))::H):=rfl
 rw[g,Cg]
theorem B6Z {a1 a2 b1 b2 c1 c2 d1 d2:List UInt8} {H:Hp} {K:KV}:Fp AA 2 Ao 4 [(0,2,.agg [S a1,S a2]),(2,2,.agg [S b1,S b2]),(4,2,.agg [S c1,S c2]),(6,2,.agg [S d1,S d2])] H K=K (.sl 2 (A7 H) 0 4) ((A7 H,.cells false AA (([(a1,a2),(b1,b2),(c1,c2),(d1,d2)]:Rts).flatMap rtC))::H):=by
 have g:Fp AA 2 Ao 4 [(0,2,.agg [S a1,S a2]),(2,2,.agg [S b1,S b2]),(4,2,.agg [S c1,S c2]),(6,2,.agg [S d1,S d2])] H K=Ij H λs=>K (.sl 2 s 0 4) ((s,.cells false AA (([(a1,a2),(b1,b2),(c1,c2),(d1,d2)]:Rts).flatMap rtC))::H):=rfl
 rw[g,Cg]
theorem QU {ps:List (List UInt8)} {K:AV→Am}:AM Ae (FQ ps) K=K (I ps.length):=by cases ps<;>exact id rfl
section
variable {m:ND} {u o:UD} {ca cb ra rb un pt:List UInt8} {ts:YT} {ps:List (List UInt8)} {ins nds:AV} {kd id vd pe:Int} {r:RD}
set_option maxHeartbeats 2000000 in
theorem A6O (hL:100<L) (hm:m.ok) (hkd:kd=1∨kd=2∨kd=3) (ht:TmsOk ts) (hI:Sl ins) (hN:Sl nds) (hp:ps.length≤6) (hpl:∀s∈ps,s.length<390) (hun:un.length<390) (hpt:pt.length<390)
 (hr:r.k=0∨r.k=1∨r.k=2∨r.k=3) (hrl:∀q∈[(r.a1,r.a2),(r.b1,r.b2),(r.c1,r.c2),(r.d1,r.d2)],q.1.length<390∧q.2.length<390) (hv:0≤vd∧vd≤3) (hcl:ca.length<10∧cb.length<10∧ra.length<10∧rb.length<10)
 (hst:LS (rt (L+20) (n+61)) CQ [.agg (Dy kd m u ca cb (EY ts) ra rb (FQ ps) id ins nds o r vd)] (Bo true))
 (hup:PS (rt (L+20) (n+61)) GD [.agg (BW u)] (.tup [S un,I 0])) (hpp:LS (rt (L+20) (n+61)) E6 [.agg (Br id ins nds o)] (.tup [S pt,I pe])):
 CS (rt (L+20) (n+62)) Ic [.agg (Dy kd m u ca cb (EY ts) ra rb (FQ ps) id ins nds o r vd)] (.tup [S (K0 kd m un ca cb ts ra rb ps pt (if kd=3 then Q9 r vd else[])),I 0]):=by
 intro K hK
 obtain⟨q1,q2,q3,q4,q5,q6,q7,q8,q9,q10⟩:=hm
 have hT:=XA1 ts
 have hP:Sl (FQ ps):=by cases ps with|nil=>exact .inl rfl|cons p l=>exact .inr ⟨_,_,rfl⟩
 have hlt:=ht.len
 rw[Tt]
 unfold Ko AR Aq Cz
 rw[EG (OU hT hP hI hN)]
 have hc0:=A0 (H:=[]) (x:=IA kd m u ca cb (EY ts) ra rb (FQ ps) id ins nds o r vd) (by simp)
 have w0:=BP (x:=IA kd m u ca cb (EY ts) ra rb (FQ ps) id ins nds o r vd) Fw
 generalize ((A7 [],IA kd m u ca cb (EY ts) ra rb (FQ ps) id ins nds o r vd)::([]:Hp))=H0 at hc0 w0
 generalize A7 []=c at hc0
 have hst':∀K,Ah (rt (L+20) (n+61)) CQ [.agg (Dy kd m u ca cb (EY ts) ra rb (FQ ps) id ins nds o r vd)] H0 K=K (Bo true):= λK=>by rw[zO];exact hst false _ _ (Sk hT hP hI hN) K
 rw[cA hc0,hst',Xj,BC]
 have f0:∀{j:Nat} {K:AV→Am},AH j (.ptr c 0 0) K=K (.ptr c j 0):= λ{j K}=>by rw[fA,Le]
 rw[f0,cS hc0,B4K (n:=n+21),CJ,CI,F8]
 simp only[show(!decide ((200:Int)=0))=true from rfl,gT,BN,f0,cS hc0]
 simp only[B4N (L:=L) (n:=n+21) H0,Xj,BN,Un]
 rw[BC,Ba (cs:=[.v (.pointer none),zL]) rfl]
 have hrn:=A0 (H:=H0) (x:= .cells true Ff [.v (.pointer none),zL]) (by simp)
 have hclt:=w0.lt hc0
 have hB0:Bd (A7 H0) [(c,IA kd m u ca cb (EY ts) ra rb (FQ ps) id ins nds o r vd)] 0 [] AP ((A7 H0,.cells true Ff [.v (.pointer none),zL])::H0):=
  ⟨⟨⟨_,.inl rfl,.inl hrn⟩,.inl ⟨rfl,rfl,rfl⟩,λ⟨_,_,_,h⟩=>(by cases h),BP w0⟩,λp hp=>by
   simp only[l2f] at hp
   subst hp
   exact⟨Bn hclt hc0,by simp only;omega,λ⟨_,_,_,h⟩=>(by cases h)⟩,NV _⟩
 generalize ((A7 H0,Row.cells true Ff [.v (.pointer none),zL])::H0)=H1 at hB0
 generalize A7 H0=rw_ at hB0
 have crt:∀{b l v H},Bd rw_ [(c,IA kd m u ca cb (EY ts) ra rb (FQ ps) id ins nds o r vd)] b l v H→Aw H c=some (IA kd m u ca cb (EY ts) ra rb (FQ ps) id ins nds o r vd):= λh=>(h.ks (c,_) (l2f.2 rfl)).1
 have hl:=crt hB0
 simp only[Cm]
 rw[cI0 hl,cI1 hl,cI2 hl,cI3 hl,cI4 hl,cI5 hl,B70]
 refine XH (n:=n+51) hB0 hL (by decide) [kd,m.lab,m.num,m.itm,m.tim,m.day] (by simp) (by simp only[XQ,List.mem_nil_iff,or_false];rintro z (rfl|rfl|rfl|rfl|rfl|rfl)<;>omega) λv2 H2 hB2=> ?_
 have hl:=crt hB2
 rw[cU hl,hup,CJ,CI,Ww]
 refine B47 (n:=n+51) hB2 hL (by decide) [un] (by simp) (by simpa using hun) λv3 H3 hB3=> ?_
 have hl:=crt hB3
 have g0:∀{K:AV→Am},AH 0 (.ptr c 26 0) K=K (.ptr c 26 0):=_root_.id rfl
 have g2:∀{K:AV→Am},AH 2 (.ptr c 26 0) K=K (.ptr c 28 0):=_root_.id rfl
 have g3:∀{K:AV→Am},AH 3 (.ptr c 26 0) K=K (.ptr c 29 0):=_root_.id rfl
 rw[g0,cC hl,A4d]
 refine A4e (n:=n+50) hB3 hL (by decide) [(ca,cb)] (by simp) (by simp;omega) λv4 H4 hB4=> ?_
 have hl:=crt hB4
 rw[g2,cT hl,Ng,TV]
 refine XH (n:=n+51) hB4 hL (by decide) [(ts.length:Int)] (by simp) (by simp;omega) λv5 H5 hB5=> ?_
 have hl:=crt hB5
 rw[g2,cT hl,Ng]
 have e0:(AV.v (.int .i64 0))=I ((0:Nat):Int):=rfl
 rw[e0]
 refine C4i (n:=n+50) (c:=c) ht hL (b:=200000) (by decide) ?_ (L+20) 0 v5 H5 (by omega) (by omega) (hB5.tms0 ts)
 intro v6 H6 hB6
 simp only[f0]
 have hl:=crt hB6
 have hb6:200000+100000*ts.length≤800000:=by omega
 have hB6:Bd rw_ [(c,IA kd m u ca cb (EY ts) ra rb (FQ ps) id ins nds o r vd)] 800000 _ v6 H6:=⟨hB6.bld,hB6.ks,l1m hB6.sz hb6⟩
 rw[g3,cR hl,A4d]
 refine A4e (n:=n+50) hB6 hL (by decide) [(ra,rb)] (by simp) (by simp;omega) λv7 H7 hB7=> ?_
 have hl:=crt hB7
 rw[cP hl,QU,TV]
 refine XH (n:=n+51) hB7 hL (by decide) [(ps.length:Int)] (by simp) (by simp;omega) λv8 H8 hB8=> ?_
 have hl:=crt hB8
 rw[cP hl]
 refine C1C (n:=n+51) hB8 hL (by decide) ps (FQ ps) (by cases ps with|nil=>exact .inr ⟨rfl,rfl⟩|cons p l=>exact .inl rfl) (by omega) hpl λv9 H9 hB9=> ?_
 have hl:=crt hB9
 have hpp':∀K,Ah (rt (L+20) (n+61)) E6 [.agg (Br id ins nds o)] H9 K=K (.tup [S pt,I pe]):= λK=>by rw[zO];exact hpp false _ _ (Rv hI hN) K
 rw[cPr hl,hpp',CJ,CI,Ww]
 refine B47 (n:=n+51) hB9 hL (by decide) [pt] (by simp) (by simpa using hpt) λv10 H10 hB10=> ?_
 have hl:=crt hB10
 have hlen:∀tail:List UInt8,tail.length≤5000→(K0 kd m un ca cb ts ra rb ps pt tail).length≤32768∧0<(K0 kd m un ca cb ts ra rb ps pt tail).length:= λtail htl=>by
  have a1:=DP [kd,m.lab,m.num,m.itm,m.tim,m.day]
  have a2:=DO [un] (by simpa using hun)
  have a3:=Lw [(ca,cb)] (by simp;omega)
  have a4:=DP [(ts.length:Int)]
  have a5:=Vy ts (λt h=>by have:=ht.rng t h;have:=SZ (z:=t.2) (by omega) (by omega);have:=Ta t.2;omega)
  have a6:=Lw [(ra,rb)] (by simp;omega)
  have a7:=DP [(ps.length:Int)]
  have a8:=DO ps hpl
  have a9:=DO [pt] (by simpa using hpt)
  have a10:0<(Gu [kd,m.lab,m.num,m.itm,m.tim,m.day]).length:=by
   have:=B6P kd
   simp only[Gu,l1i,l18,F5];omega
  simp only[L0,N2] at a1 a2 a3 a4 a6 a7 a9
  simp only[K0,F5,N2]
  omega
 have fin:∀(tail:List UInt8) (b:Nat) (v:AV) (H:Hp),tail.length≤5000→(if kd=3 then Q9 r vd else[])=tail→Bd rw_ [(c,IA kd m u ca cb (EY ts) ra rb (FQ ps) id ins nds o r vd)] b (K0 kd m un ca cb ts ra rb ps pt tail) v H→
  (AH 0 (.ptr rw_ 0 0) λv96=>(rt (L+20) (n+61)).call Fu [v96] H λv97 H98=>Go.Abs.Aj Ab .gtr v97 (.v (.int .i64 32768)) λv99=>
   Ar v99 (K (.tup [.v (.string ⟨⟨[]⟩⟩),.v (.int .i64 210)]) H98) (AH 0 (.ptr rw_ 0 0) λv100=>(rt (L+20) (n+61)).call CD [v100] H98 λv101 H102=>K (.tup [v101,.v (.int .i64 0)]) H102))=some (.tup [S (K0 kd m un ca cb ts ra rb ps pt (if kd=3 then Q9 r vd else[])),I 0],[]):= λtail b v H htl he hB=>by
  obtain⟨k1,k2⟩:=hlen tail htl
  have r0:∀{K:AV→Am},AH 0 (.ptr rw_ 0 0) K=K (.ptr rw_ 0 0):=_root_.id rfl
  rw[r0,C2d (n:=n+60) hB.bld,DQ,decide_eq_false (by omega),BC,r0]
  obtain⟨H',e⟩:=A4B (L:=L) (n:=n+60) hB.bld k2 (by omega)
  rw[e,he]
  rw[he] at hK
  exact hK _ _ (λb=>⟨false,λK=>by kernel_rfl⟩)
 rw[cI0 hl,CG]
 by_cases h3:kd=3
 ·rw[decide_eq_true h3,Do]
  have j0:∀{K:AV→Am},AH 0 (.ptr c 55 0) K=K (.ptr c 55 0):=_root_.id rfl
  have j1:∀{K:AV→Am},AH 1 (.ptr c 55 0) K=K (.ptr c 56 0):=_root_.id rfl
  have j3:∀{K:AV→Am},AH 3 (.ptr c 55 0) K=K (.ptr c 58 0):=_root_.id rfl
  have j5:∀{K:AV→Am},AH 5 (.ptr c 55 0) K=K (.ptr c 60 0):=_root_.id rfl
  have j7:∀{K:AV→Am},AH 7 (.ptr c 55 0) K=K (.ptr c 62 0):=_root_.id rfl
  rw[j0,cRk hl,TV]
  refine XH (n:=n+51) hB10 hL (by decide) [r.k] (by simp) (by simp;omega) λv11 H11 hB11=> ?_
  have hl:=crt hB11
  rw[j1,cR1 hl,j3,cR2 hl,j5,cR3 hl,j7,cR4 hl,B6Z]
  refine A4e (n:=n+50) hB11 hL (by decide) [(r.a1,r.a2),(r.b1,r.b2),(r.c1,r.c2),(r.d1,r.d2)] (by simp) hrl λv12 H12 hB12=> ?_
  have hl:=crt hB12
  rw[cV hl,TV]
  refine XH (n:=n+51) hB12 hL (by decide) [vd] (by simp) (by simp;omega) λv13 H13 hB13=> ?_
  refine fin (Q9 r vd) (800000+50000+50000+50000+50000+50000+50000+50000) v13 H13 ?_ (by rw[if_pos h3]) ?_
  ·have a1:=DP [r.k]
   have a2:=Lw [(r.a1,r.a2),(r.b1,r.b2),(r.c1,r.c2),(r.d1,r.d2)] hrl
   have a3:=DP [vd]
   simp only[L0,N2] at a1 a2 a3
   simp only[Q9,F5]
   omega
  ·have:K0 kd m un ca cb ts ra rb ps pt (Q9 r vd)=[]++Gu [kd,m.lab,m.num,m.itm,m.tim,m.day]++F7 [un]++NT [(ca,cb)]++Gu [(ts.length:Int)]++N7 ts++NT [(ra,rb)]++Gu [(ps.length:Int)]++F7 ps++F7 [pt]++Gu [r.k]++NT [(r.a1,r.a2),(r.b1,r.b2),(r.c1,r.c2),(r.d1,r.d2)]++Gu [vd]:=by
    unfold K0 Q9;simp only[l0k]
   rw[this]
   exact hB13
 ·rw[decide_eq_false h3,BC]
  refine fin [] (800000+50000+50000+50000+50000) v10 H10 (by simp) (by rw[if_neg h3]) ?_
  have:K0 kd m un ca cb ts ra rb ps pt []=[]++Gu [kd,m.lab,m.num,m.itm,m.tim,m.day]++F7 [un]++NT [(ca,cb)]++Gu [(ts.length:Int)]++N7 ts++NT [(ra,rb)]++Gu [(ps.length:Int)]++F7 ps++F7 [pt]:=by
   unfold K0;rw[l1o]
  rw[this]
  exact hB10
end
end
end Go.Abs
end
