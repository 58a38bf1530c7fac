import Derived.Test.YtlbhdmbfdcohhaaGreatDoorR24
import Derived.Test.YtlbhdmbfdcohhaaGreatDoorR25
set_option linter.all false
set_option maxHeartbeats 100000000
noncomputable section
namespace Go.Abs
open Go.RowKit Go.Proofs
set_option maxRecDepth 100000
section
variable {L n:Nat}
attribute [local irreducible] Ah rt YV eBi eEq cnd Go.Abs.Ak Go.Abs.Uw Av
theorem B98 {t:Int×Int} (h: -8≤t.2∧t.2≤8∧t.2≠0):PS (rt (L+20) (n+41)) GD [.agg (Nf t)] (Bo false):=by
 refine CS.ps (λK hK=> ?_) (λH=> λK=>by kernel_rfl)
 have h1:PO (rt (L+20) (n+40)) BW [.agg (qa t.2)] (Bo true):=(A0r (by omega) (by omega)).o
 have h2:PO (rt (L+20) (n+40)) IC [.agg (qa t.2)] (Bo false):=by
  have:=(B5D (L:=L) (n:=n) (z:=t.2) (by omega) (by omega)).o
  rw[decide_eq_false h.2.2] at this
  exact this
 rewrite [Ui]
 unfold KO Bu Ev
 try rewrite [zO]
 try rewrite [bO]
 try rewrite [qO]
 try rewrite [cO]
 generalize rt (L+20) (n+40)=R at*
 conv=>lhs;whnf
 rewrite [h1]
 conv=>lhs;whnf
 rewrite [h2]
 conv=>lhs;whnf
 exact hK _ _ (λb=>⟨false,λK=>by kernel_rfl⟩)
abbrev A0q:AV:= .fn (.func GD) [] []
abbrev B2J:AV:= .fn (.func IS) [] []
section
variable {ts:ZQ} {K:KV} {x:Al}
theorem lTm {t:Int×Int} {H:Hp} {K:AV→Al}:Aq BI (.iptr (Nf t)) H K=K (.agg (Nf t)):=id rfl
theorem B7s {k4:Hp→Al} {H:Hp} (ht:TmsOk ts):∀(f i:Nat),i≤ts.length→ts.length-i<f→
 C6 (L+20) (rt (L+20) (n+41)) K k4 f (Fq ts) A0q (I ts.length) (I i) H=k4 H:=by
 have hb:=ht.len
 intro f
 induction f with
 |zero=>intro i _ h;omega
 |succ f ih=>
  intro i hi hf
  rw[Iw]
  unfold Ds Ar
  by_cases h:i<ts.length
  ·have hr:=ht.rng _ (QS h)
   rw[FW (by omega),Dn,Tb h,lTm]
   have ez:∀K,Eo (E (L+20)) (rt (L+20) (n+41)) A0q [.agg (Nf ts[i])] H K=Ah (rt (L+20) (n+41)) GD [.agg (Nf ts[i])] H λv=>K v H:= λK=>by kernel_rfl
   rw[ez,B98 hr.2.2,BD,DS (by omega)]
   exact ih (i+1) (by omega) (by omega)
  ·rw[FX (by omega),BD]
theorem A7K (ht:TmsOk ts):CS (rt (L+20) (n+43)) Cs [Fq ts,A0q] (Bo false):=by
 have hb:=ht.len
 intro K hK
 rw[HY]
 unfold Df Ar
 have hi:CS (rt (L+20) (n+42)) D3 [Fq ts,A0q] (I (-1)):=by
  intro K hK
  rw[IP]
  unfold D1 Ar
  simp only[Cp]
  have e0:(AV.v (.int .i64 0))=I ((0:Nat):Int):=rfl
  rw[NS,e0,B7s ht _ 0 (by omega) (by omega)]
  exact hK _ _ (λb=>⟨false,λK=>by kernel_rfl⟩)
 rw[Bc (q:=false) hi (λK=>by cases ts<;>kernel_rfl),Me]
 exact hK _ _ (λb=>⟨false,λK=>by kernel_rfl⟩)
theorem B2p {t:Int×Int}:PS (rt (L+20) (n+1)) IS [.agg (Nf t)] (I t.1):=by
 refine CS.ps (λK hK=> ?_) (λH=> λK=>by kernel_rfl)
 rewrite [WC]
 unfold Od
 try rewrite [zO]
 try rewrite [bO]
 try rewrite [qO]
 try rewrite [cO]
 generalize rt (L+20) (n+0)=R at*
 conv=>lhs;whnf
 exact hK _ _ (λb=>⟨false,λK=>by kernel_rfl⟩)
theorem C0Z {k4:Hp→Al} (ht:TmsOk ts) (hx:∀H,k4 H=x):∀(f i:Nat) (H:Hp),i≤ts.length→ts.length-i<f→Wf H→
 Ea (L+20) (rt (L+20) (n+1)) K k4 f (Fq ts) B2J (Fq ts) (I ts.length) (I i) H=x:=by
 have hb:=ht.len
 intro f
 induction f with
 |zero=>intro i H _ h;omega
 |succ f ih=>
  intro i H hi hf w
  rw[Mq]
  unfold F9 Ba Bu Ar Ev CK
  by_cases h:i<ts.length
  ·have hr:=ht.rng _ (QS h)
   rw[FW (by omega),Dn,Tb h,lTm,Bf (cs:=[zI,zS,zS]) rfl]
   have hn0:=A1 (H:=H) (x:= .cells true AQ [zI,zS,zS]) (by simp)
   rw[B7 (vs:=Nf ts[i]) hn0 rfl rfl rfl]
   have hr1:=AC (q:=true) (e:=AQ) (cs:=Nf ts[i]) hn0
   have w1:=Cj (r:=A6 H) (y:= .cells true AQ (Nf ts[i])) (BE (x:= .cells true AQ [zI,zS,zS]) w)
   generalize upd ((A6 H,Row.cells true AQ [zI,zS,zS])::H) (A6 H) (.cells true AQ (Nf ts[i]))=H1 at hr1 w1
   generalize A6 H=r at hr1
   have m1:∀K,Aq BI (.ptr r 0 0) H1 K=K (.agg (Nf ts[i])):= λK=>EX (p:=0) rfl hr1 (show 3≤3 from O8 _)
   have ez:∀(t:Int×Int) (K:KV),Eo (E (L+20)) (rt (L+20) (n+1)) B2J [.agg (Nf t)] H1 K=K (I t.1) H1:= λt K=>by
    have:Eo (E (L+20)) (rt (L+20) (n+1)) B2J [.agg (Nf t)] H1 K=Ah (rt (L+20) (n+1)) IS [.agg (Nf t)] H1 λv=>K v H1:=by kernel_rfl
    rw[this,B2p]
   have i1:∀K,Go.Abs.Ak Ab .lss (I ts[i].1) (.v (.int .i64 1)) K=K (Bo false):= λK=>FX (by omega)
   have i2:∀K,Go.Abs.Ak Ab .gtr (I ts[i].1) (.v (.int .i64 1000000)) K=K (Bo false):= λK=>by rw[Ej,decide_eq_false (by omega)]
   rw[m1,ez]
   simp only[i1,i2,gT,Co,Vk]
   by_cases hi0:0<i
   ·have i3:∀K,Go.Abs.Ak Ab .gtr (I (i:Int)) (.v (.int .i64 0)) K=K (Bo true):= λK=>by rw[Ej,decide_eq_true (by omega)]
    have hi1:i-1<ts.length:=by omega
    have mm:∀K,eMM false (I ((i-1:Nat):Int)) (.v (.int .i64 0)) K=K (I ((i-1:Nat):Int)):= λK=>by
     have e:eMM false (I ((i-1:Nat):Int)) (.v (.int .i64 0)) K=ck (decide (IntKind.i64=IntKind.i64)) (@Bool.rec (λ_=>Al) (K (.v (.int .i64 0))) (K (I ((i-1:Nat):Int))) (ZH 0 ((i-1:Nat):Int))):=rfl
     rw[e,J7,decide_eq_true (Int.natCast_nonneg _)];rfl
    have hasc:ts[i-1].1<ts[i].1:=(l20.1 ht.asc) (i-1) i hi1 h (by omega)
    have i7:∀K,Go.Abs.Ak Ab .geq (I ts[i-1].1) (I ts[i].1) K=K (Bo false):= λK=>by rw[Me,decide_eq_false (by omega)]
    simp only[i3,Co,gT,A3f hi0 (by omega:i<1000000000),mm,Tb hi1,lTm,ez,i7,Wu,Vk]
    rw[BD,DS (by omega)]
    exact ih (i+1) H1 (by omega) (by omega) w1
   ·have i3:∀K,Go.Abs.Ak Ab .gtr (I (i:Int)) (.v (.int .i64 0)) K=K (Bo false):= λK=>by rw[Ej,decide_eq_false (by omega)]
    simp only[i3,Co,gT,gTF,Wu,Vk]
    rw[BD,DS (by omega)]
    exact ih (i+1) H1 (by omega) (by omega) w1
  ·rw[FX (by omega),BD]
   exact hx H
theorem B0z (ht:TmsOk ts):CS (rt (L+20) (n+2)) El [Fq ts,B2J] (Bo true):=by
 have hb:=ht.len
 intro K hK
 rw[MK]
 unfold FR Ar Ev
 simp only[Cp]
 have e0:(AV.v (.int .i64 0))=I ((0:Nat):Int):=rfl
 rw[NS,e0]
 exact C0Z ht (λH=>hK _ _ (λb=>⟨false,λK=>by kernel_rfl⟩)) (L+20) 0 [] (by omega) (by omega) Fv
theorem A7H {c r:Int} (hc1: -80≤c) (hc2:c≤80) (hr1:0≤r) (hr2:r≤8) (ht:TmsOk ts):CS (rt (L+20) (n+44)) Ii [.agg (Vo (qn c) (qd c) (Fq ts) (qn r) (qd r))] (Bo true):=by
 intro K hK
 have hb:=ht.len
 have h1:PO (rt (L+20) (n+43)) BW [.agg (qa c)] (Bo true):=(A0r (n:=n+3) (by omega) (by omega)).o
 have h2:PO (rt (L+20) (n+43)) BW [.agg (qa r)] (Bo true):=(A0r (n:=n+3) (by omega) (by omega)).o
 have h3:PO (rt (L+20) (n+43)) JA [.agg (qa r)] (I (if r=0 then 0 else 1)):=(B5E (n:=n+3) (by omega) (by omega)).o
 have h4:LS (rt (L+20) (n+43)) El [Fq ts,B2J] (Bo true):=(B0z (n:=n+41) ht).ls
 have h5:LS (rt (L+20) (n+43)) Cs [Fq ts,A0q] (Bo false):=(A7K (n:=n) ht).ls
 have hz:ts=[]∨∃t l,ts=t::l:=by cases ts with|nil=>exact .inl rfl|cons t l=>exact .inr ⟨t,l,rfl⟩
 rcases hz with rfl|⟨t,l,rfl⟩
 all_goals
  rewrite [Yc]
  unfold P0 Ba Ar CK
  try rewrite [zO]
  try rewrite [bO]
  try rewrite [qO]
  try rewrite [cO]
  generalize rt (L+20) (n+43)=R at*
  conv=>lhs;whnf
  rewrite [h1]
  conv=>lhs;whnf
  rewrite [h2]
  conv=>lhs;whnf
  rewrite [h3]
  conv=>lhs;whnf
  rewrite [A9Z ?hc]
  case hc=>(split<;>omega)
  conv=>lhs;whnf
  rewrite [A9R ?hc]
  case hc=>(first|decide|(have hb':l.length+1≤6:=hb;show((l.length+1:Nat):Int)≤64;omega))
  conv=>lhs;whnf
  rewrite [(h4) false _ _ ?hq]
  case hq=>exact λK=>by kernel_rfl
  conv=>lhs;whnf
  rewrite [(h5) false _ _ ?hq]
  case hq=>exact λK=>by kernel_rfl
  conv=>lhs;whnf
  exact hK _ _ (λb=>⟨false,λK=>by kernel_rfl⟩)
end
end
section
variable {L n:Nat} {K:KV} {x:Al}
structure Bld (r:Nat) (l:List UInt8) (v:AV) (H:Hp):Prop where
 at_:∃tw:Nat,(tw=Fy∨tw=CX)∧(Ax H r=some (.cells true tw [.v (.pointer none),v])∨Ax H r=some (.cells true tw [.ptr r 0 0,v]))
 sl:B1 H AU 1 v l.length (Ki l)
 ne:¬AX v r
 wf:Wf H
structure Kp (r:Nat) (v:AV) (H:Hp) (v':AV) (H':Hp):Prop where
 keep:∀u y,Ax H u=some y→u≠r→¬AX v u→Ax H' u=some y
 new:∀u,AX v' u→AX v u∨A6 H≤u
 nx:A6 H≤A6 H'
theorem Kp.refl (r:Nat) (v:AV) (H:Hp):Kp r v H v H:=⟨λ_ _ h _ _=>h,λ_ h=> .inl h,O8 _⟩
theorem Kp.trans {r:Nat} {v v' v'':AV} {H H' H'':Hp} (w:Wf H) (h:Kp r v H v' H') (k:Kp r v' H' v'' H''):Kp r v H v'' H'':=
 ⟨λu y hu h1 h2=>k.keep u y (h.keep u y hu h1 h2) h1 (λh3=>by
  rcases h.new u h3 with h4|h4
  ·exact h2 h4
  ·have:=w.lt hu;omega),
  λu hu=>by
   rcases k.new u hu with h1|h1
   ·exact h.new u h1
   ·exact .inr (by have:=h.nx;omega),l1m h.nx k.nx⟩
theorem Bld.one {r:Nat} {l:List UInt8} {v:AV} {H:Hp} (h:Bld r l v H):B6 v=[v]∧AV.one v=true:=by
 rcases h.sl with⟨rfl,_⟩|⟨a,b,rfl,_⟩<;>exact⟨rfl,rfl⟩
theorem Bld.upd {r s:Nat} {l:List UInt8} {v:AV} {H:Hp} {y:Row} (h:Bld r l v H) (h1:s≠r) (h2:¬AX v s):Bld r l v (upd H s y):=
 ⟨by rw[Au h1.symm];exact h.at_,h.sl.lat h.wf (Lat.upd H s y (P:= λu=>u=s) rfl) (λu hu e=>h2 (e▸hu)),h.ne,Cj h.wf⟩
theorem Bld.cons {r:Nat} {l:List UInt8} {v:AV} {H:Hp} {y:Row} (h:Bld r l v H):Bld r l v ((A6 H,y)::H):=by
 refine⟨?_,h.sl.lat h.wf (Lat.cons H y (λ_=>False)) (λ_ _ h=>h),h.ne,BE h.wf⟩
 obtain⟨tw,h0,h1|h1⟩:=h.at_
 ·exact⟨tw,h0,.inl (Bj (h.wf.lt h1) h1)⟩
 ·exact⟨tw,h0,.inr (Bj (h.wf.lt h1) h1)⟩
theorem A48 {r:Nat} {l s:List UInt8} {v:AV} {H:Hp} (h:Bld r l v H) (hb:l.length+s.length<1000000000)
 (hx:∀v' H',Bld r (l++s) v' H'→Kp r v H v' H'→K (.tup [I s.length,.v .nilIface]) H'=x):(rt (L+20) (n+2)).call Bv [.ptr r 0 0,S s] H K=x:=by
 rw[Li]
 unfold EU
 rw[Ml]
 unfold F2
 have a0:∀K:AV→Al,AN 0 (.ptr r 0 0) K=K (.ptr r 0 0):= λK=>id rfl
 have a1:∀K:AV→Al,AN 1 (.ptr r 0 0) K=K (.ptr r 1 0):= λK=>id rfl
 obtain⟨tw,htw,hat⟩:=h.at_
 have main:∀H1,Ax H1 r=some (.cells true tw [.ptr r 0 0,v])→Bld r l v H1→Kp r v H v H1→(IM (.ptr r 0 0) λv3=>AN 1 v3 λv4=>Aq AB v4 H1 λv5=>DN AU 1 AG Ae v5 (S s) H1 λv6 H7=>
  IM (.ptr r 0 0) λv8=>AN 1 v8 λv9=>Cq AB v9 v6 H7 λH10=>AP Ae (S s) λv12=>K (.tup [v12,.v .nilIface]) H10)=x:= λH1 hl1 hB1 hK1=>by
  rw[Hh,a1,AY (p:=1) rfl hl1 (by simp)]
  show DN AU 1 AG Ae v (S s) H1 _=x
  obtain⟨v',H',h1,h2,h3,h4⟩:=apt (ie:=AG) (i2:=Ae) hB1.sl (λK=>C2o (K:=K)) (by rw[Ny];omega) (B0f s) (by decide) rfl rfl (by show(l.length+s.length)*1≤_;omega) (by omega)
  rw[h1,Hh,a1]
  have hl2:Ax H' r=some (.cells true tw [.ptr r 0 0,v]):=h4.keep hB1.wf r _ hl1 hB1.ne
  have hw2:=h4.wf hB1.wf
  rw[A55] at h2
  have hone:B6 v'=[v']∧AV.one v'=true:=by
   rcases h2 with⟨rfl,_⟩|⟨a,b,rfl,_⟩<;>exact⟨rfl,rfl⟩
  rw[Ez (q:=true) (e:=tw) (cs:=[.ptr r 0 0,v]) hl2 (by simp) rfl hone.1 hone.2,MY rfl]
  have hr1:=hB1.wf.lt hl1
  have hne:¬AX v' r:= λhu=>by have:=h3 r hu;omega
  refine hx v' _ ⟨⟨tw,htw,.inr (AC hl2)⟩,?_,hne,Cj hw2⟩ ?_
  ·rw[FA]
   exact h2.lat hw2 (Lat.upd H' r _ (P:= λu=>u=r) rfl) (λu hu e=>hne (e▸hu))
  ·refine hK1.trans h.wf ⟨λu y hu hn hv=> ?_,λu hu=> .inr (by rw[h3 u hu];exact O8 _),by rw[Ck];exact h4.nx⟩
   rw[Au hn];exact h4.keep hB1.wf u y hu hv
 rw[Hh,a0]
 rcases hat with hl|hl
 ·rw[AY (p:=0) rfl hl (by simp)]
  show ZL BG Bs .eql (.v (.pointer none)) (.v (.pointer none)) _=x
  have e1:∀K:AV→Al,ZL BG Bs .eql (.v (.pointer none)) (.v (.pointer none)) K=K (Bo true):= λK=>id rfl
  rw[e1,Dn]
  have e2:∀K:AV→Al,B1w Bs (.ptr r 0 0) H K=K (.ptr r 0 0):= λK=>by
   have:B1w Bs (.ptr r 0 0) H K=Kj H r λx=>KF x λ_ cs=>HJ cs 0 λcl=>ck (Nat.blt (Nat.add 0 0) cl&& !Nat.beq Bs.size 0) (K (.ptr r 0 0)):=rfl
   rw[this,Cl hl];rfl
  have e3:∀K:AV→Al,B1s A8s CX (.ptr r 0 0) H K=K (.ptr r 0 0):= λK=>by
   have:B1s A8s CX (.ptr r 0 0) H K=Kj H r λx=>A2x x λq E cs=>HJ cs 0 λcl=>ck (q&&B7g A8s E cl (Nat.add 0 0) CX) (K (.ptr r 0 0)):=rfl
   rw[this,Cl hl];rcases htw with rfl|rfl<;>rfl
  rw[e2,e3,Hh,a0,Ez (q:=true) (e:=tw) (cs:=[.v (.pointer none),v]) hl (by simp) rfl rfl rfl]
  refine main _ (AC hl) ⟨⟨tw,htw,.inr (AC hl)⟩,h.sl.lat h.wf (Lat.upd H r _ (P:= λu=>u=r) rfl) (λu hu e=>h.ne (e▸hu)),h.ne,Cj h.wf⟩ ⟨λu y hu hn _=>by rw[Au hn];exact hu,λu hu=> .inl hu,by rw[Ck];exact O8 _⟩
 ·rw[AY (p:=0) rfl hl (by simp)]
  show ZL BG Bs .eql (.ptr r 0 0) (.v (.pointer none)) _=x
  have e1:∀K:AV→Al,ZL BG Bs .eql (.ptr r 0 0) (.v (.pointer none)) K=K (Bo false):= λK=>id rfl
  rw[e1,BD,Hh,a0,AY (p:=0) rfl hl (by simp)]
  show ZL BG Bs .neq (.ptr r 0 0) (.ptr r 0 0) _=x
  have e2:∀K:AV→Al,ZL BG Bs .neq (.ptr r 0 0) (.ptr r 0 0) K=K (Bo false):= λK=>by
   have:ZL BG Bs .neq (.ptr r 0 0) (.ptr r 0 0) K=ck (Nat.beq r r&&(Nat.beq (Nat.add 0 0) (Nat.add 0 0)&& !Nat.beq Bs.size 0)) (K (Bo false)):=rfl
   rw[this,l29];rfl
  rw[e2,BD]
  exact main H hl h (Kp.refl r v H)
end
section
variable {L n:Nat} {K:KV} {x:Al}
def Sr (H:Hp) (r:Nat) (v a:AV) (cs:List AV):Prop:=a= .list cs.length cs∨(a=AO∧cs=[])∨∃k q e,a= .sl 1 k 0 cs.length∧Ax H k=some (.cells q e cs)∧k≠r∧¬AX v k
theorem Sr.kp {H H':Hp} {r:Nat} {v v' a:AV} {cs:List AV} (h:Sr H r v a cs) (w:Wf H) (k:Kp r v H v' H'):Sr H' r v' a cs:=by
 rcases h with h|h|⟨i,q,e,h1,h2,h3,h4⟩
 ·exact .inl h
 ·exact .inr (.inl h)
 ·refine .inr (.inr ⟨i,q,e,h1,k.keep i _ h2 h3 h4,h3,λhu=> ?_⟩)
  rcases k.new i hu with h5|h5
  ·exact h4 h5
  ·have:=w.lt h2;omega
theorem Sr.len {H:Hp} {r:Nat} {v a:AV} {cs:List AV} {t:TI} {e z:Nat} {K:AV→Al} (h:Sr H r v a cs) (hd:t.d= .slice e z):AP t a K=K (I cs.length):=by
 obtain⟨s,b,d,zr⟩:=t
 simp only at hd
 subst hd
 rcases h with rfl|⟨rfl,rfl⟩|⟨i,q,e,rfl,_⟩<;>exact id rfl
theorem Sr.get {H:Hp} {r i:Nat} {v a:AV} {cs:List AV} {t tt:TI} {e:Nat} {K:AV→Al} (h:Sr H r v a cs) (hd:t.d= .slice e 1) (hs:tt.d.isAgg=false) (hi:i<cs.length):(B0 t a (I i) λp=>Aq tt p H K)=K (cs.getD i .dk):=by
 rcases h with rfl|⟨_,rfl⟩|⟨k,q,e',rfl,hl,_⟩
 ·rw[Uv hd rfl (by omega) (by omega),Xs,Ra hs]
 ·simp at hi
 ·rw[A4Z hd (by omega) (by omega),Xs,AY (p:=i) hs hl hi]
theorem C3g {r:Nat} {a:AV} {zs:List Int} {k2:Hp→Al} (hl:zs.length<100) (hz:∀z∈zs, -10≤z∧z<390) {l:List UInt8} (hb:l.length<900000000) {v0:AV} {H0:Hp} (w0:Wf H0)
 (hx:∀v' H',Bld r (l++GT zs) v' H'→Kp r v0 H0 v' H'→k2 H'=x):∀(f i:Nat) (v:AV) (H:Hp),i≤zs.length→zs.length-i<f→Bld r (l++GT (zs.take i)) v H→Kp r v0 H0 v H→Sr H r v a (Et zs)→
 D5 (L+20) (rt (L+20) (n+9)) K k2 f (.ptr r 0 0) a (I zs.length) (I i) H=x:=by
 intro f
 induction f with
 |zero=>intro i v H _ h;omega
 |succ f ih=>
  intro i v H hi hf hB hk hs
  rw[Lg]
  unfold ES Ar
  by_cases h:i<zs.length
  ·have hzi:=hz zs[i] (QS h)
   have hlen:=Ei (zs.take i)
   have h5:(zs.take i).length≤zs.length:=by simp;omega
   have h6:=Qx zs[i]
   rw[FW (by omega),Dn,hs.get rfl rfl (by simp[Et];omega),PB h,A5C (L:=L) (n:=n+1) hzi.1 hzi.2,CW,CV,Hh]
   have a0:∀K:AV→Al,AN 0 (.ptr r 0 0) K=K (.ptr r 0 0):= λK=>id rfl
   rw[a0]
   refine A48 (n:=n+7) hB (by rw[FA];omega) λv' H' hB' hk'=> ?_
   rw[DS (by omega)]
   rw[l0k,←A3E zs h] at hB'
   exact ih (i+1) v' H' (by omega) (by omega) hB' (hk.trans w0 hk') (hs.kp hB.wf hk')
  ·rw[FX (by omega),BD]
   have:i=zs.length:=by omega
   subst this
   rw[l06] at hB
   exact hx v H hB hk
theorem B0A {r:Nat} {a v:AV} {zs:List Int} {l:List UInt8} {H:Hp} (hL:100<L) (hl:zs.length<100) (hz:∀z∈zs, -10≤z∧z<390) (hb:l.length<900000000) (hB:Bld r l v H) (hs:Sr H r v a (Et zs))
 (hx:∀v' H',Bld r (l++GT zs) v' H'→Kp r v H v' H'→K (.tup []) H'=x):(rt (L+20) (n+10)).call B4 [.ptr r 0 0,a] H K=x:=by
 rw[LJ]
 unfold Fl Ar
 rw[hs.len rfl]
 simp only[Cp]
 have e0:(AV.v (.int .i64 0))=I ((0:Nat):Int):=rfl
 have e1:(Et zs).length=zs.length:=by simp[Et]
 rw[e0,e1]
 exact C3g (n:=n) hl hz hb hB.wf hx (L+20) 0 v H (by omega) (by omega) (by simpa [GT] using hB) (Kp.refl r v H) hs
theorem C3e {r:Nat} {a:AV} {zs:List (List UInt8)} {k2:Hp→Al} (hl:zs.length<100) (hz:∀z∈zs,z.length<390) {l:List UInt8} (hb:l.length<900000000) {v0:AV} {H0:Hp} (w0:Wf H0)
 (hx:∀v' H',Bld r (l++FZ zs) v' H'→Kp r v0 H0 v' H'→k2 H'=x):∀(f i:Nat) (v:AV) (H:Hp),i≤zs.length→zs.length-i<f→Bld r (l++FZ (zs.take i)) v H→Kp r v0 H0 v H→Sr H r v a (Bn zs)→
 DY (L+20) (rt (L+20) (n+9)) K k2 f (.ptr r 0 0) a (I zs.length) (I i) H=x:=by
 intro f
 induction f with
 |zero=>intro i v H _ h;omega
 |succ f ih=>
  intro i v H hi hf hB hk hs
  rw[Mk]
  unfold F0 Ar
  by_cases h:i<zs.length
  ·have hzi:=hz zs[i] (QS h)
   have hlen:=Eh (zs.take i) (λs hs=>hz s (l24 hs))
   have h5:(zs.take i).length≤zs.length:=by simp;omega
   have h6:(A4W zs[i]).length≤400:=by unfold A4W;rw[FA];have:=Qx (zs[i].length:Int);omega
   rw[FW (by omega),Dn,hs.get rfl rfl (by simp[Bn];omega),Mx h,A5B L n hzi,CW,CV,Hh]
   have a0:∀K:AV→Al,AN 0 (.ptr r 0 0) K=K (.ptr r 0 0):= λK=>id rfl
   rw[a0]
   refine A48 (n:=n+7) hB (by rw[FA];omega) λv' H' hB' hk'=> ?_
   rw[DS (by omega)]
   rw[l0k,←A3D zs h] at hB'
   exact ih (i+1) v' H' (by omega) (by omega) hB' (hk.trans w0 hk') (hs.kp hB.wf hk')
  ·rw[FX (by omega),BD]
   have:i=zs.length:=by omega
   subst this
   rw[l06] at hB
   exact hx v H hB hk
theorem A49 {r:Nat} {a v:AV} {zs:List (List UInt8)} {l:List UInt8} {H:Hp} (hL:100<L) (hl:zs.length<100) (hz:∀z∈zs,z.length<390) (hb:l.length<900000000) (hB:Bld r l v H) (hs:Sr H r v a (Bn zs))
 (hx:∀v' H',Bld r (l++FZ zs) v' H'→Kp r v H v' H'→K (.tup []) H'=x):(rt (L+20) (n+10)).call BP [.ptr r 0 0,a] H K=x:=by
 rw[MG]
 unfold FP Ar
 rw[hs.len rfl]
 simp only[Cp]
 have e0:(AV.v (.int .i64 0))=I ((0:Nat):Int):=rfl
 have e1:(Bn zs).length=zs.length:=by simp[Bn]
 rw[e0,e1]
 exact C3e (n:=n) hl hz hb hB.wf hx (L+20) 0 v H (by omega) (by omega) (by simpa [FZ] using hB) (Kp.refl r v H) hs
end
section
variable {L n:Nat} {K:KV} {x:Al}
abbrev Rts:=List (List UInt8×List UInt8)
def rtC (q:List UInt8×List UInt8):List AV:=[S q.1,S q.2]
def OI (l:Rts):List UInt8:=(l.map λq=>FZ [q.1,q.2]).flatten
theorem B1o (l:Rts) {i:Nat} (h:i<l.length):OI (l.take (i+1))=OI (l.take i)++FZ [l[i].1,l[i].2]:=by
 unfold OI
 rw[l04 h,l01,List.flatten_append]
 simp only[ZY,List.map_nil,l18,List.flatten_nil,l1o]
theorem Mb (l:Rts) (h:∀q∈l,q.1.length<390∧q.2.length<390):(OI l).length≤800*l.length:=by
 induction l with
 |nil=>simp[OI]
 |cons s l ih=>
  have h3:=ih (λs hs=>h s (by simp[hs]))
  have h4:=Eh [s.1,s.2] (by simp;exact h s (by simp))
  simp only[OI,ZY,l18,FA,Lj,Ot] at h3 h4⊢
  omega
theorem Kp.cons {r:Nat} {v:AV} {H:Hp} {y:Row} (w:Wf H):Kp r v H v ((A6 H,y)::H):=⟨λu z hu _ _=>Bj (w.lt hu) hu,λu hu=> .inl hu,l1p _⟩
theorem Bld.lt {r:Nat} {l:List UInt8} {v:AV} {H:Hp} (h:Bld r l v H):r<A6 H:=by obtain⟨_,_,h1|h1⟩:=h.at_<;>exact h.wf.lt h1
theorem Bld.vlt {r u:Nat} {l:List UInt8} {v:AV} {H:Hp} (h:Bld r l v H) (hu:AX v u):u<A6 H:=h.sl.lt h.wf hu
theorem C2s {r m i:Nat} {K:AV→Al} (h:i<m):B0 GW (.sl 2 r 0 m) (I i) K=K (.ptr r (2*i) 0):=by
 have e1:B0 GW (.sl 2 r 0 m) (I (i:Int)) K=iN (i:Int) λk=>ck (Nat.blt k m) (fN (Nat.add 0 (Nat.mul k 2)) λq=>K (.ptr r q 0)):=rfl
 rw[e1,JW,DI]
 have h2:Nat.blt i m=true:=by rw[Uk];exact h
 have h3:Nat.add 0 (Nat.mul i 2)=2*i:=by show 0+i*2=_;omega
 rw[h2,h3];rfl
theorem C3f {r k e:Nat} {q:Bool} {rs:Rts} {k2:Hp→Al} (hl:rs.length<100) (hz:∀z∈rs,z.1.length<390∧z.2.length<390) {l:List UInt8} (hL:100<L) (hb:l.length<800000000) {v0:AV} {H0:Hp} (w0:Wf H0) (hkr:k≠r)
 (hx:∀v' H',Bld r (l++OI rs) v' H'→Kp r v0 H0 v' H'→k2 H'=x):∀(f i:Nat) (v:AV) (H:Hp),i≤rs.length→rs.length-i<f→Bld r (l++OI (rs.take i)) v H→Kp r v0 H0 v H→Ax H k=some (.cells q e (rs.flatMap rtC))→¬AX v k→
 DK (L+20) (rt (L+20) (n+10)) K k2 f (.ptr r 0 0) (.sl 2 k 0 rs.length) (I rs.length) (I i) H=x:=by
 intro f
 induction f with
 |zero=>intro i v H _ h;omega
 |succ f ih=>
  intro i v H hi hf hB hk hs hvk
  rw[L8]
  unfold Fi Ar
  by_cases h:i<rs.length
  ·have hzi:=hz rs[i] (QS h)
   have hlen:=Mb (rs.take i) (λs hs=>hz s (l24 hs))
   have h5:(rs.take i).length≤rs.length:=by simp;omega
   rw[FW (by omega),Dn,C2s h]
   have hfl:=B4f rtC 2 (λ_=>rfl) rs
   have hfg:=A1N rtC 2 (λ_=>rfl) rs i h
   have hld:∀K,Aq Ap (.ptr k (2*i) 0) H K=K (.agg (rtC rs[i])):= λK=>by
    rw[EX (p:=2*i) rfl hs (by rw[hfl];show 2*i+2≤_;omega),Nat.mul_comm 2 i]
    show K (.agg (((rs.flatMap rtC).drop (i*2)).take 2))=_
    rw[hfg]
   rw[hld,Bf (cs:=[zS,zS]) rfl]
   have hn0:=A1 (H:=H) (x:= .cells true AE [zS,zS]) (by simp)
   rw[B7 (vs:=rtC rs[i]) hn0 rfl rfl rfl]
   have hr1:=AC (q:=true) (e:=AE) (cs:=rtC rs[i]) hn0
   have hrlt:=hB.lt
   have hB1:=(hB.cons (y:= .cells true AE [zS,zS])).upd (s:=A6 H) (y:= .cells true AE (rtC rs[i])) (by omega) (λhu=>by have:=hB.vlt hu;omega)
   have hk1:Kp r v H v (upd ((A6 H,Row.cells true AE [zS,zS])::H) (A6 H) (.cells true AE (rtC rs[i]))):=⟨λu y hu h1 h2=>by
    have:=hB.wf.lt hu
    rw[Au (by omega)];exact Bj this hu,λu hu=> .inl hu,by rw[Ck];exact l1p _⟩
   generalize upd ((A6 H,Row.cells true AE [zS,zS])::H) (A6 H) (.cells true AE (rtC rs[i]))=H1 at hr1 hB1 hk1
   generalize A6 H=t at hr1
   have g0:∀K:AV→Al,AN 0 (.ptr t 0 0) K=K (.ptr t 0 0):= λK=>id rfl
   have g1:∀K:AV→Al,AN 1 (.ptr t 0 0) K=K (.ptr t 1 0):= λK=>id rfl
   have m0:∀K,Aq Ae (.ptr t 0 0) H1 K=K (S rs[i].1):= λK=>AY (p:=0) rfl hr1 (show 0<2 by decide)
   have m1:∀K,Aq Ae (.ptr t 1 0) H1 K=K (S rs[i].2):= λK=>AY (p:=1) rfl hr1 (show 1<2 by decide)
   rw[g0,m0,g1,m1]
   have bs:∀K:KV,Fh A4 1 Ae 2 [(0,1,S rs[i].1),(1,1,S rs[i].2)] H1 K=K (.sl 1 (A6 H1) 0 2) ((A6 H1,.cells false A4 (Bn [rs[i].1,rs[i].2]))::H1):= λK=>by
    have e:Fh A4 1 Ae 2 [(0,1,S rs[i].1),(1,1,S rs[i].2)] H1 K=HE H1 λs=>K (.sl 1 s 0 2) ((s,.cells false A4 (Bn [rs[i].1,rs[i].2]))::H1):=rfl
    rw[e,BX]
   rw[bs]
   have hB2:=hB1.cons (y:= .cells false A4 (Bn [rs[i].1,rs[i].2]))
   have hk2:Kp r v H v ((A6 H1,.cells false A4 (Bn [rs[i].1,rs[i].2]))::H1):=hk1.trans hB.wf (Kp.cons hB1.wf)
   refine A49 (n:=n) hL (zs:=[rs[i].1,rs[i].2]) (by simp) (by simp;exact hzi) (by rw[FA];omega) hB2 (.inr (.inr ⟨A6 H1,false,A4,rfl,A1 (by simp),by have:=hB1.lt;omega,λhu=>by have:=hB1.vlt hu;omega⟩)) λv' H' hB' hk'=> ?_
   rw[DS (by omega)]
   rw[l0k,←B1o rs h] at hB'
   have hk3:=hk2.trans hB.wf hk'
   refine ih (i+1) v' H' (by omega) (by omega) hB' (hk.trans w0 hk3) (hk3.keep k _ hs hkr hvk) (λhu=> ?_)
   rcases hk3.new k hu with h6|h6
   ·exact hvk h6
   ·have:=hB.wf.lt hs;omega
  ·rw[FX (by omega),BD]
   have:i=rs.length:=by omega
   subst this
   rw[l06] at hB
   exact hx v H hB hk
theorem B2s {r k e:Nat} {q:Bool} {v:AV} {rs:Rts} {l:List UInt8} {H:Hp} (hL:100<L) (hl:rs.length<100) (hz:∀z∈rs,z.1.length<390∧z.2.length<390) (hb:l.length<800000000) (hB:Bld r l v H) (hkr:k≠r) (hs:Ax H k=some (.cells q e (rs.flatMap rtC))) (hvk:¬AX v k)
 (hx:∀v' H',Bld r (l++OI rs) v' H'→Kp r v H v' H'→K (.tup []) H'=x):(rt (L+20) (n+11)).call Ch [.ptr r 0 0,.sl 2 k 0 rs.length] H K=x:=by
 rw[Mn]
 unfold F4 Ar
 have el:∀K,AP GW (.sl 2 k 0 rs.length) K=K (I rs.length):= λK=>id rfl
 rw[el]
 simp only[Cp]
 have e0:(AV.v (.int .i64 0))=I ((0:Nat):Int):=rfl
 rw[e0]
 exact C3f (n:=n) hl hz hL hb hB.wf hkr hx (L+20) 0 v H (by omega) (by omega) (by simpa [OI] using hB) (Kp.refl r v H) hs hvk
end
section
variable {L n:Nat} {K:KV} {x:Al}
structure Bd (r:Nat) (ks:List (Nat×Row)) (b:Nat) (l:List UInt8) (v:AV) (H:Hp):Prop where
 bld:Bld r l v H
 ks:∀p∈ks,Ax H p.1=some p.2∧p.1≠r∧¬AX v p.1
 sz:l.length≤b
theorem Bd.step {r b b':Nat} {ks:List (Nat×Row)} {l l':List UInt8} {v v':AV} {H H':Hp} (h:Bd r ks b l v H) (hB:Bld r l' v' H') (k:Kp r v H v' H') (hs:l'.length≤b'):Bd r ks b' l' v' H':=
 ⟨hB,λp hp=>by
  obtain⟨h1,h2,h3⟩:=h.ks p hp
  refine⟨k.keep p.1 _ h1 h2 h3,h2,λhu=> ?_⟩
  rcases k.new p.1 hu with h4|h4
  ·exact h3 h4
  ·have:=h.bld.wf.lt h1;omega,hs⟩
theorem Bd.less {r b:Nat} {ks:List (Nat×Row)} {p:Nat×Row} {l:List UInt8} {v:AV} {H:Hp} (h:Bd r (p::ks) b l v H):Bd r ks b l v H:=⟨h.bld,λq hq=>h.ks q (List.mem_cons_of_mem _ hq),h.sz⟩
section
variable {r b:Nat} {ks:List (Nat×Row)} {l:List UInt8} {v:AV} {H:Hp}
theorem Y6 (h:Bd r ks b l v H) (hL:100<L) (hb:b<500000000) (zs:List Int) (hl:zs.length<100) (hz:∀z∈zs, -10≤z∧z<390) (hx:∀v' H',Bd r ks (b+50000) (l++GT zs) v' H'→K (.tup []) H'=x):
 (rt (L+20) (n+10)).call B4 [.ptr r 0 0,.sl 1 (A6 H) 0 zs.length] ((A6 H,.cells false CZ (Et zs))::H) K=x:=by
 have h1:=h.sz
 have h2:=Ei zs
 have h3:(Et zs).length=zs.length:=by simp[Et]
 refine B0A (n:=n) hL hl hz (by omega) h.bld.cons (.inr (.inr ⟨A6 H,false,CZ,by rw[h3],A1 (by simp),by have:=h.bld.lt;omega,λhu=>by have:=h.bld.vlt hu;omega⟩)) λv' H' hB hk=> ?_
 exact hx v' H' (h.step hB ((Kp.cons h.bld.wf).trans h.bld.wf hk) (by rw[FA];omega))
theorem B4W (h:Bd r ks b l v H) (hL:100<L) (hb:b<500000000) (zs:List (List UInt8)) (hl:zs.length<100) (hz:∀z∈zs,z.length<390) (hx:∀v' H',Bd r ks (b+50000) (l++FZ zs) v' H'→K (.tup []) H'=x):
 (rt (L+20) (n+10)).call BP [.ptr r 0 0,.sl 1 (A6 H) 0 zs.length] ((A6 H,.cells false A4 (Bn zs))::H) K=x:=by
 have h1:=h.sz
 have h2:=Eh zs hz
 refine A49 (n:=n) hL hl hz (by omega) h.bld.cons (.inr (.inr ⟨A6 H,false,A4,by rw[DJ],A1 (by simp),by have:=h.bld.lt;omega,λhu=>by have:=h.bld.vlt hu;omega⟩)) λv' H' hB hk=> ?_
 exact hx v' H' (h.step hB ((Kp.cons h.bld.wf).trans h.bld.wf hk) (by rw[FA];omega))
theorem C2I (h:Bd r ks b l v H) (hL:100<L) (hb:b<500000000) (zs:List (List UInt8)) (a:AV) (ha:a= .list zs.length (Bn zs)∨(a=AO∧zs=[])) (hl:zs.length<100) (hz:∀z∈zs,z.length<390) (hx:∀v' H',Bd r ks (b+50000) (l++FZ zs) v' H'→K (.tup []) H'=x):
 (rt (L+20) (n+10)).call BP [.ptr r 0 0,a] H K=x:=by
 have h1:=h.sz
 have h2:=Eh zs hz
 refine A49 (n:=n) hL hl hz (by omega) h.bld ?_ λv' H' hB hk=>hx v' H' (h.step hB hk (by rw[FA];omega))
 rcases ha with rfl|⟨rfl,rfl⟩
 ·exact .inl (by rw[DJ])
 ·exact .inr (.inl ⟨rfl,rfl⟩)
theorem A58 (h:Bd r ks b l v H) (hL:100<L) (hb:b<500000000) (rs:Rts) (hl:rs.length<50) (hz:∀z∈rs,z.1.length<390∧z.2.length<390) (hx:∀v' H',Bd r ks (b+50000) (l++OI rs) v' H'→K (.tup []) H'=x):
 (rt (L+20) (n+11)).call Ch [.ptr r 0 0,.sl 2 (A6 H) 0 rs.length] ((A6 H,.cells false AE (rs.flatMap rtC))::H) K=x:=by
 have h1:=h.sz
 have h2:=Mb rs hz
 refine B2s (n:=n) hL (by omega) hz (by omega) h.bld.cons (by have:=h.bld.lt;omega) (A1 (by simp)) (λhu=>by have:=h.bld.vlt hu;omega) λv' H' hB hk=> ?_
 exact hx v' H' (h.step hB ((Kp.cons h.bld.wf).trans h.bld.wf hk) (by rw[FA];omega))
theorem Bd.cons {y:Row} (h:Bd r ks b l v H):Bd r ks b l v ((A6 H,y)::H):=h.step h.bld.cons (Kp.cons h.bld.wf) h.sz
theorem C3i (h:Bld r l v H):(rt (L+20) (n+1)).call FM [.ptr r 0 0] H K=K (I l.length) H:=by
 rw[Qb]
 unfold Ia
 have a1:∀K:AV→Al,AN 1 (.ptr r 0 0) K=K (.ptr r 1 0):= λK=>id rfl
 rw[Hh,a1]
 have e1:∀K,Aq AB (.ptr r 1 0) H K=K v:= λK=>by
  obtain⟨_,_,hl|hl⟩:=h.at_<;>exact AY (p:=1) rfl hl (by simp)
 rw[e1,Js rfl h.sl]
theorem A5z (h:Bld r l v H) (h0:0<l.length) (hb:l.length<1000000000):∃H',∀K,(rt (L+20) (n+1)).call CO [.ptr r 0 0] H K=K (S l) H':=by
 rcases h.sl with⟨_,h1,_⟩|⟨s,q,rfl,hs,hc⟩
 ·omega
 ·refine⟨upd H s .gone,λK=> ?_⟩
  rw[Oc]
  unfold G6
  have a1:∀K:AV→Al,AN 1 (.ptr r 0 0) K=K (.ptr r 1 0):= λK=>id rfl
  have e1:∀K,Aq AB (.ptr r 1 0) H K=K (.sl 1 s 0 l.length):= λK=>by
   obtain⟨_,_,hl|hl⟩:=h.at_<;>exact AY (p:=1) rfl hl (by simp)
  have e2:∀K,B4t (.sl 1 s 0 l.length) K=K (.ptr s 0 0):= λK=>by
   have:B4t (.sl 1 s 0 l.length) K=ck (Nat.beq 1 1&&Nat.blt 0 l.length) (K (.ptr s 0 0)):=rfl
   rw[this]
   have:(Nat.beq 1 1&&Nat.blt 0 l.length)=true:=by simp;omega
   rw[this];rfl
  have e3:∀K,AP AB (.sl 1 s 0 l.length) K=K (I l.length):= λK=>id rfl
  have e4:∀K:KV,B1r AU (.ptr s 0 0) (I l.length) H K=K (S l) (upd H s .gone):= λK=>by
   have:B1r AU (.ptr s 0 0) (I l.length) H K=iN (l.length:Int) λn=>Kj H s λx=>KF x λE cs=>ck (Nat.beq E AU&&(Nat.blt 0 n&&Nat.blt n 9223372036854775807)) (FT n (Dp (Nat.add 0 0) cs) λbs=>fu8 bs λl=>Og H s .gone λH'=>K (.v (.string ⟨⟨l⟩⟩)) H'):=rfl
   rw[this,JW,Cl hs]
   show ck (Nat.beq AU AU&&(Nat.blt 0 l.length&&Nat.blt l.length 9223372036854775807)) _=_
   have g:(Nat.beq AU AU&&(Nat.blt 0 l.length&&Nat.blt l.length 9223372036854775807))=true:=by simp;omega
   rw[g]
   show FT l.length (Dp 0 (Ki l)) _=_
   have f:∀(l:List UInt8) (K:List UInt8→Al),fu8 (Ki l) K=K l:= λl=>by
    induction l with
    |nil=>intro K;rfl
    |cons b l ih=>
     intro K
     have e:fu8 (Ki (b::l)) K=iN (b.toNat:Int) λn=>fu8 (Ki l) λl=>K (UInt8.ofNat n::l):=rfl
     rw[e,JW,ih]
     simp
   rw[C8,MS _ _ _ (by rw[l1n,Ny];exact O8 _),l1n,l1z (by rw[Ny];exact O8 _),f,D8]
  simp only[Hh,BJ,a1,e1,e2,e3,e4,Co]
end
end
section
variable {L n:Nat} {K:KV} {x:Al}
def tmB (t:Int×Int):List UInt8:=GT [t.1]++OI [(qn t.2,qd t.2)]
def Ox (ts:ZQ):List UInt8:=(ts.map tmB).flatten
theorem A3b (l:ZQ) {i:Nat} (h:i<l.length):Ox (l.take (i+1))=Ox (l.take i)++tmB l[i]:=by
 unfold Ox
 rw[l04 h,l01,List.flatten_append]
 simp only[ZY,List.map_nil,l18,List.flatten_nil,l1o]
theorem US {z:Int} {H:Hp} {K:KV}:Fh CZ 1 Ab 1 [(0,1,I z)] H K=K (.sl 1 (A6 H) 0 1) ((A6 H,.cells false CZ (Et [z]))::H):=by
 have e:Fh CZ 1 Ab 1 [(0,1,I z)] H K=HE H λs=>K (.sl 1 s 0 1) ((s,.cells false CZ (Et [z]))::H):=rfl
 rw[e,BX]
theorem Xk {z:List UInt8} {H:Hp} {K:KV}:Fh A4 1 Ae 1 [(0,1,S z)] H K=K (.sl 1 (A6 H) 0 1) ((A6 H,.cells false A4 (Bn [z]))::H):=by
 have e:Fh A4 1 Ae 1 [(0,1,S z)] H K=HE H λs=>K (.sl 1 s 0 1) ((s,.cells false A4 (Bn [z]))::H):=rfl
 rw[e,BX]
theorem A57 {a b:List UInt8} {H:Hp} {K:KV}:Fh AE 2 Ap 1 [(0,2,.agg [S a,S b])] H K=K (.sl 2 (A6 H) 0 1) ((A6 H,.cells false AE (([(a,b)]:Rts).flatMap rtC))::H):=by
 have e:Fh AE 2 Ap 1 [(0,2,.agg [S a,S b])] H K=HE H λs=>K (.sl 2 s 0 1) ((s,.cells false AE (([(a,b)]:Rts).flatMap rtC))::H):=rfl
 rw[e,BX]
theorem C5p {r c:Nat} {ks:List (Nat×Row)} {ts:ZQ} {k138:AV→AV→Hp→Al} (ht:TmsOk ts) (hL:100<L) {b:Nat} (hb:b<100000000) {l:List UInt8}
 (hx:∀v' H',Bd r ks (b+100000*ts.length) (l++Ox ts) v' H'→k138 (.ptr c 0 0) (.ptr r 0 0) H'=x):∀(f i:Nat) (v:AV) (H:Hp),i≤ts.length→ts.length-i<f→Bd r ks (b+100000*i) (l++Ox (ts.take i)) v H→
 HR (L+20) (rt (L+20) (n+11)) K k138 f (.ptr c 0 0) (.ptr r 0 0) (Fq ts) (I ts.length) (I i) H=x:=by
 have hlen:=ht.len
 intro f
 induction f with
 |zero=>intro i v H _ h;omega
 |succ f ih=>
  intro i v H hi hf hB
  rw[T4]
  unfold Kh Ar
  by_cases h:i<ts.length
  ·have hr:=ht.rng _ (QS h)
   rw[FW (by omega),Dn,Tb h,lTm,Bf (cs:=[zI,zS,zS]) rfl]
   have hn0:=A1 (H:=H) (x:= .cells true AQ [zI,zS,zS]) (by simp)
   rw[B7 (vs:=Nf ts[i]) hn0 rfl rfl rfl]
   have hr1:=AC (q:=true) (e:=AQ) (cs:=Nf ts[i]) hn0
   have hrlt:=hB.bld.lt
   have hB0:=(hB.bld.cons (y:= .cells true AQ [zI,zS,zS])).upd (s:=A6 H) (y:= .cells true AQ (Nf ts[i])) (by omega) (λhu=>by have:=hB.bld.vlt hu;omega)
   have hB1:Bd r ((A6 H,.cells true AQ (Nf ts[i]))::ks) (b+100000*i) (l++Ox (ts.take i)) v (upd ((A6 H,Row.cells true AQ [zI,zS,zS])::H) (A6 H) (.cells true AQ (Nf ts[i]))):=⟨hB0,λp hp=>by
    rcases WG.1 hp with rfl|hp
    ·exact⟨hr1,by simp only;omega,λhu=>by have:=hB.bld.vlt hu;omega⟩
    ·obtain⟨p1,p2,p3⟩:=hB.ks p hp
     have:=hB.bld.wf.lt p1
     exact⟨by rw[Au (by omega)];exact Bj this p1,p2,p3⟩,hB.sz⟩
   generalize upd ((A6 H,Row.cells true AQ [zI,zS,zS])::H) (A6 H) (.cells true AQ (Nf ts[i]))=H1 at hr1 hB1
   generalize A6 H=t at hr1 hB1
   have g0:∀K:AV→Al,AN 0 (.ptr t 0 0) K=K (.ptr t 0 0):= λK=>id rfl
   have g1:∀K:AV→Al,AN 1 (.ptr t 0 0) K=K (.ptr t 1 0):= λK=>id rfl
   have m0:∀K,Aq Ab (.ptr t 0 0) H1 K=K (I ts[i].1):= λK=>AY (p:=0) rfl hr1 (show 0<3 by decide)
   rw[g0,m0,US]
   refine Y6 (n:=n+1) hB1 hL (by omega) [ts[i].1] (by simp) (by simp;omega) λv2 H2 hB2=> ?_
   have hr2:Ax H2 t=some (.cells true AQ (Nf ts[i])):=(hB2.ks (t,.cells true AQ (Nf ts[i])) (by simp)).1
   have m1:∀K,Aq Ap (.ptr t 1 0) H2 K=K (.agg (qa ts[i].2)):= λK=>EX (p:=1) rfl hr2 (show 3≤3 from O8 _)
   rw[g1,m1,A57]
   have hq1:=TN (z:=ts[i].2) (by omega) (by omega)
   have hq2:=TO ts[i].2
   refine A58 (n:=n) hB2 hL (by omega) [(qn ts[i].2,qd ts[i].2)] (by simp) (by simp;omega) λv3 H3 hB3=> ?_
   rw[DS (by omega)]
   have e1:l++Ox (ts.take i)++GT [ts[i].1]++OI [(qn ts[i].2,qd ts[i].2)]=l++Ox (ts.take (i+1)):=by
    rw[A3b ts h];simp[tmB]
   have e2:b+100000*i+50000+50000=b+100000*(i+1):=by omega
   have hB4:=hB3.less
   rw[e1,e2] at hB4
   exact ih (i+1) v3 H3 (by omega) (by omega) hB4
  ·rw[FX (by omega),BD]
   have:i=ts.length:=by omega
   subst this
   rw[l06] at hB
   exact hx v H hB
end
section
variable {L n:Nat}
def Rv (r:RD) (vd:Int):List UInt8:=GT [r.k]++OI [(r.a1,r.a2),(r.b1,r.b2),(r.c1,r.c2),(r.d1,r.d2)]++GT [vd]
def Lc (kd:Int) (m:ND) (un ca cb:List UInt8) (ts:ZQ) (ra rb:List UInt8) (ps:List (List UInt8)) (pt:List UInt8) (tail:List UInt8):List UInt8:=
 []++GT [kd,m.lab,m.num,m.itm,m.tim,m.day]++FZ [un]++OI [(ca,cb)]++GT [(ts.length:Int)]++Ox ts++OI [(ra,rb)]++GT [(ps.length:Int)]++FZ ps++FZ [pt]++tail
theorem B5C:PS (rt (L+20) (n+40)) Vq [.agg [I 0,AO,AO]] (.tup [S [],I 200]):=B2 (λH K=>by kernel_rfl) (by kernel_rfl)
theorem B5F:PS (rt (L+20) (n+40)) NP [.agg [I 0,AO,AO]] (Bo true):=B2 (λH K=>by kernel_rfl) (by kernel_rfl)
def DO (ps:List (List UInt8)):AV:=match ps with
 |[]=>AO
 |p::ps=> .list (p::ps).length (Bn (p::ps))
section
variable {m:ND} {u o:UD} {ca cb ra rb:List UInt8} {T P ins nds:AV} {kd id vd:Int} {r:RD} {c:Nat} {H:Hp} {K:AV→Al}
abbrev Jj (kd:Int) (m:ND) (u:UD) (ca cb:List UInt8) (T:AV) (ra rb:List UInt8) (P:AV) (id:Int) (ins nds:AV) (o:UD) (r:RD) (vd:Int):Row:= .cells true Aj (DD kd m u ca cb T ra rb P id ins nds o r vd)
theorem PV (hT:Sl T) (hP:Sl P) (hI:Sl ins) (hN:Sl nds):(DD kd m u ca cb T ra rb P id ins nds o r vd).all AV.one=true:=by
 rcases hT with rfl|⟨_,_,rfl⟩<;>rcases hP with rfl|⟨_,_,rfl⟩<;>rcases hI with rfl|⟨_,_,rfl⟩<;>rcases hN with rfl|⟨_,_,rfl⟩<;>rfl
theorem Td (hT:Sl T) (hP:Sl P) (hI:Sl ins) (hN:Sl nds):OM true depth [.agg (DD kd m u ca cb T ra rb P id ins nds o r vd)] [.agg (DD kd m u ca cb T ra rb P id ins nds o r vd)] H false:=by
 rcases hT with rfl|⟨_,_,rfl⟩<;>rcases hP with rfl|⟨_,_,rfl⟩<;>rcases hI with rfl|⟨_,_,rfl⟩<;>rcases hN with rfl|⟨_,_,rfl⟩<;>exact λK=>by kernel_rfl
theorem Sn (hI:Sl ins) (hN:Sl nds):OM true depth [.agg (Bx id ins nds o)] [.agg (Bx id ins nds o)] H false:=by
 rcases hI with rfl|⟨_,_,rfl⟩<;>rcases hN with rfl|⟨_,_,rfl⟩<;>exact λK=>by kernel_rfl
theorem cA (hl:Ax H c=some (Jj kd m u ca cb T ra rb P id ins nds o r vd)):Aq Ac (.ptr c 0 0) H K=K (.agg (DD kd m u ca cb T ra rb P id ins nds o r vd)):=Bm rfl rfl hl
theorem cI0 (hl:Ax H c=some (Jj kd m u ca cb T ra rb P id ins nds o r vd)):Aq Ab (.ptr c 0 0) H K=K (I kd):=AY (p:=0) rfl hl (show 0<68 by decide)
theorem cI1 (hl:Ax H c=some (Jj kd m u ca cb T ra rb P id ins nds o r vd)):Aq Ab (.ptr c 1 0) H K=K (I m.lab):=AY (p:=1) rfl hl (show 1<68 by decide)
theorem cI2 (hl:Ax H c=some (Jj kd m u ca cb T ra rb P id ins nds o r vd)):Aq Ab (.ptr c 2 0) H K=K (I m.num):=AY (p:=2) rfl hl (show 2<68 by decide)
theorem cI3 (hl:Ax H c=some (Jj kd m u ca cb T ra rb P id ins nds o r vd)):Aq Ab (.ptr c 3 0) H K=K (I m.itm):=AY (p:=3) rfl hl (show 3<68 by decide)
theorem cI4 (hl:Ax H c=some (Jj kd m u ca cb T ra rb P id ins nds o r vd)):Aq Ab (.ptr c 4 0) H K=K (I m.tim):=AY (p:=4) rfl hl (show 4<68 by decide)
theorem cI5 (hl:Ax H c=some (Jj kd m u ca cb T ra rb P id ins nds o r vd)):Aq Ab (.ptr c 5 0) H K=K (I m.day):=AY (p:=5) rfl hl (show 5<68 by decide)
theorem cU (hl:Ax H c=some (Jj kd m u ca cb T ra rb P id ins nds o r vd)):Aq Ag (.ptr c 6 0) H K=K (.agg (Cc u)):=EX (p:=6) rfl hl (show 26≤68 by decide)
theorem cC (hl:Ax H c=some (Jj kd m u ca cb T ra rb P id ins nds o r vd)):Aq Ap (.ptr c 26 0) H K=K (.agg ([S ca,S cb])):=EX (p:=26) rfl hl (show 28≤68 by decide)
theorem cT (hl:Ax H c=some (Jj kd m u ca cb T ra rb P id ins nds o r vd)):Aq A8 (.ptr c 28 0) H K=K (T):=AY (p:=28) rfl hl (show 28<68 by decide)
theorem cR (hl:Ax H c=some (Jj kd m u ca cb T ra rb P id ins nds o r vd)):Aq Ap (.ptr c 29 0) H K=K (.agg ([S ra,S rb])):=EX (p:=29) rfl hl (show 31≤68 by decide)
theorem cP (hl:Ax H c=some (Jj kd m u ca cb T ra rb P id ins nds o r vd)):Aq Ad (.ptr c 31 0) H K=K (P):=AY (p:=31) rfl hl (show 31<68 by decide)
theorem cPr (hl:Ax H c=some (Jj kd m u ca cb T ra rb P id ins nds o r vd)):Aq AA (.ptr c 32 0) H K=K (.agg (Bx id ins nds o)):=EX (p:=32) rfl hl (show 55≤68 by decide)
theorem cRk (hl:Ax H c=some (Jj kd m u ca cb T ra rb P id ins nds o r vd)):Aq Ab (.ptr c 55 0) H K=K (I r.k):=AY (p:=55) rfl hl (show 55<68 by decide)
theorem cR1 (hl:Ax H c=some (Jj kd m u ca cb T ra rb P id ins nds o r vd)):Aq Ap (.ptr c 56 0) H K=K (.agg ([S r.a1,S r.a2])):=EX (p:=56) rfl hl (show 58≤68 by decide)
theorem cR2 (hl:Ax H c=some (Jj kd m u ca cb T ra rb P id ins nds o r vd)):Aq Ap (.ptr c 58 0) H K=K (.agg ([S r.b1,S r.b2])):=EX (p:=58) rfl hl (show 60≤68 by decide)
theorem cR3 (hl:Ax H c=some (Jj kd m u ca cb T ra rb P id ins nds o r vd)):Aq Ap (.ptr c 60 0) H K=K (.agg ([S r.c1,S r.c2])):=EX (p:=60) rfl hl (show 62≤68 by decide)
theorem cR4 (hl:Ax H c=some (Jj kd m u ca cb T ra rb P id ins nds o r vd)):Aq Ap (.ptr c 62 0) H K=K (.agg ([S r.d1,S r.d2])):=EX (p:=62) rfl hl (show 64≤68 by decide)
theorem cV (hl:Ax H c=some (Jj kd m u ca cb T ra rb P id ins nds o r vd)):Aq Ab (.ptr c 64 0) H K=K (I vd):=AY (p:=64) rfl hl (show 64<68 by decide)
theorem cS (hl:Ax H c=some (Jj kd m u ca cb T ra rb P id ins nds o r vd)):Aq Jx (.ptr c 65 0) H K=K (.agg ([I 0,AO,AO])):=EX (p:=65) rfl hl (show 68≤68 by decide)
theorem fA {c j k:Nat} {K:AV→Al}:AN j (.ptr c k 0) K=K (.ptr c (k+j) 0):=by
 have e:AN j (.ptr c k 0) K=fN (Nat.add k j) λq=>K (.ptr c q 0):=rfl
 rw[e,DI];rfl
end
theorem Wj (ts:ZQ) (h:∀t∈ts,(qn t.2).length<390∧(qd t.2).length<390):(Ox ts).length≤900*ts.length:=by
 induction ts with
 |nil=>simp[Ox]
 |cons t l ih=>
  have h1:=ih (λt ht=>h t (by simp[ht]))
  have h2:=Ei [t.1]
  have h3:=Mb [(qn t.2,qd t.2)] (by simp;exact h t (by simp))
  simp only[Ox,ZY,l18,FA,Lj,Ot,tmB] at h1 h2 h3⊢
  omega
theorem Bd.tms0 {r b:Nat} {ks:List (Nat×Row)} {l:List UInt8} {v:AV} {H:Hp} (ts:ZQ) (h:Bd r ks b l v H):Bd r ks (b+100000*0) (l++Ox (ts.take 0)) v H:=by
 rw[show Ox (ts.take 0)=[] from rfl,l1o];exact h
theorem B7P (z:Int):0<(enc z).length:=by
 unfold enc B4q
 split<;>simp
theorem B84 {a b c d e f:Int} {H:Hp} {K:KV}:Fh CZ 1 Ab 6 [(0,1,I a),(1,1,I b),(2,1,I c),(3,1,I d),(4,1,I e),(5,1,I f)] H K=K (.sl 1 (A6 H) 0 6) ((A6 H,.cells false CZ (Et [a,b,c,d,e,f]))::H):=by
 have g:Fh CZ 1 Ab 6 [(0,1,I a),(1,1,I b),(2,1,I c),(3,1,I d),(4,1,I e),(5,1,I f)] H K=HE H λs=>K (.sl 1 s 0 6) ((s,.cells false CZ (Et [a,b,c,d,e,f]))::H):=rfl
 rw[g,BX]
theorem B83 {a1 a2 b1 b2 c1 c2 d1 d2:List UInt8} {H:Hp} {K:KV}:Fh AE 2 Ap 4 [(0,2,.agg [S a1,S a2]),(2,2,.agg [S b1,S b2]),(4,2,.agg [S c1,S c2]),(6,2,.agg [S d1,S d2])] H K=K (.sl 2 (A6 H) 0 4) ((A6 H,.cells false AE (([(a1,a2),(b1,b2),(c1,c2),(d1,d2)]:Rts).flatMap rtC))::H):=by
 have g:Fh AE 2 Ap 4 [(0,2,.agg [S a1,S a2]),(2,2,.agg [S b1,S b2]),(4,2,.agg [S c1,S c2]),(6,2,.agg [S d1,S d2])] H K=HE H λs=>K (.sl 2 s 0 4) ((s,.cells false AE (([(a1,a2),(b1,b2),(c1,c2),(d1,d2)]:Rts).flatMap rtC))::H):=rfl
 rw[g,BX]
theorem Xb {ps:List (List UInt8)} {K:AV→Al}:AP Ad (DO ps) K=K (I ps.length):=by cases ps<;>exact id rfl
section
variable {m:ND} {u o:UD} {ca cb ra rb un pt:List UInt8} {ts:ZQ} {ps:List (List UInt8)} {ins nds:AV} {kd id vd pe:Int} {r:RD}
set_option maxHeartbeats 2000000 in
theorem A7J (hL:100<L) (hm:m.ok) (hkd:kd=1∨kd=2∨kd=3) (ht:TmsOk ts) (hI:Sl ins) (hN:Sl nds) (hp:ps.length≤6) (hpl:∀s∈ps,s.length<390) (hun:un.length<390) (hpt:pt.length<390)
 (hr:r.k=0∨r.k=1∨r.k=2∨r.k=3) (hrl:∀q∈[(r.a1,r.a2),(r.b1,r.b2),(r.c1,r.c2),(r.d1,r.d2)],q.1.length<390∧q.2.length<390) (hv:0≤vd∧vd≤3) (hcl:ca.length<10∧cb.length<10∧ra.length<10∧rb.length<10)
 (hst:LS (rt (L+20) (n+61)) Dg [.agg (DD kd m u ca cb (Fq ts) ra rb (DO ps) id ins nds o r vd)] (Bo true))
 (hup:PS (rt (L+20) (n+61)) Hn [.agg (Cc u)] (.tup [S un,I 0])) (hpp:LS (rt (L+20) (n+61)) EM [.agg (Bx id ins nds o)] (.tup [S pt,I pe])):
 CS (rt (L+20) (n+62)) IB [.agg (DD kd m u ca cb (Fq ts) ra rb (DO ps) id ins nds o r vd)] (.tup [S (Lc kd m un ca cb ts ra rb ps pt (if kd=3 then Rv r vd else[])),I 0]):=by
 intro K hK
 obtain⟨q1,q2,q3,q4,q5,q6,q7,q8,q9,q10⟩:=hm
 have hT:=Fw ts
 have hP:Sl (DO ps):=by cases ps with|nil=>exact .inl rfl|cons p l=>exact .inr ⟨_,_,rfl⟩
 have hlt:=ht.len
 rw[Uh]
 unfold KN Ba Ar CK
 rw[EY (PV hT hP hI hN)]
 have hc0:=A1 (H:=[]) (x:=Jj kd m u ca cb (Fq ts) ra rb (DO ps) id ins nds o r vd) (by simp)
 have w0:=BE (x:=Jj kd m u ca cb (Fq ts) ra rb (DO ps) id ins nds o r vd) Fv
 generalize ((A6 [],Jj kd m u ca cb (Fq ts) ra rb (DO ps) id ins nds o r vd)::([]:Hp))=H0 at hc0 w0
 generalize A6 []=c at hc0
 have hst':∀K,Ah (rt (L+20) (n+61)) Dg [.agg (DD kd m u ca cb (Fq ts) ra rb (DO ps) id ins nds o r vd)] H0 K=K (Bo true):= λK=>by rw[zO];exact hst false _ _ (Td hT hP hI hN) K
 rw[cA hc0,hst',ntT,BD]
 have f0:∀{j:Nat} {K:AV→Al},AN j (.ptr c 0 0) K=K (.ptr c j 0):= λ{j K}=>by rw[fA,Ln]
 rw[f0,cS hc0,B5C (n:=n+21),CW,CV,GF]
 simp only[show(!decide ((200:Int)=0))=true from rfl,gT,Co,f0,cS hc0]
 simp only[B5F (L:=L) (n:=n+21) H0,ntT,Co,Wu]
 rw[BD,Bf (cs:=[.v (.pointer none),zL]) rfl]
 have hrn:=A1 (H:=H0) (x:= .cells true Fy [.v (.pointer none),zL]) (by simp)
 have hclt:=w0.lt hc0
 have hB0:Bd (A6 H0) [(c,Jj kd m u ca cb (Fq ts) ra rb (DO ps) id ins nds o r vd)] 0 [] AO ((A6 H0,.cells true Fy [.v (.pointer none),zL])::H0):=
  ⟨⟨⟨_,.inl rfl,.inl hrn⟩,.inl ⟨rfl,rfl,rfl⟩,λ⟨_,_,_,h⟩=>(by cases h),BE w0⟩,λp hp=>by
   simp only[l2f] at hp
   subst hp
   exact⟨Bj hclt hc0,by simp only;omega,λ⟨_,_,_,h⟩=>(by cases h)⟩,O8 _⟩
 generalize ((A6 H0,Row.cells true Fy [.v (.pointer none),zL])::H0)=H1 at hB0
 generalize A6 H0=rw_ at hB0
 have crt:∀{b l v H},Bd rw_ [(c,Jj kd m u ca cb (Fq ts) ra rb (DO ps) id ins nds o r vd)] b l v H→Ax H c=some (Jj kd m u ca cb (Fq ts) ra rb (DO ps) id ins nds o r vd):= λh=>(h.ks (c,_) (l2f.2 rfl)).1
 have hl:=crt hB0
 simp only[Cp]
 rw[cI0 hl,cI1 hl,cI2 hl,cI3 hl,cI4 hl,cI5 hl,B84]
 refine Y6 (n:=n+51) hB0 hL (by decide) [kd,m.lab,m.num,m.itm,m.tim,m.day] (by simp) (by simp only[WG,List.mem_nil_iff,or_false];rintro z (rfl|rfl|rfl|rfl|rfl|rfl)<;>omega) λv2 H2 hB2=> ?_
 have hl:=crt hB2
 rw[cU hl,hup,CW,CV,Xk]
 refine B4W (n:=n+51) hB2 hL (by decide) [un] (by simp) (by simpa using hun) λv3 H3 hB3=> ?_
 have hl:=crt hB3
 have g0:∀{K:AV→Al},AN 0 (.ptr c 26 0) K=K (.ptr c 26 0):=_root_.id rfl
 have g2:∀{K:AV→Al},AN 2 (.ptr c 26 0) K=K (.ptr c 28 0):=_root_.id rfl
 have g3:∀{K:AV→Al},AN 3 (.ptr c 26 0) K=K (.ptr c 29 0):=_root_.id rfl
 rw[g0,cC hl,A57]
 refine A58 (n:=n+50) hB3 hL (by decide) [(ca,cb)] (by simp) (by simp;omega) λv4 H4 hB4=> ?_
 have hl:=crt hB4
 rw[g2,cT hl,NS,US]
 refine Y6 (n:=n+51) hB4 hL (by decide) [(ts.length:Int)] (by simp) (by simp;omega) λv5 H5 hB5=> ?_
 have hl:=crt hB5
 rw[g2,cT hl,NS]
 have e0:(AV.v (.int .i64 0))=I ((0:Nat):Int):=rfl
 rw[e0]
 refine C5p (n:=n+50) (c:=c) ht hL (b:=200000) (by decide) ?_ (L+20) 0 v5 H5 (by omega) (by omega) (hB5.tms0 ts)
 intro v6 H6 hB6
 simp only[f0]
 have hl:=crt hB6
 have hb6:200000+100000*ts.length≤800000:=by omega
 have hB6:Bd rw_ [(c,Jj kd m u ca cb (Fq ts) ra rb (DO ps) id ins nds o r vd)] 800000 _ v6 H6:=⟨hB6.bld,hB6.ks,l1m hB6.sz hb6⟩
 rw[g3,cR hl,A57]
 refine A58 (n:=n+50) hB6 hL (by decide) [(ra,rb)] (by simp) (by simp;omega) λv7 H7 hB7=> ?_
 have hl:=crt hB7
 rw[cP hl,Xb,US]
 refine Y6 (n:=n+51) hB7 hL (by decide) [(ps.length:Int)] (by simp) (by simp;omega) λv8 H8 hB8=> ?_
 have hl:=crt hB8
 rw[cP hl]
 refine C2I (n:=n+51) hB8 hL (by decide) ps (DO ps) (by cases ps with|nil=>exact .inr ⟨rfl,rfl⟩|cons p l=>exact .inl rfl) (by omega) hpl λv9 H9 hB9=> ?_
 have hl:=crt hB9
 have hpp':∀K,Ah (rt (L+20) (n+61)) EM [.agg (Bx id ins nds o)] H9 K=K (.tup [S pt,I pe]):= λK=>by rw[zO];exact hpp false _ _ (Sn hI hN) K
 rw[cPr hl,hpp',CW,CV,Xk]
 refine B4W (n:=n+51) hB9 hL (by decide) [pt] (by simp) (by simpa using hpt) λv10 H10 hB10=> ?_
 have hl:=crt hB10
 have hlen:∀tail:List UInt8,tail.length≤5000→(Lc kd m un ca cb ts ra rb ps pt tail).length≤32768∧0<(Lc kd m un ca cb ts ra rb ps pt tail).length:= λtail htl=>by
  have a1:=Ei [kd,m.lab,m.num,m.itm,m.tim,m.day]
  have a2:=Eh [un] (by simpa using hun)
  have a3:=Mb [(ca,cb)] (by simp;omega)
  have a4:=Ei [(ts.length:Int)]
  have a5:=Wj ts (λt h=>by have:=ht.rng t h;have:=TN (z:=t.2) (by omega) (by omega);have:=TO t.2;omega)
  have a6:=Mb [(ra,rb)] (by simp;omega)
  have a7:=Ei [(ps.length:Int)]
  have a8:=Eh ps hpl
  have a9:=Eh [pt] (by simpa using hpt)
  have a10:0<(GT [kd,m.lab,m.num,m.itm,m.tim,m.day]).length:=by
   have:=B7P kd
   simp only[GT,ZY,l18,FA];omega
  simp only[Lj,Ot] at a1 a2 a3 a4 a6 a7 a9
  simp only[Lc,FA,Ot]
  omega
 have fin:∀(tail:List UInt8) (b:Nat) (v:AV) (H:Hp),tail.length≤5000→(if kd=3 then Rv r vd else[])=tail→Bd rw_ [(c,Jj kd m u ca cb (Fq ts) ra rb (DO ps) id ins nds o r vd)] b (Lc kd m un ca cb ts ra rb ps pt tail) v H→
  (AN 0 (.ptr rw_ 0 0) λv96=>(rt (L+20) (n+61)).call FM [v96] H λv97 H98=>Go.Abs.Ak Ab .gtr v97 (.v (.int .i64 32768)) λv99=>
   Av v99 (K (.tup [.v (.string ⟨⟨[]⟩⟩),.v (.int .i64 210)]) H98) (AN 0 (.ptr rw_ 0 0) λv100=>(rt (L+20) (n+61)).call CO [v100] H98 λv101 H102=>K (.tup [v101,.v (.int .i64 0)]) H102))=some (.tup [S (Lc kd m un ca cb ts ra rb ps pt (if kd=3 then Rv r vd else[])),I 0],[]):= λtail b v H htl he hB=>by
  obtain⟨k1,k2⟩:=hlen tail htl
  have r0:∀{K:AV→Al},AN 0 (.ptr rw_ 0 0) K=K (.ptr rw_ 0 0):=_root_.id rfl
  rw[r0,C3i (n:=n+60) hB.bld,Ej,decide_eq_false (by omega),BD,r0]
  obtain⟨H',e⟩:=A5z (L:=L) (n:=n+60) hB.bld k2 (by omega)
  rw[e,he]
  rw[he] at hK
  exact hK _ _ (λb=>⟨false,λK=>by kernel_rfl⟩)
 rw[cI0 hl,Dz]
 by_cases h3:kd=3
 ·rw[decide_eq_true h3,Dn]
  have j0:∀{K:AV→Al},AN 0 (.ptr c 55 0) K=K (.ptr c 55 0):=_root_.id rfl
  have j1:∀{K:AV→Al},AN 1 (.ptr c 55 0) K=K (.ptr c 56 0):=_root_.id rfl
  have j3:∀{K:AV→Al},AN 3 (.ptr c 55 0) K=K (.ptr c 58 0):=_root_.id rfl
  have j5:∀{K:AV→Al},AN 5 (.ptr c 55 0) K=K (.ptr c 60 0):=_root_.id rfl
  have j7:∀{K:AV→Al},AN 7 (.ptr c 55 0) K=K (.ptr c 62 0):=_root_.id rfl
  rw[j0,cRk hl,US]
  refine Y6 (n:=n+51) hB10 hL (by decide) [r.k] (by simp) (by simp;omega) λv11 H11 hB11=> ?_
  have hl:=crt hB11
  rw[j1,cR1 hl,j3,cR2 hl,j5,cR3 hl,j7,cR4 hl,B83]
  refine A58 (n:=n+50) hB11 hL (by decide) [(r.a1,r.a2),(r.b1,r.b2),(r.c1,r.c2),(r.d1,r.d2)] (by simp) hrl λv12 H12 hB12=> ?_
  have hl:=crt hB12
  rw[cV hl,US]
  refine Y6 (n:=n+51) hB12 hL (by decide) [vd] (by simp) (by simp;omega) λv13 H13 hB13=> ?_
  refine fin (Rv r vd) (800000+50000+50000+50000+50000+50000+50000+50000) v13 H13 ?_ (by rw[if_pos h3]) ?_
  ·have a1:=Ei [r.k]
   have a2:=Mb [(r.a1,r.a2),(r.b1,r.b2),(r.c1,r.c2),(r.d1,r.d2)] hrl
   have a3:=Ei [vd]
   simp only[Lj,Ot] at a1 a2 a3
   simp only[Rv,FA]
   omega
  ·have:Lc kd m un ca cb ts ra rb ps pt (Rv r vd)=[]++GT [kd,m.lab,m.num,m.itm,m.tim,m.day]++FZ [un]++OI [(ca,cb)]++GT [(ts.length:Int)]++Ox ts++OI [(ra,rb)]++GT [(ps.length:Int)]++FZ ps++FZ [pt]++GT [r.k]++OI [(r.a1,r.a2),(r.b1,r.b2),(r.c1,r.c2),(r.d1,r.d2)]++GT [vd]:=by
    unfold Lc Rv;simp only[l0k]
   rw[this]
   exact hB13
 ·rw[decide_eq_false h3,BD]
  refine fin [] (800000+50000+50000+50000+50000) v10 H10 (by simp) (by rw[if_neg h3]) ?_
  have:Lc kd m un ca cb ts ra rb ps pt []=[]++GT [kd,m.lab,m.num,m.itm,m.tim,m.day]++FZ [un]++OI [(ca,cb)]++GT [(ts.length:Int)]++Ox ts++OI [(ra,rb)]++GT [(ps.length:Int)]++FZ ps++FZ [pt]:=by
   unfold Lc;rw[l1o]
  rw[this]
  exact hB10
end
end
end Go.Abs
end
