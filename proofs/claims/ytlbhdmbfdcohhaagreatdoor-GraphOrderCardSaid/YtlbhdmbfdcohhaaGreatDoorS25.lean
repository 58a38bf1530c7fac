import Derived.Test.YtlbhdmbfdcohhaaGreatDoorS23
import Derived.Test.YtlbhdmbfdcohhaaGreatDoorS24
set_option linter.all false
set_option maxHeartbeats 100000000
noncomputable section
namespace Go.Abs
open Go.RowKit Go.Proofs
set_option maxRecDepth 100000
section
variable {L n:Nat}
attribute [local irreducible] Ah rt Zu eBi eEq cnd Go.Abs.Ak Go.Abs.UY Aw
theorem B9G {t:Int×Int} (h: -8≤t.2∧t.2≤8∧t.2≠0):PS (rt (L+20) (n+41)) Hh [.agg (NO t)] (Bo false):=by
 refine CS.ps (λK hK=> ?_) (λH=> λK=>by kernel_rfl)
 have h1:PO (rt (L+20) (n+40)) Cs [.agg (qa t.2)] (Bo true):=(A0S (by omega) (by omega)).o
 have h2:PO (rt (L+20) (n+40)) Je [.agg (qa t.2)] (Bo false):=by
  have:=(B6a (L:=L) (n:=n) (z:=t.2) (by omega) (by omega)).o
  rw[decide_eq_false h.2.2] at this
  exact this
 rewrite [UH]
 unfold Lx BS Gb
 try rewrite [zO]
 try rewrite [bO]
 try rewrite [qO]
 try rewrite [cO]
 generalize rt (L+20) (n+40)=R at*
 conv=>lhs;whnf
 rewrite [h1]
 conv=>lhs;whnf
 rewrite [h2]
 conv=>lhs;whnf
 exact hK _ _ (λb=>⟨false,λK=>by kernel_rfl⟩)
abbrev A0R:AV:= .fn (.func Hh) [] []
abbrev B33:AV:= .fn (.func Jq) [] []
section
variable {ts:Tms} {K:KV} {x:Aj}
theorem lTm {t:Int×Int} {H:Hp} {K:AV→Aj}:Ar BM (.iptr (NO t)) H K=K (.agg (NO t)):=id rfl
theorem B7X {k4:Hp→Aj} {H:Hp} (ht:TmsOk ts):∀(f i:Nat),i≤ts.length→ts.length-i<f→
 CK (L+20) (rt (L+20) (n+41)) K k4 f (FC ts) A0R (I ts.length) (I i) H=k4 H:=by
 have hb:=ht.len
 intro f
 induction f with
 |zero=>intro i _ h;omega
 |succ f ih=>
  intro i hi hf
  rw[IK]
  unfold DE Av
  by_cases h:i<ts.length
  ·have hr:=ht.rng _ (QE h)
   rw[FW (by omega),De,Ts h,lTm]
   have ez:∀K,Dy (E (L+20)) (rt (L+20) (n+41)) A0R [.agg (NO ts[i])] H K=Ah (rt (L+20) (n+41)) Hh [.agg (NO ts[i])] H λv=>K v H:= λK=>by kernel_rfl
   rw[ez,B9G hr.2.2,Bz,D4 (by omega)]
   exact ih (i+1) (by omega) (by omega)
  ·rw[FE (by omega),Bz]
theorem A87 (ht:TmsOk ts):CS (rt (L+20) (n+43)) C5 [FC ts,A0R] (Bo false):=by
 have hb:=ht.len
 intro K hK
 rw[I2]
 unfold D1 Av
 have hi:CS (rt (L+20) (n+42)) DR [FC ts,A0R] (I (-1)):=by
  intro K hK
  rw[Jk]
  unfold DP Av
  simp only[BX]
  have e0:(AV.v (.int .i64 0))=I ((0:Nat):Int):=rfl
  rw[O0,e0,B7X ht _ 0 (by omega) (by omega)]
  exact hK _ _ (λb=>⟨false,λK=>by kernel_rfl⟩)
 rw[Ba (q:=false) hi (λK=>by cases ts<;>kernel_rfl),MR]
 exact hK _ _ (λb=>⟨false,λK=>by kernel_rfl⟩)
theorem B2G {t:Int×Int}:PS (rt (L+20) (n+1)) Jq [.agg (NO t)] (I t.1):=by
 refine CS.ps (λK hK=> ?_) (λH=> λK=>by kernel_rfl)
 rewrite [Xg]
 unfold OL
 try rewrite [zO]
 try rewrite [bO]
 try rewrite [qO]
 try rewrite [cO]
 generalize rt (L+20) (n+0)=R at*
 conv=>lhs;whnf
 exact hK _ _ (λb=>⟨false,λK=>by kernel_rfl⟩)
theorem C1w {k4:Hp→Aj} (ht:TmsOk ts) (hx:∀H,k4 H=x):∀(f i:Nat) (H:Hp),i≤ts.length→ts.length-i<f→Wf H→
 E0 (L+20) (rt (L+20) (n+1)) K k4 f (FC ts) B33 (FC ts) (I ts.length) (I i) H=x:=by
 have hb:=ht.len
 intro f
 induction f with
 |zero=>intro i H _ h;omega
 |succ f ih=>
  intro i H hi hf w
  rw[Nf]
  unfold Ga Bc BS Av Gb Dr
  by_cases h:i<ts.length
  ·have hr:=ht.rng _ (QE h)
   rw[FW (by omega),De,Ts h,lTm,Bi (cs:=[zI,zS,zS]) rfl]
   have hn0:=A1 (H:=H) (x:= .cells true AR [zI,zS,zS]) (by simp)
   rw[B7 (vs:=NO ts[i]) hn0 rfl rfl rfl]
   have hr1:=AB (q:=true) (e:=AR) (cs:=NO ts[i]) hn0
   have w1:=BR (r:=A2 H) (y:= .cells true AR (NO ts[i])) (Br (x:= .cells true AR [zI,zS,zS]) w)
   generalize upd ((A2 H,Row.cells true AR [zI,zS,zS])::H) (A2 H) (.cells true AR (NO ts[i]))=H1 at hr1 w1
   generalize A2 H=r at hr1
   have m1:∀K,Ar BM (.ptr r 0 0) H1 K=K (.agg (NO ts[i])):= λK=>Fs (p:=0) rfl hr1 (show 3≤3 from OV _)
   have ez:∀(t:Int×Int) (K:KV),Dy (E (L+20)) (rt (L+20) (n+1)) B33 [.agg (NO t)] H1 K=K (I t.1) H1:= λt K=>by
    have:Dy (E (L+20)) (rt (L+20) (n+1)) B33 [.agg (NO t)] H1 K=Ah (rt (L+20) (n+1)) Jq [.agg (NO t)] H1 λv=>K v H1:=by kernel_rfl
    rw[this,B2G]
   have i1:∀K,Go.Abs.Ak Ab .lss (I ts[i].1) (.v (.int .i64 1)) K=K (Bo false):= λK=>FE (by omega)
   have i2:∀K,Go.Abs.Ak Ab .gtr (I ts[i].1) (.v (.int .i64 1000000)) K=K (Bo false):= λK=>by rw[DM,decide_eq_false (by omega)]
   rw[m1,ez]
   simp only[i1,i2,gT,Cz,WV]
   by_cases hi0:0<i
   ·have i3:∀K,Go.Abs.Ak Ab .gtr (I (i:Int)) (.v (.int .i64 0)) K=K (Bo true):= λK=>by rw[DM,decide_eq_true (by omega)]
    have hi1:i-1<ts.length:=by omega
    have mm:∀K,eMM false (I ((i-1:Nat):Int)) (.v (.int .i64 0)) K=K (I ((i-1:Nat):Int)):= λK=>by
     have e:eMM false (I ((i-1:Nat):Int)) (.v (.int .i64 0)) K=ck (decide (IntKind.i64=IntKind.i64)) (@Bool.rec (λ_=>Aj) (K (.v (.int .i64 0))) (K (I ((i-1:Nat):Int))) (ile 0 ((i-1:Nat):Int))):=rfl
     rw[e,JZ,decide_eq_true (Int.natCast_nonneg _)];rfl
    have hasc:ts[i-1].1<ts[i].1:=(l20.1 ht.asc) (i-1) i hi1 h (by omega)
    have i7:∀K,Go.Abs.Ak Ab .geq (I ts[i-1].1) (I ts[i].1) K=K (Bo false):= λK=>by rw[MR,decide_eq_false (by omega)]
    simp only[i3,Cz,gT,A11 hi0 (by omega:i<1000000000),mm,Ts hi1,lTm,ez,i7,XO,WV]
    rw[Bz,D4 (by omega)]
    exact ih (i+1) H1 (by omega) (by omega) w1
   ·have i3:∀K,Go.Abs.Ak Ab .gtr (I (i:Int)) (.v (.int .i64 0)) K=K (Bo false):= λK=>by rw[DM,decide_eq_false (by omega)]
    simp only[i3,Cz,gT,gTF,XO,WV]
    rw[Bz,D4 (by omega)]
    exact ih (i+1) H1 (by omega) (by omega) w1
  ·rw[FE (by omega),Bz]
   exact hx H
theorem B0S (ht:TmsOk ts):CS (rt (L+20) (n+2)) E9 [FC ts,B33] (Bo true):=by
 have hb:=ht.len
 intro K hK
 rw[Nu]
 unfold Gr Av Gb
 simp only[BX]
 have e0:(AV.v (.int .i64 0))=I ((0:Nat):Int):=rfl
 rw[O0,e0]
 exact C1w ht (λH=>hK _ _ (λb=>⟨false,λK=>by kernel_rfl⟩)) (L+20) 0 [] (by omega) (by omega) FH
theorem A83 {c r:Int} (hc1: -80≤c) (hc2:c≤80) (hr1:0≤r) (hr2:r≤8) (ht:TmsOk ts):CS (rt (L+20) (n+44)) I6 [.agg (VK (qn c) (qd c) (FC ts) (qn r) (qd r))] (Bo true):=by
 intro K hK
 have hb:=ht.len
 have h1:PO (rt (L+20) (n+43)) Cs [.agg (qa c)] (Bo true):=(A0S (n:=n+3) (by omega) (by omega)).o
 have h2:PO (rt (L+20) (n+43)) Cs [.agg (qa r)] (Bo true):=(A0S (n:=n+3) (by omega) (by omega)).o
 have h3:PO (rt (L+20) (n+43)) Kc [.agg (qa r)] (I (if r=0 then 0 else 1)):=(B6b (n:=n+3) (by omega) (by omega)).o
 have h4:LS (rt (L+20) (n+43)) E9 [FC ts,B33] (Bo true):=(B0S (n:=n+41) ht).ls
 have h5:LS (rt (L+20) (n+43)) C5 [FC ts,A0R] (Bo false):=(A87 (n:=n) ht).ls
 have hz:ts=[]∨∃t l,ts=t::l:=by cases ts with|nil=>exact .inl rfl|cons t l=>exact .inr ⟨t,l,rfl⟩
 rcases hz with rfl|⟨t,l,rfl⟩
 all_goals
  rewrite [Y5]
  unfold Qi Bc Av Dr
  try rewrite [zO]
  try rewrite [bO]
  try rewrite [qO]
  try rewrite [cO]
  generalize rt (L+20) (n+43)=R at*
  conv=>lhs;whnf
  rewrite [h1]
  conv=>lhs;whnf
  rewrite [h2]
  conv=>lhs;whnf
  rewrite [h3]
  conv=>lhs;whnf
  rewrite [B0i ?hc]
  case hc=>(split<;>omega)
  conv=>lhs;whnf
  rewrite [B0a ?hc]
  case hc=>(first|decide|(have hb':l.length+1≤6:=hb;show((l.length+1:Nat):Int)≤64;omega))
  conv=>lhs;whnf
  rewrite [(h4) false _ _ ?hq]
  case hq=>exact λK=>by kernel_rfl
  conv=>lhs;whnf
  rewrite [(h5) false _ _ ?hq]
  case hq=>exact λK=>by kernel_rfl
  conv=>lhs;whnf
  exact hK _ _ (λb=>⟨false,λK=>by kernel_rfl⟩)
end
end
section
variable {L n:Nat} {K:KV} {x:Aj}
structure Bld (r:Nat) (l:List UInt8) (v:AV) (H:Hp):Prop where
 at_:∃tw:Nat,(tw=FK∨tw=Ds)∧(Aq H r=some (.cells true tw [.v (.pointer none),v])∨Aq H r=some (.cells true tw [.ptr r 0 0,v]))
 sl:Bv H AY 1 v l.length (KD l)
 ne:¬AG v r
 wf:Wf H
structure Kp (r:Nat) (v:AV) (H:Hp) (v':AV) (H':Hp):Prop where
 keep:∀u y,Aq H u=some y→u≠r→¬AG v u→Aq H' u=some y
 new:∀u,AG v' u→AG v u∨A2 H≤u
 nx:A2 H≤A2 H'
theorem Kp.refl (r:Nat) (v:AV) (H:Hp):Kp r v H v H:=⟨λ_ _ h _ _=>h,λ_ h=> .inl h,OV _⟩
theorem Kp.trans {r:Nat} {v v' v'':AV} {H H' H'':Hp} (w:Wf H) (h:Kp r v H v' H') (k:Kp r v' H' v'' H''):Kp r v H v'' H'':=
 ⟨λu y hu h1 h2=>k.keep u y (h.keep u y hu h1 h2) h1 (λh3=>by
  rcases h.new u h3 with h4|h4
  ·exact h2 h4
  ·have:=w.lt hu;omega),
  λu hu=>by
   rcases k.new u hu with h1|h1
   ·exact h.new u h1
   ·exact .inr (by have:=h.nx;omega),l1m h.nx k.nx⟩
theorem Bld.one {r:Nat} {l:List UInt8} {v:AV} {H:Hp} (h:Bld r l v H):B8 v=[v]∧AV.one v=true:=by
 rcases h.sl with⟨rfl,_⟩|⟨a,b,rfl,_⟩<;>exact⟨rfl,rfl⟩
theorem Bld.upd {r s:Nat} {l:List UInt8} {v:AV} {H:Hp} {y:Row} (h:Bld r l v H) (h1:s≠r) (h2:¬AG v s):Bld r l v (upd H s y):=
 ⟨by rw[Ap h1.symm];exact h.at_,h.sl.lat h.wf (Lat.upd H s y (P:= λu=>u=s) rfl) (λu hu e=>h2 (e▸hu)),h.ne,BR h.wf⟩
theorem Bld.cons {r:Nat} {l:List UInt8} {v:AV} {H:Hp} {y:Row} (h:Bld r l v H):Bld r l v ((A2 H,y)::H):=by
 refine⟨?_,h.sl.lat h.wf (Lat.cons H y (λ_=>False)) (λ_ _ h=>h),h.ne,Br h.wf⟩
 obtain⟨tw,h0,h1|h1⟩:=h.at_
 ·exact⟨tw,h0,.inl (AS (h.wf.lt h1) h1)⟩
 ·exact⟨tw,h0,.inr (AS (h.wf.lt h1) h1)⟩
theorem A4p {r:Nat} {l s:List UInt8} {v:AV} {H:Hp} (h:Bld r l v H) (hb:l.length+s.length<1000000000)
 (hx:∀v' H',Bld r (l++s) v' H'→Kp r v H v' H'→K (.tup [I s.length,.v .nilIface]) H'=x):(rt (L+20) (n+2)).call B0 [.ptr r 0 0,S s] H K=x:=by
 rw[LJ]
 unfold Fq
 rw[MY]
 unfold FQ
 have a0:∀K:AV→Aj,AM 0 (.ptr r 0 0) K=K (.ptr r 0 0):= λK=>id rfl
 have a1:∀K:AV→Aj,AM 1 (.ptr r 0 0) K=K (.ptr r 1 0):= λK=>id rfl
 obtain⟨tw,htw,hat⟩:=h.at_
 have main:∀H1,Aq H1 r=some (.cells true tw [.ptr r 0 0,v])→Bld r l v H1→Kp r v H v H1→(Ko (.ptr r 0 0) λv3=>AM 1 v3 λv4=>Ar AC v4 H1 λv5=>DN AY 1 AE Ae v5 (S s) H1 λv6 H7=>
  Ko (.ptr r 0 0) λv8=>AM 1 v8 λv9=>CG AC v9 v6 H7 λH10=>AQ Ae (S s) λv12=>K (.tup [v12,.v .nilIface]) H10)=x:= λH1 hl1 hB1 hK1=>by
  rw[HL,a1,AP (p:=1) rfl hl1 (by simp)]
  show DN AY 1 AE Ae v (S s) H1 _=x
  obtain⟨v',H',h1,h2,h3,h4⟩:=apt (ie:=AE) (i2:=Ae) hB1.sl (λK=>C2U (K:=K)) (by rw[Og];omega) (B0y s) (by decide) rfl rfl (by show(l.length+s.length)*1≤_;omega) (by omega)
  rw[h1,HL,a1]
  have hl2:Aq H' r=some (.cells true tw [.ptr r 0 0,v]):=h4.keep hB1.wf r _ hl1 hB1.ne
  have hw2:=h4.wf hB1.wf
  rw[A5s] at h2
  have hone:B8 v'=[v']∧AV.one v'=true:=by
   rcases h2 with⟨rfl,_⟩|⟨a,b,rfl,_⟩<;>exact⟨rfl,rfl⟩
  rw[Ez (q:=true) (e:=tw) (cs:=[.ptr r 0 0,v]) hl2 (by simp) rfl hone.1 hone.2,NI rfl]
  have hr1:=hB1.wf.lt hl1
  have hne:¬AG v' r:= λhu=>by have:=h3 r hu;omega
  refine hx v' _ ⟨⟨tw,htw,.inr (AB hl2)⟩,?_,hne,BR hw2⟩ ?_
  ·rw[Fl]
   exact h2.lat hw2 (Lat.upd H' r _ (P:= λu=>u=r) rfl) (λu hu e=>hne (e▸hu))
  ·refine hK1.trans h.wf ⟨λu y hu hn hv=> ?_,λu hu=> .inr (by rw[h3 u hu];exact OV _),by rw[BY];exact h4.nx⟩
   rw[Ap hn];exact h4.keep hB1.wf u y hu hv
 rw[HL,a0]
 rcases hat with hl|hl
 ·rw[AP (p:=0) rfl hl (by simp)]
  show A09 BK Bx .eql (.v (.pointer none)) (.v (.pointer none)) _=x
  have e1:∀K:AV→Aj,A09 BK Bx .eql (.v (.pointer none)) (.v (.pointer none)) K=K (Bo true):= λK=>id rfl
  rw[e1,De]
  have e2:∀K:AV→Aj,B1R Bx (.ptr r 0 0) H K=K (.ptr r 0 0):= λK=>by
   have:B1R Bx (.ptr r 0 0) H K=JL H r λx=>Ky x λ_ cs=>GP cs 0 λcl=>ck (Nat.blt (Nat.add 0 0) cl&& !Nat.beq Bx.size 0) (K (.ptr r 0 0)):=rfl
   rw[this,BI hl];rfl
  have e3:∀K:AV→Aj,B1K A8O Ds (.ptr r 0 0) H K=K (.ptr r 0 0):= λK=>by
   have:B1K A8O Ds (.ptr r 0 0) H K=JL H r λx=>A1a x λq E cs=>GP cs 0 λcl=>ck (q&&B7K A8O E cl (Nat.add 0 0) Ds) (K (.ptr r 0 0)):=rfl
   rw[this,BI hl];rcases htw with rfl|rfl<;>rfl
  rw[e2,e3,HL,a0,Ez (q:=true) (e:=tw) (cs:=[.v (.pointer none),v]) hl (by simp) rfl rfl rfl]
  refine main _ (AB hl) ⟨⟨tw,htw,.inr (AB hl)⟩,h.sl.lat h.wf (Lat.upd H r _ (P:= λu=>u=r) rfl) (λu hu e=>h.ne (e▸hu)),h.ne,BR h.wf⟩ ⟨λu y hu hn _=>by rw[Ap hn];exact hu,λu hu=> .inl hu,by rw[BY];exact OV _⟩
 ·rw[AP (p:=0) rfl hl (by simp)]
  show A09 BK Bx .eql (.ptr r 0 0) (.v (.pointer none)) _=x
  have e1:∀K:AV→Aj,A09 BK Bx .eql (.ptr r 0 0) (.v (.pointer none)) K=K (Bo false):= λK=>id rfl
  rw[e1,Bz,HL,a0,AP (p:=0) rfl hl (by simp)]
  show A09 BK Bx .neq (.ptr r 0 0) (.ptr r 0 0) _=x
  have e2:∀K:AV→Aj,A09 BK Bx .neq (.ptr r 0 0) (.ptr r 0 0) K=K (Bo false):= λK=>by
   have:A09 BK Bx .neq (.ptr r 0 0) (.ptr r 0 0) K=ck (Nat.beq r r&&(Nat.beq (Nat.add 0 0) (Nat.add 0 0)&& !Nat.beq Bx.size 0)) (K (Bo false)):=rfl
   rw[this,Zj];rfl
  rw[e2,Bz]
  exact main H hl h (Kp.refl r v H)
end
section
variable {L n:Nat} {K:KV} {x:Aj}
def Sr (H:Hp) (r:Nat) (v a:AV) (cs:List AV):Prop:=a= .list cs.length cs∨(a=AA∧cs=[])∨∃k q e,a= .sl 1 k 0 cs.length∧Aq H k=some (.cells q e cs)∧k≠r∧¬AG v k
theorem Sr.kp {H H':Hp} {r:Nat} {v v' a:AV} {cs:List AV} (h:Sr H r v a cs) (w:Wf H) (k:Kp r v H v' H'):Sr H' r v' a cs:=by
 rcases h with h|h|⟨i,q,e,h1,h2,h3,h4⟩
 ·exact .inl h
 ·exact .inr (.inl h)
 ·refine .inr (.inr ⟨i,q,e,h1,k.keep i _ h2 h3 h4,h3,λhu=> ?_⟩)
  rcases k.new i hu with h5|h5
  ·exact h4 h5
  ·have:=w.lt h2;omega
theorem Sr.len {H:Hp} {r:Nat} {v a:AV} {cs:List AV} {t:TI} {e z:Nat} {K:AV→Aj} (h:Sr H r v a cs) (hd:t.d= .slice e z):AQ t a K=K (I cs.length):=by
 obtain⟨s,b,d,zr⟩:=t
 simp only at hd
 subst hd
 rcases h with rfl|⟨rfl,rfl⟩|⟨i,q,e,rfl,_⟩<;>exact id rfl
theorem Sr.get {H:Hp} {r i:Nat} {v a:AV} {cs:List AV} {t tt:TI} {e:Nat} {K:AV→Aj} (h:Sr H r v a cs) (hd:t.d= .slice e 1) (hs:tt.d.isAgg=false) (hi:i<cs.length):(B9 t a (I i) λp=>Ar tt p H K)=K (cs.getD i .dk):=by
 rcases h with rfl|⟨_,rfl⟩|⟨k,q,e',rfl,hl,_⟩
 ·rw[UX hd rfl (by omega) (by omega),XP,NJ hs]
 ·simp at hi
 ·rw[A5l hd (by omega) (by omega),XP,AP (p:=i) hs hl hi]
theorem C3U {r:Nat} {a:AV} {zs:List Int} {k2:Hp→Aj} (hl:zs.length<100) (hz:∀z∈zs, -10≤z∧z<390) {l:List UInt8} (hb:l.length<900000000) {v0:AV} {H0:Hp} (w0:Wf H0)
 (hx:∀v' H',Bld r (l++HD zs) v' H'→Kp r v0 H0 v' H'→k2 H'=x):∀(f i:Nat) (v:AV) (H:Hp),i≤zs.length→zs.length-i<f→Bld r (l++HD (zs.take i)) v H→Kp r v0 H0 v H→Sr H r v a (EG zs)→
 DS (L+20) (rt (L+20) (n+9)) K k2 f (.ptr r 0 0) a (I zs.length) (I i) H=x:=by
 intro f
 induction f with
 |zero=>intro i v H _ h;omega
 |succ f ih=>
  intro i v H hi hf hB hk hs
  rw[LH]
  unfold Fo Av
  by_cases h:i<zs.length
  ·have hzi:=hz zs[i] (QE h)
   have hlen:=E6 (zs.take i)
   have h5:(zs.take i).length≤zs.length:=by simp;omega
   have h6:=QP zs[i]
   rw[FW (by omega),De,hs.get rfl rfl (by simp[EG];omega),Qk h,A61 (L:=L) (n:=n+1) hzi.1 hzi.2,CZ,CY,HL]
   have a0:∀K:AV→Aj,AM 0 (.ptr r 0 0) K=K (.ptr r 0 0):= λK=>id rfl
   rw[a0]
   refine A4p (n:=n+7) hB (by rw[Fl];omega) λv' H' hB' hk'=> ?_
   rw[D4 (by omega)]
   rw[l0k,←A3X zs h] at hB'
   exact ih (i+1) v' H' (by omega) (by omega) hB' (hk.trans w0 hk') (hs.kp hB.wf hk')
  ·rw[FE (by omega),Bz]
   have:i=zs.length:=by omega
   subst this
   rw[l06] at hB
   exact hx v H hB hk
theorem B0T {r:Nat} {a v:AV} {zs:List Int} {l:List UInt8} {H:Hp} (hL:100<L) (hl:zs.length<100) (hz:∀z∈zs, -10≤z∧z<390) (hb:l.length<900000000) (hB:Bld r l v H) (hs:Sr H r v a (EG zs))
 (hx:∀v' H',Bld r (l++HD zs) v' H'→Kp r v H v' H'→K (.tup []) H'=x):(rt (L+20) (n+10)).call B6 [.ptr r 0 0,a] H K=x:=by
 rw[Mw]
 unfold F8 Av
 rw[hs.len rfl]
 simp only[BX]
 have e0:(AV.v (.int .i64 0))=I ((0:Nat):Int):=rfl
 have e1:(EG zs).length=zs.length:=by simp[EG]
 rw[e0,e1]
 exact C3U (n:=n) hl hz hb hB.wf hx (L+20) 0 v H (by omega) (by omega) (by simpa [HD] using hB) (Kp.refl r v H) hs
theorem C3S {r:Nat} {a:AV} {zs:List (List UInt8)} {k2:Hp→Aj} (hl:zs.length<100) (hz:∀z∈zs,z.length<390) {l:List UInt8} (hb:l.length<900000000) {v0:AV} {H0:Hp} (w0:Wf H0)
 (hx:∀v' H',Bld r (l++Gz zs) v' H'→Kp r v0 H0 v' H'→k2 H'=x):∀(f i:Nat) (v:AV) (H:Hp),i≤zs.length→zs.length-i<f→Bld r (l++Gz (zs.take i)) v H→Kp r v0 H0 v H→Sr H r v a (AK zs)→
 Ew (L+20) (rt (L+20) (n+9)) K k2 f (.ptr r 0 0) a (I zs.length) (I i) H=x:=by
 intro f
 induction f with
 |zero=>intro i v H _ h;omega
 |succ f ih=>
  intro i v H hi hf hB hk hs
  rw[MW]
  unfold FN Av
  by_cases h:i<zs.length
  ·have hzi:=hz zs[i] (QE h)
   have hlen:=E5 (zs.take i) (λs hs=>hz s (l24 hs))
   have h5:(zs.take i).length≤zs.length:=by simp;omega
   have h6:(A5f zs[i]).length≤400:=by unfold A5f;rw[Fl];have:=QP (zs[i].length:Int);omega
   rw[FW (by omega),De,hs.get rfl rfl (by simp[AK];omega),Nj h,A60 L n hzi,CZ,CY,HL]
   have a0:∀K:AV→Aj,AM 0 (.ptr r 0 0) K=K (.ptr r 0 0):= λK=>id rfl
   rw[a0]
   refine A4p (n:=n+7) hB (by rw[Fl];omega) λv' H' hB' hk'=> ?_
   rw[D4 (by omega)]
   rw[l0k,←A3W zs h] at hB'
   exact ih (i+1) v' H' (by omega) (by omega) hB' (hk.trans w0 hk') (hs.kp hB.wf hk')
  ·rw[FE (by omega),Bz]
   have:i=zs.length:=by omega
   subst this
   rw[l06] at hB
   exact hx v H hB hk
theorem A4r {r:Nat} {a v:AV} {zs:List (List UInt8)} {l:List UInt8} {H:Hp} (hL:100<L) (hl:zs.length<100) (hz:∀z∈zs,z.length<390) (hb:l.length<900000000) (hB:Bld r l v H) (hs:Sr H r v a (AK zs))
 (hx:∀v' H',Bld r (l++Gz zs) v' H'→Kp r v H v' H'→K (.tup []) H'=x):(rt (L+20) (n+10)).call BV [.ptr r 0 0,a] H K=x:=by
 rw[Nq]
 unfold Gp Av
 rw[hs.len rfl]
 simp only[BX]
 have e0:(AV.v (.int .i64 0))=I ((0:Nat):Int):=rfl
 have e1:(AK zs).length=zs.length:=by simp[AK]
 rw[e0,e1]
 exact C3S (n:=n) hl hz hb hB.wf hx (L+20) 0 v H (by omega) (by omega) (by simpa [Gz] using hB) (Kp.refl r v H) hs
end
section
variable {L n:Nat} {K:KV} {x:Aj}
abbrev Rts:=List (List UInt8×List UInt8)
def rtC (q:List UInt8×List UInt8):List AV:=[S q.1,S q.2]
def Ps (l:Rts):List UInt8:=(l.map λq=>Gz [q.1,q.2]).flatten
theorem B1G (l:Rts) {i:Nat} (h:i<l.length):Ps (l.take (i+1))=Ps (l.take i)++Gz [l[i].1,l[i].2]:=by
 unfold Ps
 rw[l04 h,Zl,List.flatten_append]
 simp only[XS,List.map_nil,l18,List.flatten_nil,XR]
theorem MP (l:Rts) (h:∀q∈l,q.1.length<390∧q.2.length<390):(Ps l).length≤800*l.length:=by
 induction l with
 |nil=>simp[Ps]
 |cons s l ih=>
  have h3:=ih (λs hs=>h s (by simp[hs]))
  have h4:=E5 [s.1,s.2] (by simp;exact h s (by simp))
  simp only[Ps,XS,l18,Fl,K9,OU] at h3 h4⊢
  omega
theorem Kp.cons {r:Nat} {v:AV} {H:Hp} {y:Row} (w:Wf H):Kp r v H v ((A2 H,y)::H):=⟨λu z hu _ _=>AS (w.lt hu) hu,λu hu=> .inl hu,l1p _⟩
theorem Bld.lt {r:Nat} {l:List UInt8} {v:AV} {H:Hp} (h:Bld r l v H):r<A2 H:=by obtain⟨_,_,h1|h1⟩:=h.at_<;>exact h.wf.lt h1
theorem Bld.vlt {r u:Nat} {l:List UInt8} {v:AV} {H:Hp} (h:Bld r l v H) (hu:AG v u):u<A2 H:=h.sl.lt h.wf hu
theorem C2X {r m i:Nat} {K:AV→Aj} (h:i<m):B9 HE (.sl 2 r 0 m) (I i) K=K (.ptr r (2*i) 0):=by
 have e1:B9 HE (.sl 2 r 0 m) (I (i:Int)) K=iN (i:Int) λk=>ck (Nat.blt k m) (fN (Nat.add 0 (Nat.mul k 2)) λq=>K (.ptr r q 0)):=rfl
 rw[e1,Jn,Di]
 have h2:Nat.blt i m=true:=by rw[UK];exact h
 have h3:Nat.add 0 (Nat.mul i 2)=2*i:=by show 0+i*2=_;omega
 rw[h2,h3];rfl
theorem C3T {r k e:Nat} {q:Bool} {rs:Rts} {k2:Hp→Aj} (hl:rs.length<100) (hz:∀z∈rs,z.1.length<390∧z.2.length<390) {l:List UInt8} (hL:100<L) (hb:l.length<800000000) {v0:AV} {H0:Hp} (w0:Wf H0) (hkr:k≠r)
 (hx:∀v' H',Bld r (l++Ps rs) v' H'→Kp r v0 H0 v' H'→k2 H'=x):∀(f i:Nat) (v:AV) (H:Hp),i≤rs.length→rs.length-i<f→Bld r (l++Ps (rs.take i)) v H→Kp r v0 H0 v H→Aq H k=some (.cells q e (rs.flatMap rtC))→¬AG v k→
 Ei (L+20) (rt (L+20) (n+10)) K k2 f (.ptr r 0 0) (.sl 2 k 0 rs.length) (I rs.length) (I i) H=x:=by
 intro f
 induction f with
 |zero=>intro i v H _ h;omega
 |succ f ih=>
  intro i v H hi hf hB hk hs hvk
  rw[Mk]
  unfold F5 Av
  by_cases h:i<rs.length
  ·have hzi:=hz rs[i] (QE h)
   have hlen:=MP (rs.take i) (λs hs=>hz s (l24 hs))
   have h5:(rs.take i).length≤rs.length:=by simp;omega
   rw[FW (by omega),De,C2X h]
   have hfl:=B4I rtC 2 (λ_=>rfl) rs
   have hfg:=A27 rtC 2 (λ_=>rfl) rs i h
   have hld:∀K,Ar Ax (.ptr k (2*i) 0) H K=K (.agg (rtC rs[i])):= λK=>by
    rw[Fs (p:=2*i) rfl hs (by rw[hfl];show 2*i+2≤_;omega),Nat.mul_comm 2 i]
    show K (.agg (((rs.flatMap rtC).drop (i*2)).take 2))=_
    rw[hfg]
   rw[hld,Bi (cs:=[zS,zS]) rfl]
   have hn0:=A1 (H:=H) (x:= .cells true Bb [zS,zS]) (by simp)
   rw[B7 (vs:=rtC rs[i]) hn0 rfl rfl rfl]
   have hr1:=AB (q:=true) (e:=Bb) (cs:=rtC rs[i]) hn0
   have hrlt:=hB.lt
   have hB1:=(hB.cons (y:= .cells true Bb [zS,zS])).upd (s:=A2 H) (y:= .cells true Bb (rtC rs[i])) (by omega) (λhu=>by have:=hB.vlt hu;omega)
   have hk1:Kp r v H v (upd ((A2 H,Row.cells true Bb [zS,zS])::H) (A2 H) (.cells true Bb (rtC rs[i]))):=⟨λu y hu h1 h2=>by
    have:=hB.wf.lt hu
    rw[Ap (by omega)];exact AS this hu,λu hu=> .inl hu,by rw[BY];exact l1p _⟩
   generalize upd ((A2 H,Row.cells true Bb [zS,zS])::H) (A2 H) (.cells true Bb (rtC rs[i]))=H1 at hr1 hB1 hk1
   generalize A2 H=t at hr1
   have g0:∀K:AV→Aj,AM 0 (.ptr t 0 0) K=K (.ptr t 0 0):= λK=>id rfl
   have g1:∀K:AV→Aj,AM 1 (.ptr t 0 0) K=K (.ptr t 1 0):= λK=>id rfl
   have m0:∀K,Ar Ae (.ptr t 0 0) H1 K=K (S rs[i].1):= λK=>AP (p:=0) rfl hr1 (show 0<2 by decide)
   have m1:∀K,Ar Ae (.ptr t 1 0) H1 K=K (S rs[i].2):= λK=>AP (p:=1) rfl hr1 (show 1<2 by decide)
   rw[g0,m0,g1,m1]
   have bs:∀K:KV,F3 Au 1 Ae 2 [(0,1,S rs[i].1),(1,1,S rs[i].2)] H1 K=K (.sl 1 (A2 H1) 0 2) ((A2 H1,.cells false Au (AK [rs[i].1,rs[i].2]))::H1):= λK=>by
    have e:F3 Au 1 Ae 2 [(0,1,S rs[i].1),(1,1,S rs[i].2)] H1 K=XA3 H1 λs=>K (.sl 1 s 0 2) ((s,.cells false Au (AK [rs[i].1,rs[i].2]))::H1):=rfl
    rw[e,BZ]
   rw[bs]
   have hB2:=hB1.cons (y:= .cells false Au (AK [rs[i].1,rs[i].2]))
   have hk2:Kp r v H v ((A2 H1,.cells false Au (AK [rs[i].1,rs[i].2]))::H1):=hk1.trans hB.wf (Kp.cons hB1.wf)
   refine A4r (n:=n) hL (zs:=[rs[i].1,rs[i].2]) (by simp) (by simp;exact hzi) (by rw[Fl];omega) hB2 (.inr (.inr ⟨A2 H1,false,Au,rfl,A1 (by simp),by have:=hB1.lt;omega,λhu=>by have:=hB1.vlt hu;omega⟩)) λv' H' hB' hk'=> ?_
   rw[D4 (by omega)]
   rw[l0k,←B1G rs h] at hB'
   have hk3:=hk2.trans hB.wf hk'
   refine ih (i+1) v' H' (by omega) (by omega) hB' (hk.trans w0 hk3) (hk3.keep k _ hs hkr hvk) (λhu=> ?_)
   rcases hk3.new k hu with h6|h6
   ·exact hvk h6
   ·have:=hB.wf.lt hs;omega
  ·rw[FE (by omega),Bz]
   have:i=rs.length:=by omega
   subst this
   rw[l06] at hB
   exact hx v H hB hk
theorem B2K {r k e:Nat} {q:Bool} {v:AV} {rs:Rts} {l:List UInt8} {H:Hp} (hL:100<L) (hl:rs.length<100) (hz:∀z∈rs,z.1.length<390∧z.2.length<390) (hb:l.length<800000000) (hB:Bld r l v H) (hkr:k≠r) (hs:Aq H k=some (.cells q e (rs.flatMap rtC))) (hvk:¬AG v k)
 (hx:∀v' H',Bld r (l++Ps rs) v' H'→Kp r v H v' H'→K (.tup []) H'=x):(rt (L+20) (n+11)).call Cm [.ptr r 0 0,.sl 2 k 0 rs.length] H K=x:=by
 rw[Na]
 unfold FT Av
 have el:∀K,AQ HE (.sl 2 k 0 rs.length) K=K (I rs.length):= λK=>id rfl
 rw[el]
 simp only[BX]
 have e0:(AV.v (.int .i64 0))=I ((0:Nat):Int):=rfl
 rw[e0]
 exact C3T (n:=n) hl hz hL hb hB.wf hkr hx (L+20) 0 v H (by omega) (by omega) (by simpa [Ps] using hB) (Kp.refl r v H) hs hvk
end
section
variable {L n:Nat} {K:KV} {x:Aj}
structure Bd (r:Nat) (ks:List (Nat×Row)) (b:Nat) (l:List UInt8) (v:AV) (H:Hp):Prop where
 bld:Bld r l v H
 ks:∀p∈ks,Aq H p.1=some p.2∧p.1≠r∧¬AG v p.1
 sz:l.length≤b
theorem Bd.step {r b b':Nat} {ks:List (Nat×Row)} {l l':List UInt8} {v v':AV} {H H':Hp} (h:Bd r ks b l v H) (hB:Bld r l' v' H') (k:Kp r v H v' H') (hs:l'.length≤b'):Bd r ks b' l' v' H':=
 ⟨hB,λp hp=>by
  obtain⟨h1,h2,h3⟩:=h.ks p hp
  refine⟨k.keep p.1 _ h1 h2 h3,h2,λhu=> ?_⟩
  rcases k.new p.1 hu with h4|h4
  ·exact h3 h4
  ·have:=h.bld.wf.lt h1;omega,hs⟩
theorem Bd.less {r b:Nat} {ks:List (Nat×Row)} {p:Nat×Row} {l:List UInt8} {v:AV} {H:Hp} (h:Bd r (p::ks) b l v H):Bd r ks b l v H:=⟨h.bld,λq hq=>h.ks q (List.mem_cons_of_mem _ hq),h.sz⟩
section
variable {r b:Nat} {ks:List (Nat×Row)} {l:List UInt8} {v:AV} {H:Hp}
theorem YY (h:Bd r ks b l v H) (hL:100<L) (hb:b<500000000) (zs:List Int) (hl:zs.length<100) (hz:∀z∈zs, -10≤z∧z<390) (hx:∀v' H',Bd r ks (b+50000) (l++HD zs) v' H'→K (.tup []) H'=x):
 (rt (L+20) (n+10)).call B6 [.ptr r 0 0,.sl 1 (A2 H) 0 zs.length] ((A2 H,.cells false DA (EG zs))::H) K=x:=by
 have h1:=h.sz
 have h2:=E6 zs
 have h3:(EG zs).length=zs.length:=by simp[EG]
 refine B0T (n:=n) hL hl hz (by omega) h.bld.cons (.inr (.inr ⟨A2 H,false,DA,by rw[h3],A1 (by simp),by have:=h.bld.lt;omega,λhu=>by have:=h.bld.vlt hu;omega⟩)) λv' H' hB hk=> ?_
 exact hx v' H' (h.step hB ((Kp.cons h.bld.wf).trans h.bld.wf hk) (by rw[Fl];omega))
theorem B5s (h:Bd r ks b l v H) (hL:100<L) (hb:b<500000000) (zs:List (List UInt8)) (hl:zs.length<100) (hz:∀z∈zs,z.length<390) (hx:∀v' H',Bd r ks (b+50000) (l++Gz zs) v' H'→K (.tup []) H'=x):
 (rt (L+20) (n+10)).call BV [.ptr r 0 0,.sl 1 (A2 H) 0 zs.length] ((A2 H,.cells false Au (AK zs))::H) K=x:=by
 have h1:=h.sz
 have h2:=E5 zs hz
 refine A4r (n:=n) hL hl hz (by omega) h.bld.cons (.inr (.inr ⟨A2 H,false,Au,by rw[Cr],A1 (by simp),by have:=h.bld.lt;omega,λhu=>by have:=h.bld.vlt hu;omega⟩)) λv' H' hB hk=> ?_
 exact hx v' H' (h.step hB ((Kp.cons h.bld.wf).trans h.bld.wf hk) (by rw[Fl];omega))
theorem C3g (h:Bd r ks b l v H) (hL:100<L) (hb:b<500000000) (zs:List (List UInt8)) (a:AV) (ha:a= .list zs.length (AK zs)∨(a=AA∧zs=[])) (hl:zs.length<100) (hz:∀z∈zs,z.length<390) (hx:∀v' H',Bd r ks (b+50000) (l++Gz zs) v' H'→K (.tup []) H'=x):
 (rt (L+20) (n+10)).call BV [.ptr r 0 0,a] H K=x:=by
 have h1:=h.sz
 have h2:=E5 zs hz
 refine A4r (n:=n) hL hl hz (by omega) h.bld ?_ λv' H' hB hk=>hx v' H' (h.step hB hk (by rw[Fl];omega))
 rcases ha with rfl|⟨rfl,rfl⟩
 ·exact .inl (by rw[Cr])
 ·exact .inr (.inl ⟨rfl,rfl⟩)
theorem A5v (h:Bd r ks b l v H) (hL:100<L) (hb:b<500000000) (rs:Rts) (hl:rs.length<50) (hz:∀z∈rs,z.1.length<390∧z.2.length<390) (hx:∀v' H',Bd r ks (b+50000) (l++Ps rs) v' H'→K (.tup []) H'=x):
 (rt (L+20) (n+11)).call Cm [.ptr r 0 0,.sl 2 (A2 H) 0 rs.length] ((A2 H,.cells false Bb (rs.flatMap rtC))::H) K=x:=by
 have h1:=h.sz
 have h2:=MP rs hz
 refine B2K (n:=n) hL (by omega) hz (by omega) h.bld.cons (by have:=h.bld.lt;omega) (A1 (by simp)) (λhu=>by have:=h.bld.vlt hu;omega) λv' H' hB hk=> ?_
 exact hx v' H' (h.step hB ((Kp.cons h.bld.wf).trans h.bld.wf hk) (by rw[Fl];omega))
theorem Bd.cons {y:Row} (h:Bd r ks b l v H):Bd r ks b l v ((A2 H,y)::H):=h.step h.bld.cons (Kp.cons h.bld.wf) h.sz
theorem C3X (h:Bld r l v H):(rt (L+20) (n+1)).call Gj [.ptr r 0 0] H K=K (I l.length) H:=by
 rw[QB]
 unfold I4
 have a1:∀K:AV→Aj,AM 1 (.ptr r 0 0) K=K (.ptr r 1 0):= λK=>id rfl
 rw[HL,a1]
 have e1:∀K,Ar AC (.ptr r 1 0) H K=K v:= λK=>by
  obtain⟨_,_,hl|hl⟩:=h.at_<;>exact AP (p:=1) rfl hl (by simp)
 rw[e1,JI rfl h.sl]
theorem A5Y (h:Bld r l v H) (h0:0<l.length) (hb:l.length<1000000000):∃H',∀K,(rt (L+20) (n+1)).call Do [.ptr r 0 0] H K=K (S l) H':=by
 rcases h.sl with⟨_,h1,_⟩|⟨s,q,rfl,hs,hc⟩
 ·omega
 ·refine⟨upd H s .gone,λK=> ?_⟩
  rw[OK]
  unfold GX
  have a1:∀K:AV→Aj,AM 1 (.ptr r 0 0) K=K (.ptr r 1 0):= λK=>id rfl
  have e1:∀K,Ar AC (.ptr r 1 0) H K=K (.sl 1 s 0 l.length):= λK=>by
   obtain⟨_,_,hl|hl⟩:=h.at_<;>exact AP (p:=1) rfl hl (by simp)
  have e2:∀K,B4X (.sl 1 s 0 l.length) K=K (.ptr s 0 0):= λK=>by
   have:B4X (.sl 1 s 0 l.length) K=ck (Nat.beq 1 1&&Nat.blt 0 l.length) (K (.ptr s 0 0)):=rfl
   rw[this]
   have:(Nat.beq 1 1&&Nat.blt 0 l.length)=true:=by simp;omega
   rw[this];rfl
  have e3:∀K,AQ AC (.sl 1 s 0 l.length) K=K (I l.length):= λK=>id rfl
  have e4:∀K:KV,B1J AY (.ptr s 0 0) (I l.length) H K=K (S l) (upd H s .gone):= λK=>by
   have:B1J AY (.ptr s 0 0) (I l.length) H K=iN (l.length:Int) λn=>JL H s λx=>Ky x λE cs=>ck (Nat.beq E AY&&(Nat.blt 0 n&&Nat.blt n 9223372036854775807)) (Gs n (Dv (Nat.add 0 0) cs) λbs=>fu8 bs λl=>LL H s .gone λH'=>K (.v (.string ⟨⟨l⟩⟩)) H'):=rfl
   rw[this,Jn,BI hs]
   show ck (Nat.beq AY AY&&(Nat.blt 0 l.length&&Nat.blt l.length 9223372036854775807)) _=_
   have g:(Nat.beq AY AY&&(Nat.blt 0 l.length&&Nat.blt l.length 9223372036854775807))=true:=by simp;omega
   rw[g]
   show Gs l.length (Dv 0 (KD l)) _=_
   have f:∀(l:List UInt8) (K:List UInt8→Aj),fu8 (KD l) K=K l:= λl=>by
    induction l with
    |nil=>intro K;rfl
    |cons b l ih=>
     intro K
     have e:fu8 (KD (b::l)) K=iN (b.toNat:Int) λn=>fu8 (KD l) λl=>K (UInt8.ofNat n::l):=rfl
     rw[e,Jn,ih]
     simp
   rw[CE,NB _ _ _ (by rw[l1n,Og];exact OV _),l1n,l1z (by rw[Og];exact OV _),f,Dm]
  simp only[HL,BN,a1,e1,e2,e3,e4,Cz]
end
end
section
variable {L n:Nat} {K:KV} {x:Aj}
def tmB (t:Int×Int):List UInt8:=HD [t.1]++Ps [(qn t.2,qd t.2)]
def OY (ts:Tms):List UInt8:=(ts.map tmB).flatten
theorem A3v (l:Tms) {i:Nat} (h:i<l.length):OY (l.take (i+1))=OY (l.take i)++tmB l[i]:=by
 unfold OY
 rw[l04 h,Zl,List.flatten_append]
 simp only[XS,List.map_nil,l18,List.flatten_nil,XR]
theorem Vw {z:Int} {H:Hp} {K:KV}:F3 DA 1 Ab 1 [(0,1,I z)] H K=K (.sl 1 (A2 H) 0 1) ((A2 H,.cells false DA (EG [z]))::H):=by
 have e:F3 DA 1 Ab 1 [(0,1,I z)] H K=XA3 H λs=>K (.sl 1 s 0 1) ((s,.cells false DA (EG [z]))::H):=rfl
 rw[e,BZ]
theorem XF {z:List UInt8} {H:Hp} {K:KV}:F3 Au 1 Ae 1 [(0,1,S z)] H K=K (.sl 1 (A2 H) 0 1) ((A2 H,.cells false Au (AK [z]))::H):=by
 have e:F3 Au 1 Ae 1 [(0,1,S z)] H K=XA3 H λs=>K (.sl 1 s 0 1) ((s,.cells false Au (AK [z]))::H):=rfl
 rw[e,BZ]
theorem A5u {a b:List UInt8} {H:Hp} {K:KV}:F3 Bb 2 Ax 1 [(0,2,.agg [S a,S b])] H K=K (.sl 2 (A2 H) 0 1) ((A2 H,.cells false Bb (([(a,b)]:Rts).flatMap rtC))::H):=by
 have e:F3 Bb 2 Ax 1 [(0,2,.agg [S a,S b])] H K=XA3 H λs=>K (.sl 2 s 0 1) ((s,.cells false Bb (([(a,b)]:Rts).flatMap rtC))::H):=rfl
 rw[e,BZ]
theorem C6b {r c:Nat} {ks:List (Nat×Row)} {ts:Tms} {k138:AV→AV→Hp→Aj} (ht:TmsOk ts) (hL:100<L) {b:Nat} (hb:b<100000000) {l:List UInt8}
 (hx:∀v' H',Bd r ks (b+100000*ts.length) (l++OY ts) v' H'→k138 (.ptr c 0 0) (.ptr r 0 0) H'=x):∀(f i:Nat) (v:AV) (H:Hp),i≤ts.length→ts.length-i<f→Bd r ks (b+100000*i) (l++OY (ts.take i)) v H→
 Iw (L+20) (rt (L+20) (n+11)) K k138 f (.ptr c 0 0) (.ptr r 0 0) (FC ts) (I ts.length) (I i) H=x:=by
 have hlen:=ht.len
 intro f
 induction f with
 |zero=>intro i v H _ h;omega
 |succ f ih=>
  intro i v H hi hf hB
  rw[TT]
  unfold KB Av
  by_cases h:i<ts.length
  ·have hr:=ht.rng _ (QE h)
   rw[FW (by omega),De,Ts h,lTm,Bi (cs:=[zI,zS,zS]) rfl]
   have hn0:=A1 (H:=H) (x:= .cells true AR [zI,zS,zS]) (by simp)
   rw[B7 (vs:=NO ts[i]) hn0 rfl rfl rfl]
   have hr1:=AB (q:=true) (e:=AR) (cs:=NO ts[i]) hn0
   have hrlt:=hB.bld.lt
   have hB0:=(hB.bld.cons (y:= .cells true AR [zI,zS,zS])).upd (s:=A2 H) (y:= .cells true AR (NO ts[i])) (by omega) (λhu=>by have:=hB.bld.vlt hu;omega)
   have hB1:Bd r ((A2 H,.cells true AR (NO ts[i]))::ks) (b+100000*i) (l++OY (ts.take i)) v (upd ((A2 H,Row.cells true AR [zI,zS,zS])::H) (A2 H) (.cells true AR (NO ts[i]))):=⟨hB0,λp hp=>by
    rcases UJ.1 hp with rfl|hp
    ·exact⟨hr1,by simp only;omega,λhu=>by have:=hB.bld.vlt hu;omega⟩
    ·obtain⟨p1,p2,p3⟩:=hB.ks p hp
     have:=hB.bld.wf.lt p1
     exact⟨by rw[Ap (by omega)];exact AS this p1,p2,p3⟩,hB.sz⟩
   generalize upd ((A2 H,Row.cells true AR [zI,zS,zS])::H) (A2 H) (.cells true AR (NO ts[i]))=H1 at hr1 hB1
   generalize A2 H=t at hr1 hB1
   have g0:∀K:AV→Aj,AM 0 (.ptr t 0 0) K=K (.ptr t 0 0):= λK=>id rfl
   have g1:∀K:AV→Aj,AM 1 (.ptr t 0 0) K=K (.ptr t 1 0):= λK=>id rfl
   have m0:∀K,Ar Ab (.ptr t 0 0) H1 K=K (I ts[i].1):= λK=>AP (p:=0) rfl hr1 (show 0<3 by decide)
   rw[g0,m0,Vw]
   refine YY (n:=n+1) hB1 hL (by omega) [ts[i].1] (by simp) (by simp;omega) λv2 H2 hB2=> ?_
   have hr2:Aq H2 t=some (.cells true AR (NO ts[i])):=(hB2.ks (t,.cells true AR (NO ts[i])) (by simp)).1
   have m1:∀K,Ar Ax (.ptr t 1 0) H2 K=K (.agg (qa ts[i].2)):= λK=>Fs (p:=1) rfl hr2 (show 3≤3 from OV _)
   rw[g1,m1,A5u]
   have hq1:=Um (z:=ts[i].2) (by omega) (by omega)
   have hq2:=Un ts[i].2
   refine A5v (n:=n) hB2 hL (by omega) [(qn ts[i].2,qd ts[i].2)] (by simp) (by simp;omega) λv3 H3 hB3=> ?_
   rw[D4 (by omega)]
   have e1:l++OY (ts.take i)++HD [ts[i].1]++Ps [(qn ts[i].2,qd ts[i].2)]=l++OY (ts.take (i+1)):=by
    rw[A3v ts h];simp[tmB]
   have e2:b+100000*i+50000+50000=b+100000*(i+1):=by omega
   have hB4:=hB3.less
   rw[e1,e2] at hB4
   exact ih (i+1) v3 H3 (by omega) (by omega) hB4
  ·rw[FE (by omega),Bz]
   have:i=ts.length:=by omega
   subst this
   rw[l06] at hB
   exact hx v H hB
end
section
variable {L n:Nat}
def RM (r:RD) (vd:Int):List UInt8:=HD [r.k]++Ps [(r.a1,r.a2),(r.b1,r.b2),(r.c1,r.c2),(r.d1,r.d2)]++HD [vd]
def LC (kd:Int) (m:ND) (un ca cb:List UInt8) (ts:Tms) (ra rb:List UInt8) (ps:List (List UInt8)) (pt:List UInt8) (tail:List UInt8):List UInt8:=
 []++HD [kd,m.lab,m.num,m.itm,m.tim,m.day]++Gz [un]++Ps [(ca,cb)]++HD [(ts.length:Int)]++OY ts++Ps [(ra,rb)]++HD [(ps.length:Int)]++Gz ps++Gz [pt]++tail
theorem B69:PS (rt (L+20) (n+40)) VM [.agg [I 0,AA,AA]] (.tup [S [],I 200]):=B4 (λH K=>by kernel_rfl) (by kernel_rfl)
theorem B6d:PS (rt (L+20) (n+40)) Oy [.agg [I 0,AA,AA]] (Bo true):=B4 (λH K=>by kernel_rfl) (by kernel_rfl)
def Ep (ps:List (List UInt8)):AV:=match ps with
 |[]=>AA
 |p::ps=> .list (p::ps).length (AK (p::ps))
section
variable {m:ND} {u o:UD} {ca cb ra rb:List UInt8} {T P ins nds:AV} {kd id vd:Int} {r:RD} {c:Nat} {H:Hp} {K:AV→Aj}
abbrev J7 (kd:Int) (m:ND) (u:UD) (ca cb:List UInt8) (T:AV) (ra rb:List UInt8) (P:AV) (id:Int) (ins nds:AV) (o:UD) (r:RD) (vd:Int):Row:= .cells true Al (Eb kd m u ca cb T ra rb P id ins nds o r vd)
theorem Q6 (hT:Sl T) (hP:Sl P) (hI:Sl ins) (hN:Sl nds):(Eb kd m u ca cb T ra rb P id ins nds o r vd).all AV.one=true:=by
 rcases hT with rfl|⟨_,_,rfl⟩<;>rcases hP with rfl|⟨_,_,rfl⟩<;>rcases hI with rfl|⟨_,_,rfl⟩<;>rcases hN with rfl|⟨_,_,rfl⟩<;>rfl
theorem Tv (hT:Sl T) (hP:Sl P) (hI:Sl ins) (hN:Sl nds):Pu true depth [.agg (Eb kd m u ca cb T ra rb P id ins nds o r vd)] [.agg (Eb kd m u ca cb T ra rb P id ins nds o r vd)] H false:=by
 rcases hT with rfl|⟨_,_,rfl⟩<;>rcases hP with rfl|⟨_,_,rfl⟩<;>rcases hI with rfl|⟨_,_,rfl⟩<;>rcases hN with rfl|⟨_,_,rfl⟩<;>exact λK=>by kernel_rfl
theorem SI (hI:Sl ins) (hN:Sl nds):Pu true depth [.agg (B2 id ins nds o)] [.agg (B2 id ins nds o)] H false:=by
 rcases hI with rfl|⟨_,_,rfl⟩<;>rcases hN with rfl|⟨_,_,rfl⟩<;>exact λK=>by kernel_rfl
theorem cA (hl:Aq H c=some (J7 kd m u ca cb T ra rb P id ins nds o r vd)):Ar Ad (.ptr c 0 0) H K=K (.agg (Eb kd m u ca cb T ra rb P id ins nds o r vd)):=Bq rfl rfl hl
theorem cI0 (hl:Aq H c=some (J7 kd m u ca cb T ra rb P id ins nds o r vd)):Ar Ab (.ptr c 0 0) H K=K (I kd):=AP (p:=0) rfl hl (show 0<68 by decide)
theorem cI1 (hl:Aq H c=some (J7 kd m u ca cb T ra rb P id ins nds o r vd)):Ar Ab (.ptr c 1 0) H K=K (I m.lab):=AP (p:=1) rfl hl (show 1<68 by decide)
theorem cI2 (hl:Aq H c=some (J7 kd m u ca cb T ra rb P id ins nds o r vd)):Ar Ab (.ptr c 2 0) H K=K (I m.num):=AP (p:=2) rfl hl (show 2<68 by decide)
theorem cI3 (hl:Aq H c=some (J7 kd m u ca cb T ra rb P id ins nds o r vd)):Ar Ab (.ptr c 3 0) H K=K (I m.itm):=AP (p:=3) rfl hl (show 3<68 by decide)
theorem cI4 (hl:Aq H c=some (J7 kd m u ca cb T ra rb P id ins nds o r vd)):Ar Ab (.ptr c 4 0) H K=K (I m.tim):=AP (p:=4) rfl hl (show 4<68 by decide)
theorem cI5 (hl:Aq H c=some (J7 kd m u ca cb T ra rb P id ins nds o r vd)):Ar Ab (.ptr c 5 0) H K=K (I m.day):=AP (p:=5) rfl hl (show 5<68 by decide)
theorem cU (hl:Aq H c=some (J7 kd m u ca cb T ra rb P id ins nds o r vd)):Ar Af (.ptr c 6 0) H K=K (.agg (Ck u)):=Fs (p:=6) rfl hl (show 26≤68 by decide)
theorem cC (hl:Aq H c=some (J7 kd m u ca cb T ra rb P id ins nds o r vd)):Ar Ax (.ptr c 26 0) H K=K (.agg ([S ca,S cb])):=Fs (p:=26) rfl hl (show 28≤68 by decide)
theorem cT (hl:Aq H c=some (J7 kd m u ca cb T ra rb P id ins nds o r vd)):Ar A7 (.ptr c 28 0) H K=K (T):=AP (p:=28) rfl hl (show 28<68 by decide)
theorem cR (hl:Aq H c=some (J7 kd m u ca cb T ra rb P id ins nds o r vd)):Ar Ax (.ptr c 29 0) H K=K (.agg ([S ra,S rb])):=Fs (p:=29) rfl hl (show 31≤68 by decide)
theorem cP (hl:Aq H c=some (J7 kd m u ca cb T ra rb P id ins nds o r vd)):Ar Ac (.ptr c 31 0) H K=K (P):=AP (p:=31) rfl hl (show 31<68 by decide)
theorem cPr (hl:Aq H c=some (J7 kd m u ca cb T ra rb P id ins nds o r vd)):Ar A9 (.ptr c 32 0) H K=K (.agg (B2 id ins nds o)):=Fs (p:=32) rfl hl (show 55≤68 by decide)
theorem cRk (hl:Aq H c=some (J7 kd m u ca cb T ra rb P id ins nds o r vd)):Ar Ab (.ptr c 55 0) H K=K (I r.k):=AP (p:=55) rfl hl (show 55<68 by decide)
theorem cR1 (hl:Aq H c=some (J7 kd m u ca cb T ra rb P id ins nds o r vd)):Ar Ax (.ptr c 56 0) H K=K (.agg ([S r.a1,S r.a2])):=Fs (p:=56) rfl hl (show 58≤68 by decide)
theorem cR2 (hl:Aq H c=some (J7 kd m u ca cb T ra rb P id ins nds o r vd)):Ar Ax (.ptr c 58 0) H K=K (.agg ([S r.b1,S r.b2])):=Fs (p:=58) rfl hl (show 60≤68 by decide)
theorem cR3 (hl:Aq H c=some (J7 kd m u ca cb T ra rb P id ins nds o r vd)):Ar Ax (.ptr c 60 0) H K=K (.agg ([S r.c1,S r.c2])):=Fs (p:=60) rfl hl (show 62≤68 by decide)
theorem cR4 (hl:Aq H c=some (J7 kd m u ca cb T ra rb P id ins nds o r vd)):Ar Ax (.ptr c 62 0) H K=K (.agg ([S r.d1,S r.d2])):=Fs (p:=62) rfl hl (show 64≤68 by decide)
theorem cV (hl:Aq H c=some (J7 kd m u ca cb T ra rb P id ins nds o r vd)):Ar Ab (.ptr c 64 0) H K=K (I vd):=AP (p:=64) rfl hl (show 64<68 by decide)
theorem cS (hl:Aq H c=some (J7 kd m u ca cb T ra rb P id ins nds o r vd)):Ar JQ (.ptr c 65 0) H K=K (.agg ([I 0,AA,AA])):=Fs (p:=65) rfl hl (show 68≤68 by decide)
theorem fA {c j k:Nat} {K:AV→Aj}:AM j (.ptr c k 0) K=K (.ptr c (k+j) 0):=by
 have e:AM j (.ptr c k 0) K=fN (Nat.add k j) λq=>K (.ptr c q 0):=rfl
 rw[e,Di];rfl
end
theorem WJ (ts:Tms) (h:∀t∈ts,(qn t.2).length<390∧(qd t.2).length<390):(OY ts).length≤900*ts.length:=by
 induction ts with
 |nil=>simp[OY]
 |cons t l ih=>
  have h1:=ih (λt ht=>h t (by simp[ht]))
  have h2:=E6 [t.1]
  have h3:=MP [(qn t.2,qd t.2)] (by simp;exact h t (by simp))
  simp only[OY,XS,l18,Fl,K9,OU,tmB] at h1 h2 h3⊢
  omega
theorem Bd.tms0 {r b:Nat} {ks:List (Nat×Row)} {l:List UInt8} {v:AV} {H:Hp} (ts:Tms) (h:Bd r ks b l v H):Bd r ks (b+100000*0) (l++OY (ts.take 0)) v H:=by
 rw[show OY (ts.take 0)=[] from rfl,XR];exact h
theorem B8i (z:Int):0<(enc z).length:=by
 unfold enc B4U
 split<;>simp
theorem B8z {a b c d e f:Int} {H:Hp} {K:KV}:F3 DA 1 Ab 6 [(0,1,I a),(1,1,I b),(2,1,I c),(3,1,I d),(4,1,I e),(5,1,I f)] H K=K (.sl 1 (A2 H) 0 6) ((A2 H,.cells false DA (EG [a,b,c,d,e,f]))::H):=by
 have g:F3 DA 1 Ab 6 [(0,1,I a),(1,1,I b),(2,1,I c),(3,1,I d),(4,1,I e),(5,1,I f)] H K=XA3 H λs=>K (.sl 1 s 0 6) ((s,.cells false DA (EG [a,b,c,d,e,f]))::H):=rfl
 rw[g,BZ]
theorem B8y {a1 a2 b1 b2 c1 c2 d1 d2:List UInt8} {H:Hp} {K:KV}:F3 Bb 2 Ax 4 [(0,2,.agg [S a1,S a2]),(2,2,.agg [S b1,S b2]),(4,2,.agg [S c1,S c2]),(6,2,.agg [S d1,S d2])] H K=K (.sl 2 (A2 H) 0 4) ((A2 H,.cells false Bb (([(a1,a2),(b1,b2),(c1,c2),(d1,d2)]:Rts).flatMap rtC))::H):=by
 have g:F3 Bb 2 Ax 4 [(0,2,.agg [S a1,S a2]),(2,2,.agg [S b1,S b2]),(4,2,.agg [S c1,S c2]),(6,2,.agg [S d1,S d2])] H K=XA3 H λs=>K (.sl 2 s 0 4) ((s,.cells false Bb (([(a1,a2),(b1,b2),(c1,c2),(d1,d2)]:Rts).flatMap rtC))::H):=rfl
 rw[g,BZ]
theorem UW {ps:List (List UInt8)} {K:AV→Aj}:AQ Ac (Ep ps) K=K (I ps.length):=by cases ps<;>exact id rfl
section
variable {m:ND} {u o:UD} {ca cb ra rb un pt:List UInt8} {ts:Tms} {ps:List (List UInt8)} {ins nds:AV} {kd id vd pe:Int} {r:RD}
set_option maxHeartbeats 2000000 in
theorem A86 (hL:100<L) (hm:m.ok) (hkd:kd=1∨kd=2∨kd=3) (ht:TmsOk ts) (hI:Sl ins) (hN:Sl nds) (hp:ps.length≤6) (hpl:∀s∈ps,s.length<390) (hun:un.length<390) (hpt:pt.length<390)
 (hr:r.k=0∨r.k=1∨r.k=2∨r.k=3) (hrl:∀q∈[(r.a1,r.a2),(r.b1,r.b2),(r.c1,r.c2),(r.d1,r.d2)],q.1.length<390∧q.2.length<390) (hv:0≤vd∧vd≤3) (hcl:ca.length<10∧cb.length<10∧ra.length<10∧rb.length<10)
 (hst:LS (rt (L+20) (n+61)) D3 [.agg (Eb kd m u ca cb (FC ts) ra rb (Ep ps) id ins nds o r vd)] (Bo true))
 (hup:PS (rt (L+20) (n+61)) HP [.agg (Ck u)] (.tup [S un,I 0])) (hpp:LS (rt (L+20) (n+61)) Fi [.agg (B2 id ins nds o)] (.tup [S pt,I pe])):
 CS (rt (L+20) (n+62)) Jd [.agg (Eb kd m u ca cb (FC ts) ra rb (Ep ps) id ins nds o r vd)] (.tup [S (LC kd m un ca cb ts ra rb ps pt (if kd=3 then RM r vd else[])),I 0]):=by
 intro K hK
 obtain⟨q1,q2,q3,q4,q5,q6,q7,q8,q9,q10⟩:=hm
 have hT:=FI ts
 have hP:Sl (Ep ps):=by cases ps with|nil=>exact .inl rfl|cons p l=>exact .inr ⟨_,_,rfl⟩
 have hlt:=ht.len
 rw[UG]
 unfold Lw Bc Av Dr
 rw[Ft (Q6 hT hP hI hN)]
 have hc0:=A1 (H:=[]) (x:=J7 kd m u ca cb (FC ts) ra rb (Ep ps) id ins nds o r vd) (by simp)
 have w0:=Br (x:=J7 kd m u ca cb (FC ts) ra rb (Ep ps) id ins nds o r vd) FH
 generalize ((A2 [],J7 kd m u ca cb (FC ts) ra rb (Ep ps) id ins nds o r vd)::([]:Hp))=H0 at hc0 w0
 generalize A2 []=c at hc0
 have hst':∀K,Ah (rt (L+20) (n+61)) D3 [.agg (Eb kd m u ca cb (FC ts) ra rb (Ep ps) id ins nds o r vd)] H0 K=K (Bo true):= λK=>by rw[zO];exact hst false _ _ (Tv hT hP hI hN) K
 rw[cA hc0,hst',ntT,Bz]
 have f0:∀{j:Nat} {K:AV→Aj},AM j (.ptr c 0 0) K=K (.ptr c j 0):= λ{j K}=>by rw[fA,KF]
 rw[f0,cS hc0,B69 (n:=n+21),CZ,CY,G6]
 simp only[show(!decide ((200:Int)=0))=true from rfl,gT,Cz,f0,cS hc0]
 simp only[B6d (L:=L) (n:=n+21) H0,ntT,Cz,XO]
 rw[Bz,Bi (cs:=[.v (.pointer none),zL]) rfl]
 have hrn:=A1 (H:=H0) (x:= .cells true FK [.v (.pointer none),zL]) (by simp)
 have hclt:=w0.lt hc0
 have hB0:Bd (A2 H0) [(c,J7 kd m u ca cb (FC ts) ra rb (Ep ps) id ins nds o r vd)] 0 [] AA ((A2 H0,.cells true FK [.v (.pointer none),zL])::H0):=
  ⟨⟨⟨_,.inl rfl,.inl hrn⟩,.inl ⟨rfl,rfl,rfl⟩,λ⟨_,_,_,h⟩=>(by cases h),Br w0⟩,λp hp=>by
   simp only[l2f] at hp
   subst hp
   exact⟨AS hclt hc0,by simp only;omega,λ⟨_,_,_,h⟩=>(by cases h)⟩,OV _⟩
 generalize ((A2 H0,Row.cells true FK [.v (.pointer none),zL])::H0)=H1 at hB0
 generalize A2 H0=rw_ at hB0
 have crt:∀{b l v H},Bd rw_ [(c,J7 kd m u ca cb (FC ts) ra rb (Ep ps) id ins nds o r vd)] b l v H→Aq H c=some (J7 kd m u ca cb (FC ts) ra rb (Ep ps) id ins nds o r vd):= λh=>(h.ks (c,_) (l2f.2 rfl)).1
 have hl:=crt hB0
 simp only[BX]
 rw[cI0 hl,cI1 hl,cI2 hl,cI3 hl,cI4 hl,cI5 hl,B8z]
 refine YY (n:=n+51) hB0 hL (by decide) [kd,m.lab,m.num,m.itm,m.tim,m.day] (by simp) (by simp only[UJ,List.mem_nil_iff,or_false];rintro z (rfl|rfl|rfl|rfl|rfl|rfl)<;>omega) λv2 H2 hB2=> ?_
 have hl:=crt hB2
 rw[cU hl,hup,CZ,CY,XF]
 refine B5s (n:=n+51) hB2 hL (by decide) [un] (by simp) (by simpa using hun) λv3 H3 hB3=> ?_
 have hl:=crt hB3
 have g0:∀{K:AV→Aj},AM 0 (.ptr c 26 0) K=K (.ptr c 26 0):=_root_.id rfl
 have g2:∀{K:AV→Aj},AM 2 (.ptr c 26 0) K=K (.ptr c 28 0):=_root_.id rfl
 have g3:∀{K:AV→Aj},AM 3 (.ptr c 26 0) K=K (.ptr c 29 0):=_root_.id rfl
 rw[g0,cC hl,A5u]
 refine A5v (n:=n+50) hB3 hL (by decide) [(ca,cb)] (by simp) (by simp;omega) λv4 H4 hB4=> ?_
 have hl:=crt hB4
 rw[g2,cT hl,O0,Vw]
 refine YY (n:=n+51) hB4 hL (by decide) [(ts.length:Int)] (by simp) (by simp;omega) λv5 H5 hB5=> ?_
 have hl:=crt hB5
 rw[g2,cT hl,O0]
 have e0:(AV.v (.int .i64 0))=I ((0:Nat):Int):=rfl
 rw[e0]
 refine C6b (n:=n+50) (c:=c) ht hL (b:=200000) (by decide) ?_ (L+20) 0 v5 H5 (by omega) (by omega) (hB5.tms0 ts)
 intro v6 H6 hB6
 simp only[f0]
 have hl:=crt hB6
 have hb6:200000+100000*ts.length≤800000:=by omega
 have hB6:Bd rw_ [(c,J7 kd m u ca cb (FC ts) ra rb (Ep ps) id ins nds o r vd)] 800000 _ v6 H6:=⟨hB6.bld,hB6.ks,l1m hB6.sz hb6⟩
 rw[g3,cR hl,A5u]
 refine A5v (n:=n+50) hB6 hL (by decide) [(ra,rb)] (by simp) (by simp;omega) λv7 H7 hB7=> ?_
 have hl:=crt hB7
 rw[cP hl,UW,Vw]
 refine YY (n:=n+51) hB7 hL (by decide) [(ps.length:Int)] (by simp) (by simp;omega) λv8 H8 hB8=> ?_
 have hl:=crt hB8
 rw[cP hl]
 refine C3g (n:=n+51) hB8 hL (by decide) ps (Ep ps) (by cases ps with|nil=>exact .inr ⟨rfl,rfl⟩|cons p l=>exact .inl rfl) (by omega) hpl λv9 H9 hB9=> ?_
 have hl:=crt hB9
 have hpp':∀K,Ah (rt (L+20) (n+61)) Fi [.agg (B2 id ins nds o)] H9 K=K (.tup [S pt,I pe]):= λK=>by rw[zO];exact hpp false _ _ (SI hI hN) K
 rw[cPr hl,hpp',CZ,CY,XF]
 refine B5s (n:=n+51) hB9 hL (by decide) [pt] (by simp) (by simpa using hpt) λv10 H10 hB10=> ?_
 have hl:=crt hB10
 have hlen:∀tail:List UInt8,tail.length≤5000→(LC kd m un ca cb ts ra rb ps pt tail).length≤32768∧0<(LC kd m un ca cb ts ra rb ps pt tail).length:= λtail htl=>by
  have a1:=E6 [kd,m.lab,m.num,m.itm,m.tim,m.day]
  have a2:=E5 [un] (by simpa using hun)
  have a3:=MP [(ca,cb)] (by simp;omega)
  have a4:=E6 [(ts.length:Int)]
  have a5:=WJ ts (λt h=>by have:=ht.rng t h;have:=Um (z:=t.2) (by omega) (by omega);have:=Un t.2;omega)
  have a6:=MP [(ra,rb)] (by simp;omega)
  have a7:=E6 [(ps.length:Int)]
  have a8:=E5 ps hpl
  have a9:=E5 [pt] (by simpa using hpt)
  have a10:0<(HD [kd,m.lab,m.num,m.itm,m.tim,m.day]).length:=by
   have:=B8i kd
   simp only[HD,XS,l18,Fl];omega
  simp only[K9,OU] at a1 a2 a3 a4 a6 a7 a9
  simp only[LC,Fl,OU]
  omega
 have fin:∀(tail:List UInt8) (b:Nat) (v:AV) (H:Hp),tail.length≤5000→(if kd=3 then RM r vd else[])=tail→Bd rw_ [(c,J7 kd m u ca cb (FC ts) ra rb (Ep ps) id ins nds o r vd)] b (LC kd m un ca cb ts ra rb ps pt tail) v H→
  (AM 0 (.ptr rw_ 0 0) λv96=>(rt (L+20) (n+61)).call Gj [v96] H λv97 H98=>Go.Abs.Ak Ab .gtr v97 (.v (.int .i64 32768)) λv99=>
   Aw v99 (K (.tup [.v (.string ⟨⟨[]⟩⟩),.v (.int .i64 210)]) H98) (AM 0 (.ptr rw_ 0 0) λv100=>(rt (L+20) (n+61)).call Do [v100] H98 λv101 H102=>K (.tup [v101,.v (.int .i64 0)]) H102))=some (.tup [S (LC kd m un ca cb ts ra rb ps pt (if kd=3 then RM r vd else[])),I 0],[]):= λtail b v H htl he hB=>by
  obtain⟨k1,k2⟩:=hlen tail htl
  have r0:∀{K:AV→Aj},AM 0 (.ptr rw_ 0 0) K=K (.ptr rw_ 0 0):=_root_.id rfl
  rw[r0,C3X (n:=n+60) hB.bld,DM,decide_eq_false (by omega),Bz,r0]
  obtain⟨H',e⟩:=A5Y (L:=L) (n:=n+60) hB.bld k2 (by omega)
  rw[e,he]
  rw[he] at hK
  exact hK _ _ (λb=>⟨false,λK=>by kernel_rfl⟩)
 rw[cI0 hl,Dd]
 by_cases h3:kd=3
 ·rw[decide_eq_true h3,De]
  have j0:∀{K:AV→Aj},AM 0 (.ptr c 55 0) K=K (.ptr c 55 0):=_root_.id rfl
  have j1:∀{K:AV→Aj},AM 1 (.ptr c 55 0) K=K (.ptr c 56 0):=_root_.id rfl
  have j3:∀{K:AV→Aj},AM 3 (.ptr c 55 0) K=K (.ptr c 58 0):=_root_.id rfl
  have j5:∀{K:AV→Aj},AM 5 (.ptr c 55 0) K=K (.ptr c 60 0):=_root_.id rfl
  have j7:∀{K:AV→Aj},AM 7 (.ptr c 55 0) K=K (.ptr c 62 0):=_root_.id rfl
  rw[j0,cRk hl,Vw]
  refine YY (n:=n+51) hB10 hL (by decide) [r.k] (by simp) (by simp;omega) λv11 H11 hB11=> ?_
  have hl:=crt hB11
  rw[j1,cR1 hl,j3,cR2 hl,j5,cR3 hl,j7,cR4 hl,B8y]
  refine A5v (n:=n+50) hB11 hL (by decide) [(r.a1,r.a2),(r.b1,r.b2),(r.c1,r.c2),(r.d1,r.d2)] (by simp) hrl λv12 H12 hB12=> ?_
  have hl:=crt hB12
  rw[cV hl,Vw]
  refine YY (n:=n+51) hB12 hL (by decide) [vd] (by simp) (by simp;omega) λv13 H13 hB13=> ?_
  refine fin (RM r vd) (800000+50000+50000+50000+50000+50000+50000+50000) v13 H13 ?_ (by rw[if_pos h3]) ?_
  ·have a1:=E6 [r.k]
   have a2:=MP [(r.a1,r.a2),(r.b1,r.b2),(r.c1,r.c2),(r.d1,r.d2)] hrl
   have a3:=E6 [vd]
   simp only[K9,OU] at a1 a2 a3
   simp only[RM,Fl]
   omega
  ·have:LC kd m un ca cb ts ra rb ps pt (RM r vd)=[]++HD [kd,m.lab,m.num,m.itm,m.tim,m.day]++Gz [un]++Ps [(ca,cb)]++HD [(ts.length:Int)]++OY ts++Ps [(ra,rb)]++HD [(ps.length:Int)]++Gz ps++Gz [pt]++HD [r.k]++Ps [(r.a1,r.a2),(r.b1,r.b2),(r.c1,r.c2),(r.d1,r.d2)]++HD [vd]:=by
    unfold LC RM;simp only[l0k]
   rw[this]
   exact hB13
 ·rw[decide_eq_false h3,Bz]
  refine fin [] (800000+50000+50000+50000+50000) v10 H10 (by simp) (by rw[if_neg h3]) ?_
  have:LC kd m un ca cb ts ra rb ps pt []=[]++HD [kd,m.lab,m.num,m.itm,m.tim,m.day]++Gz [un]++Ps [(ca,cb)]++HD [(ts.length:Int)]++OY ts++Ps [(ra,rb)]++HD [(ps.length:Int)]++Gz ps++Gz [pt]:=by
   unfold LC;rw[XR]
  rw[this]
  exact hB10
end
end
end Go.Abs
end
