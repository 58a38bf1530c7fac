import Derived.Test.YtlbhdmbfdcohhaaGreatDoorT16
import Derived.Test.YtlbhdmbfdcohhaaGreatDoorT21
set_option linter.all false
set_option maxHeartbeats 100000000
noncomputable section
namespace Go.Abs
open Go.RowKit Go.Proofs
set_option maxRecDepth 100000
section
variable {L n:Nat}
attribute [local irreducible] Ai rt Zz eBi eEq cnd Go.Abs.Al Go.Abs.Vc Aw
section
variable {m:ND} {u:UD} {ca cb ra rb:List UInt8} {T nds:AV} {kd id vd:Int} {r:RD}
theorem A0X {n2:Nat} {c1 c2:List AV} (hT:Sl T) (hN:∃n cs,nds= .list n cs)
 (hp:LS (rt (L+20) (n+59)) FN [.list n2 c1] (Bo true)) (hv:LS (rt (L+20) (n+59)) E3 [.agg (B1 id (.list n2 c2) nds u)] (Bo true)):
 CS (rt (L+20) (n+60)) DA [.agg (Ee kd m u ca cb T ra rb (.list n2 c1) id (.list n2 c2) nds u r vd)] (Bo true):=by
 intro K hK
 obtain⟨n3,c3,rfl⟩:=hN
 rcases hT with rfl|⟨n4,c4,rfl⟩
 all_goals
  rewrite [Qg]
  unfold Il Bh D3
  try rewrite [zO]
  try rewrite [bO]
  try rewrite [qO]
  try rewrite [cO]
  generalize rt (L+20) (n+59)=R at*
  conv=>lhs;whnf
  rewrite [(hp) false _ _ ?hq]
  case hq=>exact λK=>by kernel_rfl
  conv=>lhs;whnf
  rewrite [(hv) false _ _ ?hq]
  case hq=>exact λK=>by kernel_rfl
  conv=>lhs;whnf
  rewrite [Oy ?hc]
  case hc=>rfl
  conv=>lhs;whnf
  rewrite [A2j u]
  conv=>lhs;whnf
  exact hK _ _ (λb=>⟨false,λK=>by kernel_rfl⟩)
end
end
section
variable {L n:Nat}
abbrev Ls (l:List (List UInt8)):AV:= .list l.length (AL l)
theorem La {l:List (List UInt8)} {K:AV→Aj}:AR Ac (Ls l) K=K (I l.length):=id rfl
theorem NK {l:List (List UInt8)} {i:Nat} {K:AV→Aj} (h:i<l.length):BA Ac (Ls l) (I i) K=K (.iptr [S l[i]]):=by
 rw[Vb rfl (by simp[AL]) (by omega) (by omega),XT,Nj h]
theorem Gf {s:List UInt8} {H:Hp} {K:AV→Aj}:Au Ae (.iptr [S s]) H K=K (S s):=NI rfl
theorem Dv {ty:TI} {i:Nat} {K:AV→Aj} (h:i<1000000000):Go.Abs.Al ty .add (I i) (.v (.int .i64 1)) K=K (I ((i+1:Nat):Int)):=by
 rw[CG,Cl (by omega) (by omega),PH]
theorem FL {ty:TI} {a b:Int} {K:AV→Aj} (h:a<b):Go.Abs.Al ty .lss (I a) (I b) K=K (Bo true):=by rw[DM,decide_eq_true h]
theorem FE {ty:TI} {a b:Int} {K:AV→Aj} (h:¬a<b):Go.Abs.Al ty .lss (I a) (I b) K=K (Bo false):=by rw[DM,decide_eq_false h]
theorem Dc {x y:Aj}:Aw (.v (.bool true)) x y=x:=id rfl
theorem Bx {x y:Aj}:Aw (.v (.bool false)) x y=y:=id rfl
theorem BK {v:AV} {H:Hp} {K:AV→Aj}:Ah (some (v,H)) K=K v:=id rfl
section
variable {R:Rt} {K:KV} {ps:List (List UInt8)} {H:Hp}
theorem C2a {k39:AV→AV→AV→Hp→Aj} {i:Nat} (hi:i<ps.length) (hn:ps.Nodup) (hb:ps.length<100):∀(f j:Nat),j≤i→i-j<f→
 I3 (L+20) R K k39 f (Ls ps) (I i) (I j) H=k39 (Ls ps) (I i) (I i) H:=by
 intro f
 induction f with
 |zero=>intro j _ h;omega
 |succ f ih=>
  intro j hj hf
  rw[PJ]
  unfold Ki Av D3
  by_cases h:j<i
  ·rw[FL (by omega),Dc,NK (by omega),BK,Gf,BK,NK hi,BK,Gf,BK,LB]
   have hne:ps[j]≠ps[i]:= λe=>by
    have:=(List.getElem_inj (h₀:=by omega) (h₁:=hi) hn).1 e
    omega
   rw[decide_eq_false hne,BK,Bx,Dv (by omega)]
   exact ih (j+1) (by omega) (by omega)
  ·rw[FE (by omega),Bx]
   have:j=i:=by omega
   rw[this]
theorem C2b {k14:AV→Hp→Aj} (hn:ps.Nodup) (hb:ps.length<100) (hL:ps.length<L+20) (hl:∀s∈ps,s.length=32):∀(f i:Nat) (v:AV),i≤ps.length→ps.length-i<f→
 I4 (L+20) R K k14 f (Ls ps) (I i) v H=k14 (Ls ps) H:=by
 intro f
 induction f with
 |zero=>intro i v _ h;omega
 |succ f ih=>
  intro i v hi hf
  rw[PK]
  unfold Kj Av D3
  rw[La]
  by_cases h:i<ps.length
  ·rw[FL (by omega),Dc]
   simp only[BW]
   rw[NK h,Gf,NH rfl,hl _ (QN h),Ib]
   rw[show(!decide (((32:Nat):Int)=32))=false from rfl,Bx]
   have e0:(AV.v (.int .i64 0))=I ((0:Nat):Int):=rfl
   rw[e0,C2a h hn hb _ 0 (by omega) (by omega),Dv (by omega)]
   exact ih (i+1) _ (by omega) (by omega)
  ·rw[FE (by omega),Bx]
end
theorem A3F {ps:List (List UInt8)} (hn:ps.Nodup) (h0:1≤ps.length) (hb:ps.length≤6) (hl:∀s∈ps,s.length=32):
 CS (rt (L+20) (n+1)) Fs [Ls ps] (.tup [Bo true,I ps.length]):=by
 intro K hK
 rw[QL]
 unfold KW Bh Av D3
 simp only[BW]
 have e0:(AV.v (.int .i64 0))=I ((0:Nat):Int):=rfl
 rw[e0,C2b hn (by omega) (by omega) hl _ 0 _ (by omega) (by omega),La,MS,decide_eq_true (by omega)]
 have g:∀(x:Bool→Aj),gdV true (Bo true) x=x true:= λx=>id rfl
 have c:∀{v:AV} {H:Hp} {K:KV},Ed (some (v,H)) K=K v H:=id rfl
 simp only[g,c,La]
 rw[XD,decide_eq_true (by omega)]
 exact hK _ _ (λb=>⟨false,λK=>by kernel_rfl⟩)
end
section
variable {L n:Nat}
theorem Cs (l:List (List UInt8)):(AL l).length=l.length:=by simp[AL]
theorem Yh (a b:List (List UInt8)):AL a++AL b=AL (a++b):=by simp[AL]
theorem B0y {H:Hp} {v:AV} {l:List (List UInt8)} (b:List UInt8) (h:Bu H Ar 1 v l.length (AL l)) (w:Wf H) (hn:l.length<1000000000):
 ∃v' H',(∀K:KV,(FG Ar 1 Ae 1 [(0,1,S b)] H λv1 H1=>DN Ar 1 Ae Ac v v1 H1 K)=K v' H')∧Bu H' Ar 1 v' (l++[b]).length (AL (l++[b]))∧Wf H'∧A2 H≤A2 H'∧(∀s x,Aq H s=some x→¬AF v s→Aq H' s=some x)∧(∀s,AF v' s→A2 H≤s):=by
 have hv1:Bu ((A2 H,.cells false Ar [S b])::H) Ar 1 v l.length (AL l):=h.lat w (Lat.cons H _ (λ_=>False)) (λ_ _ h=>h)
 have hsrc:=LO (H:=H) (e:=Ar) (n:=1) (cs:=[S b]) rfl
 obtain⟨v',H',h1,h2,h3,h4⟩:=apt (ie:=Ae) (i2:=Ac) hv1 (λK=>Pt (K:=K) hsrc) rfl rfl (by decide) rfl rfl (by show(l.length+1)*16≤_;omega) (by omega)
 have h5:=(Lat.cons H (.cells false Ar [S b]) (AF v)).trans h4 (R:=AF v) (λ_ _ h=>h) (λ_ _ h=>h)
 refine⟨v',H',λK=> ?_,by rw[XA2,←Yh];exact h2,h5.wf w,h5.nx,λs x hs hn=>h5.keep w s x hs hn,λs hs=> ?_⟩
 ·rw[A2u (z:=S []) (λ_=>rfl) (λ_=>rfl) rfl]
  exact h1 K
 ·rw[h3 s hs];exact l1p _
def Py (c2 c6:AV) (p:Option (Option Code)):Row:= .loop 13 [(2,c2),(4,AA),(5,AV.dk),(6,c6),(7,AV.dk),(8,AV.dk),(9,AV.dk),(10,AV.dk),(11,AV.dk)] (Bg).2.1 (Bg).2.2.1 (Bg).2.2.2 p
structure Coll (H0:Hp) (r0 s:Nat) (q0:Bool) (e0:Nat) (c6:AV) (l:List (List UInt8)) (v:AV) (H:Hp):Prop where
 at_:Aq H r0=some (.cells q0 e0 [v])
 sl:Bu H Ar 1 v l.length (AL l)
 lp:Aq H s=some (Py (.ptr r0 0 0) c6 (some none))
 new:∀u,AF v u→u≠r0∧u≠s∧A2 H0≤u
 wf:Wf H
 keep:∀u y,Aq H0 u=some y→Aq H u=some y
 ne:r0≠s
 r0n:A2 H0≤r0
 sn:A2 H0≤s
 w0:Wf H0
variable {K:KV} {x:Aj}
theorem B79 {H0 H:Hp} {r0 s e0:Nat} {q0:Bool} {c6 v:AV} {l:List (List UInt8)} {b:List UInt8} (h:Coll H0 r0 s q0 e0 c6 l v H) (hn:l.length<1000000000)
 (hx:∀v' H',Coll H0 r0 s q0 e0 c6 (l++[b]) v' H'→K (Bo true) H'=x):Dx (E (L+20)) (rt (L+20) (n+1)) (.yl s) [S b] H K=x:=by
 show P0 (rt (L+20) (n+1)) s [S b] H K=x
 rw[RB h.lp (by kernel_rfl)]
 have hrun:(rt (L+20) (n+1)).run= λcf=>Sz (E (L+20)) (rt (L+20) n) cf:=rfl
 rw[hrun,FR,RM h.lp]
 have hw1:=BH (r:=s) (y:=Py (.ptr r0 0 0) c6 none) h.wf
 have hr1:Aq (upd H s (Py (.ptr r0 0 0) c6 none)) r0=some (.cells q0 e0 [v]):=by rw[Ap h.ne];exact h.at_
 have hs1:Aq (upd H s (Py (.ptr r0 0 0) c6 none)) s=some (Py (.ptr r0 0 0) c6 none):=Hd h.lp
 have hv1:Bu (upd H s (Py (.ptr r0 0 0) c6 none)) Ar 1 v l.length (AL l):=h.sl.lat h.wf (Lat.upd H s _ (P:= λu=>u=s) rfl) (λu hu=>(h.new u hu).2.1)
 have hk1:∀u y,Aq H0 u=some y→Aq (upd H s (Py (.ptr r0 0 0) c6 none)) u=some y:= λu y hu=>by
  have:=h.w0.lt hu
  rw[Ap (by have:=h.sn;omega)];exact h.keep u y hu
 show Au Ac (.ptr r0 0 0) (upd H s (Py (.ptr r0 0 0) c6 none)) _=_
 rw[AK (p:=0) rfl hr1 (by simp)]
 show FG Ar 1 Ae 1 [(0,1,S b)] (upd H s (Py (.ptr r0 0 0) c6 none)) (λv15 H16=>DN Ar 1 Ae Ac v v15 H16 _)=_
 obtain⟨v',H',h1,h2,h3,h4,h5,h6⟩:=B0y b hv1 hw1 hn
 rw[h1]
 have n0:¬AF v r0:= λhu=>(h.new r0 hu).1 rfl
 have ns:¬AF v s:= λhu=>(h.new s hu).2.1 rfl
 have hr2:=h5 r0 _ hr1 n0
 have hs2:=h5 s _ hs1 ns
 have hone:B9 v'=[v']∧AV.one v'=true:=by
  rcases h2 with⟨rfl,_⟩|⟨a,b,rfl,_⟩<;>exact⟨rfl,rfl⟩
 rw[E4 (q:=q0) (e:=e0) (cs:=[v]) hr2 (by simp) rfl hone.1 hone.2]
 have hnx:A2 H0≤A2 H:=by have:=h.wf.lt h.at_;have:=h.r0n;omega
 have hnu:A2 (upd H s (Py (.ptr r0 0 0) c6 none))=A2 H:=BS _ _ _
 have hfr:∀u,AF v' u→u≠r0∧u≠s∧A2 H0≤u:= λu hu=>by
  have a1:=h6 u hu
  rw[hnu] at a1
  have a2:=h.wf.lt h.at_
  have a3:=h.wf.lt h.lp
  exact⟨by omega,by omega,by omega⟩
 have hs3:Aq (upd H' r0 (.cells q0 e0 [v'])) s=some (Py (.ptr r0 0 0) c6 none):=by rw[Ap h.ne.symm];exact hs2
 show EC (upd H' r0 (.cells q0 e0 [v'])) s false (some none) _=_
 have hs3':=hs3
 unfold Py at hs3'
 rw[RL hs3']
 refine hx v' _ ⟨?_,?_,?_,hfr,BH (BH h3),λu y hu=> ?_,h.ne,h.r0n,h.sn,h.w0⟩
 ·rw[Ap h.ne]
  exact A9 hr2
 ·have a:=h2.lat h3 (Lat.upd H' r0 (.cells q0 e0 [v']) (P:= λu=>u=r0) rfl) (λu hu=>(hfr u hu).1)
  exact a.lat (BH h3) (Lat.upd _ s _ (P:= λu=>u=s) rfl) (λu hu=>(hfr u hu).2.1)
 ·exact Hd hs3
 ·have hlt:=h.w0.lt hu
  have b1:=h.r0n
  have b2:=h.sn
  rw[Ap (by omega),Ap (by omega)]
  refine h5 u y (hk1 u y hu) (λhv=> ?_)
  have:=(h.new u hv).2.2
  omega
theorem C42 {H0:Hp} {r0 s e0:Nat} {q0:Bool} {c6:AV} {k3:Hp→Aj} {ps:List (List UInt8)} (hn:ps.length<1000000000) (hx:∀v H,Coll H0 r0 s q0 e0 c6 ps v H→k3 H=x):
 ∀(f i:Nat) (v:AV) (H:Hp),i≤ps.length→ps.length-i<f→Coll H0 r0 s q0 e0 c6 (ps.take i) v H→
  CV (L+20) (rt (L+20) (n+1)) K k3 f (.yl s) (Ls ps) (I ps.length) (I i) H=x:=by
 intro f
 induction f with
 |zero=>intro i v H _ h;omega
 |succ f ih=>
  intro i v H hi hf hc
  rw[Ju]
  unfold DU Av
  by_cases h:i<ps.length
  ·rw[FL (by omega),Dc,NK h,Gf]
   refine B79 hc (by simp;omega) λv' H' hc'=> ?_
   rw[Ks]
   show Aw (.v (.bool false)) _ _=_
   rw[Bx,Dv (by omega)]
   rw[←l04 h] at hc'
   exact ih (i+1) v' H' (by omega) (by omega) hc'
  ·rw[FE (by omega),Bx]
   have:i=ps.length:=by omega
   rw[this,l06] at hc
   exact hx v H hc
structure NewSl (H0:Hp) (l:List (List UInt8)) (v:AV) (H:Hp):Prop where
 sl:Bu H Ar 1 v l.length (AL l)
 new:∀u,AF v u→A2 H0≤u
 wf:Wf H
 keep:∀u y,Aq H0 u=some y→Aq H u=some y
 nx:A2 H0≤A2 H
abbrev B2S (ps:List (List UInt8)):AV:= .fn (.func Er) [] [.iptr [Ls ps]]
theorem B0Z {H0:Hp} {ps:List (List UInt8)} (hn:ps.length<1000000000) (hL:ps.length<L) (w:Wf H0) (hx:∀v H,NewSl H0 ps v H→K v H=x):
 (rt (L+20) (n+4)).call EM [B2S ps] H0 K=x:=by
 rw[HB]
 unfold EK
 rw[Ep]
 unfold CA
 simp only[BW]
 rw[A5i (by rfl),A9Q,JJ]
 unfold Eo Av
 simp only[BW]
 have e1:∀H K,Au Ac (.iptr [Ls ps]) H K=K (Ls ps):= λH K=>NI rfl
 rw[e1,La]
 have e0:(AV.v (.int .i64 0))=I ((0:Nat):Int):=rfl
 rw[e0]
 have w1:=Bj (x:= .cells true Bb [AA]) w
 have hn0:=A1 (H:=H0) (x:= .cells true Bb [AA]) (by simp)
 have hne:A2 ((A2 H0,Row.cells true Bb [AA])::H0)=A2 H0+1:=rfl
 refine C42 (n:=n) (H0:=H0) (r0:=A2 H0) (s:=A2 H0+1) (q0:=true) (e0:=Bb) (c6:=B2S ps) hn ?_ (L+20) 0 AA _ (by omega) (by omega) ⟨AM (w1.lt hn0) hn0,.inl ⟨rfl,rfl,rfl⟩,A1 (H:=((A2 H0,Row.cells true Bb [AA])::H0)) (x:=Py (.ptr (A2 H0) 0 0) (B2S ps) (some none)) (by simp[Py]),λu ⟨_,_,_,h⟩=>(by cases h),Bj w1,λu y hu=> ?_,by omega,by omega,by omega,w⟩
 ·intro v H hc
  rw[hne,B5 hc.lp]
  show Lx H (A2 H0+1) .gone _=x
  rw[Db]
  have hr:Aq (upd H (A2 H0+1) .gone) (A2 H0)=some (.cells true Bb [v]):=by rw[Ap (by omega)];exact hc.at_
  show Au Ac (.ptr (A2 H0) 0 0) (upd H (A2 H0+1) .gone) _=x
  rw[AK (p:=0) rfl hr (by simp)]
  refine hx _ _ ⟨?_,λu hu=>(hc.new u hu).2.2,BH hc.wf,λu y hu=> ?_,?_⟩
  ·exact hc.sl.lat hc.wf (Lat.upd H _ _ (P:= λu=>u=A2 H0+1) rfl) (λu hu=>(hc.new u hu).2.1)
  ·have:=w.lt hu
   rw[Ap (by omega)];exact hc.keep u y hu
  ·rw[BS]
   have:=hc.wf.lt hc.at_
   omega
 ·have a1:=AM (x:= .cells true Bb [AA]) (w.lt hu) hu
  exact AM (w1.lt a1) a1
theorem B2E {H0:Hp} {ps:List (List UInt8)} (h0:0<ps.length) (hn:ps.length<1000000000) (hL:ps.length<L) (w:Wf H0) (hx:∀v H,NewSl H0 (IB ps) v H→K v H=x):
 (rt (L+20) (n+5)).call Es [B2S ps] H0 K=x:=by
 rw[Ii]
 unfold Fb
 refine B0Z hn hL w λv H hs=> ?_
 have hp:=(C5 ps).length_eq
 rcases hs.sl with⟨_,h,_⟩|⟨r,q,rfl,hl,hc⟩
 ·omega
 ·have e1:∀K,(rt (L+20) (n+4)).call Cg [.sl 1 r 0 ps.length] H K=WR [.sl 1 r 0 ps.length] H K (A2t (E (L+20)) (nT (L+20)) (rt (L+20) (n+3)) Cg [.sl 1 r 0 ps.length] H K):= λK=>rfl
  rw[e1]
  have hso:∀(l:List (List UInt8)),Uj (AL l)=some l:= λl=>by
   induction l with
   |nil=>rfl
   |cons a l ih=>show(Uj (AL l)).map _=_;rw[ih];rfl
  have e2:∀alt K,WR [.sl 1 r 0 ps.length] H K alt=EE 0 (AL (IB ps)) (AL ps) λcs'=>Lx H r (.cells q Ar cs') λH'=>K (.tup []) H':= λalt K=>by
   unfold WR
   simp only[hl,l1n]
   rw[l1z (by rw[Cs];omega),hso]
   have g:(Nat.beq ps.length ps.length&&(Nat.blt ps.length 4611686018427387904&&Nat.blt 0 ps.length))=true:=by simp;omega
   simp only[g]
   rfl
  rw[e2,JX _ _ _ _ (by rw[Cs,Cs];omega),SE _ _ (by rw[Cs,Cs];exact hp),Db]
  refine hx _ _ ⟨.inr ⟨r,q,by rw[hp],A9 hl,by rw[Cs];omega⟩,λu ⟨_,_,_,hh⟩=> ?_,BH hs.wf,λu y hu=> ?_,by rw[BS];exact hs.nx⟩
  ·injection hh with _ hh
   subst hh
   exact hs.new r ⟨1,0,ps.length,rfl⟩
  ·have a1:=w.lt hu
   have a2:=hs.new r ⟨1,0,ps.length,rfl⟩
   rw[Ap (by omega)];exact hs.keep u y hu
end
section
variable {L n:Nat}
theorem WU {R:Rt} {m g:Nat} {cap:List AV} {t:Tm} {ps:Array Tmp} {sa bd:Code} {H:Hp} {K:Option (Option Code)→Hp→Aj}:
 ZB R m (.fn (.func g) [] cap) t ps sa bd H K=R.call g (.yl (A2 H)::cap) ((A2 H,.loop m t ps sa bd (some none))::H) λ_ H2=>J3 H2 (A2 H) λx=>VO x λ_ _ _ _ _ pend=>Lx H2 (A2 H) .gone λH3=>K pend H3:=by
 have e:ZB R m (.fn (.func g) [] cap) t ps sa bd H K=Ih H λs=>UV [] (.yl s::cap) λall=>R.call g all ((s,.loop m t ps sa bd (some none))::H) λ_ H2=>J3 H2 s λx=>VO x λ_ _ _ _ _ pend=>Lx H2 s .gone λH3=>K pend H3:=rfl
 rw[e,Ca,KZ];rfl
theorem A0z {es:List (Value×AV)} {H:Hp} {K:KV}:A09 (.imap es) H K=K (.it (A2 H)) ((A2 H,.iter es none)::H):=by
 have e:A09 (.imap es) H K=Ih H λs=>K (.it s) ((s,.iter es none)::H):=rfl
 rw[e,Ca]
theorem A42 {s:Nat} {H:Hp} {e:Value×AV} {es:List (Value×AV)} {o:Option (Value×AV)} {K:KV} (h:Aq H s=some (.iter (e::es) o)):
 A0a (.it s) H K=OE (λe rest=>Lx H s (.iter rest (some e)) λH'=>K (.tup [.v (.bool true),ofV e.1,e.2]) H') (e::es) []:=by
 have e1:A0a (.it s) H K=J3 H s λx=>B0b x λl=>@List.rec (Value×AV) (λ_=>Aj) (K (.tup [.v (.bool false)]) H)
  (λ_ _ _=>OE (λe rest=>Lx H s (.iter rest (some e)) λH'=>K (.tup [.v (.bool true),ofV e.1,e.2]) H') l []) l:=rfl
 rw[e1,B5 h];rfl
theorem B52 {s:Nat} {H:Hp} {o:Option (Value×AV)} {K:KV} (h:Aq H s=some (.iter [] o)):A0a (.it s) H K=K (.tup [.v (.bool false)]) H:=by
 have e1:A0a (.it s) H K=J3 H s λx=>B0b x λl=>@List.rec (Value×AV) (λ_=>Aj) (K (.tup [.v (.bool false)]) H)
  (λ_ _ _=>OE (λe rest=>Lx H s (.iter rest (some e)) λH'=>K (.tup [.v (.bool true),ofV e.1,e.2]) H') l []) l:=rfl
 rw[e1,B5 h];rfl
theorem Vx {s:Nat} {H:Hp} {p:Value×AV} {es:List (Value×AV)} {K:AV→Aj} (h:Aq H s=some (.iter es (some p))):A2k (.it s) H K=K (.tup [ofV p.1,p.2]):=by
 have e1:A2k (.it s) H K=J3 H s λx=>B4j x λp=>K (.tup [ofV p.1,p.2]):=rfl
 rw[e1,B5 h];rfl
theorem OP {a:AV} {l:List AV} {K:AV→Aj}:Bc (.tup (a::l)) 0 K=K a:=id rfl
theorem C2Y {a b:AV} {l:List AV} {K:AV→Aj}:Bc (.tup (a::b::l)) 1 K=K b:=id rfl
theorem B8r {m:Nat} {H:Hp} {es:List (Value×AV)} {bo:Option (List Nat×Nat)} {K:KV} (hl:Aq H m=some (.map false es bo)) (hc:es.all (λp=>cl0 3 p.2)=true):A09 (.mp m) H K=K (.it (A2 H)) ((A2 H,.iter es none)::upd H m .gone):=by
 have e:A09 (.mp m) H K=J3 H m λx=>A04 x λes _=>ck (es.all λp=>cl0 3 p.2) (Lx H m .gone λH1=>Ih H1 λt=>K (.it t) ((t,.iter es none)::H1)):=rfl
 rw[e,B5 hl]
 show ck (es.all λp=>cl0 3 p.2) _=_
 rw[hc]
 show Lx H m .gone _=_
 rw[Db,Ca,BS]
theorem B1i {F:Value×AV→List (Value×AV)→Aj} {v:AV} (hv:XV 6 v v=true):∀(l pre:List (Value×AV)),l≠[]→(∀l1 e l2,l=l1++e::l2→F e (pre++(l1++l2))=some (v,[]))→OE F l pre=some (v,[]):=by
 intro l
 induction l with
 |nil=>intro _ h;exact absurd rfl h
 |cons e l ih=>
  intro pre _ h
  have h0:=h [] e l rfl
  rw[List.nil_append] at h0
  cases l with
  |nil=>rw[A1x];rw[Xn] at h0;exact h0
  |cons e' l=>
   rw[Zl,h0,ih (pre++[e]) (by simp) λl1 e1 l2 hl=> ?_]
   ·show(match XV 6 v v with|true=>some (v,[])|false=>none)=_
    rw[hv]
   ·have:=h (e::l1) e1 l2 (by rw[hl];rfl)
    rw[l0k]
    exact this
theorem A4M {α:Type} {f:α→AV} {es:List (List UInt8×α)} {it:Nat} {H:Hp} {o:Option (Value×AV)} {w:AV} {K:KV} (hw:XV 6 w w=true)
 (hl:Aq H it=some (.iter (es.map λe=>(.string ⟨⟨e.1⟩⟩,f e.2)) o)) (h0:es=[]→K (.tup [.v (.bool false)]) H=some (w,[]))
 (h1:∀a e b,es=a++e::b→K (.tup [.v (.bool true),S e.1,f e.2]) (upd H it (.iter ((a++b).map λe=>(.string ⟨⟨e.1⟩⟩,f e.2)) (some (.string ⟨⟨e.1⟩⟩,f e.2))))=some (w,[])):A0a (.it it) H K=some (w,[]):=by
 cases es with
 |nil=>rw[B52 hl];exact h0 rfl
 |cons e es=>
  rw[Vu] at hl
  rw[A42 hl]
  refine B1i hw _ [] (by simp) λl1 p l2 h=> ?_
  rw[←Vu (f:= λe:List UInt8×α=>((Value.string ⟨⟨e.1⟩⟩:Value),f e.2))] at h
  obtain⟨a,c,h2,h3,h4⟩:=List.map_eq_append_iff.1 h
  obtain⟨e',b,h5,h6,h7⟩:=List.map_eq_cons_iff.1 h4
  subst h5 h3 h6 h7
  rw[Db,List.nil_append,←YG]
  exact h1 a e' b h2
end
structure Ce (κ:Type) where
 real:Bool
 ps:List κ
section
variable {κ:Type} [DecidableEq κ] {g:List (κ×Ce κ)}
def JK {α:Type}:List (κ×α)→κ→Option α
 |[],_=>none
 |e::g,x=>if e.1=x then some e.2 else JK g x
def rz (g:List (κ×Ce κ)):Nat→κ→Bool
 |0,_=>false
 |n+1,x=>match JK g x with
  |none=>false
  |some c=>(c.real|| !c.ps.isEmpty)&&c.ps.all (rz g n)
def Rz (g:List (κ×Ce κ)) (x:κ):Prop:=∃n,rz g n x=true
theorem SF {n:Nat} {x:κ}:rz g (n+1) x=true↔∃c,JK g x=some c∧(c.real=true∨c.ps≠[])∧∀p∈c.ps,rz g n p=true:=by
 rw[show rz g (n+1) x=(match JK g x with
  |none=>false
  |some c=>(c.real|| !c.ps.isEmpty)&&c.ps.all (rz g n)) from rfl]
 cases JK g x with
 |none=>simp
 |some c=>simp[HF]
theorem WT:∀(n:Nat) (x:κ),rz g n x=true→rz g (n+1) x=true:=by
 intro n
 induction n with
 |zero=>intro x h;cases h
 |succ n ih=>
  intro x h
  obtain⟨c,h1,h2,h3⟩:=SF.1 h
  exact SF.2 ⟨c,h1,h2,λp hp=>ih p (h3 p hp)⟩
theorem A9O {n m:Nat} {x:κ} (h:n≤m) (h1:rz g n x=true):rz g m x=true:=by
 induction h with
 |refl=>exact h1
 |step _ ih=>exact WT _ _ ih
theorem C3l {l:List κ} (h:∀p∈l,Rz g p):∃n,∀p∈l,rz g n p=true:=by
 induction l with
 |nil=>exact⟨0,by simp⟩
 |cons a l ih=>
  obtain⟨n,hn⟩:=ih λp hp=>h p (by simp[hp])
  obtain⟨m,hm⟩:=h a (by simp)
  refine⟨max n m,λp hp=> ?_⟩
  rcases TA.1 hp with rfl|hp
  ·exact A9O (by omega) hm
  ·exact A9O (by omega) (hn p hp)
theorem B5J {x:κ}:Rz g x↔∃c,JK g x=some c∧(c.real=true∨c.ps≠[])∧∀p∈c.ps,Rz g p:=by
 constructor
 ·rintro⟨n,h⟩
  cases n with
  |zero=>cases h
  |succ n=>
   obtain⟨c,h1,h2,h3⟩:=SF.1 h
   exact⟨c,h1,h2,λp hp=>⟨n,h3 p hp⟩⟩
 ·rintro⟨c,h1,h2,h3⟩
  obtain⟨n,hn⟩:=C3l h3
  exact⟨n+1,SF.2 ⟨c,h1,h2,hn⟩⟩
theorem X0 {α:Type} {x:κ} {c:α}:∀{g:List (κ×α)},JK g x=some c→(x,c)∈g:=by
 intro g
 induction g with
 |nil=>intro h;cases h
 |cons e g ih=>
  intro h
  unfold JK at h
  split at h
  ·rename_i e1;cases h;subst e1;simp
  ·simp[ih h]
def rzN (g:List (κ×Ce κ)) (n:Nat):Nat:=(g.filter λe=>rz g n e.1).length
theorem YS {α:Type} {p q:α→Bool} {l:List α} (h:∀a∈l,p a=true→q a=true) {a:α} (ha:a∈l) (h1:q a=true) (h2:p a=false):(l.filter p).length<(l.filter q).length:=by
 induction l with
 |nil=>cases ha
 |cons b l ih=>
  have mono:∀l:List α,(∀a∈l,p a=true→q a=true)→(l.filter p).length≤(l.filter q).length:=by
   intro l
   induction l with
   |nil=>intro _;simp
   |cons c l ih=>
    intro h
    have:=ih λa ha=>h a (by simp[ha])
    rw[l2h,l2h]
    have h3:=h c (by simp)
    cases hp:p c<;>cases hq:q c<;>simp_all<;>omega
  have h4:=mono l λa ha=>h a (by simp[ha])
  rw[l2h,l2h]
  rcases TA.1 ha with rfl|ha
  ·rw[h1,h2];simp;omega
  ·have:=ih (λa ha=>h a (by simp[ha])) ha
   have h3:=h b (by simp)
   cases hp:p b<;>cases hq:q b<;>simp_all<;>omega
theorem B74 (n:Nat):(∀m x,rz g m x=true→rz g n x=true)∨n≤rzN g n:=by
 induction n with
 |zero=>exact .inr (l1c _)
 |succ n ih=>
  rcases ih with ih|ih
  ·exact .inl λm x h=>WT _ _ (ih m x h)
  ·by_cases hs:∀x,rz g (n+1) x=true→rz g n x=true
   ·left
    have:∀m x,rz g m x=true→rz g n x=true:=by
     intro m
     induction m with
     |zero=>intro x h;cases h
     |succ m ihm=>
      intro x h
      obtain⟨c,h1,h2,h3⟩:=SF.1 h
      exact hs x (SF.2 ⟨c,h1,h2,λp hp=>ihm p (h3 p hp)⟩)
    exact λm x h=>WT _ _ (this m x h)
   ·right
    have⟨x,hx⟩:∃x,rz g (n+1) x=true∧¬rz g n x=true:=Classical.byContradiction λhc=>hs λx hx=>Classical.byContradiction λhn=>hc ⟨x,hx,hn⟩
    obtain⟨c,h1,_,_⟩:=SF.1 hx.1
    have:=YS (p:= λe=>rz g n e.1) (q:= λe=>rz g (n+1) e.1) (l:=g) (λa _ h=>WT _ _ h) (X0 h1) hx.1 (by simpa using hx.2)
    show n+1≤(g.filter λe=>rz g (n+1) e.1).length
    have:n≤(g.filter λe=>rz g n e.1).length:=ih
    omega
theorem C3q {x:κ}:Rz g x↔rz g g.length x=true:=by
 constructor
 ·rintro⟨m,h⟩
  rcases B74 (g:=g) g.length with hs|hs
  ·exact hs m x h
  ·have:∀e∈g,rz g g.length e.1=true:=by
    have h1:(g.filter λe=>rz g g.length e.1).length=g.length:=Nat.le_antisymm (List.length_filter_le _ _) hs
    exact List.length_filter_eq_length_iff.1 h1
   cases m with
   |zero=>cases h
   |succ m=>
    obtain⟨c,h1,_,_⟩:=SF.1 h
    exact this _ (X0 h1)
 ·exact λh=>⟨_,h⟩
inductive Rc (g:List (κ×Ce κ)):κ→κ→Prop
 |one {x y:κ} {c:Ce κ}:JK g x=some c→y∈c.ps→Rc g x y
 |more {x y z:κ}:Rc g x y→Rc g y z→Rc g x z
theorem Rc.rz {x y:κ} (h:Rc g x y):∀n,rz g n x=true→∃m,m<n∧rz g m y=true:=by
 induction h with
 |one h1 h2=>
  intro n h
  cases n with
  |zero=>cases h
  |succ n=>
   obtain⟨c,e,_,h3⟩:=SF.1 h
   rw[h1] at e;cases e
   exact⟨n,Nat.lt_succ_self n,h3 _ h2⟩
 |more _ _ i1 i2=>
  intro n h
  obtain⟨m,h1,h2⟩:=i1 n h
  obtain⟨k,h3,h4⟩:=i2 m h2
  exact⟨k,by omega,h4⟩
theorem Rc.no {x:κ} (h:Rc g x x):¬Rz g x:=by
 rintro⟨n,hn⟩
 induction n using Nat.strongRecOn with
 |_ n ih=>
  obtain⟨m,h1,h2⟩:=h.rz n hn
  exact ih m h1 h2
def G6 {α:Type} (b:List (κ×α)) (x:κ) (v:α):List (κ×α):=match b with
 |[]=>[(x,v)]
 |e::b=>if e.1=x then(e.1,v)::b else e::G6 b x v
theorem Gb {α:Type} {b:List (κ×α)} {x y:κ} {v:α}:JK (G6 b x v) y=if x=y then some v else JK b y:=by
 induction b with
 |nil=>rfl
 |cons e b ih=>
  unfold G6
  by_cases h:e.1=x
  ·rw[if_pos h]
   simp only[JK]
   subst h
   by_cases h1:e.1=y<;>simp[h1]
  ·rw[if_neg h]
   simp only[JK,ih]
   by_cases h1:x=y
   ·subst h1;simp[h]
   ·simp[h1]
def A7i (f:κ→List (κ×Bool)→Option (Bool×List (κ×Bool))):List κ→Bool→List (κ×Bool)→Option (Bool×List (κ×Bool))
 |[],good,b=>some (good,b)
 |p::ps,good,b=>if good then(match f p b with|none=>none|some (v,b')=>A7i f ps v b') else A7i f ps good b
def dfs (g:List (κ×Ce κ)):Nat→κ→List (κ×Bool)→Option (Bool×List (κ×Bool))
 |0,_,_=>none
 |n+1,x,b=>match JK b x with
  |some v=>some (v,b)
  |none=>match JK g x with
   |none=>some (false,G6 (G6 b x false) x false)
   |some c=>match A7i (dfs g n) c.ps (c.real|| !c.ps.isEmpty) (G6 b x false) with
    |none=>none
    |some (v,b')=>some (v,G6 b' x v)
def Xm (g:List (κ×Ce κ)) (b:List (κ×Bool)):Nat:=(g.filter λe=>(JK b e.1).isNone).length
structure InvD (g:List (κ×Ce κ)) (st:List κ) (b:List (κ×Bool)):Prop where
 t:∀y,JK b y=some true→Rz g y
 f:∀y,JK b y=some false→y∈st∨¬Rz g y
def B2i (b b':List (κ×Bool)):Prop:=∀y,JK b y≠none→JK b' y≠none
theorem A8L {b b':List (κ×Bool)} (h:B2i b b'):Xm g b'≤Xm g b:=by
 unfold Xm
 induction g with
 |nil=>simp
 |cons e g ih=>
  rw[l2h,l2h]
  have:=h e.1
  cases h1:JK b e.1<;>cases h2:JK b' e.1<;>simp_all<;>omega
theorem B8v {f:κ→List (κ×Bool)→Option (Bool×List (κ×Bool))} {st:List κ} {k:Nat}
 (hf:∀p b,InvD g st b→(∀s∈st,Rc g s p)→Xm g b<k→∃v b',f p b=some (v,b')∧(v=true↔Rz g p)∧InvD g st b'∧B2i b b'):
 ∀(ps:List κ) (good:Bool) (b:List (κ×Bool)),InvD g st b→(∀p∈ps,∀s∈st,Rc g s p)→Xm g b<k→
  ∃v b',A7i f ps good b=some (v,b')∧(v=true↔good=true∧∀p∈ps,Rz g p)∧InvD g st b'∧B2i b b':=by
 intro ps
 induction ps with
 |nil=>intro good b hi _ _;exact⟨good,b,rfl,by simp,hi,λ_ h=>h⟩
 |cons p ps ih=>
  intro good b hi hs hk
  unfold A7i
  cases good with
  |false=>
   obtain⟨v,b',h1,h2,h3,h4⟩:=ih false b hi (λq hq=>hs q (by simp[hq])) hk
   exact⟨v,b',h1,by rw[h2];simp,h3,h4⟩
  |true=>
   obtain⟨v,b',h1,h2,h3,h4⟩:=hf p b hi (hs p (by simp)) hk
   obtain⟨w,b'',h5,h6,h7,h8⟩:=ih v b' h3 (λq hq=>hs q (by simp[hq])) (Nat.lt_of_le_of_lt (A8L h4) hk)
   refine⟨w,b'',?_,?_,h7,λy hy=>h8 y (h4 y hy)⟩
   ·simp only[h1,if_true];exact h5
   ·rw[h6,h2];simp
theorem C36:∀(n:Nat) (st:List κ) (x:κ) (b:List (κ×Bool)),InvD g st b→(∀s∈st,Rc g s x)→Xm g b<n→
 ∃v b',dfs g (n+1) x b=some (v,b')∧(v=true↔Rz g x)∧InvD g st b'∧B2i b b':=by
 intro n
 induction n with
 |zero=>intro st x b _ _ h;omega
 |succ n ih=>
  intro st x b hi hs hk
  unfold dfs
  cases hl:JK b x with
  |some v=>
   refine⟨v,b,rfl,?_,hi,λ_ h=>h⟩
   cases v with
   |true=>simp[hi.t x hl]
   |false=>
    simp only[l0z,false_iff]
    rcases hi.f x hl with h|h
    ·exact(hs x h).no
    ·exact h
  |none=>
   have hext:∀{b':List (κ×Bool)} {v:Bool},B2i (G6 b x false) b'→B2i b (G6 b' x v):=by
    intro b' v h y hy
    rw[Gb]
    split
    ·simp
    ·have:=h y;rw[Gb] at this;split at this
     ·exact this (by simp)
     ·exact this hy
   cases hg:JK g x with
   |none=>
    have hn:¬Rz g x:= λh=>by obtain⟨c,h1,_⟩:=B5J.1 h;rw[hg] at h1;cases h1
    refine⟨false,_,rfl,by simp[hn],⟨λy h=> ?_,λy h=> ?_⟩,hext λ_ h=>h⟩
    ·rw[Gb] at h;split at h
     ·cases h
     ·rw[Gb] at h;split at h
      ·cases h
      ·exact hi.t y h
    ·rw[Gb] at h;split at h
     ·rename_i e;subst e;exact .inr hn
     ·rw[Gb] at h;split at h
      ·rename_i e;subst e;exact .inr hn
      ·exact hi.f y h
   |some c=>
    have hmem:(x,c)∈g:=X0 hg
    have hlt:Xm g (G6 b x false)<n:=by
     have:Xm g (G6 b x false)<Xm g b:=by
      refine YS (a:=(x,c)) ?_ hmem ?_ ?_
      ·intro a _ h
       rw[Gb] at h
       split at h
       ·cases h
       ·exact h
      ·simp[hl]
      ·simp[Gb]
     omega
    have hinv:InvD g (x::st) (G6 b x false):=by
     refine⟨λy h=> ?_,λy h=> ?_⟩
     ·rw[Gb] at h;split at h
      ·cases h
      ·exact hi.t y h
     ·rw[Gb] at h;split at h
      ·rename_i e;subst e;exact .inl (by simp)
      ·rcases hi.f y h with h|h
       ·exact .inl (by simp[h])
       ·exact .inr h
    obtain⟨v,b',h1,h2,h3,h4⟩:=B8v (f:=dfs g (n+1)) (k:=n) (st:=x::st) (λp b hb hp hk=>ih (x::st) p b hb hp hk) c.ps (c.real|| !c.ps.isEmpty) (G6 b x false) hinv (λp hp s hs'=>by
     rcases TA.1 hs' with rfl|hs'
     ·exact .one hg hp
     ·exact .more (hs s hs') (.one hg hp)) hlt
    have hv:v=true↔Rz g x:=by
     rw[h2,B5J]
     constructor
     ·rintro⟨h5,h6⟩;exact⟨c,hg,by simpa using h5,h6⟩
     ·rintro⟨c',h5,h6,h7⟩;rw[hg] at h5;cases h5;exact⟨by simpa using h6,h7⟩
    refine⟨v,G6 b' x v,?_,hv,⟨λy h=> ?_,λy h=> ?_⟩,hext h4⟩
    ·simp only[h1]
    ·rw[Gb] at h;split at h
     ·rename_i e;subst e;exact hv.1 (by cases h;rfl)
     ·exact h3.t y h
    ·rw[Gb] at h;split at h
     ·rename_i e;subst e
      exact .inr λhr=>by have:=hv.2 hr;rw[this] at h;cases h
     ·rcases h3.f y h with h5|h5
      ·rcases TA.1 h5 with rfl|h5
       ·contradiction
       ·exact .inl h5
      ·exact .inr h5
theorem B8u (x:κ):∃b',dfs g (g.length+2) x []=some (rz g g.length x,b'):=by
 obtain⟨v,b',h1,h2,_,_⟩:=C36 (g:=g) (g.length+1) [] x [] ⟨λy h=>(by cases h),λy h=>(by cases h)⟩ (by simp) (Nat.lt_succ_of_le (List.length_filter_le _ _))
 refine⟨b',?_⟩
 rw[h1]
 have:v=rz g g.length x:=by rw[l0w,h2,C3q]
 rw[this]
end
abbrev SV (s:List UInt8):Value:= .string ⟨⟨s⟩⟩
section
variable {α:Type} {f:α→AV} {b:List (List UInt8×α)} {x:List UInt8} {H:Hp}
abbrev ES (f:α→AV) (b:List (List UInt8×α)):List (Value×AV):=b.map λe=>(SV e.1,f e.2)
def UT (x:List UInt8):List (List UInt8×α)→Nat→Option (Nat×α)
 |[],_=>none
 |e::b,i=>if e.1=x then some (i,e.2) else UT x b (i+1)
theorem Vv {e:List UInt8×α} {i:Nat}:UT x (e::b) i=if e.1=x then some (i,e.2) else UT x b (i+1):=rfl
theorem C5f {s u:List UInt8}:keq (SV s) (SV u)=some (decide (u=s)):=by
 show some (Go.Abs.eqB s u)=_
 rw[OO]
 by_cases h:s=u
 ·subst h;simp
 ·simp[h,Ne.symm h]
theorem B4o:∀(b:List (List UInt8×α)) (i:Nat),Xp (SV x) (ES f b) i=some ((UT x b i).map λp=>(p.1,f p.2)):=by
 intro b
 induction b with
 |nil=>intro i;rfl
 |cons e b ih=>
  intro i
  show Xp (SV x) ((SV e.1,f e.2)::ES f b) i=_
  rw[Wo,C5f,ih,Vv]
  by_cases h:e.1=x
  ·simp[h]
  ·simp[h]
theorem A6W:∀(b:List (List UInt8×α)) (i:Nat),(UT x b i).map (·.2)=JK b x:=by
 intro b
 induction b with
 |nil=>intro i;rfl
 |cons e b ih=>
  intro i
  rw[Vv]
  unfold JK
  by_cases h:e.1=x
  ·simp[h]
  ·simp[h,ih]
theorem A6V (v:α):∀(b:List (List UInt8×α)) (i:Nat),(match UT x b i with|none=>b++[(x,v)]|some (j,_)=>b.set (j-i) (x,v))=G6 b x v∧(∀j w,UT x b i=some (j,w)→i≤j):=by
 intro b
 induction b with
 |nil=>intro i;exact⟨rfl,λj w h=>by cases h⟩
 |cons e b ih=>
  intro i
  rw[Vv]
  unfold G6
  by_cases h:e.1=x
  ·refine⟨?_,λj w hj=> ?_⟩
   ·simp[h]
   ·simp[h] at hj;omega
  ·obtain⟨h1,h2⟩:=ih (i+1)
   refine⟨?_,λj w hj=> ?_⟩
   ·rw[if_neg h,if_neg h,←h1]
    cases hf:UT x b (i+1) with
    |none=>rfl
    |some p=>
     obtain⟨j,w⟩:=p
     have:=h2 j w hf
     have e1:j-i=(j-(i+1))+1:=by omega
     simp only[e1,List.set_cons_succ]
   ·rw[if_neg h] at hj
    have:=h2 j w hj;omega
theorem Pq {r:Nat} {es:List (Value×AV)} {bo:Option (List Nat×Nat)} {K:List (Value×AV)→Aj} (h:Aq H r=some (.map false es bo)):A8V (.mp r) H K=K es:=by
 show J3 H r _=_
 rw[B5 h];rfl
theorem kfK {K:Option (Nat×AV)→Aj}:K8 (SV x) (ES f b) K=K ((UT x b 0).map λp=>(p.1,f p.2)):=by
 unfold K8
 rw[B4o]
theorem Rx {ie:TI} {m:AV} {K:AV→Aj} (h:∀K,A8V m H K=K (ES f b)):TE ie true m (SV x) H K=match JK b x with
 |some v=>K (.tup [f v,Bo true])
 |none=>K (.tup [ie.zero,Bo false]):=by
 unfold TE
 rw[h,kfK,←A6W b 0]
 cases UT x b 0<;>rfl
theorem A0A {ie:TI} {m:AV} {K:AV→Aj} (h:∀K,A8V m H K=K (ES f b)):TE ie false m (SV x) H K=match JK b x with
 |some v=>K (f v)
 |none=>K ie.zero:=by
 unfold TE
 rw[h,kfK,←A6W b 0]
 cases UT x b 0<;>rfl
theorem Tu {r:Nat} {v:α} {K:Hp→Aj} (h:Aq H r=some (.map false (ES f b) none)):Pu (.mp r) (SV x) (f v) H K=K (upd H r (.map false (ES f (G6 b x v)) none)):=by
 have e:Pu (.mp r) (SV x) (f v) H K=J3 H r λy=>A04 y λes bo=>K8 (SV x) es λq=>match q with
  |none=>Lx H r (.map false (es++[(SV x,f v)]) (A4b bo)) K
  |some (i,_)=>Lx H r (.map false (es.set i (SV x,f v)) bo) K:=rfl
 rw[e,B5 h]
 show K8 (SV x) (ES f b) _=_
 rw[kfK]
 obtain⟨h1,h2⟩:=A6V (x:=x) v b 0
 cases hf:UT x b 0 with
 |none=>
  rw[hf] at h1
  show Lx H r (.map false (ES f b++[(SV x,f v)]) none) K=_
  rw[Db,←h1,ES,ES,YG];rfl
 |some p=>
  obtain⟨j,w⟩:=p
  rw[hf] at h1
  show Lx H r (.map false ((ES f b).set j (SV x,f v)) none) K=_
  rw[Db,←h1,ES,ES,List.map_set,Nat.sub_zero]
end
section
variable {L n:Nat}
abbrev uS:Unit→AV:= λ_=> .agg []
section
variable {K:KV} {x:Aj}
theorem A9P {H0 H:Hp} {r0 s e0:Nat} {q0:Bool} {c6 v:AV} {l:List (List UInt8)} {b:List UInt8} (h:Coll H0 r0 s q0 e0 c6 l v H) (hn:l.length<1000000000)
 (hx:∀v' H',Coll H0 r0 s q0 e0 c6 (l++[b]) v' H'→(∀u y,u≠r0→u≠s→¬AF v u→Aq H u=some y→Aq H' u=some y)→(∀u,AF v' u→A2 H≤u)→K (Bo true) H'=x):Dx (E (L+20)) (rt (L+20) (n+1)) (.yl s) [S b] H K=x:=by
 show P0 (rt (L+20) (n+1)) s [S b] H K=x
 rw[RB h.lp (by kernel_rfl)]
 have hrun:(rt (L+20) (n+1)).run= λcf=>Sz (E (L+20)) (rt (L+20) n) cf:=rfl
 rw[hrun,FR,RM h.lp]
 have hw1:=BH (r:=s) (y:=Py (.ptr r0 0 0) c6 none) h.wf
 have hr1:Aq (upd H s (Py (.ptr r0 0 0) c6 none)) r0=some (.cells q0 e0 [v]):=by rw[Ap h.ne];exact h.at_
 have hs1:Aq (upd H s (Py (.ptr r0 0 0) c6 none)) s=some (Py (.ptr r0 0 0) c6 none):=Hd h.lp
 have hv1:Bu (upd H s (Py (.ptr r0 0 0) c6 none)) Ar 1 v l.length (AL l):=h.sl.lat h.wf (Lat.upd H s _ (P:= λu=>u=s) rfl) (λu hu=>(h.new u hu).2.1)
 show Au Ac (.ptr r0 0 0) (upd H s (Py (.ptr r0 0 0) c6 none)) _=_
 rw[AK (p:=0) rfl hr1 (by simp)]
 show FG Ar 1 Ae 1 [(0,1,S b)] (upd H s (Py (.ptr r0 0 0) c6 none)) (λv15 H16=>DN Ar 1 Ae Ac v v15 H16 _)=_
 obtain⟨v',H',h1,h2,h3,h4,h5,h6⟩:=B0y b hv1 hw1 hn
 rw[h1]
 have n0:¬AF v r0:= λhu=>(h.new r0 hu).1 rfl
 have ns:¬AF v s:= λhu=>(h.new s hu).2.1 rfl
 have hr2:=h5 r0 _ hr1 n0
 have hs2:=h5 s _ hs1 ns
 have hone:B9 v'=[v']∧AV.one v'=true:=by
  rcases h2 with⟨rfl,_⟩|⟨a,b,rfl,_⟩<;>exact⟨rfl,rfl⟩
 rw[E4 (q:=q0) (e:=e0) (cs:=[v]) hr2 (by simp) rfl hone.1 hone.2]
 have hnx:A2 H0≤A2 H:=by have:=h.wf.lt h.at_;have:=h.r0n;omega
 have hnu:A2 (upd H s (Py (.ptr r0 0 0) c6 none))=A2 H:=BS _ _ _
 have hfr0:∀u,AF v' u→A2 H≤u:= λu hu=>by have:=h6 u hu;omega
 have hfr:∀u,AF v' u→u≠r0∧u≠s∧A2 H0≤u:= λu hu=>by
  have a1:=hfr0 u hu
  have a2:=h.wf.lt h.at_
  have a3:=h.wf.lt h.lp
  exact⟨by omega,by omega,by omega⟩
 have hs3:Aq (upd H' r0 (.cells q0 e0 [v'])) s=some (Py (.ptr r0 0 0) c6 none):=by rw[Ap h.ne.symm];exact hs2
 show EC (upd H' r0 (.cells q0 e0 [v'])) s false (some none) _=_
 have hs3':=hs3
 unfold Py at hs3'
 rw[RL hs3']
 have kp:∀u y,u≠r0→u≠s→¬AF v u→Aq H u=some y→Aq (upd (upd H' r0 (.cells q0 e0 [v'])) s (Py (.ptr r0 0 0) c6 (some none))) u=some y:= λu y h1 h2 h3 hu=>by
  rw[Ap h2,Ap h1]
  exact h5 u y (by rw[Ap h2];exact hu) h3
 refine hx v' _ ⟨?_,?_,?_,hfr,BH (BH h3),λu y hu=> ?_,h.ne,h.r0n,h.sn,h.w0⟩ kp hfr0
 ·rw[Ap h.ne]
  exact A9 hr2
 ·have a:=h2.lat h3 (Lat.upd H' r0 (.cells q0 e0 [v']) (P:= λu=>u=r0) rfl) (λu hu=>(hfr u hu).1)
  exact a.lat (BH h3) (Lat.upd _ s _ (P:= λu=>u=s) rfl) (λu hu=>(hfr u hu).2.1)
 ·exact Hd hs3
 ·have hlt:=h.w0.lt hu
  have b1:=h.r0n
  have b2:=h.sn
  exact kp u y (by omega) (by omega) (λhv=>by have:=(h.new u hv).2.2;omega) (h.keep u y hu)
theorem Coll.it {H0 H:Hp} {r0 s e0 it:Nat} {q0:Bool} {c6 v:AV} {l:List (List UInt8)} (h:Coll H0 r0 s q0 e0 c6 l v H) (y:Row) (h1:it≠r0∧it≠s∧A2 H0≤it) (h2:¬AF v it):Coll H0 r0 s q0 e0 c6 l v (upd H it y):=
 ⟨by rw[Ap h1.1.symm];exact h.at_,h.sl.lat h.wf (Lat.upd H it y (P:= λu=>u=it) rfl) (λu hu e=>h2 (e▸hu)),by rw[Ap h1.2.1.symm];exact h.lp,h.new,BH h.wf,λu z hu=>by rw[Ap (by have:=h.w0.lt hu;omega)];exact h.keep u z hu,h.ne,h.r0n,h.sn,h.w0⟩
theorem Tj {H:Hp} {r:Nat} {x:Row} {es:List (Value×AV)} {o:Option (Value×AV)} (h:Aq H r=some x):Aq (upd H r (.iter es o)) r=some (.iter es o):=(Dr h).trans rfl
theorem B7X {H0:Hp} {r0 s e0 it:Nat} {q0:Bool} {c6 w:AV} {k4:Hp→Aj} {ks:List (List UInt8)} (hw:XV 6 w w=true) (hlen:ks.length<1000000)
 (hfin:∀l v H,l.Perm ks→(l=[]→v=AA)→Coll H0 r0 s q0 e0 c6 l v H→k4 H=some (w,[])) (hit:it≠r0∧it≠s∧A2 H0≤it):
 ∀(f:Nat) (es:List (List UInt8×Unit)) (l:List (List UInt8)) (v:AV) (H:Hp) (o:Option (Value×AV)),es.length<f→(l++es.map Prod.fst).Perm ks→(l=[]→v=AA)→Coll H0 r0 s q0 e0 c6 l v H→¬AF v it→Aq H it=some (.iter (ES uS es) o)→
 Ci (L+20) (rt (L+20) (n+1)) K k4 f (.yl s) (.it it) H=some (w,[]):=by
 intro f
 induction f with
 |zero=>intro es l v H o h;omega
 |succ f ih=>
  intro es l v H o hf hp h0 hc hv hl
  rw[HE]
  unfold Da
  refine A4M (f:=uS) hw hl (λe=> ?_) (λa e b he=> ?_)
  ·subst e
   rw[OP,Bx]
   exact hfin l v H (by simpa using hp) h0 hc
  ·subst he
   have hc1:=hc.it (.iter (ES uS (a++b)) (some (.string ⟨⟨e.1⟩⟩,uS e.2))) hit hv
   have hl1:=Tj (es:=ES uS (a++b)) (o:=some (.string ⟨⟨e.1⟩⟩,uS e.2)) hl
   have hll:(l++(a++e::b).map Prod.fst).length=ks.length:=hp.length_eq
   simp at hll
   have eo:ofV (.string ⟨⟨e.1⟩⟩)=S e.1:=rfl
   rw[OP,Dc,Vx hl1,OP,eo]
   refine A9P hc1 (by omega) λv' H' hc' hk hr=> ?_
   rw[Ks]
   show Aw (.v (.bool false)) _ _=_
   rw[Bx]
   refine ih (a++b) (l++[e.1]) v' H' _ (by simp at hf⊢;omega) ?_ (by simp) hc' (λhu=> ?_) (hk it _ hit.1 hit.2.1 hv hl1)
   ·refine List.Perm.trans ?_ hp
    simp only[YG,Vu,l0k]
    refine List.Perm.append_left l ?_
    show(e.1::(a.map Prod.fst++b.map Prod.fst)).Perm _
    exact List.perm_middle.symm
   ·have g1:=hr it hu
    have g2:=hc1.wf.lt hl1
    rw[BS] at g1 g2
    omega
end
abbrev YH (c:AV):AV:= .fn (.func Dg) [] [c]
section
variable {K:KV} {w:AV} {H0:Hp} {m rb:Nat} {es:List (List UInt8×Unit)}
theorem C45 (es:List (List UInt8×Unit)):(ES uS es).all (λp=>cl0 3 p.2)=true:=by
 rw[HF]
 intro p hp
 obtain⟨e,_,rfl⟩:=Zp.1 hp
 rfl
theorem A7Z (hw:XV 6 w w=true) (hn:es.length<1000000) (hL:es.length<L) (wf:Wf H0) (hb:Aq H0 rb=some (.cells true Dh [.mp m])) (hm:Aq H0 m=some (.map false (ES uS es) none))
 (hx:∀l v H,l.Perm (es.map Prod.fst)→(l=[]→v=AA)→NewSl (upd H0 m .gone) l v H→K v H=some (w,[])):
 (rt (L+20) (n+4)).call EM [YH (.ptr rb 0 0)] H0 K=some (w,[]):=by
 rw[HB]
 unfold EK
 rw[Ep]
 unfold CA
 simp only[BW]
 rw[A5i (by rfl),WU,HP]
 unfold Df
 simp only[BW]
 have w1:=Bj (x:= .cells true Bb [AA]) wf
 have hn0:=A1 (H:=H0) (x:= .cells true Bb [AA]) (by simp)
 have hne:A2 ((A2 H0,Row.cells true Bb [AA])::H0)=A2 H0+1:=rfl
 have w2:Wf ((A2 H0+1,Py (.ptr (A2 H0) 0 0) (YH (.ptr rb 0 0)) (some none))::(A2 H0,Row.cells true Bb [AA])::H0):=Bj (x:=Py (.ptr (A2 H0) 0 0) (YH (.ptr rb 0 0)) (some none)) w1
 have hs0:Aq ((A2 H0+1,Py (.ptr (A2 H0) 0 0) (YH (.ptr rb 0 0)) (some none))::(A2 H0,Row.cells true Bb [AA])::H0) (A2 H0+1)=some (Py (.ptr (A2 H0) 0 0) (YH (.ptr rb 0 0)) (some none)):=A1 (H:=((A2 H0,Row.cells true Bb [AA])::H0)) (x:=Py (.ptr (A2 H0) 0 0) (YH (.ptr rb 0 0)) (some none)) (by simp[Py])
 have ol:∀u y,Aq H0 u=some y→Aq ((A2 H0+1,Py (.ptr (A2 H0) 0 0) (YH (.ptr rb 0 0)) (some none))::(A2 H0,Row.cells true Bb [AA])::H0) u=some y:= λu y hu=>by
  have a1:=AM (x:= .cells true Bb [AA]) (wf.lt hu) hu
  exact AM (w1.lt a1) a1
 show Au Eh (.ptr rb 0 0) ((A2 H0+1,Py (.ptr (A2 H0) 0 0) (YH (.ptr rb 0 0)) (some none))::(A2 H0,Row.cells true Bb [AA])::H0) _=_
 rw[AK (p:=0) rfl (ol _ _ hb) (by simp)]
 show A09 (.mp m) ((A2 H0+1,Py (.ptr (A2 H0) 0 0) (YH (.ptr rb 0 0)) (some none))::(A2 H0,Row.cells true Bb [AA])::H0) _=_
 rw[B8r (ol _ _ hm) (C45 es)]
 have mlt:=wf.lt hm
 have wg:Wf (upd H0 m .gone):=BH wf
 have hr2:Aq ((A2 H0+1,Py (.ptr (A2 H0) 0 0) (YH (.ptr rb 0 0)) (some none))::(A2 H0,Row.cells true Bb [AA])::H0) (A2 H0)=some (.cells true Bb [AA]):=AM (w1.lt hn0) hn0
 generalize hH2:((A2 H0+1,Py (.ptr (A2 H0) 0 0) (YH (.ptr rb 0 0)) (some none))::(A2 H0,Row.cells true Bb [AA])::H0:Hp)=H2 at w2 hs0 ol hr2
 have hn2:A2 H2=A2 H0+2:=by rw[←hH2];rfl
 have w3:Wf (upd H2 m .gone):=BH w2
 have hn3:A2 (upd H2 m .gone)=A2 H0+2:=by rw[BS,hn2]
 have w4:=Bj (x:= .iter (ES uS es) none) w3
 have up:∀u y,u≠m→Aq H2 u=some y→Aq ((A2 H2,Row.iter (ES uS es) none)::upd H2 m .gone) u=some y:= λu y hu hy=>by
  have a:Aq (upd H2 m .gone) u=some y:=by rw[Ap hu];exact hy
  have b:=AM (x:= .iter (ES uS es) none) (w3.lt a) a
  rw[hn3,←hn2] at b
  exact b
 have it0:Aq ((A2 H2,Row.iter (ES uS es) none)::upd H2 m .gone) (A2 H2)=some (.iter (ES uS es) none):=by
  have:=A1 (H:=upd H2 m .gone) (x:= .iter (ES uS es) none) (by simp)
  rw[BS] at this
  exact this
 rw[BS] at w4
 refine B7X (n:=n) (H0:=upd H0 m .gone) (r0:=A2 H0) (s:=A2 H0+1) (it:=A2 H2) (q0:=true) (e0:=Bb) (c6:=YH (.ptr rb 0 0)) (ks:=es.map Prod.fst) hw (by simpa using hn) ?_ (by rw[BS];omega) (L+20) es [] AA _ none (by omega) (by simp) (λ_=>rfl)
  ⟨up _ _ (by omega) hr2,.inl ⟨rfl,rfl,rfl⟩,up _ _ (by omega) hs0,λu ⟨_,_,_,h⟩=>(by cases h),w4,λu y hu=> ?_,by omega,by rw[BS];omega,by rw[BS];omega,wg⟩ (λ⟨_,_,_,h⟩=>(by cases h)) it0
 ·intro l v H hp h0 hc
  show J3 H (A2 H0+1) _=_
  rw[B5 hc.lp]
  show Lx H (A2 H0+1) .gone _=_
  rw[Db]
  have hr:Aq (upd H (A2 H0+1) .gone) (A2 H0)=some (.cells true Bb [v]):=by rw[Ap (by omega)];exact hc.at_
  show Au Ac (.ptr (A2 H0) 0 0) (upd H (A2 H0+1) .gone) _=_
  rw[AK (p:=0) rfl hr (by simp)]
  refine hx _ _ _ hp h0 ⟨?_,λu hu=>(hc.new u hu).2.2,BH hc.wf,λu y hu=> ?_,?_⟩
  ·exact hc.sl.lat hc.wf (Lat.upd H _ _ (P:= λu=>u=A2 H0+1) rfl) (λu hu=>(hc.new u hu).2.1)
  ·have:=wg.lt hu
   rw[BS] at this
   rw[Ap (by omega)];exact hc.keep u y hu
  ·rw[BS,BS]
   have:=hc.wf.lt hc.at_
   omega
 ·have hne':u≠m:= λe=>by
   subst e
   rw[Dr hm] at hu
   cases hu
  rw[Ap hne'] at hu
  exact up u y hne' (ol u y hu)
theorem B2F {x:Aj} {H:Hp} {ps:List (List UInt8)} {v:AV} (wf:Wf H0) (hn:ps.length<1000000000) (h0:ps=[]→v=AA) (hs:NewSl H0 ps v H) (hx:∀H',NewSl H0 (IB ps) v H'→K (.tup []) H'=x):
 (rt (L+20) (n+4)).call Cg [v] H K=x:=by
 by_cases hp0:ps=[]
 ·subst hp0
  obtain rfl:=h0 rfl
  have e:(rt (L+20) (n+4)).call Cg [AA] H K=K (.tup []) H:=by kernel_rfl
  rw[e]
  exact hx H hs
 have hp:=(C5 ps).length_eq
 rcases hs.sl with⟨_,h,_⟩|⟨r,q,rfl,hl,hc⟩
 ·exact absurd (l1s h) hp0
 ·have e1:∀K,(rt (L+20) (n+4)).call Cg [.sl 1 r 0 ps.length] H K=WR [.sl 1 r 0 ps.length] H K (A2t (E (L+20)) (nT (L+20)) (rt (L+20) (n+3)) Cg [.sl 1 r 0 ps.length] H K):= λK=>rfl
  rw[e1]
  have hso:∀(l:List (List UInt8)),Uj (AL l)=some l:= λl=>by
   induction l with
   |nil=>rfl
   |cons a l ih=>show(Uj (AL l)).map _=_;rw[ih];rfl
  have hpos:0<ps.length:=List.length_pos_iff.2 hp0
  have e2:∀alt K,WR [.sl 1 r 0 ps.length] H K alt=EE 0 (AL (IB ps)) (AL ps) λcs'=>Lx H r (.cells q Ar cs') λH'=>K (.tup []) H':= λalt K=>by
   unfold WR
   simp only[hl,l1n]
   rw[l1z (by rw[Cs];omega),hso]
   have g:(Nat.beq ps.length ps.length&&(Nat.blt ps.length 4611686018427387904&&Nat.blt 0 ps.length))=true:=by simp;omega
   simp only[g]
   rfl
  rw[e2,JX _ _ _ _ (by rw[Cs,Cs];omega),SE _ _ (by rw[Cs,Cs];exact hp),Db]
  refine hx _ ⟨.inr ⟨r,q,by rw[hp],A9 hl,by rw[Cs];omega⟩,λu hu=>hs.new u hu,BH hs.wf,λu y hu=> ?_,by rw[BS];exact hs.nx⟩
  have a1:=wf.lt hu
  have a2:=hs.new r ⟨1,0,ps.length,rfl⟩
  rw[Ap (by omega)];exact hs.keep u y hu
theorem C31 {ty m:Nat} {H:Hp} {K:KV}:DS ty (.mp m) H K=K (.ptr (A2 H) 0 0) ((A2 H,.cells true ty [.mp m])::H):=by
 unfold DS
 rw[CQ,Gk,Ca];rfl
theorem Zg {ks:List (List UInt8)} (hw:XV 6 w w=true) (hn:es.length<1000000) (hL:es.length<L) (wf:Wf H0) (hm:Aq H0 m=some (.map false (ES uS es) none)) (hk:(es.map Prod.fst).Perm ks) (hs:ks.Pairwise (· ≤ ·))
 (hx:∀v H,Bu H Ar 1 v ks.length (AL ks)→(ks=[]→v=AA)→K v H=some (w,[])):(rt (L+20) (n+6)).call Jb [.mp m] H0 K=some (w,[]):=by
 rw[UH]
 unfold Lt
 rw[IW]
 unfold DF
 have eb:∀{K:KV},DS Dh (.mp m) H0 K=K (.ptr (A2 H0) 0 0) ((A2 H0,.cells true Dh [.mp m])::H0):= λ{K}=>C31
 rw[eb]
 show(rt (L+20) (n+5)).call Es [YH (.ptr (A2 H0) 0 0)] ((A2 H0,Row.cells true Dh [.mp m])::H0) _=_
 rw[Ii]
 unfold Fb
 have w1:=Bj (x:= .cells true Dh [.mp m]) wf
 have hb:=A1 (H:=H0) (x:= .cells true Dh [.mp m]) (by simp)
 have hm1:=AM (x:= .cells true Dh [.mp m]) (wf.lt hm) hm
 refine A7Z (n:=n) hw hn hL w1 hb hm1 λl v H hp h0 hc=> ?_
 have e:IB l=ks:=QU ((C5 l).trans (hp.trans hk)) (GF l) hs
 have hll:l.length=es.length:=by rw[hp.length_eq,XU]
 refine B2F (n:=n) (BH w1) (by omega) h0 hc λH' hc'=> ?_
 rw[e] at hc'
 refine hx v H' hc'.sl λh=>h0 ?_
 have:=(hp.trans hk).length_eq
 rw[h] at this
 exact l1s this
end
end
end Go.Abs
end
