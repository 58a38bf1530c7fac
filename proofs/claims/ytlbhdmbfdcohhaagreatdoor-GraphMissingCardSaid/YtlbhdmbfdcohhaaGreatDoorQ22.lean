import Derived.Test.YtlbhdmbfdcohhaaGreatDoorQ16
import Derived.Test.YtlbhdmbfdcohhaaGreatDoorQ21
set_option linter.all false
set_option maxHeartbeats 100000000
noncomputable section
namespace Go.Abs
open Go.RowKit Go.Proofs
set_option maxRecDepth 100000
section
variable {L n:Nat}
attribute [local irreducible] Ah rt YF eBi eEq cnd Go.Abs.Ak Go.Abs.Uc As
section
variable {m:ND} {u:UD} {ca cb ra rb:List UInt8} {T nds:AV} {kd id vd:Int} {r:RD}
theorem A0d {n2:Nat} {c1 c2:List AV} (hT:Sl T) (hN:∃n cs,nds= .list n cs)
 (hp:LS (rt (L+20) (n+59)) F1 [.list n2 c1] (Bo true)) (hv:LS (rt (L+20) (n+59)) DY [.agg (Bs id (.list n2 c2) nds u)] (Bo true)):
 CS (rt (L+20) (n+60)) Dl [.agg (DF kd m u ca cb T ra rb (.list n2 c1) id (.list n2 c2) nds u r vd)] (Bo true):=by
 intro K hK
 obtain⟨n3,c3,rfl⟩:=hN
 rcases hT with rfl|⟨n4,c4,rfl⟩
 all_goals
  rewrite [Ph]
  unfold HD AU CH
  try rewrite [zO]
  try rewrite [bO]
  try rewrite [qO]
  try rewrite [cO]
  generalize rt (L+20) (n+59)=R at*
  conv=>lhs;whnf
  rewrite [(hp) false _ _ ?hq]
  case hq=>exact λK=>by kernel_rfl
  conv=>lhs;whnf
  rewrite [(hv) false _ _ ?hq]
  case hq=>exact λK=>by kernel_rfl
  conv=>lhs;whnf
  rewrite [NH ?hc]
  case hc=>rfl
  conv=>lhs;whnf
  rewrite [A1Q u]
  conv=>lhs;whnf
  exact hK _ _ (λb=>⟨false,λK=>by kernel_rfl⟩)
end
end
section
variable {L n:Nat}
abbrev Ls (l:List (List UInt8)):AV:= .list l.length (B5 l)
theorem Np {l:List (List UInt8)} {K:AV→Al}:AN Ae (Ls l) K=K (I l.length):=id rfl
theorem PA {l:List (List UInt8)} {i:Nat} {K:AV→Al} (h:i<l.length):Bv Ae (Ls l) (I i) K=K (.iptr [S l[i]]):=by
 rw[Ub rfl (by simp[B5]) (by omega) (by omega),Xj,Mr h]
theorem ET {s:List UInt8} {H:Hp} {K:AV→Al}:Aq Ad (.iptr [S s]) H K=K (S s):=QG rfl
theorem DS {ty:TI} {i:Nat} {K:AV→Al} (h:i<1000000000):Go.Abs.Ak ty .add (I i) (.v (.int .i64 1)) K=K (I ((i+1:Nat):Int)):=by
 rw[Cv,Ca (by omega) (by omega),OI]
theorem Ge {ty:TI} {a b:Int} {K:AV→Al} (h:a<b):Go.Abs.Ak ty .lss (I a) (I b) K=K (Bo true):=by rw[Dx,decide_eq_true h]
theorem Gf {ty:TI} {a b:Int} {K:AV→Al} (h:¬a<b):Go.Abs.Ak ty .lss (I a) (I b) K=K (Bo false):=by rw[Dx,decide_eq_false h]
theorem D3 {x y:Al}:As (.v (.bool true)) x y=x:=id rfl
theorem B9 {x y:Al}:As (.v (.bool false)) x y=y:=id rfl
theorem BH {v:AV} {H:Hp} {K:AV→Al}:Aj (some (v,H)) K=K v:=id rfl
section
variable {R:Rt} {K:KV} {ps:List (List UInt8)} {H:Hp}
theorem C1j {k39:AV→AV→AV→Hp→Al} {i:Nat} (hi:i<ps.length) (hn:ps.Nodup) (hb:ps.length<100):∀(f j:Nat),j≤i→i-j<f→
 HR (L+20) R K k39 f (Ls ps) (I i) (I j) H=k39 (Ls ps) (I i) (I i) H:=by
 intro f
 induction f with
 |zero=>intro j _ h;omega
 |succ f ih=>
  intro j hj hf
  rw[OL]
  unfold JJ Ar CH
  by_cases h:j<i
  ·rw[Ge (by omega),D3,PA (by omega),BH,ET,BH,PA hi,BH,ET,BH,JR]
   have hne:ps[j]≠ps[i]:= λe=>by
    have:=(List.getElem_inj (h₀:=by omega) (h₁:=hi) hn).1 e
    omega
   rw[decide_eq_false hne,BH,B9,DS (by omega)]
   exact ih (j+1) (by omega) (by omega)
  ·rw[Gf (by omega),B9]
   have:j=i:=by omega
   rw[this]
theorem C1k {k14:AV→Hp→Al} (hn:ps.Nodup) (hb:ps.length<100) (hL:ps.length<L+20) (hl:∀s∈ps,s.length=32):∀(f i:Nat) (v:AV),i≤ps.length→ps.length-i<f→
 HS (L+20) R K k14 f (Ls ps) (I i) v H=k14 (Ls ps) H:=by
 intro f
 induction f with
 |zero=>intro i v _ h;omega
 |succ f ih=>
  intro i v hi hf
  rw[OM]
  unfold JK Ar CH
  rw[Np]
  by_cases h:i<ps.length
  ·rw[Ge (by omega),D3]
   simp only[Cl]
   rw[PA h,ET,MS rfl,hl _ (Ow h),Hu]
   rw[show(!decide (((32:Nat):Int)=32))=false from rfl,B9]
   have e0:(AV.v (.int .i64 0))=I ((0:Nat):Int):=rfl
   rw[e0,C1j h hn hb _ 0 (by omega) (by omega),DS (by omega)]
   exact ih (i+1) _ (by omega) (by omega)
  ·rw[Gf (by omega),B9]
end
theorem A39 {ps:List (List UInt8)} (hn:ps.Nodup) (h0:1≤ps.length) (hb:ps.length≤6) (hl:∀s∈ps,s.length=32):
 CS (rt (L+20) (n+1)) EW [Ls ps] (.tup [Bo true,I ps.length]):=by
 intro K hK
 rw[PW]
 unfold Ky AU Ar CH
 simp only[Cl]
 have e0:(AV.v (.int .i64 0))=I ((0:Nat):Int):=rfl
 rw[e0,C1k hn (by omega) (by omega) hl _ 0 _ (by omega) (by omega),Np,LV,decide_eq_true (by omega)]
 have g:∀(x:Bool→Al),gdV true (Bo true) x=x true:= λx=>id rfl
 have c:∀{v:AV} {H:Hp} {K:KV},DK (some (v,H)) K=K v H:=id rfl
 simp only[g,c,Np]
 rw[WW,decide_eq_true (by omega)]
 exact hK _ _ (λb=>⟨false,λK=>by kernel_rfl⟩)
end
section
variable {L n:Nat}
theorem Fm (l:List (List UInt8)):(B5 l).length=l.length:=by simp[B5]
theorem B0y (a b:List (List UInt8)):B5 a++B5 b=B5 (a++b):=by simp[B5]
theorem B4S {H:Hp} {v:AV} {l:List (List UInt8)} (b:List UInt8) (h:B1 H AI 1 v l.length (B5 l)) (w:Wf H) (hn:l.length<1000000000):
 ∃v' H',(∀K:KV,(Ft AI 1 Ad 1 [(0,1,S b)] H λv1 H1=>Ea AI 1 Ad Ae v v1 H1 K)=K v' H')∧B1 H' AI 1 v' (l++[b]).length (B5 (l++[b]))∧Wf H'∧A3 H≤A3 H'∧(∀s x,Au H s=some x→¬Bb v s→Au H' s=some x)∧(∀s,Bb v' s→A3 H≤s):=by
 have hv1:B1 ((A3 H,.cells false AI [S b])::H) AI 1 v l.length (B5 l):=h.lat w (Lat.cons H _ (λ_=>False)) (λ_ _ h=>h)
 have hsrc:=OJ (H:=H) (e:=AI) (n:=1) (cs:=[S b]) rfl
 obtain⟨v',H',h1,h2,h3,h4⟩:=apt (ie:=Ad) (i2:=Ae) hv1 (λK=>SK (K:=K) hsrc) rfl rfl (by decide) rfl rfl (by show(l.length+1)*16≤_;omega) (by omega)
 have h5:=(Lat.cons H (.cells false AI [S b]) (Bb v)).trans h4 (R:=Bb v) (λ_ _ h=>h) (λ_ _ h=>h)
 refine⟨v',H',λK=> ?_,by rw[FK,←B0y];exact h2,h5.wf w,h5.nx,λs x hs hn=>h5.keep w s x hs hn,λs hs=> ?_⟩
 ·rw[A8W (z:=S []) (λ_=>rfl) (λ_=>rfl) rfl]
  exact h1 K
 ·rw[h3 s hs];exact l1p _
def Tl (c2 c6:AV) (p:Option (Option Code)):Row:= .loop 13 [(2,c2),(4,AM),(5,AV.dk),(6,c6),(7,AV.dk),(8,AV.dk),(9,AV.dk),(10,AV.dk),(11,AV.dk)] (AZ).2.1 (AZ).2.2.1 (AZ).2.2.2 p
structure Coll (H0:Hp) (r0 s:Nat) (q0:Bool) (e0:Nat) (c6:AV) (l:List (List UInt8)) (v:AV) (H:Hp):Prop where
 at_:Au H r0=some (.cells q0 e0 [v])
 sl:B1 H AI 1 v l.length (B5 l)
 lp:Au H s=some (Tl (.ptr r0 0 0) c6 (some none))
 new:∀u,Bb v u→u≠r0∧u≠s∧A3 H0≤u
 wf:Wf H
 keep:∀u y,Au H0 u=some y→Au H u=some y
 ne:r0≠s
 r0n:A3 H0≤r0
 sn:A3 H0≤s
 w0:Wf H0
variable {K:KV} {x:Al}
theorem B6p {H0 H:Hp} {r0 s e0:Nat} {q0:Bool} {c6 v:AV} {l:List (List UInt8)} {b:List UInt8} (h:Coll H0 r0 s q0 e0 c6 l v H) (hn:l.length<1000000000)
 (hx:∀v' H',Coll H0 r0 s q0 e0 c6 (l++[b]) v' H'→K (Bo true) H'=x):Eb (E (L+20)) (rt (L+20) (n+1)) (.yl s) [S b] H K=x:=by
 show Qg (rt (L+20) (n+1)) s [S b] H K=x
 rw[Uk h.lp (by kernel_rfl)]
 have hrun:(rt (L+20) (n+1)).run= λcf=>Tn (E (L+20)) (rt (L+20) n) cf:=rfl
 rw[hrun,F6,Up h.lp]
 have hw1:=BL (r:=s) (y:=Tl (.ptr r0 0 0) c6 none) h.wf
 have hr1:Au (upd H s (Tl (.ptr r0 0 0) c6 none)) r0=some (.cells q0 e0 [v]):=by rw[Ap h.ne];exact h.at_
 have hs1:Au (upd H s (Tl (.ptr r0 0 0) c6 none)) s=some (Tl (.ptr r0 0 0) c6 none):=Iy h.lp
 have hv1:B1 (upd H s (Tl (.ptr r0 0 0) c6 none)) AI 1 v l.length (B5 l):=h.sl.lat h.wf (Lat.upd H s _ (P:= λu=>u=s) rfl) (λu hu=>(h.new u hu).2.1)
 have hk1:∀u y,Au H0 u=some y→Au (upd H s (Tl (.ptr r0 0 0) c6 none)) u=some y:= λu y hu=>by
  have:=h.w0.lt hu
  rw[Ap (by have:=h.sn;omega)];exact h.keep u y hu
 show Aq Ae (.ptr r0 0 0) (upd H s (Tl (.ptr r0 0 0) c6 none)) _=_
 rw[AQ (p:=0) rfl hr1 (by simp)]
 show Ft AI 1 Ad 1 [(0,1,S b)] (upd H s (Tl (.ptr r0 0 0) c6 none)) (λv15 H16=>Ea AI 1 Ad Ae v v15 H16 _)=_
 obtain⟨v',H',h1,h2,h3,h4,h5,h6⟩:=B4S b hv1 hw1 hn
 rw[h1]
 have n0:¬Bb v r0:= λhu=>(h.new r0 hu).1 rfl
 have ns:¬Bb v s:= λhu=>(h.new s hu).2.1 rfl
 have hr2:=h5 r0 _ hr1 n0
 have hs2:=h5 s _ hs1 ns
 have hone:B6 v'=[v']∧AV.one v'=true:=by
  rcases h2 with⟨rfl,_⟩|⟨a,b,rfl,_⟩<;>exact⟨rfl,rfl⟩
 rw[E1 (q:=q0) (e:=e0) (cs:=[v]) hr2 (by simp) rfl hone.1 hone.2]
 have hnx:A3 H0≤A3 H:=by have:=h.wf.lt h.at_;have:=h.r0n;omega
 have hnu:A3 (upd H s (Tl (.ptr r0 0 0) c6 none))=A3 H:=Cr _ _ _
 have hfr:∀u,Bb v' u→u≠r0∧u≠s∧A3 H0≤u:= λu hu=>by
  have a1:=h6 u hu
  rw[hnu] at a1
  have a2:=h.wf.lt h.at_
  have a3:=h.wf.lt h.lp
  exact⟨by omega,by omega,by omega⟩
 have hs3:Au (upd H' r0 (.cells q0 e0 [v'])) s=some (Tl (.ptr r0 0 0) c6 none):=by rw[Ap h.ne.symm];exact hs2
 show Fb (upd H' r0 (.cells q0 e0 [v'])) s false (some none) _=_
 have hs3':=hs3
 unfold Tl at hs3'
 rw[Uo hs3']
 refine hx v' _ ⟨?_,?_,?_,hfr,BL (BL h3),λu y hu=> ?_,h.ne,h.r0n,h.sn,h.w0⟩
 ·rw[Ap h.ne]
  exact A9 hr2
 ·have a:=h2.lat h3 (Lat.upd H' r0 (.cells q0 e0 [v']) (P:= λu=>u=r0) rfl) (λu hu=>(hfr u hu).1)
  exact a.lat (BL h3) (Lat.upd _ s _ (P:= λu=>u=s) rfl) (λu hu=>(hfr u hu).2.1)
 ·exact Iy hs3
 ·have hlt:=h.w0.lt hu
  have b1:=h.r0n
  have b2:=h.sn
  rw[Ap (by omega),Ap (by omega)]
  refine h5 u y (hk1 u y hu) (λhv=> ?_)
  have:=(h.new u hv).2.2
  omega
theorem C31 {H0:Hp} {r0 s e0:Nat} {q0:Bool} {c6:AV} {k3:Hp→Al} {ps:List (List UInt8)} (hn:ps.length<1000000000) (hx:∀v H,Coll H0 r0 s q0 e0 c6 ps v H→k3 H=x):
 ∀(f i:Nat) (v:AV) (H:Hp),i≤ps.length→ps.length-i<f→Coll H0 r0 s q0 e0 c6 (ps.take i) v H→
  C6 (L+20) (rt (L+20) (n+1)) K k3 f (.yl s) (Ls ps) (I ps.length) (I i) H=x:=by
 intro f
 induction f with
 |zero=>intro i v H _ h;omega
 |succ f ih=>
  intro i v H hi hf hc
  rw[IP]
  unfold D6 Ar
  by_cases h:i<ps.length
  ·rw[Ge (by omega),D3,PA h,ET]
   refine B6p hc (by simp;omega) λv' H' hc'=> ?_
   rw[R5]
   show As (.v (.bool false)) _ _=_
   rw[B9,DS (by omega)]
   rw[←l04 h] at hc'
   exact ih (i+1) v' H' (by omega) (by omega) hc'
  ·rw[Gf (by omega),B9]
   have:i=ps.length:=by omega
   rw[this,l06] at hc
   exact hx v H hc
structure NewSl (H0:Hp) (l:List (List UInt8)) (v:AV) (H:Hp):Prop where
 sl:B1 H AI 1 v l.length (B5 l)
 new:∀u,Bb v u→A3 H0≤u
 wf:Wf H
 keep:∀u y,Au H0 u=some y→Au H u=some y
 nx:A3 H0≤A3 H
abbrev B2p (ps:List (List UInt8)):AV:= .fn (.func DO) [] [.iptr [Ls ps]]
theorem B0v {H0:Hp} {ps:List (List UInt8)} (hn:ps.length<1000000000) (hL:ps.length<L) (w:Wf H0) (hx:∀v H,NewSl H0 ps v H→K v H=x):
 (rt (L+20) (n+4)).call FM [B2p ps] H0 K=x:=by
 rw[JS]
 unfold FI
 rw[FJ]
 unfold CQ
 simp only[Cl]
 rw[A8P (by rfl),A9o,Js]
 unfold DN Ar
 simp only[Cl]
 have e1:∀H K,Aq Ae (.iptr [Ls ps]) H K=K (Ls ps):= λH K=>QG rfl
 rw[e1,Np]
 have e0:(AV.v (.int .i64 0))=I ((0:Nat):Int):=rfl
 rw[e0]
 have w1:=B3 (x:= .cells true BQ [AM]) w
 have hn0:=Ay (H:=H0) (x:= .cells true BQ [AM]) (by simp)
 have hne:A3 ((A3 H0,Row.cells true BQ [AM])::H0)=A3 H0+1:=rfl
 refine C31 (n:=n) (H0:=H0) (r0:=A3 H0) (s:=A3 H0+1) (q0:=true) (e0:=BQ) (c6:=B2p ps) hn ?_ (L+20) 0 AM _ (by omega) (by omega) ⟨Bh (w1.lt hn0) hn0,.inl ⟨rfl,rfl,rfl⟩,Ay (H:=((A3 H0,Row.cells true BQ [AM])::H0)) (x:=Tl (.ptr (A3 H0) 0 0) (B2p ps) (some none)) (by simp[Tl]),λu ⟨_,_,_,h⟩=>(by cases h),B3 w1,λu y hu=> ?_,by omega,by omega,by omega,w⟩
 ·intro v H hc
  rw[hne,Cm hc.lp]
  show Oe H (A3 H0+1) .gone _=x
  rw[D8]
  have hr:Au (upd H (A3 H0+1) .gone) (A3 H0)=some (.cells true BQ [v]):=by rw[Ap (by omega)];exact hc.at_
  show Aq Ae (.ptr (A3 H0) 0 0) (upd H (A3 H0+1) .gone) _=x
  rw[AQ (p:=0) rfl hr (by simp)]
  refine hx _ _ ⟨?_,λu hu=>(hc.new u hu).2.2,BL hc.wf,λu y hu=> ?_,?_⟩
  ·exact hc.sl.lat hc.wf (Lat.upd H _ _ (P:= λu=>u=A3 H0+1) rfl) (λu hu=>(hc.new u hu).2.1)
  ·have:=w.lt hu
   rw[Ap (by omega)];exact hc.keep u y hu
  ·rw[Cr]
   have:=hc.wf.lt hc.at_
   omega
 ·have a1:=Bh (x:= .cells true BQ [AM]) (w.lt hu) hu
  exact Bh (w1.lt a1) a1
theorem B2e {H0:Hp} {ps:List (List UInt8)} (h0:0<ps.length) (hn:ps.length<1000000000) (hL:ps.length<L) (w:Wf H0) (hx:∀v H,NewSl H0 (Ml ps) v H→K v H=x):
 (rt (L+20) (n+5)).call EN [B2p ps] H0 K=x:=by
 rw[Kn]
 unfold Ga
 refine B0v hn hL w λv H hs=> ?_
 have hp:=(G6 ps).length_eq
 rcases hs.sl with⟨_,h,_⟩|⟨r,q,rfl,hl,hc⟩
 ·omega
 ·have e1:∀K,(rt (L+20) (n+4)).call BS [.sl 1 r 0 ps.length] H K=Wd [.sl 1 r 0 ps.length] H K (A1Y (E (L+20)) (nT (L+20)) (rt (L+20) (n+3)) BS [.sl 1 r 0 ps.length] H K):= λK=>rfl
  rw[e1]
  have hso:∀(l:List (List UInt8)),Tv (B5 l)=some l:= λl=>by
   induction l with
   |nil=>rfl
   |cons a l ih=>show(Tv (B5 l)).map _=_;rw[ih];rfl
  have e2:∀alt K,Wd [.sl 1 r 0 ps.length] H K alt=EL 0 (B5 (Ml ps)) (B5 ps) λcs'=>Oe H r (.cells q AI cs') λH'=>K (.tup []) H':= λalt K=>by
   unfold Wd
   simp only[hl,l1n]
   rw[l1z (by rw[Fm];omega),hso]
   have g:(Nat.beq ps.length ps.length&&(Nat.blt ps.length 4611686018427387904&&Nat.blt 0 ps.length))=true:=by simp;omega
   simp only[g]
   rfl
  rw[e2,KO _ _ _ _ (by rw[Fm,Fm];omega),RO _ _ (by rw[Fm,Fm];exact hp),D8]
  refine hx _ _ ⟨.inr ⟨r,q,by rw[hp],A9 hl,by rw[Fm];omega⟩,λu ⟨_,_,_,hh⟩=> ?_,BL hs.wf,λu y hu=> ?_,by rw[Cr];exact hs.nx⟩
  ·injection hh with _ hh
   subst hh
   exact hs.new r ⟨1,0,ps.length,rfl⟩
  ·have a1:=w.lt hu
   have a2:=hs.new r ⟨1,0,ps.length,rfl⟩
   rw[Ap (by omega)];exact hs.keep u y hu
end
section
variable {L n:Nat}
theorem A49 {R:Rt} {m g:Nat} {cap:List AV} {t:Tm} {ps:Array Tmp} {sa bd:Code} {H:Hp} {K:Option (Option Code)→Hp→Al}:
 Xv R m (.fn (.func g) [] cap) t ps sa bd H K=R.call g (.yl (A3 H)::cap) ((A3 H,.loop m t ps sa bd (some none))::H) λ_ H2=>Ks H2 (A3 H) λx=>UX x λ_ _ _ _ _ pend=>Oe H2 (A3 H) .gone λH3=>K pend H3:=by
 have e:Xv R m (.fn (.func g) [] cap) t ps sa bd H K=HM H λs=>V8 [] (.yl s::cap) λall=>R.call g all ((s,.loop m t ps sa bd (some none))::H) λ_ H2=>Ks H2 s λx=>UX x λ_ _ _ _ _ pend=>Oe H2 s .gone λH3=>K pend H3:=rfl
 rw[e,BW,LI];rfl
theorem A9R {es:List (Value×AV)} {H:Hp} {K:KV}:A1L (.imap es) H K=K (.it (A3 H)) ((A3 H,.iter es none)::H):=by
 have e:A1L (.imap es) H K=HM H λs=>K (.it s) ((s,.iter es none)::H):=rfl
 rw[e,BW]
theorem A3x {s:Nat} {H:Hp} {e:Value×AV} {es:List (Value×AV)} {o:Option (Value×AV)} {K:KV} (h:Au H s=some (.iter (e::es) o)):
 A1M (.it s) H K=NP (λe rest=>Oe H s (.iter rest (some e)) λH'=>K (.tup [.v (.bool true),ofV e.1,e.2]) H') (e::es) []:=by
 have e1:A1M (.it s) H K=Ks H s λx=>A9I x λl=>@List.rec (Value×AV) (λ_=>Al) (K (.tup [.v (.bool false)]) H)
  (λ_ _ _=>NP (λe rest=>Oe H s (.iter rest (some e)) λH'=>K (.tup [.v (.bool true),ofV e.1,e.2]) H') l []) l:=rfl
 rw[e1,Cm h];rfl
theorem B4m {s:Nat} {H:Hp} {o:Option (Value×AV)} {K:KV} (h:Au H s=some (.iter [] o)):A1M (.it s) H K=K (.tup [.v (.bool false)]) H:=by
 have e1:A1M (.it s) H K=Ks H s λx=>A9I x λl=>@List.rec (Value×AV) (λ_=>Al) (K (.tup [.v (.bool false)]) H)
  (λ_ _ _=>NP (λe rest=>Oe H s (.iter rest (some e)) λH'=>K (.tup [.v (.bool true),ofV e.1,e.2]) H') l []) l:=rfl
 rw[e1,Cm h];rfl
theorem A3z {s:Nat} {H:Hp} {p:Value×AV} {es:List (Value×AV)} {K:AV→Al} (h:Au H s=some (.iter es (some p))):A6N (.it s) H K=K (.tup [ofV p.1,p.2]):=by
 have e1:A6N (.it s) H K=Ks H s λx=>B3L x λp=>K (.tup [ofV p.1,p.2]):=rfl
 rw[e1,Cm h];rfl
theorem Ym {a:AV} {l:List AV} {K:AV→Al}:AA (.tup (a::l)) 0 K=K a:=id rfl
theorem C25 {a b:AV} {l:List AV} {K:AV→Al}:AA (.tup (a::b::l)) 1 K=K b:=id rfl
theorem B7E {m:Nat} {H:Hp} {es:List (Value×AV)} {bo:Option (List Nat×Nat)} {K:KV} (hl:Au H m=some (.map false es bo)) (hc:es.all (λp=>cl0 3 p.2)=true):A1L (.mp m) H K=K (.it (A3 H)) ((A3 H,.iter es none)::upd H m .gone):=by
 have e:A1L (.mp m) H K=Ks H m λx=>A2I x λes _=>ck (es.all λp=>cl0 3 p.2) (Oe H m .gone λH1=>HM H1 λt=>K (.it t) ((t,.iter es none)::H1)):=rfl
 rw[e,Cm hl]
 show ck (es.all λp=>cl0 3 p.2) _=_
 rw[hc]
 show Oe H m .gone _=_
 rw[D8,BW,Cr]
theorem B0O {F:Value×AV→List (Value×AV)→Al} {v:AV} (hv:aeq 6 v v=true):∀(l pre:List (Value×AV)),l≠[]→(∀l1 e l2,l=l1++e::l2→F e (pre++(l1++l2))=some (v,[]))→NP F l pre=some (v,[]):=by
 intro l
 induction l with
 |nil=>intro _ h;exact absurd rfl h
 |cons e l ih=>
  intro pre _ h
  have h0:=h [] e l rfl
  rw[List.nil_append] at h0
  cases l with
  |nil=>rw[A0Q];rw[l1o] at h0;exact h0
  |cons e' l=>
   rw[Yy,h0,ih (pre++[e]) (by simp) λl1 e1 l2 hl=> ?_]
   ·show(match aeq 6 v v with|true=>some (v,[])|false=>none)=_
    rw[hv]
   ·have:=h (e::l1) e1 l2 (by rw[hl];rfl)
    rw[l0k]
    exact this
theorem B3z {α:Type} {f:α→AV} {es:List (List UInt8×α)} {it:Nat} {H:Hp} {o:Option (Value×AV)} {w:AV} {K:KV} (hw:aeq 6 w w=true)
 (hl:Au H it=some (.iter (es.map λe=>(.string ⟨⟨e.1⟩⟩,f e.2)) o)) (h0:es=[]→K (.tup [.v (.bool false)]) H=some (w,[]))
 (h1:∀a e b,es=a++e::b→K (.tup [.v (.bool true),S e.1,f e.2]) (upd H it (.iter ((a++b).map λe=>(.string ⟨⟨e.1⟩⟩,f e.2)) (some (.string ⟨⟨e.1⟩⟩,f e.2))))=some (w,[])):A1M (.it it) H K=some (w,[]):=by
 cases es with
 |nil=>rw[B4m hl];exact h0 rfl
 |cons e es=>
  rw[ZK] at hl
  rw[A3x hl]
  refine B0O hw _ [] (by simp) λl1 p l2 h=> ?_
  rw[←ZK (f:= λe:List UInt8×α=>((Value.string ⟨⟨e.1⟩⟩:Value),f e.2))] at h
  obtain⟨a,c,h2,h3,h4⟩:=List.map_eq_append_iff.1 h
  obtain⟨e',b,h5,h6,h7⟩:=List.map_eq_cons_iff.1 h4
  subst h5 h3 h6 h7
  rw[D8,List.nil_append,←Zt]
  exact h1 a e' b h2
end
structure Ce (κ:Type) where
 real:Bool
 ps:List κ
section
variable {κ:Type} [DecidableEq κ] {g:List (κ×Ce κ)}
def QO {α:Type}:List (κ×α)→κ→Option α
 |[],_=>none
 |e::g,x=>if e.1=x then some e.2 else QO g x
def rz (g:List (κ×Ce κ)):Nat→κ→Bool
 |0,_=>false
 |n+1,x=>match QO g x with
  |none=>false
  |some c=>(c.real|| !c.ps.isEmpty)&&c.ps.all (rz g n)
def Rz (g:List (κ×Ce κ)) (x:κ):Prop:=∃n,rz g n x=true
theorem RP {n:Nat} {x:κ}:rz g (n+1) x=true↔∃c,QO g x=some c∧(c.real=true∨c.ps≠[])∧∀p∈c.ps,rz g n p=true:=by
 rw[show rz g (n+1) x=(match QO g x with
  |none=>false
  |some c=>(c.real|| !c.ps.isEmpty)&&c.ps.all (rz g n)) from rfl]
 cases QO g x with
 |none=>simp
 |some c=>simp[Hv]
theorem Wg:∀(n:Nat) (x:κ),rz g n x=true→rz g (n+1) x=true:=by
 intro n
 induction n with
 |zero=>intro x h;cases h
 |succ n ih=>
  intro x h
  obtain⟨c,h1,h2,h3⟩:=RP.1 h
  exact RP.2 ⟨c,h1,h2,λp hp=>ih p (h3 p hp)⟩
theorem A9n {n m:Nat} {x:κ} (h:n≤m) (h1:rz g n x=true):rz g m x=true:=by
 induction h with
 |refl=>exact h1
 |step _ ih=>exact Wg _ _ ih
theorem C2n {l:List κ} (h:∀p∈l,Rz g p):∃n,∀p∈l,rz g n p=true:=by
 induction l with
 |nil=>exact⟨0,by simp⟩
 |cons a l ih=>
  obtain⟨n,hn⟩:=ih λp hp=>h p (by simp[hp])
  obtain⟨m,hm⟩:=h a (by simp)
  refine⟨max n m,λp hp=> ?_⟩
  rcases Xi.1 hp with rfl|hp
  ·exact A9n (by omega) hm
  ·exact A9n (by omega) (hn p hp)
theorem B51 {x:κ}:Rz g x↔∃c,QO g x=some c∧(c.real=true∨c.ps≠[])∧∀p∈c.ps,Rz g p:=by
 constructor
 ·rintro⟨n,h⟩
  cases n with
  |zero=>cases h
  |succ n=>
   obtain⟨c,h1,h2,h3⟩:=RP.1 h
   exact⟨c,h1,h2,λp hp=>⟨n,h3 p hp⟩⟩
 ·rintro⟨c,h1,h2,h3⟩
  obtain⟨n,hn⟩:=C2n h3
  exact⟨n+1,RP.2 ⟨c,h1,h2,hn⟩⟩
theorem ZO {α:Type} {x:κ} {c:α}:∀{g:List (κ×α)},QO g x=some c→(x,c)∈g:=by
 intro g
 induction g with
 |nil=>intro h;cases h
 |cons e g ih=>
  intro h
  unfold QO at h
  split at h
  ·rename_i e1;cases h;subst e1;simp
  ·simp[ih h]
def rzN (g:List (κ×Ce κ)) (n:Nat):Nat:=(g.filter λe=>rz g n e.1).length
theorem A3r {α:Type} {p q:α→Bool} {l:List α} (h:∀a∈l,p a=true→q a=true) {a:α} (ha:a∈l) (h1:q a=true) (h2:p a=false):(l.filter p).length<(l.filter q).length:=by
 induction l with
 |nil=>cases ha
 |cons b l ih=>
  have mono:∀l:List α,(∀a∈l,p a=true→q a=true)→(l.filter p).length≤(l.filter q).length:=by
   intro l
   induction l with
   |nil=>intro _;simp
   |cons c l ih=>
    intro h
    have:=ih λa ha=>h a (by simp[ha])
    rw[l2h,l2h]
    have h3:=h c (by simp)
    cases hp:p c<;>cases hq:q c<;>simp_all<;>omega
  have h4:=mono l λa ha=>h a (by simp[ha])
  rw[l2h,l2h]
  rcases Xi.1 ha with rfl|ha
  ·rw[h1,h2];simp;omega
  ·have:=ih (λa ha=>h a (by simp[ha])) ha
   have h3:=h b (by simp)
   cases hp:p b<;>cases hq:q b<;>simp_all<;>omega
theorem B6k (n:Nat):(∀m x,rz g m x=true→rz g n x=true)∨n≤rzN g n:=by
 induction n with
 |zero=>exact .inr (l1c _)
 |succ n ih=>
  rcases ih with ih|ih
  ·exact .inl λm x h=>Wg _ _ (ih m x h)
  ·by_cases hs:∀x,rz g (n+1) x=true→rz g n x=true
   ·left
    have:∀m x,rz g m x=true→rz g n x=true:=by
     intro m
     induction m with
     |zero=>intro x h;cases h
     |succ m ihm=>
      intro x h
      obtain⟨c,h1,h2,h3⟩:=RP.1 h
      exact hs x (RP.2 ⟨c,h1,h2,λp hp=>ihm p (h3 p hp)⟩)
    exact λm x h=>Wg _ _ (this m x h)
   ·right
    have⟨x,hx⟩:∃x,rz g (n+1) x=true∧¬rz g n x=true:=Classical.byContradiction λhc=>hs λx hx=>Classical.byContradiction λhn=>hc ⟨x,hx,hn⟩
    obtain⟨c,h1,_,_⟩:=RP.1 hx.1
    have:=A3r (p:= λe=>rz g n e.1) (q:= λe=>rz g (n+1) e.1) (l:=g) (λa _ h=>Wg _ _ h) (ZO h1) hx.1 (by simpa using hx.2)
    show n+1≤(g.filter λe=>rz g (n+1) e.1).length
    have:n≤(g.filter λe=>rz g n e.1).length:=ih
    omega
theorem C2s {x:κ}:Rz g x↔rz g g.length x=true:=by
 constructor
 ·rintro⟨m,h⟩
  rcases B6k (g:=g) g.length with hs|hs
  ·exact hs m x h
  ·have:∀e∈g,rz g g.length e.1=true:=by
    have h1:(g.filter λe=>rz g g.length e.1).length=g.length:=Nat.le_antisymm (List.length_filter_le _ _) hs
    exact List.length_filter_eq_length_iff.1 h1
   cases m with
   |zero=>cases h
   |succ m=>
    obtain⟨c,h1,_,_⟩:=RP.1 h
    exact this _ (ZO h1)
 ·exact λh=>⟨_,h⟩
inductive Rc (g:List (κ×Ce κ)):κ→κ→Prop
 |one {x y:κ} {c:Ce κ}:QO g x=some c→y∈c.ps→Rc g x y
 |more {x y z:κ}:Rc g x y→Rc g y z→Rc g x z
theorem Rc.rz {x y:κ} (h:Rc g x y):∀n,rz g n x=true→∃m,m<n∧rz g m y=true:=by
 induction h with
 |one h1 h2=>
  intro n h
  cases n with
  |zero=>cases h
  |succ n=>
   obtain⟨c,e,_,h3⟩:=RP.1 h
   rw[h1] at e;cases e
   exact⟨n,Nat.lt_succ_self n,h3 _ h2⟩
 |more _ _ i1 i2=>
  intro n h
  obtain⟨m,h1,h2⟩:=i1 n h
  obtain⟨k,h3,h4⟩:=i2 m h2
  exact⟨k,by omega,h4⟩
theorem Rc.no {x:κ} (h:Rc g x x):¬Rz g x:=by
 rintro⟨n,hn⟩
 induction n using Nat.strongRecOn with
 |_ n ih=>
  obtain⟨m,h1,h2⟩:=h.rz n hn
  exact ih m h1 h2
def HL {α:Type} (b:List (κ×α)) (x:κ) (v:α):List (κ×α):=match b with
 |[]=>[(x,v)]
 |e::b=>if e.1=x then(e.1,v)::b else e::HL b x v
theorem HZ {α:Type} {b:List (κ×α)} {x y:κ} {v:α}:QO (HL b x v) y=if x=y then some v else QO b y:=by
 induction b with
 |nil=>rfl
 |cons e b ih=>
  unfold HL
  by_cases h:e.1=x
  ·rw[if_pos h]
   simp only[QO]
   subst h
   by_cases h1:e.1=y<;>simp[h1]
  ·rw[if_neg h]
   simp only[QO,ih]
   by_cases h1:x=y
   ·subst h1;simp[h]
   ·simp[h1]
def A6S (f:κ→List (κ×Bool)→Option (Bool×List (κ×Bool))):List κ→Bool→List (κ×Bool)→Option (Bool×List (κ×Bool))
 |[],good,b=>some (good,b)
 |p::ps,good,b=>if good then(match f p b with|none=>none|some (v,b')=>A6S f ps v b') else A6S f ps good b
def dfs (g:List (κ×Ce κ)):Nat→κ→List (κ×Bool)→Option (Bool×List (κ×Bool))
 |0,_,_=>none
 |n+1,x,b=>match QO b x with
  |some v=>some (v,b)
  |none=>match QO g x with
   |none=>some (false,HL (HL b x false) x false)
   |some c=>match A6S (dfs g n) c.ps (c.real|| !c.ps.isEmpty) (HL b x false) with
    |none=>none
    |some (v,b')=>some (v,HL b' x v)
def W8 (g:List (κ×Ce κ)) (b:List (κ×Bool)):Nat:=(g.filter λe=>(QO b e.1).isNone).length
structure InvD (g:List (κ×Ce κ)) (st:List κ) (b:List (κ×Bool)):Prop where
 t:∀y,QO b y=some true→Rz g y
 f:∀y,QO b y=some false→y∈st∨¬Rz g y
def B1P (b b':List (κ×Bool)):Prop:=∀y,QO b y≠none→QO b' y≠none
theorem A8n {b b':List (κ×Bool)} (h:B1P b b'):W8 g b'≤W8 g b:=by
 unfold W8
 induction g with
 |nil=>simp
 |cons e g ih=>
  rw[l2h,l2h]
  have:=h e.1
  cases h1:QO b e.1<;>cases h2:QO b' e.1<;>simp_all<;>omega
theorem B7I {f:κ→List (κ×Bool)→Option (Bool×List (κ×Bool))} {st:List κ} {k:Nat}
 (hf:∀p b,InvD g st b→(∀s∈st,Rc g s p)→W8 g b<k→∃v b',f p b=some (v,b')∧(v=true↔Rz g p)∧InvD g st b'∧B1P b b'):
 ∀(ps:List κ) (good:Bool) (b:List (κ×Bool)),InvD g st b→(∀p∈ps,∀s∈st,Rc g s p)→W8 g b<k→
  ∃v b',A6S f ps good b=some (v,b')∧(v=true↔good=true∧∀p∈ps,Rz g p)∧InvD g st b'∧B1P b b':=by
 intro ps
 induction ps with
 |nil=>intro good b hi _ _;exact⟨good,b,rfl,by simp,hi,λ_ h=>h⟩
 |cons p ps ih=>
  intro good b hi hs hk
  unfold A6S
  cases good with
  |false=>
   obtain⟨v,b',h1,h2,h3,h4⟩:=ih false b hi (λq hq=>hs q (by simp[hq])) hk
   exact⟨v,b',h1,by rw[h2];simp,h3,h4⟩
  |true=>
   obtain⟨v,b',h1,h2,h3,h4⟩:=hf p b hi (hs p (by simp)) hk
   obtain⟨w,b'',h5,h6,h7,h8⟩:=ih v b' h3 (λq hq=>hs q (by simp[hq])) (Nat.lt_of_le_of_lt (A8n h4) hk)
   refine⟨w,b'',?_,?_,h7,λy hy=>h8 y (h4 y hy)⟩
   ·simp only[h1,if_true];exact h5
   ·rw[h6,h2];simp
theorem C2d:∀(n:Nat) (st:List κ) (x:κ) (b:List (κ×Bool)),InvD g st b→(∀s∈st,Rc g s x)→W8 g b<n→
 ∃v b',dfs g (n+1) x b=some (v,b')∧(v=true↔Rz g x)∧InvD g st b'∧B1P b b':=by
 intro n
 induction n with
 |zero=>intro st x b _ _ h;omega
 |succ n ih=>
  intro st x b hi hs hk
  unfold dfs
  cases hl:QO b x with
  |some v=>
   refine⟨v,b,rfl,?_,hi,λ_ h=>h⟩
   cases v with
   |true=>simp[hi.t x hl]
   |false=>
    simp only[l0z,false_iff]
    rcases hi.f x hl with h|h
    ·exact(hs x h).no
    ·exact h
  |none=>
   have hext:∀{b':List (κ×Bool)} {v:Bool},B1P (HL b x false) b'→B1P b (HL b' x v):=by
    intro b' v h y hy
    rw[HZ]
    split
    ·simp
    ·have:=h y;rw[HZ] at this;split at this
     ·exact this (by simp)
     ·exact this hy
   cases hg:QO g x with
   |none=>
    have hn:¬Rz g x:= λh=>by obtain⟨c,h1,_⟩:=B51.1 h;rw[hg] at h1;cases h1
    refine⟨false,_,rfl,by simp[hn],⟨λy h=> ?_,λy h=> ?_⟩,hext λ_ h=>h⟩
    ·rw[HZ] at h;split at h
     ·cases h
     ·rw[HZ] at h;split at h
      ·cases h
      ·exact hi.t y h
    ·rw[HZ] at h;split at h
     ·rename_i e;subst e;exact .inr hn
     ·rw[HZ] at h;split at h
      ·rename_i e;subst e;exact .inr hn
      ·exact hi.f y h
   |some c=>
    have hmem:(x,c)∈g:=ZO hg
    have hlt:W8 g (HL b x false)<n:=by
     have:W8 g (HL b x false)<W8 g b:=by
      refine A3r (a:=(x,c)) ?_ hmem ?_ ?_
      ·intro a _ h
       rw[HZ] at h
       split at h
       ·cases h
       ·exact h
      ·simp[hl]
      ·simp[HZ]
     omega
    have hinv:InvD g (x::st) (HL b x false):=by
     refine⟨λy h=> ?_,λy h=> ?_⟩
     ·rw[HZ] at h;split at h
      ·cases h
      ·exact hi.t y h
     ·rw[HZ] at h;split at h
      ·rename_i e;subst e;exact .inl (by simp)
      ·rcases hi.f y h with h|h
       ·exact .inl (by simp[h])
       ·exact .inr h
    obtain⟨v,b',h1,h2,h3,h4⟩:=B7I (f:=dfs g (n+1)) (k:=n) (st:=x::st) (λp b hb hp hk=>ih (x::st) p b hb hp hk) c.ps (c.real|| !c.ps.isEmpty) (HL b x false) hinv (λp hp s hs'=>by
     rcases Xi.1 hs' with rfl|hs'
     ·exact .one hg hp
     ·exact .more (hs s hs') (.one hg hp)) hlt
    have hv:v=true↔Rz g x:=by
     rw[h2,B51]
     constructor
     ·rintro⟨h5,h6⟩;exact⟨c,hg,by simpa using h5,h6⟩
     ·rintro⟨c',h5,h6,h7⟩;rw[hg] at h5;cases h5;exact⟨by simpa using h6,h7⟩
    refine⟨v,HL b' x v,?_,hv,⟨λy h=> ?_,λy h=> ?_⟩,hext h4⟩
    ·simp only[h1]
    ·rw[HZ] at h;split at h
     ·rename_i e;subst e;exact hv.1 (by cases h;rfl)
     ·exact h3.t y h
    ·rw[HZ] at h;split at h
     ·rename_i e;subst e
      exact .inr λhr=>by have:=hv.2 hr;rw[this] at h;cases h
     ·rcases h3.f y h with h5|h5
      ·rcases Xi.1 h5 with rfl|h5
       ·contradiction
       ·exact .inl h5
      ·exact .inr h5
theorem B7H (x:κ):∃b',dfs g (g.length+2) x []=some (rz g g.length x,b'):=by
 obtain⟨v,b',h1,h2,_,_⟩:=C2d (g:=g) (g.length+1) [] x [] ⟨λy h=>(by cases h),λy h=>(by cases h)⟩ (by simp) (Nat.lt_succ_of_le (List.length_filter_le _ _))
 refine⟨b',?_⟩
 rw[h1]
 have:v=rz g g.length x:=by rw[Zs,h2,C2s]
 rw[this]
end
abbrev SV (s:List UInt8):Value:= .string ⟨⟨s⟩⟩
section
variable {α:Type} {f:α→AV} {b:List (List UInt8×α)} {x:List UInt8} {H:Hp}
abbrev Nw (f:α→AV) (b:List (List UInt8×α)):List (Value×AV):=b.map λe=>(SV e.1,f e.2)
def A1C (x:List UInt8):List (List UInt8×α)→Nat→Option (Nat×α)
 |[],_=>none
 |e::b,i=>if e.1=x then some (i,e.2) else A1C x b (i+1)
theorem Yf {e:List UInt8×α} {i:Nat}:A1C x (e::b) i=if e.1=x then some (i,e.2) else A1C x b (i+1):=rfl
theorem C4h {s u:List UInt8}:keq (SV s) (SV u)=some (decide (u=s)):=by
 show some (Go.Abs.eqB s u)=_
 rw[Pz]
 by_cases h:s=u
 ·subst h;simp
 ·simp[h,Ne.symm h]
theorem B3R:∀(b:List (List UInt8×α)) (i:Nat),W9 (SV x) (Nw f b) i=some ((A1C x b i).map λp=>(p.1,f p.2)):=by
 intro b
 induction b with
 |nil=>intro i;rfl
 |cons e b ih=>
  intro i
  show W9 (SV x) ((SV e.1,f e.2)::Nw f b) i=_
  rw[V3,C4h,ih,Yf]
  by_cases h:e.1=x
  ·simp[h]
  ·simp[h]
theorem B47:∀(b:List (List UInt8×α)) (i:Nat),(A1C x b i).map (·.2)=QO b x:=by
 intro b
 induction b with
 |nil=>intro i;rfl
 |cons e b ih=>
  intro i
  rw[Yf]
  unfold QO
  by_cases h:e.1=x
  ·simp[h]
  ·simp[h,ih]
theorem B46 (v:α):∀(b:List (List UInt8×α)) (i:Nat),(match A1C x b i with|none=>b++[(x,v)]|some (j,_)=>b.set (j-i) (x,v))=HL b x v∧(∀j w,A1C x b i=some (j,w)→i≤j):=by
 intro b
 induction b with
 |nil=>intro i;exact⟨rfl,λj w h=>by cases h⟩
 |cons e b ih=>
  intro i
  rw[Yf]
  unfold HL
  by_cases h:e.1=x
  ·refine⟨?_,λj w hj=> ?_⟩
   ·simp[h]
   ·simp[h] at hj;omega
  ·obtain⟨h1,h2⟩:=ih (i+1)
   refine⟨?_,λj w hj=> ?_⟩
   ·rw[if_neg h,if_neg h,←h1]
    cases hf:A1C x b (i+1) with
    |none=>rfl
    |some p=>
     obtain⟨j,w⟩:=p
     have:=h2 j w hf
     have e1:j-i=(j-(i+1))+1:=by omega
     simp only[e1,List.set_cons_succ]
   ·rw[if_neg h] at hj
    have:=h2 j w hj;omega
theorem Uz {r:Nat} {es:List (Value×AV)} {bo:Option (List Nat×Nat)} {K:List (Value×AV)→Al} (h:Au H r=some (.map false es bo)):B1a (.mp r) H K=K es:=by
 show Ks H r _=_
 rw[Cm h];rfl
theorem kfK {K:Option (Nat×AV)→Al}:QA (SV x) (Nw f b) K=K ((A1C x b 0).map λp=>(p.1,f p.2)):=by
 unfold QA
 rw[B3R]
theorem SL {ie:TI} {m:AV} {K:AV→Al} (h:∀K,B1a m H K=K (Nw f b)):Zx ie true m (SV x) H K=match QO b x with
 |some v=>K (.tup [f v,Bo true])
 |none=>K (.tup [ie.zero,Bo false]):=by
 unfold Zx
 rw[h,kfK,←B47 b 0]
 cases A1C x b 0<;>rfl
theorem U9 {r:Nat} {v:α} {K:Hp→Al} (h:Au H r=some (.map false (Nw f b) none)):UQ (.mp r) (SV x) (f v) H K=K (upd H r (.map false (Nw f (HL b x v)) none)):=by
 have e:UQ (.mp r) (SV x) (f v) H K=Ks H r λy=>A2I y λes bo=>QA (SV x) es λq=>match q with
  |none=>Oe H r (.map false (es++[(SV x,f v)]) (B4J bo)) K
  |some (i,_)=>Oe H r (.map false (es.set i (SV x,f v)) bo) K:=rfl
 rw[e,Cm h]
 show QA (SV x) (Nw f b) _=_
 rw[kfK]
 obtain⟨h1,h2⟩:=B46 (x:=x) v b 0
 cases hf:A1C x b 0 with
 |none=>
  rw[hf] at h1
  show Oe H r (.map false (Nw f b++[(SV x,f v)]) none) K=_
  rw[D8,←h1,Nw,Nw,Zt];rfl
 |some p=>
  obtain⟨j,w⟩:=p
  rw[hf] at h1
  show Oe H r (.map false ((Nw f b).set j (SV x,f v)) none) K=_
  rw[D8,←h1,Nw,Nw,List.map_set,Nat.sub_zero]
end
section
variable {L n:Nat}
abbrev uS:Unit→AV:= λ_=> .agg []
section
variable {K:KV} {x:Al}
theorem B6o {H0 H:Hp} {r0 s e0:Nat} {q0:Bool} {c6 v:AV} {l:List (List UInt8)} {b:List UInt8} (h:Coll H0 r0 s q0 e0 c6 l v H) (hn:l.length<1000000000)
 (hx:∀v' H',Coll H0 r0 s q0 e0 c6 (l++[b]) v' H'→(∀u y,u≠r0→u≠s→¬Bb v u→Au H u=some y→Au H' u=some y)→(∀u,Bb v' u→A3 H≤u)→K (Bo true) H'=x):Eb (E (L+20)) (rt (L+20) (n+1)) (.yl s) [S b] H K=x:=by
 show Qg (rt (L+20) (n+1)) s [S b] H K=x
 rw[Uk h.lp (by kernel_rfl)]
 have hrun:(rt (L+20) (n+1)).run= λcf=>Tn (E (L+20)) (rt (L+20) n) cf:=rfl
 rw[hrun,F6,Up h.lp]
 have hw1:=BL (r:=s) (y:=Tl (.ptr r0 0 0) c6 none) h.wf
 have hr1:Au (upd H s (Tl (.ptr r0 0 0) c6 none)) r0=some (.cells q0 e0 [v]):=by rw[Ap h.ne];exact h.at_
 have hs1:Au (upd H s (Tl (.ptr r0 0 0) c6 none)) s=some (Tl (.ptr r0 0 0) c6 none):=Iy h.lp
 have hv1:B1 (upd H s (Tl (.ptr r0 0 0) c6 none)) AI 1 v l.length (B5 l):=h.sl.lat h.wf (Lat.upd H s _ (P:= λu=>u=s) rfl) (λu hu=>(h.new u hu).2.1)
 show Aq Ae (.ptr r0 0 0) (upd H s (Tl (.ptr r0 0 0) c6 none)) _=_
 rw[AQ (p:=0) rfl hr1 (by simp)]
 show Ft AI 1 Ad 1 [(0,1,S b)] (upd H s (Tl (.ptr r0 0 0) c6 none)) (λv15 H16=>Ea AI 1 Ad Ae v v15 H16 _)=_
 obtain⟨v',H',h1,h2,h3,h4,h5,h6⟩:=B4S b hv1 hw1 hn
 rw[h1]
 have n0:¬Bb v r0:= λhu=>(h.new r0 hu).1 rfl
 have ns:¬Bb v s:= λhu=>(h.new s hu).2.1 rfl
 have hr2:=h5 r0 _ hr1 n0
 have hs2:=h5 s _ hs1 ns
 have hone:B6 v'=[v']∧AV.one v'=true:=by
  rcases h2 with⟨rfl,_⟩|⟨a,b,rfl,_⟩<;>exact⟨rfl,rfl⟩
 rw[E1 (q:=q0) (e:=e0) (cs:=[v]) hr2 (by simp) rfl hone.1 hone.2]
 have hnx:A3 H0≤A3 H:=by have:=h.wf.lt h.at_;have:=h.r0n;omega
 have hnu:A3 (upd H s (Tl (.ptr r0 0 0) c6 none))=A3 H:=Cr _ _ _
 have hfr0:∀u,Bb v' u→A3 H≤u:= λu hu=>by have:=h6 u hu;omega
 have hfr:∀u,Bb v' u→u≠r0∧u≠s∧A3 H0≤u:= λu hu=>by
  have a1:=hfr0 u hu
  have a2:=h.wf.lt h.at_
  have a3:=h.wf.lt h.lp
  exact⟨by omega,by omega,by omega⟩
 have hs3:Au (upd H' r0 (.cells q0 e0 [v'])) s=some (Tl (.ptr r0 0 0) c6 none):=by rw[Ap h.ne.symm];exact hs2
 show Fb (upd H' r0 (.cells q0 e0 [v'])) s false (some none) _=_
 have hs3':=hs3
 unfold Tl at hs3'
 rw[Uo hs3']
 have kp:∀u y,u≠r0→u≠s→¬Bb v u→Au H u=some y→Au (upd (upd H' r0 (.cells q0 e0 [v'])) s (Tl (.ptr r0 0 0) c6 (some none))) u=some y:= λu y h1 h2 h3 hu=>by
  rw[Ap h2,Ap h1]
  exact h5 u y (by rw[Ap h2];exact hu) h3
 refine hx v' _ ⟨?_,?_,?_,hfr,BL (BL h3),λu y hu=> ?_,h.ne,h.r0n,h.sn,h.w0⟩ kp hfr0
 ·rw[Ap h.ne]
  exact A9 hr2
 ·have a:=h2.lat h3 (Lat.upd H' r0 (.cells q0 e0 [v']) (P:= λu=>u=r0) rfl) (λu hu=>(hfr u hu).1)
  exact a.lat (BL h3) (Lat.upd _ s _ (P:= λu=>u=s) rfl) (λu hu=>(hfr u hu).2.1)
 ·exact Iy hs3
 ·have hlt:=h.w0.lt hu
  have b1:=h.r0n
  have b2:=h.sn
  exact kp u y (by omega) (by omega) (λhv=>by have:=(h.new u hv).2.2;omega) (h.keep u y hu)
theorem Coll.it {H0 H:Hp} {r0 s e0 it:Nat} {q0:Bool} {c6 v:AV} {l:List (List UInt8)} (h:Coll H0 r0 s q0 e0 c6 l v H) (y:Row) (h1:it≠r0∧it≠s∧A3 H0≤it) (h2:¬Bb v it):Coll H0 r0 s q0 e0 c6 l v (upd H it y):=
 ⟨by rw[Ap h1.1.symm];exact h.at_,h.sl.lat h.wf (Lat.upd H it y (P:= λu=>u=it) rfl) (λu hu e=>h2 (e▸hu)),by rw[Ap h1.2.1.symm];exact h.lp,h.new,BL h.wf,λu z hu=>by rw[Ap (by have:=h.w0.lt hu;omega)];exact h.keep u z hu,h.ne,h.r0n,h.sn,h.w0⟩
theorem A1d {H:Hp} {r:Nat} {x:Row} {es:List (Value×AV)} {o:Option (Value×AV)} (h:Au H r=some x):Au (upd H r (.iter es o)) r=some (.iter es o):=(Ef h).trans rfl
theorem B7d {H0:Hp} {r0 s e0 it:Nat} {q0:Bool} {c6 w:AV} {k4:Hp→Al} {ks:List (List UInt8)} (hw:aeq 6 w w=true) (hlen:ks.length<1000000)
 (hfin:∀l v H,l.Perm ks→(l=[]→v=AM)→Coll H0 r0 s q0 e0 c6 l v H→k4 H=some (w,[])) (hit:it≠r0∧it≠s∧A3 H0≤it):
 ∀(f:Nat) (es:List (List UInt8×Unit)) (l:List (List UInt8)) (v:AV) (H:Hp) (o:Option (Value×AV)),es.length<f→(l++es.map Prod.fst).Perm ks→(l=[]→v=AM)→Coll H0 r0 s q0 e0 c6 l v H→¬Bb v it→Au H it=some (.iter (Nw uS es) o)→
 BX (L+20) (rt (L+20) (n+1)) K k4 f (.yl s) (.it it) H=some (w,[]):=by
 intro f
 induction f with
 |zero=>intro es l v H o h;omega
 |succ f ih=>
  intro es l v H o hf hp h0 hc hv hl
  rw[GQ]
  unfold C9
  refine B3z (f:=uS) hw hl (λe=> ?_) (λa e b he=> ?_)
  ·subst e
   rw[Ym,B9]
   exact hfin l v H (by simpa using hp) h0 hc
  ·subst he
   have hc1:=hc.it (.iter (Nw uS (a++b)) (some (.string ⟨⟨e.1⟩⟩,uS e.2))) hit hv
   have hl1:=A1d (es:=Nw uS (a++b)) (o:=some (.string ⟨⟨e.1⟩⟩,uS e.2)) hl
   have hll:(l++(a++e::b).map Prod.fst).length=ks.length:=hp.length_eq
   simp at hll
   have eo:ofV (.string ⟨⟨e.1⟩⟩)=S e.1:=rfl
   rw[Ym,D3,A3z hl1,Ym,eo]
   refine B6o hc1 (by omega) λv' H' hc' hk hr=> ?_
   rw[R5]
   show As (.v (.bool false)) _ _=_
   rw[B9]
   refine ih (a++b) (l++[e.1]) v' H' _ (by simp at hf⊢;omega) ?_ (by simp) hc' (λhu=> ?_) (hk it _ hit.1 hit.2.1 hv hl1)
   ·refine List.Perm.trans ?_ hp
    simp only[Zt,ZK,l0k]
    refine List.Perm.append_left l ?_
    show(e.1::(a.map Prod.fst++b.map Prod.fst)).Perm _
    exact List.perm_middle.symm
   ·have g1:=hr it hu
    have g2:=hc1.wf.lt hl1
    rw[Cr] at g1 g2
    omega
end
abbrev XU (c:AV):AV:= .fn (.func CE) [] [c]
section
variable {K:KV} {w:AV} {H0:Hp} {m rb:Nat} {es:List (List UInt8×Unit)}
theorem C34 (es:List (List UInt8×Unit)):(Nw uS es).all (λp=>cl0 3 p.2)=true:=by
 rw[Hv]
 intro p hp
 obtain⟨e,_,rfl⟩:=l2a.1 hp
 rfl
theorem A7C (hw:aeq 6 w w=true) (hn:es.length<1000000) (hL:es.length<L) (wf:Wf H0) (hb:Au H0 rb=some (.cells true Dm [.mp m])) (hm:Au H0 m=some (.map false (Nw uS es) none))
 (hx:∀l v H,l.Perm (es.map Prod.fst)→(l=[]→v=AM)→NewSl (upd H0 m .gone) l v H→K v H=some (w,[])):
 (rt (L+20) (n+4)).call FM [XU (.ptr rb 0 0)] H0 K=some (w,[]):=by
 rw[JS]
 unfold FI
 rw[FJ]
 unfold CQ
 simp only[Cl]
 rw[A8P (by rfl),A49,Hg]
 unfold CD
 simp only[Cl]
 have w1:=B3 (x:= .cells true BQ [AM]) wf
 have hn0:=Ay (H:=H0) (x:= .cells true BQ [AM]) (by simp)
 have hne:A3 ((A3 H0,Row.cells true BQ [AM])::H0)=A3 H0+1:=rfl
 have w2:Wf ((A3 H0+1,Tl (.ptr (A3 H0) 0 0) (XU (.ptr rb 0 0)) (some none))::(A3 H0,Row.cells true BQ [AM])::H0):=B3 (x:=Tl (.ptr (A3 H0) 0 0) (XU (.ptr rb 0 0)) (some none)) w1
 have hs0:Au ((A3 H0+1,Tl (.ptr (A3 H0) 0 0) (XU (.ptr rb 0 0)) (some none))::(A3 H0,Row.cells true BQ [AM])::H0) (A3 H0+1)=some (Tl (.ptr (A3 H0) 0 0) (XU (.ptr rb 0 0)) (some none)):=Ay (H:=((A3 H0,Row.cells true BQ [AM])::H0)) (x:=Tl (.ptr (A3 H0) 0 0) (XU (.ptr rb 0 0)) (some none)) (by simp[Tl])
 have ol:∀u y,Au H0 u=some y→Au ((A3 H0+1,Tl (.ptr (A3 H0) 0 0) (XU (.ptr rb 0 0)) (some none))::(A3 H0,Row.cells true BQ [AM])::H0) u=some y:= λu y hu=>by
  have a1:=Bh (x:= .cells true BQ [AM]) (wf.lt hu) hu
  exact Bh (w1.lt a1) a1
 show Aq CF (.ptr rb 0 0) ((A3 H0+1,Tl (.ptr (A3 H0) 0 0) (XU (.ptr rb 0 0)) (some none))::(A3 H0,Row.cells true BQ [AM])::H0) _=_
 rw[AQ (p:=0) rfl (ol _ _ hb) (by simp)]
 show A1L (.mp m) ((A3 H0+1,Tl (.ptr (A3 H0) 0 0) (XU (.ptr rb 0 0)) (some none))::(A3 H0,Row.cells true BQ [AM])::H0) _=_
 rw[B7E (ol _ _ hm) (C34 es)]
 have mlt:=wf.lt hm
 have wg:Wf (upd H0 m .gone):=BL wf
 have hr2:Au ((A3 H0+1,Tl (.ptr (A3 H0) 0 0) (XU (.ptr rb 0 0)) (some none))::(A3 H0,Row.cells true BQ [AM])::H0) (A3 H0)=some (.cells true BQ [AM]):=Bh (w1.lt hn0) hn0
 generalize hH2:((A3 H0+1,Tl (.ptr (A3 H0) 0 0) (XU (.ptr rb 0 0)) (some none))::(A3 H0,Row.cells true BQ [AM])::H0:Hp)=H2 at w2 hs0 ol hr2
 have hn2:A3 H2=A3 H0+2:=by rw[←hH2];rfl
 have w3:Wf (upd H2 m .gone):=BL w2
 have hn3:A3 (upd H2 m .gone)=A3 H0+2:=by rw[Cr,hn2]
 have w4:=B3 (x:= .iter (Nw uS es) none) w3
 have up:∀u y,u≠m→Au H2 u=some y→Au ((A3 H2,Row.iter (Nw uS es) none)::upd H2 m .gone) u=some y:= λu y hu hy=>by
  have a:Au (upd H2 m .gone) u=some y:=by rw[Ap hu];exact hy
  have b:=Bh (x:= .iter (Nw uS es) none) (w3.lt a) a
  rw[hn3,←hn2] at b
  exact b
 have it0:Au ((A3 H2,Row.iter (Nw uS es) none)::upd H2 m .gone) (A3 H2)=some (.iter (Nw uS es) none):=by
  have:=Ay (H:=upd H2 m .gone) (x:= .iter (Nw uS es) none) (by simp)
  rw[Cr] at this
  exact this
 rw[Cr] at w4
 refine B7d (n:=n) (H0:=upd H0 m .gone) (r0:=A3 H0) (s:=A3 H0+1) (it:=A3 H2) (q0:=true) (e0:=BQ) (c6:=XU (.ptr rb 0 0)) (ks:=es.map Prod.fst) hw (by simpa using hn) ?_ (by rw[Cr];omega) (L+20) es [] AM _ none (by omega) (by simp) (λ_=>rfl)
  ⟨up _ _ (by omega) hr2,.inl ⟨rfl,rfl,rfl⟩,up _ _ (by omega) hs0,λu ⟨_,_,_,h⟩=>(by cases h),w4,λu y hu=> ?_,by omega,by rw[Cr];omega,by rw[Cr];omega,wg⟩ (λ⟨_,_,_,h⟩=>(by cases h)) it0
 ·intro l v H hp h0 hc
  show Ks H (A3 H0+1) _=_
  rw[Cm hc.lp]
  show Oe H (A3 H0+1) .gone _=_
  rw[D8]
  have hr:Au (upd H (A3 H0+1) .gone) (A3 H0)=some (.cells true BQ [v]):=by rw[Ap (by omega)];exact hc.at_
  show Aq Ae (.ptr (A3 H0) 0 0) (upd H (A3 H0+1) .gone) _=_
  rw[AQ (p:=0) rfl hr (by simp)]
  refine hx _ _ _ hp h0 ⟨?_,λu hu=>(hc.new u hu).2.2,BL hc.wf,λu y hu=> ?_,?_⟩
  ·exact hc.sl.lat hc.wf (Lat.upd H _ _ (P:= λu=>u=A3 H0+1) rfl) (λu hu=>(hc.new u hu).2.1)
  ·have:=wg.lt hu
   rw[Cr] at this
   rw[Ap (by omega)];exact hc.keep u y hu
  ·rw[Cr,Cr]
   have:=hc.wf.lt hc.at_
   omega
 ·have hne':u≠m:= λe=>by
   subst e
   rw[Ef hm] at hu
   cases hu
  rw[Ap hne'] at hu
  exact up u y hne' (ol u y hu)
theorem B8N {x:Al} {H:Hp} {ps:List (List UInt8)} {v:AV} (wf:Wf H0) (hn:ps.length<1000000000) (h0:ps=[]→v=AM) (hs:NewSl H0 ps v H) (hx:∀H',NewSl H0 (Ml ps) v H'→K (.tup []) H'=x):
 (rt (L+20) (n+4)).call BS [v] H K=x:=by
 by_cases hp0:ps=[]
 ·subst hp0
  obtain rfl:=h0 rfl
  have e:(rt (L+20) (n+4)).call BS [AM] H K=K (.tup []) H:=by kernel_rfl
  rw[e]
  exact hx H hs
 have hp:=(G6 ps).length_eq
 rcases hs.sl with⟨_,h,_⟩|⟨r,q,rfl,hl,hc⟩
 ·exact absurd (l1s h) hp0
 ·have e1:∀K,(rt (L+20) (n+4)).call BS [.sl 1 r 0 ps.length] H K=Wd [.sl 1 r 0 ps.length] H K (A1Y (E (L+20)) (nT (L+20)) (rt (L+20) (n+3)) BS [.sl 1 r 0 ps.length] H K):= λK=>rfl
  rw[e1]
  have hso:∀(l:List (List UInt8)),Tv (B5 l)=some l:= λl=>by
   induction l with
   |nil=>rfl
   |cons a l ih=>show(Tv (B5 l)).map _=_;rw[ih];rfl
  have hpos:0<ps.length:=List.length_pos_iff.2 hp0
  have e2:∀alt K,Wd [.sl 1 r 0 ps.length] H K alt=EL 0 (B5 (Ml ps)) (B5 ps) λcs'=>Oe H r (.cells q AI cs') λH'=>K (.tup []) H':= λalt K=>by
   unfold Wd
   simp only[hl,l1n]
   rw[l1z (by rw[Fm];omega),hso]
   have g:(Nat.beq ps.length ps.length&&(Nat.blt ps.length 4611686018427387904&&Nat.blt 0 ps.length))=true:=by simp;omega
   simp only[g]
   rfl
  rw[e2,KO _ _ _ _ (by rw[Fm,Fm];omega),RO _ _ (by rw[Fm,Fm];exact hp),D8]
  refine hx _ ⟨.inr ⟨r,q,by rw[hp],A9 hl,by rw[Fm];omega⟩,λu hu=>hs.new u hu,BL hs.wf,λu y hu=> ?_,by rw[Cr];exact hs.nx⟩
  have a1:=wf.lt hu
  have a2:=hs.new r ⟨1,0,ps.length,rfl⟩
  rw[Ap (by omega)];exact hs.keep u y hu
theorem C27 {ty m:Nat} {H:Hp} {K:KV}:CU ty (.mp m) H K=K (.ptr (A3 H) 0 0) ((A3 H,.cells true ty [.mp m])::H):=by
 unfold CU
 rw[Da,FZ,BW];rfl
theorem A5s {ks:List (List UInt8)} (hw:aeq 6 w w=true) (hn:es.length<1000000) (hL:es.length<L) (wf:Wf H0) (hm:Au H0 m=some (.map false (Nw uS es) none)) (hk:(es.map Prod.fst).Perm ks) (hs:ks.Pairwise (· ≤ ·))
 (hx:∀v H,B1 H AI 1 v ks.length (B5 ks)→(ks=[]→v=AM)→K v H=some (w,[])):(rt (L+20) (n+6)).call GC [.mp m] H0 K=some (w,[]):=by
 rw[TP]
 unfold KK
 rw[Iw]
 unfold Dr
 have eb:∀{K:KV},CU Dm (.mp m) H0 K=K (.ptr (A3 H0) 0 0) ((A3 H0,.cells true Dm [.mp m])::H0):= λ{K}=>C27
 rw[eb]
 show(rt (L+20) (n+5)).call EN [XU (.ptr (A3 H0) 0 0)] ((A3 H0,Row.cells true Dm [.mp m])::H0) _=_
 rw[Kn]
 unfold Ga
 have w1:=B3 (x:= .cells true Dm [.mp m]) wf
 have hb:=Ay (H:=H0) (x:= .cells true Dm [.mp m]) (by simp)
 have hm1:=Bh (x:= .cells true Dm [.mp m]) (wf.lt hm) hm
 refine A7C (n:=n) hw hn hL w1 hb hm1 λl v H hp h0 hc=> ?_
 have e:Ml l=ks:=UV ((G6 l).trans (hp.trans hk)) (Ox l) hs
 have hll:l.length=es.length:=by rw[hp.length_eq,l1u]
 refine B8N (n:=n) (BL w1) (by omega) h0 hc λH' hc'=> ?_
 rw[e] at hc'
 refine hx v H' hc'.sl λh=>h0 ?_
 have:=(hp.trans hk).length_eq
 rw[h] at this
 exact l1s this
end
end
end Go.Abs
end
