import Derived.Test.YtlbhdmbfdcohhaaGreatDoorS16
import Derived.Test.YtlbhdmbfdcohhaaGreatDoorS21
set_option linter.all false
set_option maxHeartbeats 100000000
noncomputable section
namespace Go.Abs
open Go.RowKit Go.Proofs
set_option maxRecDepth 100000
section
variable {L n:Nat}
attribute [local irreducible] Ah rt Zu eBi eEq cnd Go.Abs.Ak Go.Abs.UY Aw
section
variable {m:ND} {u:UD} {ca cb ra rb:List UInt8} {T nds:AV} {kd id vd:Int} {r:RD}
theorem A0T {n2:Nat} {c1 c2:List AV} (hT:Sl T) (hN:∃n cs,nds= .list n cs)
 (hp:LS (rt (L+20) (n+59)) FG [.list n2 c1] (Bo true)) (hv:LS (rt (L+20) (n+59)) Ey [.agg (B2 id (.list n2 c2) nds u)] (Bo true)):
 CS (rt (L+20) (n+60)) D9 [.agg (Eb kd m u ca cb T ra rb (.list n2 c1) id (.list n2 c2) nds u r vd)] (Bo true):=by
 intro K hK
 obtain⟨n3,c3,rfl⟩:=hN
 rcases hT with rfl|⟨n4,c4,rfl⟩
 all_goals
  rewrite [Qg]
  unfold Ii Bc Dr
  try rewrite [zO]
  try rewrite [bO]
  try rewrite [qO]
  try rewrite [cO]
  generalize rt (L+20) (n+59)=R at*
  conv=>lhs;whnf
  rewrite [(hp) false _ _ ?hq]
  case hq=>exact λK=>by kernel_rfl
  conv=>lhs;whnf
  rewrite [(hv) false _ _ ?hq]
  case hq=>exact λK=>by kernel_rfl
  conv=>lhs;whnf
  rewrite [Oz ?hc]
  case hc=>rfl
  conv=>lhs;whnf
  rewrite [A2h u]
  conv=>lhs;whnf
  exact hK _ _ (λb=>⟨false,λK=>by kernel_rfl⟩)
end
end
section
variable {L n:Nat}
abbrev Ls (l:List (List UInt8)):AV:= .list l.length (AK l)
theorem Lc {l:List (List UInt8)} {K:AV→Aj}:AQ Ac (Ls l) K=K (I l.length):=id rfl
theorem NL {l:List (List UInt8)} {i:Nat} {K:AV→Aj} (h:i<l.length):B9 Ac (Ls l) (I i) K=K (.iptr [S l[i]]):=by
 rw[UX rfl (by simp[AK]) (by omega) (by omega),XP,Nj h]
theorem Gt {s:List UInt8} {H:Hp} {K:AV→Aj}:Ar Ae (.iptr [S s]) H K=K (S s):=NJ rfl
theorem D4 {ty:TI} {i:Nat} {K:AV→Aj} (h:i<1000000000):Go.Abs.Ak ty .add (I i) (.v (.int .i64 1)) K=K (I ((i+1:Nat):Int)):=by
 rw[CH,Cp (by omega) (by omega),PH]
theorem FW {ty:TI} {a b:Int} {K:AV→Aj} (h:a<b):Go.Abs.Ak ty .lss (I a) (I b) K=K (Bo true):=by rw[DL,decide_eq_true h]
theorem FE {ty:TI} {a b:Int} {K:AV→Aj} (h:¬a<b):Go.Abs.Ak ty .lss (I a) (I b) K=K (Bo false):=by rw[DL,decide_eq_false h]
theorem De {x y:Aj}:Aw (.v (.bool true)) x y=x:=id rfl
theorem Bz {x y:Aj}:Aw (.v (.bool false)) x y=y:=id rfl
theorem BN {v:AV} {H:Hp} {K:AV→Aj}:Ai (some (v,H)) K=K v:=id rfl
section
variable {R:Rt} {K:KV} {ps:List (List UInt8)} {H:Hp}
theorem C2d {k39:AV→AV→AV→Hp→Aj} {i:Nat} (hi:i<ps.length) (hn:ps.Nodup) (hb:ps.length<100):∀(f j:Nat),j≤i→i-j<f→
 Ix (L+20) R K k39 f (Ls ps) (I i) (I j) H=k39 (Ls ps) (I i) (I i) H:=by
 intro f
 induction f with
 |zero=>intro j _ h;omega
 |succ f ih=>
  intro j hj hf
  rw[PJ]
  unfold Kk Av Dr
  by_cases h:j<i
  ·rw[FW (by omega),De,NL (by omega),BN,Gt,BN,NL hi,BN,Gt,BN,L9]
   have hne:ps[j]≠ps[i]:= λe=>by
    have:=(List.getElem_inj (h₀:=by omega) (h₁:=hi) hn).1 e
    omega
   rw[decide_eq_false hne,BN,Bz,D4 (by omega)]
   exact ih (j+1) (by omega) (by omega)
  ·rw[FE (by omega),Bz]
   have:j=i:=by omega
   rw[this]
theorem C2e {k14:AV→Hp→Aj} (hn:ps.Nodup) (hb:ps.length<100) (hL:ps.length<L+20) (hl:∀s∈ps,s.length=32):∀(f i:Nat) (v:AV),i≤ps.length→ps.length-i<f→
 Iy (L+20) R K k14 f (Ls ps) (I i) v H=k14 (Ls ps) H:=by
 intro f
 induction f with
 |zero=>intro i v _ h;omega
 |succ f ih=>
  intro i v hi hf
  rw[PK]
  unfold Kl Av Dr
  rw[Lc]
  by_cases h:i<ps.length
  ·rw[FW (by omega),De]
   simp only[BX]
   rw[NL h,Gt,NI rfl,hl _ (QE h),G6]
   rw[show(!decide (((32:Nat):Int)=32))=false from rfl,Bz]
   have e0:(AV.v (.int .i64 0))=I ((0:Nat):Int):=rfl
   rw[e0,C2d h hn hb _ 0 (by omega) (by omega),D4 (by omega)]
   exact ih (i+1) _ (by omega) (by omega)
  ·rw[FE (by omega),Bz]
end
theorem A3E {ps:List (List UInt8)} (hn:ps.Nodup) (h0:1≤ps.length) (hb:ps.length≤6) (hl:∀s∈ps,s.length=32):
 CS (rt (L+20) (n+1)) Fm [Ls ps] (.tup [Bo true,I ps.length]):=by
 intro K hK
 rw[QL]
 unfold KY Bc Av Dr
 simp only[BX]
 have e0:(AV.v (.int .i64 0))=I ((0:Nat):Int):=rfl
 rw[e0,C2e hn (by omega) (by omega) hl _ 0 _ (by omega) (by omega),Lc,MR,decide_eq_true (by omega)]
 have g:∀(x:Bool→Aj),gdV true (Bo true) x=x true:= λx=>id rfl
 have c:∀{v:AV} {H:Hp} {K:KV},Ea (some (v,H)) K=K v H:=id rfl
 simp only[g,c,Lc]
 rw[X8,decide_eq_true (by omega)]
 exact hK _ _ (λb=>⟨false,λK=>by kernel_rfl⟩)
end
section
variable {L n:Nat}
theorem Cr (l:List (List UInt8)):(AK l).length=l.length:=by simp[AK]
theorem Ye (a b:List (List UInt8)):AK a++AK b=AK (a++b):=by simp[AK]
theorem B0C {H:Hp} {v:AV} {l:List (List UInt8)} (b:List UInt8) (h:Bv H Au 1 v l.length (AK l)) (w:Wf H) (hn:l.length<1000000000):
 ∃v' H',(∀K:KV,(F3 Au 1 Ae 1 [(0,1,S b)] H λv1 H1=>DN Au 1 Ae Ac v v1 H1 K)=K v' H')∧Bv H' Au 1 v' (l++[b]).length (AK (l++[b]))∧Wf H'∧A2 H≤A2 H'∧(∀s x,Aq H s=some x→¬AG v s→Aq H' s=some x)∧(∀s,AG v' s→A2 H≤s):=by
 have hv1:Bv ((A2 H,.cells false Au [S b])::H) Au 1 v l.length (AK l):=h.lat w (Lat.cons H _ (λ_=>False)) (λ_ _ h=>h)
 have hsrc:=LP (H:=H) (e:=Au) (n:=1) (cs:=[S b]) rfl
 obtain⟨v',H',h1,h2,h3,h4⟩:=apt (ie:=Ae) (i2:=Ac) hv1 (λK=>Pt (K:=K) hsrc) rfl rfl (by decide) rfl rfl (by show(l.length+1)*16≤_;omega) (by omega)
 have h5:=(Lat.cons H (.cells false Au [S b]) (AG v)).trans h4 (R:=AG v) (λ_ _ h=>h) (λ_ _ h=>h)
 refine⟨v',H',λK=> ?_,by rw[Fl,←Ye];exact h2,h5.wf w,h5.nx,λs x hs hn=>h5.keep w s x hs hn,λs hs=> ?_⟩
 ·rw[A2q (z:=S []) (λ_=>rfl) (λ_=>rfl) rfl]
  exact h1 K
 ·rw[h3 s hs];exact l1p _
def Py (c2 c6:AV) (p:Option (Option Code)):Row:= .loop 13 [(2,c2),(4,AA),(5,AV.dk),(6,c6),(7,AV.dk),(8,AV.dk),(9,AV.dk),(10,AV.dk),(11,AV.dk)] (Bh).2.1 (Bh).2.2.1 (Bh).2.2.2 p
structure Coll (H0:Hp) (r0 s:Nat) (q0:Bool) (e0:Nat) (c6:AV) (l:List (List UInt8)) (v:AV) (H:Hp):Prop where
 at_:Aq H r0=some (.cells q0 e0 [v])
 sl:Bv H Au 1 v l.length (AK l)
 lp:Aq H s=some (Py (.ptr r0 0 0) c6 (some none))
 new:∀u,AG v u→u≠r0∧u≠s∧A2 H0≤u
 wf:Wf H
 keep:∀u y,Aq H0 u=some y→Aq H u=some y
 ne:r0≠s
 r0n:A2 H0≤r0
 sn:A2 H0≤s
 w0:Wf H0
variable {K:KV} {x:Aj}
theorem B75 {H0 H:Hp} {r0 s e0:Nat} {q0:Bool} {c6 v:AV} {l:List (List UInt8)} {b:List UInt8} (h:Coll H0 r0 s q0 e0 c6 l v H) (hn:l.length<1000000000)
 (hx:∀v' H',Coll H0 r0 s q0 e0 c6 (l++[b]) v' H'→K (Bo true) H'=x):Dy (E (L+20)) (rt (L+20) (n+1)) (.yl s) [S b] H K=x:=by
 show QR (rt (L+20) (n+1)) s [S b] H K=x
 rw[Vf h.lp (by kernel_rfl)]
 have hrun:(rt (L+20) (n+1)).run= λcf=>TX (E (L+20)) (rt (L+20) n) cf:=rfl
 rw[hrun,FM,Vk h.lp]
 have hw1:=BR (r:=s) (y:=Py (.ptr r0 0 0) c6 none) h.wf
 have hr1:Aq (upd H s (Py (.ptr r0 0 0) c6 none)) r0=some (.cells q0 e0 [v]):=by rw[Ap h.ne];exact h.at_
 have hs1:Aq (upd H s (Py (.ptr r0 0 0) c6 none)) s=some (Py (.ptr r0 0 0) c6 none):=IU h.lp
 have hv1:Bv (upd H s (Py (.ptr r0 0 0) c6 none)) Au 1 v l.length (AK l):=h.sl.lat h.wf (Lat.upd H s _ (P:= λu=>u=s) rfl) (λu hu=>(h.new u hu).2.1)
 have hk1:∀u y,Aq H0 u=some y→Aq (upd H s (Py (.ptr r0 0 0) c6 none)) u=some y:= λu y hu=>by
  have:=h.w0.lt hu
  rw[Ap (by have:=h.sn;omega)];exact h.keep u y hu
 show Ar Ac (.ptr r0 0 0) (upd H s (Py (.ptr r0 0 0) c6 none)) _=_
 rw[AP (p:=0) rfl hr1 (by simp)]
 show F3 Au 1 Ae 1 [(0,1,S b)] (upd H s (Py (.ptr r0 0 0) c6 none)) (λv15 H16=>DN Au 1 Ae Ac v v15 H16 _)=_
 obtain⟨v',H',h1,h2,h3,h4,h5,h6⟩:=B0C b hv1 hw1 hn
 rw[h1]
 have n0:¬AG v r0:= λhu=>(h.new r0 hu).1 rfl
 have ns:¬AG v s:= λhu=>(h.new s hu).2.1 rfl
 have hr2:=h5 r0 _ hr1 n0
 have hs2:=h5 s _ hs1 ns
 have hone:B8 v'=[v']∧AV.one v'=true:=by
  rcases h2 with⟨rfl,_⟩|⟨a,b,rfl,_⟩<;>exact⟨rfl,rfl⟩
 rw[Ez (q:=q0) (e:=e0) (cs:=[v]) hr2 (by simp) rfl hone.1 hone.2]
 have hnx:A2 H0≤A2 H:=by have:=h.wf.lt h.at_;have:=h.r0n;omega
 have hnu:A2 (upd H s (Py (.ptr r0 0 0) c6 none))=A2 H:=BY _ _ _
 have hfr:∀u,AG v' u→u≠r0∧u≠s∧A2 H0≤u:= λu hu=>by
  have a1:=h6 u hu
  rw[hnu] at a1
  have a2:=h.wf.lt h.at_
  have a3:=h.wf.lt h.lp
  exact⟨by omega,by omega,by omega⟩
 have hs3:Aq (upd H' r0 (.cells q0 e0 [v'])) s=some (Py (.ptr r0 0 0) c6 none):=by rw[Ap h.ne.symm];exact hs2
 show ET (upd H' r0 (.cells q0 e0 [v'])) s false (some none) _=_
 have hs3':=hs3
 unfold Py at hs3'
 rw[Vj hs3']
 refine hx v' _ ⟨?_,?_,?_,hfr,BR (BR h3),λu y hu=> ?_,h.ne,h.r0n,h.sn,h.w0⟩
 ·rw[Ap h.ne]
  exact AB hr2
 ·have a:=h2.lat h3 (Lat.upd H' r0 (.cells q0 e0 [v']) (P:= λu=>u=r0) rfl) (λu hu=>(hfr u hu).1)
  exact a.lat (BR h3) (Lat.upd _ s _ (P:= λu=>u=s) rfl) (λu hu=>(hfr u hu).2.1)
 ·exact IU hs3
 ·have hlt:=h.w0.lt hu
  have b1:=h.r0n
  have b2:=h.sn
  rw[Ap (by omega),Ap (by omega)]
  refine h5 u y (hk1 u y hu) (λhv=> ?_)
  have:=(h.new u hv).2.2
  omega
theorem C42 {H0:Hp} {r0 s e0:Nat} {q0:Bool} {c6:AV} {k3:Hp→Aj} {ps:List (List UInt8)} (hn:ps.length<1000000000) (hx:∀v H,Coll H0 r0 s q0 e0 c6 ps v H→k3 H=x):
 ∀(f i:Nat) (v:AV) (H:Hp),i≤ps.length→ps.length-i<f→Coll H0 r0 s q0 e0 c6 (ps.take i) v H→
  CV (L+20) (rt (L+20) (n+1)) K k3 f (.yl s) (Ls ps) (I ps.length) (I i) H=x:=by
 intro f
 induction f with
 |zero=>intro i v H _ h;omega
 |succ f ih=>
  intro i v H hi hf hc
  rw[Jx]
  unfold DT Av
  by_cases h:i<ps.length
  ·rw[FW (by omega),De,NL h,Gt]
   refine B75 hc (by simp;omega) λv' H' hc'=> ?_
   rw[Ku]
   show Aw (.v (.bool false)) _ _=_
   rw[Bz,D4 (by omega)]
   rw[←l04 h] at hc'
   exact ih (i+1) v' H' (by omega) (by omega) hc'
  ·rw[FE (by omega),Bz]
   have:i=ps.length:=by omega
   rw[this,l06] at hc
   exact hx v H hc
structure NewSl (H0:Hp) (l:List (List UInt8)) (v:AV) (H:Hp):Prop where
 sl:Bv H Au 1 v l.length (AK l)
 new:∀u,AG v u→A2 H0≤u
 wf:Wf H
 keep:∀u y,Aq H0 u=some y→Aq H u=some y
 nx:A2 H0≤A2 H
abbrev B2V (ps:List (List UInt8)):AV:= .fn (.func El) [] [.iptr [Ls ps]]
theorem B12 {H0:Hp} {ps:List (List UInt8)} (hn:ps.length<1000000000) (hL:ps.length<L) (w:Wf H0) (hx:∀v H,NewSl H0 ps v H→K v H=x):
 (rt (L+20) (n+4)).call EH [B2V ps] H0 K=x:=by
 rw[Hu]
 unfold EF
 rw[Ek]
 unfold C8
 simp only[BX]
 rw[A5n (by rfl),A9V,JK]
 unfold Ej Av
 simp only[BX]
 have e1:∀H K,Ar Ac (.iptr [Ls ps]) H K=K (Ls ps):= λH K=>NJ rfl
 rw[e1,Lc]
 have e0:(AV.v (.int .i64 0))=I ((0:Nat):Int):=rfl
 rw[e0]
 have w1:=Br (x:= .cells true Bf [AA]) w
 have hn0:=A1 (H:=H0) (x:= .cells true Bf [AA]) (by simp)
 have hne:A2 ((A2 H0,Row.cells true Bf [AA])::H0)=A2 H0+1:=rfl
 refine C42 (n:=n) (H0:=H0) (r0:=A2 H0) (s:=A2 H0+1) (q0:=true) (e0:=Bf) (c6:=B2V ps) hn ?_ (L+20) 0 AA _ (by omega) (by omega) ⟨AS (w1.lt hn0) hn0,.inl ⟨rfl,rfl,rfl⟩,A1 (H:=((A2 H0,Row.cells true Bf [AA])::H0)) (x:=Py (.ptr (A2 H0) 0 0) (B2V ps) (some none)) (by simp[Py]),λu ⟨_,_,_,h⟩=>(by cases h),Br w1,λu y hu=> ?_,by omega,by omega,by omega,w⟩
 ·intro v H hc
  rw[hne,BI hc.lp]
  show LL H (A2 H0+1) .gone _=x
  rw[Dm]
  have hr:Aq (upd H (A2 H0+1) .gone) (A2 H0)=some (.cells true Bf [v]):=by rw[Ap (by omega)];exact hc.at_
  show Ar Ac (.ptr (A2 H0) 0 0) (upd H (A2 H0+1) .gone) _=x
  rw[AP (p:=0) rfl hr (by simp)]
  refine hx _ _ ⟨?_,λu hu=>(hc.new u hu).2.2,BR hc.wf,λu y hu=> ?_,?_⟩
  ·exact hc.sl.lat hc.wf (Lat.upd H _ _ (P:= λu=>u=A2 H0+1) rfl) (λu hu=>(hc.new u hu).2.1)
  ·have:=w.lt hu
   rw[Ap (by omega)];exact hc.keep u y hu
  ·rw[BY]
   have:=hc.wf.lt hc.at_
   omega
 ·have a1:=AS (x:= .cells true Bf [AA]) (w.lt hu) hu
  exact AS (w1.lt a1) a1
theorem B2H {H0:Hp} {ps:List (List UInt8)} (h0:0<ps.length) (hn:ps.length<1000000000) (hL:ps.length<L) (w:Wf H0) (hx:∀v H,NewSl H0 (I9 ps) v H→K v H=x):
 (rt (L+20) (n+5)).call Em [B2V ps] H0 K=x:=by
 rw[Ie]
 unfold EW
 refine B12 hn hL w λv H hs=> ?_
 have hp:=(CD ps).length_eq
 rcases hs.sl with⟨_,h,_⟩|⟨r,q,rfl,hl,hc⟩
 ·omega
 ·have e1:∀K,(rt (L+20) (n+4)).call Cc [.sl 1 r 0 ps.length] H K=WM [.sl 1 r 0 ps.length] H K (A2p (E (L+20)) (nT (L+20)) (rt (L+20) (n+3)) Cc [.sl 1 r 0 ps.length] H K):= λK=>rfl
  rw[e1]
  have hso:∀(l:List (List UInt8)),Ug (AK l)=some l:= λl=>by
   induction l with
   |nil=>rfl
   |cons a l ih=>show(Ug (AK l)).map _=_;rw[ih];rfl
  have e2:∀alt K,WM [.sl 1 r 0 ps.length] H K alt=E8 0 (AK (I9 ps)) (AK ps) λcs'=>LL H r (.cells q Au cs') λH'=>K (.tup []) H':= λalt K=>by
   unfold WM
   simp only[hl,l1n]
   rw[l1z (by rw[Cr];omega),hso]
   have g:(Nat.beq ps.length ps.length&&(Nat.blt ps.length 4611686018427387904&&Nat.blt 0 ps.length))=true:=by simp;omega
   simp only[g]
   rfl
  rw[e2,Ka _ _ _ _ (by rw[Cr,Cr];omega),SC _ _ (by rw[Cr,Cr];exact hp),Dm]
  refine hx _ _ ⟨.inr ⟨r,q,by rw[hp],AB hl,by rw[Cr];omega⟩,λu ⟨_,_,_,hh⟩=> ?_,BR hs.wf,λu y hu=> ?_,by rw[BY];exact hs.nx⟩
  ·injection hh with _ hh
   subst hh
   exact hs.new r ⟨1,0,ps.length,rfl⟩
  ·have a1:=w.lt hu
   have a2:=hs.new r ⟨1,0,ps.length,rfl⟩
   rw[Ap (by omega)];exact hs.keep u y hu
end
section
variable {L n:Nat}
theorem A0k {R:Rt} {m g:Nat} {cap:List AV} {t:Tm} {ps:Array Tmp} {sa bd:Code} {H:Hp} {K:Option (Option Code)→Hp→Aj}:
 Zy R m (.fn (.func g) [] cap) t ps sa bd H K=R.call g (.yl (A2 H)::cap) ((A2 H,.loop m t ps sa bd (some none))::H) λ_ H2=>JL H2 (A2 H) λx=>VJ x λ_ _ _ _ _ pend=>LL H2 (A2 H) .gone λH3=>K pend H3:=by
 have e:Zy R m (.fn (.func g) [] cap) t ps sa bd H K=XA3 H λs=>UT [] (.yl s::cap) λall=>R.call g all ((s,.loop m t ps sa bd (some none))::H) λ_ H2=>JL H2 s λx=>VJ x λ_ _ _ _ _ pend=>LL H2 s .gone λH3=>K pend H3:=rfl
 rw[e,BZ,Lb];rfl
theorem A5i {es:List (Value×AV)} {H:Hp} {K:KV}:A07 (.imap es) H K=K (.it (A2 H)) ((A2 H,.iter es none)::H):=by
 have e:A07 (.imap es) H K=XA3 H λs=>K (.it s) ((s,.iter es none)::H):=rfl
 rw[e,BZ]
theorem A40 {s:Nat} {H:Hp} {e:Value×AV} {es:List (Value×AV)} {o:Option (Value×AV)} {K:KV} (h:Aq H s=some (.iter (e::es) o)):
 A08 (.it s) H K=OH (λe rest=>LL H s (.iter rest (some e)) λH'=>K (.tup [.v (.bool true),ofV e.1,e.2]) H') (e::es) []:=by
 have e1:A08 (.it s) H K=JL H s λx=>B0f x λl=>@List.rec (Value×AV) (λ_=>Aj) (K (.tup [.v (.bool false)]) H)
  (λ_ _ _=>OH (λe rest=>LL H s (.iter rest (some e)) λH'=>K (.tup [.v (.bool true),ofV e.1,e.2]) H') l []) l:=rfl
 rw[e1,BI h];rfl
theorem B51 {s:Nat} {H:Hp} {o:Option (Value×AV)} {K:KV} (h:Aq H s=some (.iter [] o)):A08 (.it s) H K=K (.tup [.v (.bool false)]) H:=by
 have e1:A08 (.it s) H K=JL H s λx=>B0f x λl=>@List.rec (Value×AV) (λ_=>Aj) (K (.tup [.v (.bool false)]) H)
  (λ_ _ _=>OH (λe rest=>LL H s (.iter rest (some e)) λH'=>K (.tup [.v (.bool true),ofV e.1,e.2]) H') l []) l:=rfl
 rw[e1,BI h];rfl
theorem YS {s:Nat} {H:Hp} {p:Value×AV} {es:List (Value×AV)} {K:AV→Aj} (h:Aq H s=some (.iter es (some p))):A3k (.it s) H K=K (.tup [ofV p.1,p.2]):=by
 have e1:A3k (.it s) H K=JL H s λx=>B4k x λp=>K (.tup [ofV p.1,p.2]):=rfl
 rw[e1,BI h];rfl
theorem Tt {a:AV} {l:List AV} {K:AV→Aj}:AN (.tup (a::l)) 0 K=K a:=id rfl
theorem C2Y {a b:AV} {l:List AV} {K:AV→Aj}:AN (.tup (a::b::l)) 1 K=K b:=id rfl
theorem B8p {m:Nat} {H:Hp} {es:List (Value×AV)} {bo:Option (List Nat×Nat)} {K:KV} (hl:Aq H m=some (.map false es bo)) (hc:es.all (λp=>cl0 3 p.2)=true):A07 (.mp m) H K=K (.it (A2 H)) ((A2 H,.iter es none)::upd H m .gone):=by
 have e:A07 (.mp m) H K=JL H m λx=>A1N x λes _=>ck (es.all λp=>cl0 3 p.2) (LL H m .gone λH1=>XA3 H1 λt=>K (.it t) ((t,.iter es none)::H1)):=rfl
 rw[e,BI hl]
 show ck (es.all λp=>cl0 3 p.2) _=_
 rw[hc]
 show LL H m .gone _=_
 rw[Dm,BZ,BY]
theorem B1m {F:Value×AV→List (Value×AV)→Aj} {v:AV} (hv:Zr 6 v v=true):∀(l pre:List (Value×AV)),l≠[]→(∀l1 e l2,l=l1++e::l2→F e (pre++(l1++l2))=some (v,[]))→OH F l pre=some (v,[]):=by
 intro l
 induction l with
 |nil=>intro _ h;exact absurd rfl h
 |cons e l ih=>
  intro pre _ h
  have h0:=h [] e l rfl
  rw[List.nil_append] at h0
  cases l with
  |nil=>rw[A1u];rw[XR] at h0;exact h0
  |cons e' l=>
   rw[Zf,h0,ih (pre++[e]) (by simp) λl1 e1 l2 hl=> ?_]
   ·show(match Zr 6 v v with|true=>some (v,[])|false=>none)=_
    rw[hv]
   ·have:=h (e::l1) e1 l2 (by rw[hl];rfl)
    rw[l0k]
    exact this
theorem A8C {α:Type} {f:α→AV} {es:List (List UInt8×α)} {it:Nat} {H:Hp} {o:Option (Value×AV)} {w:AV} {K:KV} (hw:Zr 6 w w=true)
 (hl:Aq H it=some (.iter (es.map λe=>(.string ⟨⟨e.1⟩⟩,f e.2)) o)) (h0:es=[]→K (.tup [.v (.bool false)]) H=some (w,[]))
 (h1:∀a e b,es=a++e::b→K (.tup [.v (.bool true),S e.1,f e.2]) (upd H it (.iter ((a++b).map λe=>(.string ⟨⟨e.1⟩⟩,f e.2)) (some (.string ⟨⟨e.1⟩⟩,f e.2))))=some (w,[])):A08 (.it it) H K=some (w,[]):=by
 cases es with
 |nil=>rw[B51 hl];exact h0 rfl
 |cons e es=>
  rw[XS] at hl
  rw[A40 hl]
  refine B1m hw _ [] (by simp) λl1 p l2 h=> ?_
  rw[←XS (f:= λe:List UInt8×α=>((Value.string ⟨⟨e.1⟩⟩:Value),f e.2))] at h
  obtain⟨a,c,h2,h3,h4⟩:=List.map_eq_append_iff.1 h
  obtain⟨e',b,h5,h6,h7⟩:=List.map_eq_cons_iff.1 h4
  subst h5 h3 h6 h7
  rw[Dm,List.nil_append,←Zl]
  exact h1 a e' b h2
end
structure Ce (κ:Type) where
 real:Bool
 ps:List κ
section
variable {κ:Type} [DecidableEq κ] {g:List (κ×Ce κ)}
def JM {α:Type}:List (κ×α)→κ→Option α
 |[],_=>none
 |e::g,x=>if e.1=x then some e.2 else JM g x
def rz (g:List (κ×Ce κ)):Nat→κ→Bool
 |0,_=>false
 |n+1,x=>match JM g x with
  |none=>false
  |some c=>(c.real|| !c.ps.isEmpty)&&c.ps.all (rz g n)
def Rz (g:List (κ×Ce κ)) (x:κ):Prop:=∃n,rz g n x=true
theorem SD {n:Nat} {x:κ}:rz g (n+1) x=true↔∃c,JM g x=some c∧(c.real=true∨c.ps≠[])∧∀p∈c.ps,rz g n p=true:=by
 rw[show rz g (n+1) x=(match JM g x with
  |none=>false
  |some c=>(c.real|| !c.ps.isEmpty)&&c.ps.all (rz g n)) from rfl]
 cases JM g x with
 |none=>simp
 |some c=>simp[HB]
theorem WO:∀(n:Nat) (x:κ),rz g n x=true→rz g (n+1) x=true:=by
 intro n
 induction n with
 |zero=>intro x h;cases h
 |succ n ih=>
  intro x h
  obtain⟨c,h1,h2,h3⟩:=SD.1 h
  exact SD.2 ⟨c,h1,h2,λp hp=>ih p (h3 p hp)⟩
theorem A9T {n m:Nat} {x:κ} (h:n≤m) (h1:rz g n x=true):rz g m x=true:=by
 induction h with
 |refl=>exact h1
 |step _ ih=>exact WO _ _ ih
theorem C3j {l:List κ} (h:∀p∈l,Rz g p):∃n,∀p∈l,rz g n p=true:=by
 induction l with
 |nil=>exact⟨0,by simp⟩
 |cons a l ih=>
  obtain⟨n,hn⟩:=ih λp hp=>h p (by simp[hp])
  obtain⟨m,hm⟩:=h a (by simp)
  refine⟨max n m,λp hp=> ?_⟩
  rcases UJ.1 hp with rfl|hp
  ·exact A9T (by omega) hm
  ·exact A9T (by omega) (hn p hp)
theorem B5H {x:κ}:Rz g x↔∃c,JM g x=some c∧(c.real=true∨c.ps≠[])∧∀p∈c.ps,Rz g p:=by
 constructor
 ·rintro⟨n,h⟩
  cases n with
  |zero=>cases h
  |succ n=>
   obtain⟨c,h1,h2,h3⟩:=SD.1 h
   exact⟨c,h1,h2,λp hp=>⟨n,h3 p hp⟩⟩
 ·rintro⟨c,h1,h2,h3⟩
  obtain⟨n,hn⟩:=C3j h3
  exact⟨n+1,SD.2 ⟨c,h1,h2,hn⟩⟩
theorem Xu {α:Type} {x:κ} {c:α}:∀{g:List (κ×α)},JM g x=some c→(x,c)∈g:=by
 intro g
 induction g with
 |nil=>intro h;cases h
 |cons e g ih=>
  intro h
  unfold JM at h
  split at h
  ·rename_i e1;cases h;subst e1;simp
  ·simp[ih h]
def rzN (g:List (κ×Ce κ)) (n:Nat):Nat:=(g.filter λe=>rz g n e.1).length
theorem Vt {α:Type} {p q:α→Bool} {l:List α} (h:∀a∈l,p a=true→q a=true) {a:α} (ha:a∈l) (h1:q a=true) (h2:p a=false):(l.filter p).length<(l.filter q).length:=by
 induction l with
 |nil=>cases ha
 |cons b l ih=>
  have mono:∀l:List α,(∀a∈l,p a=true→q a=true)→(l.filter p).length≤(l.filter q).length:=by
   intro l
   induction l with
   |nil=>intro _;simp
   |cons c l ih=>
    intro h
    have:=ih λa ha=>h a (by simp[ha])
    rw[l2h,l2h]
    have h3:=h c (by simp)
    cases hp:p c<;>cases hq:q c<;>simp_all<;>omega
  have h4:=mono l λa ha=>h a (by simp[ha])
  rw[l2h,l2h]
  rcases UJ.1 ha with rfl|ha
  ·rw[h1,h2];simp;omega
  ·have:=ih (λa ha=>h a (by simp[ha])) ha
   have h3:=h b (by simp)
   cases hp:p b<;>cases hq:q b<;>simp_all<;>omega
theorem B71 (n:Nat):(∀m x,rz g m x=true→rz g n x=true)∨n≤rzN g n:=by
 induction n with
 |zero=>exact .inr (l1c _)
 |succ n ih=>
  rcases ih with ih|ih
  ·exact .inl λm x h=>WO _ _ (ih m x h)
  ·by_cases hs:∀x,rz g (n+1) x=true→rz g n x=true
   ·left
    have:∀m x,rz g m x=true→rz g n x=true:=by
     intro m
     induction m with
     |zero=>intro x h;cases h
     |succ m ihm=>
      intro x h
      obtain⟨c,h1,h2,h3⟩:=SD.1 h
      exact hs x (SD.2 ⟨c,h1,h2,λp hp=>ihm p (h3 p hp)⟩)
    exact λm x h=>WO _ _ (this m x h)
   ·right
    have⟨x,hx⟩:∃x,rz g (n+1) x=true∧¬rz g n x=true:=Classical.byContradiction λhc=>hs λx hx=>Classical.byContradiction λhn=>hc ⟨x,hx,hn⟩
    obtain⟨c,h1,_,_⟩:=SD.1 hx.1
    have:=Vt (p:= λe=>rz g n e.1) (q:= λe=>rz g (n+1) e.1) (l:=g) (λa _ h=>WO _ _ h) (Xu h1) hx.1 (by simpa using hx.2)
    show n+1≤(g.filter λe=>rz g (n+1) e.1).length
    have:n≤(g.filter λe=>rz g n e.1).length:=ih
    omega
theorem C3o {x:κ}:Rz g x↔rz g g.length x=true:=by
 constructor
 ·rintro⟨m,h⟩
  rcases B71 (g:=g) g.length with hs|hs
  ·exact hs m x h
  ·have:∀e∈g,rz g g.length e.1=true:=by
    have h1:(g.filter λe=>rz g g.length e.1).length=g.length:=Nat.le_antisymm (List.length_filter_le _ _) hs
    exact List.length_filter_eq_length_iff.1 h1
   cases m with
   |zero=>cases h
   |succ m=>
    obtain⟨c,h1,_,_⟩:=SD.1 h
    exact this _ (Xu h1)
 ·exact λh=>⟨_,h⟩
inductive Rc (g:List (κ×Ce κ)):κ→κ→Prop
 |one {x y:κ} {c:Ce κ}:JM g x=some c→y∈c.ps→Rc g x y
 |more {x y z:κ}:Rc g x y→Rc g y z→Rc g x z
theorem Rc.rz {x y:κ} (h:Rc g x y):∀n,rz g n x=true→∃m,m<n∧rz g m y=true:=by
 induction h with
 |one h1 h2=>
  intro n h
  cases n with
  |zero=>cases h
  |succ n=>
   obtain⟨c,e,_,h3⟩:=SD.1 h
   rw[h1] at e;cases e
   exact⟨n,Nat.lt_succ_self n,h3 _ h2⟩
 |more _ _ i1 i2=>
  intro n h
  obtain⟨m,h1,h2⟩:=i1 n h
  obtain⟨k,h3,h4⟩:=i2 m h2
  exact⟨k,by omega,h4⟩
theorem Rc.no {x:κ} (h:Rc g x x):¬Rz g x:=by
 rintro⟨n,hn⟩
 induction n using Nat.strongRecOn with
 |_ n ih=>
  obtain⟨m,h1,h2⟩:=h.rz n hn
  exact ih m h1 h2
def Gv {α:Type} (b:List (κ×α)) (x:κ) (v:α):List (κ×α):=match b with
 |[]=>[(x,v)]
 |e::b=>if e.1=x then(e.1,v)::b else e::Gv b x v
theorem FX {α:Type} {b:List (κ×α)} {x y:κ} {v:α}:JM (Gv b x v) y=if x=y then some v else JM b y:=by
 induction b with
 |nil=>rfl
 |cons e b ih=>
  unfold Gv
  by_cases h:e.1=x
  ·rw[if_pos h]
   simp only[JM]
   subst h
   by_cases h1:e.1=y<;>simp[h1]
  ·rw[if_neg h]
   simp only[JM,ih]
   by_cases h1:x=y
   ·subst h1;simp[h]
   ·simp[h1]
def A7p (f:κ→List (κ×Bool)→Option (Bool×List (κ×Bool))):List κ→Bool→List (κ×Bool)→Option (Bool×List (κ×Bool))
 |[],good,b=>some (good,b)
 |p::ps,good,b=>if good then(match f p b with|none=>none|some (v,b')=>A7p f ps v b') else A7p f ps good b
def dfs (g:List (κ×Ce κ)):Nat→κ→List (κ×Bool)→Option (Bool×List (κ×Bool))
 |0,_,_=>none
 |n+1,x,b=>match JM b x with
  |some v=>some (v,b)
  |none=>match JM g x with
   |none=>some (false,Gv (Gv b x false) x false)
   |some c=>match A7p (dfs g n) c.ps (c.real|| !c.ps.isEmpty) (Gv b x false) with
    |none=>none
    |some (v,b')=>some (v,Gv b' x v)
def Xj (g:List (κ×Ce κ)) (b:List (κ×Bool)):Nat:=(g.filter λe=>(JM b e.1).isNone).length
structure InvD (g:List (κ×Ce κ)) (st:List κ) (b:List (κ×Bool)):Prop where
 t:∀y,JM b y=some true→Rz g y
 f:∀y,JM b y=some false→y∈st∨¬Rz g y
def B2l (b b':List (κ×Bool)):Prop:=∀y,JM b y≠none→JM b' y≠none
theorem A8Q {b b':List (κ×Bool)} (h:B2l b b'):Xj g b'≤Xj g b:=by
 unfold Xj
 induction g with
 |nil=>simp
 |cons e g ih=>
  rw[l2h,l2h]
  have:=h e.1
  cases h1:JM b e.1<;>cases h2:JM b' e.1<;>simp_all<;>omega
theorem B8t {f:κ→List (κ×Bool)→Option (Bool×List (κ×Bool))} {st:List κ} {k:Nat}
 (hf:∀p b,InvD g st b→(∀s∈st,Rc g s p)→Xj g b<k→∃v b',f p b=some (v,b')∧(v=true↔Rz g p)∧InvD g st b'∧B2l b b'):
 ∀(ps:List κ) (good:Bool) (b:List (κ×Bool)),InvD g st b→(∀p∈ps,∀s∈st,Rc g s p)→Xj g b<k→
  ∃v b',A7p f ps good b=some (v,b')∧(v=true↔good=true∧∀p∈ps,Rz g p)∧InvD g st b'∧B2l b b':=by
 intro ps
 induction ps with
 |nil=>intro good b hi _ _;exact⟨good,b,rfl,by simp,hi,λ_ h=>h⟩
 |cons p ps ih=>
  intro good b hi hs hk
  unfold A7p
  cases good with
  |false=>
   obtain⟨v,b',h1,h2,h3,h4⟩:=ih false b hi (λq hq=>hs q (by simp[hq])) hk
   exact⟨v,b',h1,by rw[h2];simp,h3,h4⟩
  |true=>
   obtain⟨v,b',h1,h2,h3,h4⟩:=hf p b hi (hs p (by simp)) hk
   obtain⟨w,b'',h5,h6,h7,h8⟩:=ih v b' h3 (λq hq=>hs q (by simp[hq])) (Nat.lt_of_le_of_lt (A8Q h4) hk)
   refine⟨w,b'',?_,?_,h7,λy hy=>h8 y (h4 y hy)⟩
   ·simp only[h1,if_true];exact h5
   ·rw[h6,h2];simp
theorem C36:∀(n:Nat) (st:List κ) (x:κ) (b:List (κ×Bool)),InvD g st b→(∀s∈st,Rc g s x)→Xj g b<n→
 ∃v b',dfs g (n+1) x b=some (v,b')∧(v=true↔Rz g x)∧InvD g st b'∧B2l b b':=by
 intro n
 induction n with
 |zero=>intro st x b _ _ h;omega
 |succ n ih=>
  intro st x b hi hs hk
  unfold dfs
  cases hl:JM b x with
  |some v=>
   refine⟨v,b,rfl,?_,hi,λ_ h=>h⟩
   cases v with
   |true=>simp[hi.t x hl]
   |false=>
    simp only[l0z,false_iff]
    rcases hi.f x hl with h|h
    ·exact(hs x h).no
    ·exact h
  |none=>
   have hext:∀{b':List (κ×Bool)} {v:Bool},B2l (Gv b x false) b'→B2l b (Gv b' x v):=by
    intro b' v h y hy
    rw[FX]
    split
    ·simp
    ·have:=h y;rw[FX] at this;split at this
     ·exact this (by simp)
     ·exact this hy
   cases hg:JM g x with
   |none=>
    have hn:¬Rz g x:= λh=>by obtain⟨c,h1,_⟩:=B5H.1 h;rw[hg] at h1;cases h1
    refine⟨false,_,rfl,by simp[hn],⟨λy h=> ?_,λy h=> ?_⟩,hext λ_ h=>h⟩
    ·rw[FX] at h;split at h
     ·cases h
     ·rw[FX] at h;split at h
      ·cases h
      ·exact hi.t y h
    ·rw[FX] at h;split at h
     ·rename_i e;subst e;exact .inr hn
     ·rw[FX] at h;split at h
      ·rename_i e;subst e;exact .inr hn
      ·exact hi.f y h
   |some c=>
    have hmem:(x,c)∈g:=Xu hg
    have hlt:Xj g (Gv b x false)<n:=by
     have:Xj g (Gv b x false)<Xj g b:=by
      refine Vt (a:=(x,c)) ?_ hmem ?_ ?_
      ·intro a _ h
       rw[FX] at h
       split at h
       ·cases h
       ·exact h
      ·simp[hl]
      ·simp[FX]
     omega
    have hinv:InvD g (x::st) (Gv b x false):=by
     refine⟨λy h=> ?_,λy h=> ?_⟩
     ·rw[FX] at h;split at h
      ·cases h
      ·exact hi.t y h
     ·rw[FX] at h;split at h
      ·rename_i e;subst e;exact .inl (by simp)
      ·rcases hi.f y h with h|h
       ·exact .inl (by simp[h])
       ·exact .inr h
    obtain⟨v,b',h1,h2,h3,h4⟩:=B8t (f:=dfs g (n+1)) (k:=n) (st:=x::st) (λp b hb hp hk=>ih (x::st) p b hb hp hk) c.ps (c.real|| !c.ps.isEmpty) (Gv b x false) hinv (λp hp s hs'=>by
     rcases UJ.1 hs' with rfl|hs'
     ·exact .one hg hp
     ·exact .more (hs s hs') (.one hg hp)) hlt
    have hv:v=true↔Rz g x:=by
     rw[h2,B5H]
     constructor
     ·rintro⟨h5,h6⟩;exact⟨c,hg,by simpa using h5,h6⟩
     ·rintro⟨c',h5,h6,h7⟩;rw[hg] at h5;cases h5;exact⟨by simpa using h6,h7⟩
    refine⟨v,Gv b' x v,?_,hv,⟨λy h=> ?_,λy h=> ?_⟩,hext h4⟩
    ·simp only[h1]
    ·rw[FX] at h;split at h
     ·rename_i e;subst e;exact hv.1 (by cases h;rfl)
     ·exact h3.t y h
    ·rw[FX] at h;split at h
     ·rename_i e;subst e
      exact .inr λhr=>by have:=hv.2 hr;rw[this] at h;cases h
     ·rcases h3.f y h with h5|h5
      ·rcases UJ.1 h5 with rfl|h5
       ·contradiction
       ·exact .inl h5
      ·exact .inr h5
theorem B8s (x:κ):∃b',dfs g (g.length+2) x []=some (rz g g.length x,b'):=by
 obtain⟨v,b',h1,h2,_,_⟩:=C36 (g:=g) (g.length+1) [] x [] ⟨λy h=>(by cases h),λy h=>(by cases h)⟩ (by simp) (Nat.lt_succ_of_le (List.length_filter_le _ _))
 refine⟨b',?_⟩
 rw[h1]
 have:v=rz g g.length x:=by rw[l0w,h2,C3o]
 rw[this]
end
abbrev SV (s:List UInt8):Value:= .string ⟨⟨s⟩⟩
section
variable {α:Type} {f:α→AV} {b:List (List UInt8×α)} {x:List UInt8} {H:Hp}
abbrev GF (f:α→AV) (b:List (List UInt8×α)):List (Value×AV):=b.map λe=>(SV e.1,f e.2)
def YL (x:List UInt8):List (List UInt8×α)→Nat→Option (Nat×α)
 |[],_=>none
 |e::b,i=>if e.1=x then some (i,e.2) else YL x b (i+1)
theorem YK {e:List UInt8×α} {i:Nat}:YL x (e::b) i=if e.1=x then some (i,e.2) else YL x b (i+1):=rfl
theorem C5g {s u:List UInt8}:keq (SV s) (SV u)=some (decide (u=s)):=by
 show some (Go.Abs.eqB s u)=_
 rw[OQ]
 by_cases h:s=u
 ·subst h;simp
 ·simp[h,Ne.symm h]
theorem B4p:∀(b:List (List UInt8×α)) (i:Nat),Xl (SV x) (GF f b) i=some ((YL x b i).map λp=>(p.1,f p.2)):=by
 intro b
 induction b with
 |nil=>intro i;rfl
 |cons e b ih=>
  intro i
  show Xl (SV x) ((SV e.1,f e.2)::GF f b) i=_
  rw[Wk,C5g,ih,YK]
  by_cases h:e.1=x
  ·simp[h]
  ·simp[h]
theorem A72:∀(b:List (List UInt8×α)) (i:Nat),(YL x b i).map (·.2)=JM b x:=by
 intro b
 induction b with
 |nil=>intro i;rfl
 |cons e b ih=>
  intro i
  rw[YK]
  unfold JM
  by_cases h:e.1=x
  ·simp[h]
  ·simp[h,ih]
theorem A71 (v:α):∀(b:List (List UInt8×α)) (i:Nat),(match YL x b i with|none=>b++[(x,v)]|some (j,_)=>b.set (j-i) (x,v))=Gv b x v∧(∀j w,YL x b i=some (j,w)→i≤j):=by
 intro b
 induction b with
 |nil=>intro i;exact⟨rfl,λj w h=>by cases h⟩
 |cons e b ih=>
  intro i
  rw[YK]
  unfold Gv
  by_cases h:e.1=x
  ·refine⟨?_,λj w hj=> ?_⟩
   ·simp[h]
   ·simp[h] at hj;omega
  ·obtain⟨h1,h2⟩:=ih (i+1)
   refine⟨?_,λj w hj=> ?_⟩
   ·rw[if_neg h,if_neg h,←h1]
    cases hf:YL x b (i+1) with
    |none=>rfl
    |some p=>
     obtain⟨j,w⟩:=p
     have:=h2 j w hf
     have e1:j-i=(j-(i+1))+1:=by omega
     simp only[e1,List.set_cons_succ]
   ·rw[if_neg h] at hj
    have:=h2 j w hj;omega
theorem Pq {r:Nat} {es:List (Value×AV)} {bo:Option (List Nat×Nat)} {K:List (Value×AV)→Aj} (h:Aq H r=some (.map false es bo)):A91 (.mp r) H K=K es:=by
 show JL H r _=_
 rw[BI h];rfl
theorem kfK {K:Option (Nat×AV)→Aj}:Ny (SV x) (GF f b) K=K ((YL x b 0).map λp=>(p.1,f p.2)):=by
 unfold Ny
 rw[B4p]
theorem R4 {ie:TI} {m:AV} {K:AV→Aj} (h:∀K,A91 m H K=K (GF f b)):TB ie true m (SV x) H K=match JM b x with
 |some v=>K (.tup [f v,Bo true])
 |none=>K (.tup [ie.zero,Bo false]):=by
 unfold TB
 rw[h,kfK,←A72 b 0]
 cases YL x b 0<;>rfl
theorem A0w {ie:TI} {m:AV} {K:AV→Aj} (h:∀K,A91 m H K=K (GF f b)):TB ie false m (SV x) H K=match JM b x with
 |some v=>K (f v)
 |none=>K ie.zero:=by
 unfold TB
 rw[h,kfK,←A72 b 0]
 cases YL x b 0<;>rfl
theorem Vv {r:Nat} {v:α} {K:Hp→Aj} (h:Aq H r=some (.map false (GF f b) none)):Qx (.mp r) (SV x) (f v) H K=K (upd H r (.map false (GF f (Gv b x v)) none)):=by
 have e:Qx (.mp r) (SV x) (f v) H K=JL H r λy=>A1N y λes bo=>Ny (SV x) es λq=>match q with
  |none=>LL H r (.map false (es++[(SV x,f v)]) (A49 bo)) K
  |some (i,_)=>LL H r (.map false (es.set i (SV x,f v)) bo) K:=rfl
 rw[e,BI h]
 show Ny (SV x) (GF f b) _=_
 rw[kfK]
 obtain⟨h1,h2⟩:=A71 (x:=x) v b 0
 cases hf:YL x b 0 with
 |none=>
  rw[hf] at h1
  show LL H r (.map false (GF f b++[(SV x,f v)]) none) K=_
  rw[Dm,←h1,GF,GF,Zl];rfl
 |some p=>
  obtain⟨j,w⟩:=p
  rw[hf] at h1
  show LL H r (.map false ((GF f b).set j (SV x,f v)) none) K=_
  rw[Dm,←h1,GF,GF,List.map_set,Nat.sub_zero]
end
section
variable {L n:Nat}
abbrev uS:Unit→AV:= λ_=> .agg []
section
variable {K:KV} {x:Aj}
theorem A9U {H0 H:Hp} {r0 s e0:Nat} {q0:Bool} {c6 v:AV} {l:List (List UInt8)} {b:List UInt8} (h:Coll H0 r0 s q0 e0 c6 l v H) (hn:l.length<1000000000)
 (hx:∀v' H',Coll H0 r0 s q0 e0 c6 (l++[b]) v' H'→(∀u y,u≠r0→u≠s→¬AG v u→Aq H u=some y→Aq H' u=some y)→(∀u,AG v' u→A2 H≤u)→K (Bo true) H'=x):Dy (E (L+20)) (rt (L+20) (n+1)) (.yl s) [S b] H K=x:=by
 show QR (rt (L+20) (n+1)) s [S b] H K=x
 rw[Vf h.lp (by kernel_rfl)]
 have hrun:(rt (L+20) (n+1)).run= λcf=>TX (E (L+20)) (rt (L+20) n) cf:=rfl
 rw[hrun,FM,Vk h.lp]
 have hw1:=BR (r:=s) (y:=Py (.ptr r0 0 0) c6 none) h.wf
 have hr1:Aq (upd H s (Py (.ptr r0 0 0) c6 none)) r0=some (.cells q0 e0 [v]):=by rw[Ap h.ne];exact h.at_
 have hs1:Aq (upd H s (Py (.ptr r0 0 0) c6 none)) s=some (Py (.ptr r0 0 0) c6 none):=IU h.lp
 have hv1:Bv (upd H s (Py (.ptr r0 0 0) c6 none)) Au 1 v l.length (AK l):=h.sl.lat h.wf (Lat.upd H s _ (P:= λu=>u=s) rfl) (λu hu=>(h.new u hu).2.1)
 show Ar Ac (.ptr r0 0 0) (upd H s (Py (.ptr r0 0 0) c6 none)) _=_
 rw[AP (p:=0) rfl hr1 (by simp)]
 show F3 Au 1 Ae 1 [(0,1,S b)] (upd H s (Py (.ptr r0 0 0) c6 none)) (λv15 H16=>DN Au 1 Ae Ac v v15 H16 _)=_
 obtain⟨v',H',h1,h2,h3,h4,h5,h6⟩:=B0C b hv1 hw1 hn
 rw[h1]
 have n0:¬AG v r0:= λhu=>(h.new r0 hu).1 rfl
 have ns:¬AG v s:= λhu=>(h.new s hu).2.1 rfl
 have hr2:=h5 r0 _ hr1 n0
 have hs2:=h5 s _ hs1 ns
 have hone:B8 v'=[v']∧AV.one v'=true:=by
  rcases h2 with⟨rfl,_⟩|⟨a,b,rfl,_⟩<;>exact⟨rfl,rfl⟩
 rw[Ez (q:=q0) (e:=e0) (cs:=[v]) hr2 (by simp) rfl hone.1 hone.2]
 have hnx:A2 H0≤A2 H:=by have:=h.wf.lt h.at_;have:=h.r0n;omega
 have hnu:A2 (upd H s (Py (.ptr r0 0 0) c6 none))=A2 H:=BY _ _ _
 have hfr0:∀u,AG v' u→A2 H≤u:= λu hu=>by have:=h6 u hu;omega
 have hfr:∀u,AG v' u→u≠r0∧u≠s∧A2 H0≤u:= λu hu=>by
  have a1:=hfr0 u hu
  have a2:=h.wf.lt h.at_
  have a3:=h.wf.lt h.lp
  exact⟨by omega,by omega,by omega⟩
 have hs3:Aq (upd H' r0 (.cells q0 e0 [v'])) s=some (Py (.ptr r0 0 0) c6 none):=by rw[Ap h.ne.symm];exact hs2
 show ET (upd H' r0 (.cells q0 e0 [v'])) s false (some none) _=_
 have hs3':=hs3
 unfold Py at hs3'
 rw[Vj hs3']
 have kp:∀u y,u≠r0→u≠s→¬AG v u→Aq H u=some y→Aq (upd (upd H' r0 (.cells q0 e0 [v'])) s (Py (.ptr r0 0 0) c6 (some none))) u=some y:= λu y h1 h2 h3 hu=>by
  rw[Ap h2,Ap h1]
  exact h5 u y (by rw[Ap h2];exact hu) h3
 refine hx v' _ ⟨?_,?_,?_,hfr,BR (BR h3),λu y hu=> ?_,h.ne,h.r0n,h.sn,h.w0⟩ kp hfr0
 ·rw[Ap h.ne]
  exact AB hr2
 ·have a:=h2.lat h3 (Lat.upd H' r0 (.cells q0 e0 [v']) (P:= λu=>u=r0) rfl) (λu hu=>(hfr u hu).1)
  exact a.lat (BR h3) (Lat.upd _ s _ (P:= λu=>u=s) rfl) (λu hu=>(hfr u hu).2.1)
 ·exact IU hs3
 ·have hlt:=h.w0.lt hu
  have b1:=h.r0n
  have b2:=h.sn
  exact kp u y (by omega) (by omega) (λhv=>by have:=(h.new u hv).2.2;omega) (h.keep u y hu)
theorem Coll.it {H0 H:Hp} {r0 s e0 it:Nat} {q0:Bool} {c6 v:AV} {l:List (List UInt8)} (h:Coll H0 r0 s q0 e0 c6 l v H) (y:Row) (h1:it≠r0∧it≠s∧A2 H0≤it) (h2:¬AG v it):Coll H0 r0 s q0 e0 c6 l v (upd H it y):=
 ⟨by rw[Ap h1.1.symm];exact h.at_,h.sl.lat h.wf (Lat.upd H it y (P:= λu=>u=it) rfl) (λu hu e=>h2 (e▸hu)),by rw[Ap h1.2.1.symm];exact h.lp,h.new,BR h.wf,λu z hu=>by rw[Ap (by have:=h.w0.lt hu;omega)];exact h.keep u z hu,h.ne,h.r0n,h.sn,h.w0⟩
theorem Wi {H:Hp} {r:Nat} {x:Row} {es:List (Value×AV)} {o:Option (Value×AV)} (h:Aq H r=some x):Aq (upd H r (.iter es o)) r=some (.iter es o):=(Ed h).trans rfl
theorem B7U {H0:Hp} {r0 s e0 it:Nat} {q0:Bool} {c6 w:AV} {k4:Hp→Aj} {ks:List (List UInt8)} (hw:Zr 6 w w=true) (hlen:ks.length<1000000)
 (hfin:∀l v H,l.Perm ks→(l=[]→v=AA)→Coll H0 r0 s q0 e0 c6 l v H→k4 H=some (w,[])) (hit:it≠r0∧it≠s∧A2 H0≤it):
 ∀(f:Nat) (es:List (List UInt8×Unit)) (l:List (List UInt8)) (v:AV) (H:Hp) (o:Option (Value×AV)),es.length<f→(l++es.map Prod.fst).Perm ks→(l=[]→v=AA)→Coll H0 r0 s q0 e0 c6 l v H→¬AG v it→Aq H it=some (.iter (GF uS es) o)→
 Ch (L+20) (rt (L+20) (n+1)) K k4 f (.yl s) (.it it) H=some (w,[]):=by
 intro f
 induction f with
 |zero=>intro es l v H o h;omega
 |succ f ih=>
  intro es l v H o hf hp h0 hc hv hl
  rw[Hz]
  unfold Da
  refine A8C (f:=uS) hw hl (λe=> ?_) (λa e b he=> ?_)
  ·subst e
   rw[Tt,Bz]
   exact hfin l v H (by simpa using hp) h0 hc
  ·subst he
   have hc1:=hc.it (.iter (GF uS (a++b)) (some (.string ⟨⟨e.1⟩⟩,uS e.2))) hit hv
   have hl1:=Wi (es:=GF uS (a++b)) (o:=some (.string ⟨⟨e.1⟩⟩,uS e.2)) hl
   have hll:(l++(a++e::b).map Prod.fst).length=ks.length:=hp.length_eq
   simp at hll
   have eo:ofV (.string ⟨⟨e.1⟩⟩)=S e.1:=rfl
   rw[Tt,De,YS hl1,Tt,eo]
   refine A9U hc1 (by omega) λv' H' hc' hk hr=> ?_
   rw[Ku]
   show Aw (.v (.bool false)) _ _=_
   rw[Bz]
   refine ih (a++b) (l++[e.1]) v' H' _ (by simp at hf⊢;omega) ?_ (by simp) hc' (λhu=> ?_) (hk it _ hit.1 hit.2.1 hv hl1)
   ·refine List.Perm.trans ?_ hp
    simp only[Zl,XS,l0k]
    refine List.Perm.append_left l ?_
    show(e.1::(a.map Prod.fst++b.map Prod.fst)).Perm _
    exact List.perm_middle.symm
   ·have g1:=hr it hu
    have g2:=hc1.wf.lt hl1
    rw[BY] at g1 g2
    omega
end
abbrev YB (c:AV):AV:= .fn (.func Dg) [] [c]
section
variable {K:KV} {w:AV} {H0:Hp} {m rb:Nat} {es:List (List UInt8×Unit)}
theorem C45 (es:List (List UInt8×Unit)):(GF uS es).all (λp=>cl0 3 p.2)=true:=by
 rw[HB]
 intro p hp
 obtain⟨e,_,rfl⟩:=l2a.1 hp
 rfl
theorem A85 (hw:Zr 6 w w=true) (hn:es.length<1000000) (hL:es.length<L) (wf:Wf H0) (hb:Aq H0 rb=some (.cells true FJ [.mp m])) (hm:Aq H0 m=some (.map false (GF uS es) none))
 (hx:∀l v H,l.Perm (es.map Prod.fst)→(l=[]→v=AA)→NewSl (upd H0 m .gone) l v H→K v H=some (w,[])):
 (rt (L+20) (n+4)).call EH [YB (.ptr rb 0 0)] H0 K=some (w,[]):=by
 rw[Hu]
 unfold EF
 rw[Ek]
 unfold C8
 simp only[BX]
 rw[A5n (by rfl),A0k,HM]
 unfold Df
 simp only[BX]
 have w1:=Br (x:= .cells true Bf [AA]) wf
 have hn0:=A1 (H:=H0) (x:= .cells true Bf [AA]) (by simp)
 have hne:A2 ((A2 H0,Row.cells true Bf [AA])::H0)=A2 H0+1:=rfl
 have w2:Wf ((A2 H0+1,Py (.ptr (A2 H0) 0 0) (YB (.ptr rb 0 0)) (some none))::(A2 H0,Row.cells true Bf [AA])::H0):=Br (x:=Py (.ptr (A2 H0) 0 0) (YB (.ptr rb 0 0)) (some none)) w1
 have hs0:Aq ((A2 H0+1,Py (.ptr (A2 H0) 0 0) (YB (.ptr rb 0 0)) (some none))::(A2 H0,Row.cells true Bf [AA])::H0) (A2 H0+1)=some (Py (.ptr (A2 H0) 0 0) (YB (.ptr rb 0 0)) (some none)):=A1 (H:=((A2 H0,Row.cells true Bf [AA])::H0)) (x:=Py (.ptr (A2 H0) 0 0) (YB (.ptr rb 0 0)) (some none)) (by simp[Py])
 have ol:∀u y,Aq H0 u=some y→Aq ((A2 H0+1,Py (.ptr (A2 H0) 0 0) (YB (.ptr rb 0 0)) (some none))::(A2 H0,Row.cells true Bf [AA])::H0) u=some y:= λu y hu=>by
  have a1:=AS (x:= .cells true Bf [AA]) (wf.lt hu) hu
  exact AS (w1.lt a1) a1
 show Ar HJ (.ptr rb 0 0) ((A2 H0+1,Py (.ptr (A2 H0) 0 0) (YB (.ptr rb 0 0)) (some none))::(A2 H0,Row.cells true Bf [AA])::H0) _=_
 rw[AP (p:=0) rfl (ol _ _ hb) (by simp)]
 show A07 (.mp m) ((A2 H0+1,Py (.ptr (A2 H0) 0 0) (YB (.ptr rb 0 0)) (some none))::(A2 H0,Row.cells true Bf [AA])::H0) _=_
 rw[B8p (ol _ _ hm) (C45 es)]
 have mlt:=wf.lt hm
 have wg:Wf (upd H0 m .gone):=BR wf
 have hr2:Aq ((A2 H0+1,Py (.ptr (A2 H0) 0 0) (YB (.ptr rb 0 0)) (some none))::(A2 H0,Row.cells true Bf [AA])::H0) (A2 H0)=some (.cells true Bf [AA]):=AS (w1.lt hn0) hn0
 generalize hH2:((A2 H0+1,Py (.ptr (A2 H0) 0 0) (YB (.ptr rb 0 0)) (some none))::(A2 H0,Row.cells true Bf [AA])::H0:Hp)=H2 at w2 hs0 ol hr2
 have hn2:A2 H2=A2 H0+2:=by rw[←hH2];rfl
 have w3:Wf (upd H2 m .gone):=BR w2
 have hn3:A2 (upd H2 m .gone)=A2 H0+2:=by rw[BY,hn2]
 have w4:=Br (x:= .iter (GF uS es) none) w3
 have up:∀u y,u≠m→Aq H2 u=some y→Aq ((A2 H2,Row.iter (GF uS es) none)::upd H2 m .gone) u=some y:= λu y hu hy=>by
  have a:Aq (upd H2 m .gone) u=some y:=by rw[Ap hu];exact hy
  have b:=AS (x:= .iter (GF uS es) none) (w3.lt a) a
  rw[hn3,←hn2] at b
  exact b
 have it0:Aq ((A2 H2,Row.iter (GF uS es) none)::upd H2 m .gone) (A2 H2)=some (.iter (GF uS es) none):=by
  have:=A1 (H:=upd H2 m .gone) (x:= .iter (GF uS es) none) (by simp)
  rw[BY] at this
  exact this
 rw[BY] at w4
 refine B7U (n:=n) (H0:=upd H0 m .gone) (r0:=A2 H0) (s:=A2 H0+1) (it:=A2 H2) (q0:=true) (e0:=Bf) (c6:=YB (.ptr rb 0 0)) (ks:=es.map Prod.fst) hw (by simpa using hn) ?_ (by rw[BY];omega) (L+20) es [] AA _ none (by omega) (by simp) (λ_=>rfl)
  ⟨up _ _ (by omega) hr2,.inl ⟨rfl,rfl,rfl⟩,up _ _ (by omega) hs0,λu ⟨_,_,_,h⟩=>(by cases h),w4,λu y hu=> ?_,by omega,by rw[BY];omega,by rw[BY];omega,wg⟩ (λ⟨_,_,_,h⟩=>(by cases h)) it0
 ·intro l v H hp h0 hc
  show JL H (A2 H0+1) _=_
  rw[BI hc.lp]
  show LL H (A2 H0+1) .gone _=_
  rw[Dm]
  have hr:Aq (upd H (A2 H0+1) .gone) (A2 H0)=some (.cells true Bf [v]):=by rw[Ap (by omega)];exact hc.at_
  show Ar Ac (.ptr (A2 H0) 0 0) (upd H (A2 H0+1) .gone) _=_
  rw[AP (p:=0) rfl hr (by simp)]
  refine hx _ _ _ hp h0 ⟨?_,λu hu=>(hc.new u hu).2.2,BR hc.wf,λu y hu=> ?_,?_⟩
  ·exact hc.sl.lat hc.wf (Lat.upd H _ _ (P:= λu=>u=A2 H0+1) rfl) (λu hu=>(hc.new u hu).2.1)
  ·have:=wg.lt hu
   rw[BY] at this
   rw[Ap (by omega)];exact hc.keep u y hu
  ·rw[BY,BY]
   have:=hc.wf.lt hc.at_
   omega
 ·have hne':u≠m:= λe=>by
   subst e
   rw[Ed hm] at hu
   cases hu
  rw[Ap hne'] at hu
  exact up u y hne' (ol u y hu)
theorem B2I {x:Aj} {H:Hp} {ps:List (List UInt8)} {v:AV} (wf:Wf H0) (hn:ps.length<1000000000) (h0:ps=[]→v=AA) (hs:NewSl H0 ps v H) (hx:∀H',NewSl H0 (I9 ps) v H'→K (.tup []) H'=x):
 (rt (L+20) (n+4)).call Cc [v] H K=x:=by
 by_cases hp0:ps=[]
 ·subst hp0
  obtain rfl:=h0 rfl
  have e:(rt (L+20) (n+4)).call Cc [AA] H K=K (.tup []) H:=by kernel_rfl
  rw[e]
  exact hx H hs
 have hp:=(CD ps).length_eq
 rcases hs.sl with⟨_,h,_⟩|⟨r,q,rfl,hl,hc⟩
 ·exact absurd (l1s h) hp0
 ·have e1:∀K,(rt (L+20) (n+4)).call Cc [.sl 1 r 0 ps.length] H K=WM [.sl 1 r 0 ps.length] H K (A2p (E (L+20)) (nT (L+20)) (rt (L+20) (n+3)) Cc [.sl 1 r 0 ps.length] H K):= λK=>rfl
  rw[e1]
  have hso:∀(l:List (List UInt8)),Ug (AK l)=some l:= λl=>by
   induction l with
   |nil=>rfl
   |cons a l ih=>show(Ug (AK l)).map _=_;rw[ih];rfl
  have hpos:0<ps.length:=List.length_pos_iff.2 hp0
  have e2:∀alt K,WM [.sl 1 r 0 ps.length] H K alt=E8 0 (AK (I9 ps)) (AK ps) λcs'=>LL H r (.cells q Au cs') λH'=>K (.tup []) H':= λalt K=>by
   unfold WM
   simp only[hl,l1n]
   rw[l1z (by rw[Cr];omega),hso]
   have g:(Nat.beq ps.length ps.length&&(Nat.blt ps.length 4611686018427387904&&Nat.blt 0 ps.length))=true:=by simp;omega
   simp only[g]
   rfl
  rw[e2,Ka _ _ _ _ (by rw[Cr,Cr];omega),SC _ _ (by rw[Cr,Cr];exact hp),Dm]
  refine hx _ ⟨.inr ⟨r,q,by rw[hp],AB hl,by rw[Cr];omega⟩,λu hu=>hs.new u hu,BR hs.wf,λu y hu=> ?_,by rw[BY];exact hs.nx⟩
  have a1:=wf.lt hu
  have a2:=hs.new r ⟨1,0,ps.length,rfl⟩
  rw[Ap (by omega)];exact hs.keep u y hu
theorem C31 {ty m:Nat} {H:Hp} {K:KV}:DK ty (.mp m) H K=K (.ptr (A2 H) 0 0) ((A2 H,.cells true ty [.mp m])::H):=by
 unfold DK
 rw[CQ,Gg,BZ];rfl
theorem A5Z {ks:List (List UInt8)} (hw:Zr 6 w w=true) (hn:es.length<1000000) (hL:es.length<L) (wf:Wf H0) (hm:Aq H0 m=some (.map false (GF uS es) none)) (hk:(es.map Prod.fst).Perm ks) (hs:ks.Pairwise (· ≤ ·))
 (hx:∀v H,Bv H Au 1 v ks.length (AK ks)→(ks=[]→v=AA)→K v H=some (w,[])):(rt (L+20) (n+6)).call Jb [.mp m] H0 K=some (w,[]):=by
 rw[UE]
 unfold Lv
 rw[IR]
 unfold DF
 have eb:∀{K:KV},DK FJ (.mp m) H0 K=K (.ptr (A2 H0) 0 0) ((A2 H0,.cells true FJ [.mp m])::H0):= λ{K}=>C31
 rw[eb]
 show(rt (L+20) (n+5)).call Em [YB (.ptr (A2 H0) 0 0)] ((A2 H0,Row.cells true FJ [.mp m])::H0) _=_
 rw[Ie]
 unfold EW
 have w1:=Br (x:= .cells true FJ [.mp m]) wf
 have hb:=A1 (H:=H0) (x:= .cells true FJ [.mp m]) (by simp)
 have hm1:=AS (x:= .cells true FJ [.mp m]) (wf.lt hm) hm
 refine A85 (n:=n) hw hn hL w1 hb hm1 λl v H hp h0 hc=> ?_
 have e:I9 l=ks:=QU ((CD l).trans (hp.trans hk)) (IW l) hs
 have hll:l.length=es.length:=by rw[hp.length_eq,Wv]
 refine B2I (n:=n) (BR w1) (by omega) h0 hc λH' hc'=> ?_
 rw[e] at hc'
 refine hx v H' hc'.sl λh=>h0 ?_
 have:=(hp.trans hk).length_eq
 rw[h] at this
 exact l1s this
end
end
end Go.Abs
end
