import Derived.Test.YtlbhdmbfdcohhaaGreatDoorP22
set_option linter.all false
set_option maxHeartbeats 100000000
noncomputable section
namespace Go.Abs
open Go.RowKit Go.Proofs
set_option maxRecDepth 100000
section
variable {L n:Nat}
attribute [local irreducible] Ah rt Yb eBi eEq cnd Go.Abs.Aj Go.Abs.T8 Ar
section
variable {m:ND} {u:UD} {ca cb ra rb:List UInt8} {T nds:AV} {kd id vd:Int} {r:RD}
theorem ZA {n2:Nat} {c1 c2:List AV} (hT:Sl T) (hN:∃n cs,nds= .list n cs)
 (hp:LS (rt (L+20) (n+59)) Fc [.list n2 c1] (Bo true)) (hv:LS (rt (L+20) (n+59)) DF [.agg (Br id (.list n2 c2) nds u)] (Bo true)):
 CS (rt (L+20) (n+60)) CY [.agg (Dy kd m u ca cb T ra rb (.list n2 c1) id (.list n2 c2) nds u r vd)] (Bo true):=by
 intro K hK
 obtain⟨n3,c3,rfl⟩:=hN
 rcases hT with rfl|⟨n4,c4,rfl⟩
 all_goals
  rewrite [O8]
  unfold GT AR Cz
  try rewrite [zO]
  try rewrite [bO]
  try rewrite [qO]
  try rewrite [cO]
  generalize rt (L+20) (n+59)=R at*
  conv=>lhs;whnf
  rewrite [(hp) false _ _ ?hq]
  case hq=>exact λK=>by kernel_rfl
  conv=>lhs;whnf
  rewrite [(hv) false _ _ ?hq]
  case hq=>exact λK=>by kernel_rfl
  conv=>lhs;whnf
  rewrite [Nc ?hc]
  case hc=>rfl
  conv=>lhs;whnf
  rewrite [A19 u]
  conv=>lhs;whnf
  exact hK _ _ (λb=>⟨false,λK=>by kernel_rfl⟩)
end
end
section
variable {L n:Nat}
abbrev Ls (l:List (List UInt8)):AV:= .list l.length (BB l)
theorem ML {l:List (List UInt8)} {K:AV→Am}:AM Ae (Ls l) K=K (I l.length):=id rfl
theorem Nw {l:List (List UInt8)} {i:Nat} {K:AV→Am} (h:i<l.length):B1 Ae (Ls l) (I i) K=K (.iptr [S l[i]]):=by
 rw[T7 rfl (by simp[BB]) (by omega) (by omega),WB,LI h]
theorem F3 {s:List UInt8} {H:Hp} {K:AV→Am}:Ap Ad (.iptr [S s]) H K=K (S s):=Qm rfl
theorem DH {ty:TI} {i:Nat} {K:AV→Am} (h:i<1000000000):Go.Abs.Aj ty .add (I i) (.v (.int .i64 1)) K=K (I ((i+1:Nat):Int)):=by
 rw[Co,Ca (by omega) (by omega),Of]
theorem FR {ty:TI} {a b:Int} {K:AV→Am} (h:a<b):Go.Abs.Aj ty .lss (I a) (I b) K=K (Bo true):=by rw[Dj,decide_eq_true h]
theorem FT {ty:TI} {a b:Int} {K:AV→Am} (h:¬a<b):Go.Abs.Aj ty .lss (I a) (I b) K=K (Bo false):=by rw[Dj,decide_eq_false h]
theorem Do {x y:Am}:Ar (.v (.bool true)) x y=x:=id rfl
theorem BC {x y:Am}:Ar (.v (.bool false)) x y=y:=id rfl
theorem BK {v:AV} {H:Hp} {K:AV→Am}:Ai (some (v,H)) K=K v:=id rfl
section
variable {R:Rt} {K:KV} {ps:List (List UInt8)} {H:Hp}
theorem C0G {k39:AV→AV→AV→Hp→Am} {i:Nat} (hi:i<ps.length) (hn:ps.Nodup) (hb:ps.length<100):∀(f j:Nat),j≤i→i-j<f→
 Hj (L+20) R K k39 f (Ls ps) (I i) (I j) H=k39 (Ls ps) (I i) (I i) H:=by
 intro f
 induction f with
 |zero=>intro j _ h;omega
 |succ f ih=>
  intro j hj hf
  rw[Oj]
  unfold Jq Aq Cz
  by_cases h:j<i
  ·rw[FR (by omega),Do,Nw (by omega),BK,F3,BK,Nw hi,BK,F3,BK,Kz]
   have hne:ps[j]≠ps[i]:= λe=>by
    have:=(List.getElem_inj (h₀:=by omega) (h₁:=hi) hn).1 e
    omega
   rw[decide_eq_false hne,BK,BC,DH (by omega)]
   exact ih (j+1) (by omega) (by omega)
  ·rw[FT (by omega),BC]
   have:j=i:=by omega
   rw[this]
theorem C0H {k14:AV→Hp→Am} (hn:ps.Nodup) (hb:ps.length<100) (hL:ps.length<L+20) (hl:∀s∈ps,s.length=32):∀(f i:Nat) (v:AV),i≤ps.length→ps.length-i<f→
 Hl (L+20) R K k14 f (Ls ps) (I i) v H=k14 (Ls ps) H:=by
 intro f
 induction f with
 |zero=>intro i v _ h;omega
 |succ f ih=>
  intro i v hi hf
  rw[Ol]
  unfold Jr Aq Cz
  rw[ML]
  by_cases h:i<ps.length
  ·rw[FR (by omega),Do]
   simp only[Cm]
   rw[Nw h,F3,Mr rfl,hl _ (Qu h),F8]
   rw[show(!decide (((32:Nat):Int)=32))=false from rfl,BC]
   have e0:(AV.v (.int .i64 0))=I ((0:Nat):Int):=rfl
   rw[e0,C0G h hn hb _ 0 (by omega) (by omega),DH (by omega)]
   exact ih (i+1) _ (by omega) (by omega)
  ·rw[FT (by omega),BC]
end
theorem A2z {ps:List (List UInt8)} (hn:ps.Nodup) (h0:1≤ps.length) (hb:ps.length≤6) (hl:∀s∈ps,s.length=32):
 CS (rt (L+20) (n+1)) EC [Ls ps] (.tup [Bo true,I ps.length]):=by
 intro K hK
 rw[Pn]
 unfold JS AR Aq Cz
 simp only[Cm]
 have e0:(AV.v (.int .i64 0))=I ((0:Nat):Int):=rfl
 rw[e0,C0H hn (by omega) (by omega) hl _ 0 _ (by omega) (by omega),ML,Lx,decide_eq_true (by omega)]
 have g:∀(x:Bool→Am),gdV true (Bo true) x=x true:= λx=>id rfl
 have c:∀{v:AV} {H:Hp} {K:KV},DC (some (v,H)) K=K v H:=id rfl
 simp only[g,c,ML]
 rw[QY,decide_eq_true (by omega)]
 exact hK _ _ (λb=>⟨false,λK=>by kernel_rfl⟩)
end
section
variable {L n:Nat}
theorem Jp (l:List (List UInt8)):(BB l).length=l.length:=by simp[BB]
theorem A9Z (a b:List (List UInt8)):BB a++BB b=BB (a++b):=by simp[BB]
theorem B7S {H:Hp} {v:AV} {l:List (List UInt8)} (b:List UInt8) (h:B3 H AL 1 v l.length (BB l)) (w:Wf H) (hn:l.length<1000000000):
 ∃v' H',(∀K:KV,(Fp AL 1 Ad 1 [(0,1,S b)] H λv1 H1=>Ea AL 1 Ad Ae v v1 H1 K)=K v' H')∧B3 H' AL 1 v' (l++[b]).length (BB (l++[b]))∧Wf H'∧A7 H≤A7 H'∧(∀s x,Aw H s=some x→¬Bh v s→Aw H' s=some x)∧(∀s,Bh v' s→A7 H≤s):=by
 have hv1:B3 ((A7 H,.cells false AL [S b])::H) AL 1 v l.length (BB l):=h.lat w (Lat.cons H _ (λ_=>False)) (λ_ _ h=>h)
 have hsrc:=Og (H:=H) (e:=AL) (n:=1) (cs:=[S b]) rfl
 obtain⟨v',H',h1,h2,h3,h4⟩:=apt (ie:=Ad) (i2:=Ae) hv1 (λK=>Sg (K:=K) hsrc) rfl rfl (by decide) rfl rfl (by show(l.length+1)*16≤_;omega) (by omega)
 have h5:=(Lat.cons H (.cells false AL [S b]) (Bh v)).trans h4 (R:=Bh v) (λ_ _ h=>h) (λ_ _ h=>h)
 refine⟨v',H',λK=> ?_,by rw[F5,←A9Z];exact h2,h5.wf w,h5.nx,λs x hs hn=>h5.keep w s x hs hn,λs hs=> ?_⟩
 ·rw[A8c (z:=S []) (λ_=>rfl) (λ_=>rfl) rfl]
  exact h1 K
 ·rw[h3 s hs];exact l1p _
def lpA (c2 c6:AV) (p:Option (Option Code)):Row:= .loop 13 [(2,c2),(4,AP),(5,AV.dk),(6,c6),(7,AV.dk),(8,AV.dk),(9,AV.dk),(10,AV.dk),(11,AV.dk)] (AY).2.1 (AY).2.2.1 (AY).2.2.2 p
structure Coll (H0:Hp) (r0 s:Nat) (q0:Bool) (e0:Nat) (c6:AV) (l:List (List UInt8)) (v:AV) (H:Hp):Prop where
 at_:Aw H r0=some (.cells q0 e0 [v])
 sl:B3 H AL 1 v l.length (BB l)
 lp:Aw H s=some (lpA (.ptr r0 0 0) c6 (some none))
 new:∀u,Bh v u→u≠r0∧u≠s∧A7 H0≤u
 wf:Wf H
 keep:∀u y,Aw H0 u=some y→Aw H u=some y
 ne:r0≠s
 r0n:A7 H0≤r0
 sn:A7 H0≤s
 w0:Wf H0
variable {K:KV} {x:Am}
theorem B5B {H0 H:Hp} {r0 s e0:Nat} {q0:Bool} {c6 v:AV} {l:List (List UInt8)} {b:List UInt8} (h:Coll H0 r0 s q0 e0 c6 l v H) (hn:l.length<1000000000)
 (hx:∀v' H',Coll H0 r0 s q0 e0 c6 (l++[b]) v' H'→K (Bo true) H'=x):Em (E (L+20)) (rt (L+20) (n+1)) (.yl s) [S b] H K=x:=by
 show SM (rt (L+20) (n+1)) s [S b] H K=x
 rw[A2c h.lp (by kernel_rfl)]
 have hrun:(rt (L+20) (n+1)).run= λcf=>Vk (E (L+20)) (rt (L+20) n) cf:=rfl
 rw[hrun,IX,A2w h.lp]
 have hw1:=C7 (r:=s) (y:=lpA (.ptr r0 0 0) c6 none) h.wf
 have hr1:Aw (upd H s (lpA (.ptr r0 0 0) c6 none)) r0=some (.cells q0 e0 [v]):=by rw[As h.ne];exact h.at_
 have hs1:Aw (upd H s (lpA (.ptr r0 0 0) c6 none)) s=some (lpA (.ptr r0 0 0) c6 none):=RU h.lp
 have hv1:B3 (upd H s (lpA (.ptr r0 0 0) c6 none)) AL 1 v l.length (BB l):=h.sl.lat h.wf (Lat.upd H s _ (P:= λu=>u=s) rfl) (λu hu=>(h.new u hu).2.1)
 have hk1:∀u y,Aw H0 u=some y→Aw (upd H s (lpA (.ptr r0 0 0) c6 none)) u=some y:= λu y hu=>by
  have:=h.w0.lt hu
  rw[As (by have:=h.sn;omega)];exact h.keep u y hu
 show Ap Ae (.ptr r0 0 0) (upd H s (lpA (.ptr r0 0 0) c6 none)) _=_
 rw[AW (p:=0) rfl hr1 (by simp)]
 show Fp AL 1 Ad 1 [(0,1,S b)] (upd H s (lpA (.ptr r0 0 0) c6 none)) (λv15 H16=>Ea AL 1 Ad Ae v v15 H16 _)=_
 obtain⟨v',H',h1,h2,h3,h4,h5,h6⟩:=B7S b hv1 hw1 hn
 rw[h1]
 have n0:¬Bh v r0:= λhu=>(h.new r0 hu).1 rfl
 have ns:¬Bh v s:= λhu=>(h.new s hu).2.1 rfl
 have hr2:=h5 r0 _ hr1 n0
 have hs2:=h5 s _ hs1 ns
 have hone:B7 v'=[v']∧AV.one v'=true:=by
  rcases h2 with⟨rfl,_⟩|⟨a,b,rfl,_⟩<;>exact⟨rfl,rfl⟩
 rw[E9 (q:=q0) (e:=e0) (cs:=[v]) hr2 (by simp) rfl hone.1 hone.2]
 have hnx:A7 H0≤A7 H:=by have:=h.wf.lt h.at_;have:=h.r0n;omega
 have hnu:A7 (upd H s (lpA (.ptr r0 0 0) c6 none))=A7 H:=Ee _ _ _
 have hfr:∀u,Bh v' u→u≠r0∧u≠s∧A7 H0≤u:= λu hu=>by
  have a1:=h6 u hu
  rw[hnu] at a1
  have a2:=h.wf.lt h.at_
  have a3:=h.wf.lt h.lp
  exact⟨by omega,by omega,by omega⟩
 have hs3:Aw (upd H' r0 (.cells q0 e0 [v'])) s=some (lpA (.ptr r0 0 0) c6 none):=by rw[As h.ne.symm];exact hs2
 show Gf (upd H' r0 (.cells q0 e0 [v'])) s false (some none) _=_
 have hs3':=hs3
 unfold lpA at hs3'
 rw[A2v hs3']
 refine hx v' _ ⟨?_,?_,?_,hfr,C7 (C7 h3),λu y hu=> ?_,h.ne,h.r0n,h.sn,h.w0⟩
 ·rw[As h.ne]
  exact A8 hr2
 ·have a:=h2.lat h3 (Lat.upd H' r0 (.cells q0 e0 [v']) (P:= λu=>u=r0) rfl) (λu hu=>(hfr u hu).1)
  exact a.lat (C7 h3) (Lat.upd _ s _ (P:= λu=>u=s) rfl) (λu hu=>(hfr u hu).2.1)
 ·exact RU hs3
 ·have hlt:=h.w0.lt hu
  have b1:=h.r0n
  have b2:=h.sn
  rw[As (by omega),As (by omega)]
  refine h5 u y (hk1 u y hu) (λhv=> ?_)
  have:=(h.new u hv).2.2
  omega
theorem C2h {H0:Hp} {r0 s e0:Nat} {q0:Bool} {c6:AV} {k3:Hp→Am} {ps:List (List UInt8)} (hn:ps.length<1000000000) (hx:∀v H,Coll H0 r0 s q0 e0 c6 ps v H→k3 H=x):
 ∀(f i:Nat) (v:AV) (H:Hp),i≤ps.length→ps.length-i<f→Coll H0 r0 s q0 e0 c6 (ps.take i) v H→
  Cw (L+20) (rt (L+20) (n+1)) K k3 f (.yl s) (Ls ps) (I ps.length) (I i) H=x:=by
 intro f
 induction f with
 |zero=>intro i v H _ h;omega
 |succ f ih=>
  intro i v H hi hf hc
  rw[Iz]
  unfold Ds Aq
  by_cases h:i<ps.length
  ·rw[FR (by omega),Do,Nw h,F3]
   refine B5B hc (by simp;omega) λv' H' hc'=> ?_
   rw[A2S]
   show Ar (.v (.bool false)) _ _=_
   rw[BC,DH (by omega)]
   rw[←l04 h] at hc'
   exact ih (i+1) v' H' (by omega) (by omega) hc'
  ·rw[FT (by omega),BC]
   have:i=ps.length:=by omega
   rw[this,l06] at hc
   exact hx v H hc
structure NewSl (H0:Hp) (l:List (List UInt8)) (v:AV) (H:Hp):Prop where
 sl:B3 H AL 1 v l.length (BB l)
 new:∀u,Bh v u→A7 H0≤u
 wf:Wf H
 keep:∀u y,Aw H0 u=some y→Aw H u=some y
 nx:A7 H0≤A7 H
abbrev B1K (ps:List (List UInt8)):AV:= .fn (.func D6) [] [.iptr [Ls ps]]
theorem A9W {H0:Hp} {ps:List (List UInt8)} (hn:ps.length<1000000000) (hL:ps.length<L) (w:Wf H0) (hx:∀v H,NewSl H0 ps v H→K v H=x):
 (rt (L+20) (n+4)).call Hy [B1K ps] H0 K=x:=by
 rw[OZ]
 unfold Hr
 rw[Jv]
 unfold DK
 simp only[Cm]
 rw[B3U (by rfl),A8E,IK]
 unfold D5 Aq
 simp only[Cm]
 have e1:∀H K,Ap Ae (.iptr [Ls ps]) H K=K (Ls ps):= λH K=>Qm rfl
 rw[e1,ML]
 have e0:(AV.v (.int .i64 0))=I ((0:Nat):Int):=rfl
 rw[e0]
 have w1:=BP (x:= .cells true G7 [AP]) w
 have hn0:=A0 (H:=H0) (x:= .cells true G7 [AP]) (by simp)
 have hne:A7 ((A7 H0,Row.cells true G7 [AP])::H0)=A7 H0+1:=rfl
 refine C2h (n:=n) (H0:=H0) (r0:=A7 H0) (s:=A7 H0+1) (q0:=true) (e0:=G7) (c6:=B1K ps) hn ?_ (L+20) 0 AP _ (by omega) (by omega) ⟨Bn (w1.lt hn0) hn0,.inl ⟨rfl,rfl,rfl⟩,A0 (H:=((A7 H0,Row.cells true G7 [AP])::H0)) (x:=lpA (.ptr (A7 H0) 0 0) (B1K ps) (some none)) (by simp[lpA]),λu ⟨_,_,_,h⟩=>(by cases h),BP w1,λu y hu=> ?_,by omega,by omega,by omega,w⟩
 ·intro v H hc
  rw[hne,C6 hc.lp]
  show Qf H (A7 H0+1) .gone _=x
  rw[Ez]
  have hr:Aw (upd H (A7 H0+1) .gone) (A7 H0)=some (.cells true G7 [v]):=by rw[As (by omega)];exact hc.at_
  show Ap Ae (.ptr (A7 H0) 0 0) (upd H (A7 H0+1) .gone) _=x
  rw[AW (p:=0) rfl hr (by simp)]
  refine hx _ _ ⟨?_,λu hu=>(hc.new u hu).2.2,C7 hc.wf,λu y hu=> ?_,?_⟩
  ·exact hc.sl.lat hc.wf (Lat.upd H _ _ (P:= λu=>u=A7 H0+1) rfl) (λu hu=>(hc.new u hu).2.1)
  ·have:=w.lt hu
   rw[As (by omega)];exact hc.keep u y hu
  ·rw[Ee]
   have:=hc.wf.lt hc.at_
   omega
 ·have a1:=Bn (x:= .cells true G7 [AP]) (w.lt hu) hu
  exact Bn (w1.lt a1) a1
theorem B1z {H0:Hp} {ps:List (List UInt8)} (h0:0<ps.length) (hn:ps.length<1000000000) (hL:ps.length<L) (w:Wf H0) (hx:∀v H,NewSl H0 (Ps ps) v H→K v H=x):
 (rt (L+20) (n+5)).call HX [B1K ps] H0 K=x:=by
 rw[PM]
 unfold HS
 refine A9W hn hL w λv H hs=> ?_
 have hp:=(Mf ps).length_eq
 rcases hs.sl with⟨_,h,_⟩|⟨r,q,rfl,hl,hc⟩
 ·omega
 ·have e1:∀K,(rt (L+20) (n+4)).call EU [.sl 1 r 0 ps.length] H K=A2u [.sl 1 r 0 ps.length] H K (A32 (E (L+20)) (nT (L+20)) (rt (L+20) (n+3)) EU [.sl 1 r 0 ps.length] H K):= λK=>rfl
  rw[e1]
  have hso:∀(l:List (List UInt8)),V1 (BB l)=some l:= λl=>by
   induction l with
   |nil=>rfl
   |cons a l ih=>show(V1 (BB l)).map _=_;rw[ih];rfl
  have e2:∀alt K,A2u [.sl 1 r 0 ps.length] H K alt=EH 0 (BB (Ps ps)) (BB ps) λcs'=>Qf H r (.cells q AL cs') λH'=>K (.tup []) H':= λalt K=>by
   unfold A2u
   simp only[hl,l1n]
   rw[l1z (by rw[Jp];omega),hso]
   have g:(Nat.beq ps.length ps.length&&(Nat.blt ps.length 4611686018427387904&&Nat.blt 0 ps.length))=true:=by simp;omega
   simp only[g]
   rfl
  rw[e2,Mk _ _ _ _ (by rw[Jp,Jp];omega),UF _ _ (by rw[Jp,Jp];exact hp),Ez]
  refine hx _ _ ⟨.inr ⟨r,q,by rw[hp],A8 hl,by rw[Jp];omega⟩,λu ⟨_,_,_,hh⟩=> ?_,C7 hs.wf,λu y hu=> ?_,by rw[Ee];exact hs.nx⟩
  ·injection hh with _ hh
   subst hh
   exact hs.new r ⟨1,0,ps.length,rfl⟩
  ·have a1:=w.lt hu
   have a2:=hs.new r ⟨1,0,ps.length,rfl⟩
   rw[As (by omega)];exact hs.keep u y hu
end
section
variable {L n:Nat} {K:KV} {x:Am}
theorem A2q {ty:TI} {i:Nat} {K:AV→Am} (h0:0<i) (h:i<1000000000):Go.Abs.Aj ty .sub (I i) (.v (.int .i64 1)) K=K (I ((i-1:Nat):Int)):=by
 rw[GN,Ca (by omega) (by omega)]
 have:(i:Int)-1=((i-1:Nat):Int):=by omega
 rw[this]
theorem A9j {H:Hp} {r i e:Nat} {q:Bool} {l:List (List UInt8)} {K:AV→Am} (hl:Aw H r=some (.cells q e (BB l))) (h:i<l.length):Ap Ad (.ptr r i 0) H K=K (S l[i]):=by
 rw[AW (p:=i) rfl hl (by rw[Jp];exact h),LI h]
theorem A9l {r i m:Nat} {K:AV→Am} (h:i<m):B1 Ae (.sl 1 r 0 m) (I i) K=K (.ptr r i 0):=by
 rw[A44 rfl (by omega) (by omega),WB]
theorem C1x {R:Rt} {k6:AV→Hp→Am} {l:List (List UInt8)} {H:Hp} {r e:Nat} {q:Bool} (hl:Aw H r=some (.cells q e (BB l))) (hn:l.Nodup) (hb:l.length<1000000000):∀(f i:Nat) (v w:AV),1≤i→i≤l.length→l.length-i<f→
 CN (L+20) R K k6 f (.sl 1 r 0 l.length) (I i) v w H=k6 (.sl 1 r 0 l.length) H:=by
 intro f
 induction f with
 |zero=>intro i v w _ _ h;omega
 |succ f ih=>
  intro i v w h1 hi hf
  rw[J2]
  unfold DY Aq
  have el:∀K,AM Ae (.sl 1 r 0 l.length) K=K (I l.length):= λK=>id rfl
  rw[el]
  by_cases h:i<l.length
  ·rw[FR (by omega),Do,A9l h,BK,A9j hl h,BK,A2q (by omega) (by omega),BK,A9l (by omega),BK,A9j hl (by omega),BK,Kz]
   have hne:l[i]≠l[i-1]:= λe=>by
    have:=(List.getElem_inj (h₀:=h) (h₁:=by omega) hn).1 e
    omega
   rw[decide_eq_false hne,BK,BC,DH (by omega)]
   exact ih (i+1) _ _ (by omega) (by omega) (by omega)
  ·rw[FT (by omega),BC]
theorem A9V {l:List (List UInt8)} {H:Hp} {r e:Nat} {q:Bool} (hl:Aw H r=some (.cells q e (BB l))) (hn:l.Nodup) (hb:l.length<1000000000) (hL:l.length<L):
 (rt (L+20) (n+1)).call CX [.sl 1 r 0 l.length] H K=K (.sl 1 r 0 l.length) H:=by
 rw[JK]
 unfold Eh Aq
 simp only[Cm]
 have el:∀K,AM Ae (.sl 1 r 0 l.length) K=K (I l.length):= λK=>id rfl
 rw[el]
 by_cases h:l.length<2
 ·rw[FR (by omega),Do]
 ·rw[FT (by omega),BC]
  have e1:(AV.v (.int .i64 1))=I ((1:Nat):Int):=rfl
  rw[e1,C1x hl hn hb _ 1 _ _ (by omega) (by omega) (by omega)]
theorem C2f {s:List UInt8} (h:s.length=32):PS (rt (L+20) (n+1)) CV [S s] (Bo false):=by
 refine CS.ps (λK hK=> ?_) (λH=> λK=>by kernel_rfl)
 rw[LX]
 unfold F0 Aq
 rw[Mr rfl,h,F8]
 exact hK _ _ (λb=>⟨false,λK=>by kernel_rfl⟩)
abbrev B48:AV:= .fn (.func CV) [] []
theorem C10 {k4:Hp→Am} {ps:List (List UInt8)} {H:Hp} (hb:ps.length<1000000000) (hl:∀s∈ps,s.length=32):∀(f i:Nat),i≤ps.length→ps.length-i<f→
 C8 (L+20) (rt (L+20) (n+1)) K k4 f (Ls ps) B48 (I ps.length) (I i) H=k4 H:=by
 intro f
 induction f with
 |zero=>intro i _ h;omega
 |succ f ih=>
  intro i hi hf
  rw[IU]
  unfold D9 Aq
  by_cases h:i<ps.length
  ·rw[FR (by omega),Do,Nw h,F3]
   have ez:∀K,Em (E (L+20)) (rt (L+20) (n+1)) B48 [S ps[i]] H K=Ah (rt (L+20) (n+1)) CV [S ps[i]] H λv=>K v H:= λK=>by kernel_rfl
   rw[ez,C2f (hl _ (Qu h)),BC,DH (by omega)]
   exact ih (i+1) (by omega) (by omega)
  ·rw[FT (by omega),BC]
theorem B1I {ps:List (List UInt8)} (hb:ps.length<1000000000) (hL:ps.length<L) (hl:∀s∈ps,s.length=32):CS (rt (L+20) (n+3)) Cx [Ls ps,B48] (Bo false):=by
 intro K hK
 rw[I4]
 unfold Dt Aq
 have hi:CS (rt (L+20) (n+2)) DL [Ls ps,B48] (I (-1)):=by
  intro K hK
  rw[Ju]
  unfold DJ Aq
  simp only[Cm]
  have e0:(AV.v (.int .i64 0))=I ((0:Nat):Int):=rfl
  rw[ML,e0,C10 hb hl _ 0 (by omega) (by omega)]
  exact hK _ _ (λb=>⟨false,λK=>by kernel_rfl⟩)
 rw[AZ (q:=false) hi (λK=>by kernel_rfl),Lx]
 exact hK _ _ (λb=>⟨false,λK=>by kernel_rfl⟩)
theorem IN {R:Rt} {f:Nat} {args args':List AV} {v:AV} {H:Hp} {K:AV→Am} (hc:∀K:KV,(∀v0 H0,(∃q,Fx true depth v0 v H0 q)→K v0 H0=some (v,[]))→R.call f args' [] K=some (v,[])) (ha:Py true depth args args' H false):Ah R f args H K=K v:=by
 unfold Ah
 rw[ha]
 have:=hc (λv0 H'=>I8 (!false) H' depth v0 λ_ v'=>some (v',[])) (λv0 H0 h=>by
  obtain⟨q',h'⟩:=h
  exact h' _)
 rw[this]
 rfl
theorem A2k {ps:List (List UInt8)} (hn:ps.Nodup) (h0:1≤ps.length) (hb:ps.length≤6) (hL:10<L) (hl:∀s∈ps,s.length=32):
 CS (rt (L+20) (n+6)) Fc [Ls ps] (Bo true):=by
 intro K hK
 rw[O9]
 unfold GU AR Aq Cz
 have hv:∀K,Ah (rt (L+20) (n+5)) E2 [Ls ps] [] K=K (B1K ps):= λK=>by
  refine IN (args':=[Ls ps]) (λK hK=> ?_) (λK=>by kernel_rfl)
  rw[Kl]
  unfold Es
  rw[C1q]
  exact hK _ _ ⟨true,λK=>by kernel_rfl⟩
 rw[hv]
 refine B1z (n:=n) (by omega) (by omega) (by omega) Fw λv H hs=> ?_
 have hp:=(Mf ps).length_eq
 rcases hs.sl with⟨_,h,_⟩|⟨r,q,rfl,hr,hc⟩
 ·omega
 rw[ML,Vt (n:=n+4) (by omega) (by omega)]
 have g:∀(x:Bool→Am),gdV true (Bo true) x=x true:= λx=>id rfl
 have c:∀{v:AV} {H:Hp} {K:KV},DC (some (v,H)) K=K v H:=id rfl
 have pk:∀{a b:AV} {K:AV→Am},AC (Bo true) a b K=K a:=id rfl
 have nt:∀{K:AV→Am},EP .not (Bo false) K=K (Bo true):=id rfl
 simp only[g,c]
 have hb2:∀K,Ah (rt (L+20) (n+5)) Cx [Ls ps,B48] H K=K (Bo false):= λK=>AZ (q:=false) (B1I (n:=n+2) (by omega) (by omega) hl) (λK=>by kernel_rfl)
 have el:∀m K,AM Ae (.sl 1 r 0 m) K=K (I m):= λm K=>id rfl
 have hcm:∀K,(rt (L+20) (n+5)).call CX [.sl 1 r 0 ps.length] H K=K (.sl 1 r 0 ps.length) H:= λK=>by
  have:=A9V (K:=K) (L:=L) (n:=n+4) hr ((Mf ps).nodup_iff.2 hn) (by omega) (by omega)
  rw[hp] at this
  exact this
 simp only[hb2,nt,c,pk,g,hcm,el,ML,CG,hp,decide_true]
 exact hK _ _ (λb=>⟨false,λK=>by cases b<;>kernel_rfl⟩)
end
def dig (k:Nat):List UInt8:=if k<10 then[UInt8.ofNat (48+k)] else[UInt8.ofNat (48+k/10),UInt8.ofNat (48+k%10)]
def dec (z:Int):List UInt8:=if z<0 then 45::dig z.natAbs else dig z.natAbs
def qn (z:Int):List UInt8:=dec (if z%4=0 then z/4 else if z%2=0 then z/2 else z)
def qd (z:Int):List UInt8:=if z%4=0 then[49] else if z%2=0 then[50] else[52]
abbrev qa (z:Int):List AV:=[S (qn z),S (qd z)]
theorem B3v {p:Int→Bool} {a b:Int} (h:((List.range (b-a).toNat).all λk=>p ((k:Int)+a))=true) {z:Int} (h1:a≤z) (h2:z<b):p z=true:=by
 have:=GW.1 h (z-a).toNat (Iw.2 (by omega))
 have e:(((z-a).toNat:Nat):Int)+a=z:=by omega
 simp only[e] at this
 exact this
theorem B0c {L m f:Nat} {args:Int→List AV} {val:Int→AV} {a b:Int} (hf:∀z H,Py true depth (args z) (args z) H false) (h:((List.range (b-a).toNat).all λk=>Hg (AU (Cu (rt L m) f (args ((k:Int)+a))) (val ((k:Int)+a))))=true) {z:Int} (h1:a≤z) (h2:z<b):PS (rt L m) f (args z) (val z):=
 Bt (hf z) (B3v (p:= λz=>Hg (AU (Cu (rt L m) f (args z)) (val z))) h h1 h2)
theorem SZ {z:Int} (h1: -80≤z) (h2:z<81):(qn z).length<4:=by
 have:=B3v (p:= λz=>decide ((qn z).length<4)) (a:= -80) (b:=81) (by kernel_rfl) h1 h2
 simpa using this
theorem Ta (z:Int):(qd z).length=1:=by unfold qd;split<;>(try split)<;>rfl
theorem C2T {z:Int} (h1: -80≤z) (h2:z<81) (h:z≠0):qn z≠[48]:=by
 have:=B3v (p:= λz=>decide (z=0∨qn z≠[48])) (a:= -80) (b:=81) (by kernel_rfl) h1 h2
 simpa [h] using this
section
variable {L n:Nat}
theorem B2t {z:Int} (h1: -80≤z) (h2:z<81):PS (rt (L+20) (n+40)) E4 [I z,I 4] (.tup [.agg (qa z),I 0]):=
 B0c (args:= λz=>[I z,I 4]) (val:= λz=> .tup [.agg (qa z),I 0]) (a:= -80) (b:=81) (λz H K=>by kernel_rfl) (by kernel_rfl) h1 h2
theorem A05 {z:Int} (h1: -80≤z) (h2:z<81):PS (rt (L+20) (n+40)) Cs [.agg (qa z)] (Bo true):=
 B0c (args:= λz=>[.agg (qa z)]) (val:= λz=>Bo true) (a:= -80) (b:=81) (λz H K=>by kernel_rfl) (by kernel_rfl) h1 h2
theorem C0l {z:Int} (h1:0≤z) (h2:z<9):PS (rt (L+20) (n+40)) Nu [.agg (qa z),.agg [S [48],S [49]]] (I (if z=0 then 0 else 1)):=
 B0c (args:= λz=>[.agg (qa z),.agg [S [48],S [49]]]) (val:= λz=>I (if z=0 then 0 else 1)) (a:=0) (b:=9) (λz H K=>by kernel_rfl) (by kernel_rfl) h1 h2
theorem A4Z {z:Int} (h1:0≤z) (h2:z<1):PS (rt (L+20) (n+40)) JN [I z] (.agg [S [48],S [49]]):=
 B0c (args:= λz=>[I z]) (val:= λz=> .agg [S [48],S [49]]) (a:=0) (b:=1) (λz H K=>by kernel_rfl) (by kernel_rfl) h1 h2
end
section
variable {L n:Nat}
theorem B3r {α:Type} (f:α→List AV) (w:Nat) (hf:∀x,(f x).length=w):∀l:List α,(l.flatMap f).length=l.length*w:=by
 intro l
 induction l with
 |nil=>simp
 |cons a l ih=>simp[ih,hf,l19,Nat.add_comm]
theorem A0W {α:Type} (f:α→List AV) (w:Nat) (hf:∀x,(f x).length=w):∀(l:List α) (i:Nat) (h:i<l.length),((l.flatMap f).drop (i*w)).take w=f l[i]:=by
 intro l
 induction l with
 |nil=>intro i h;simp at h
 |cons a l ih=>
  intro i h
  cases i with
  |zero=>
   simp only[l00,Nat.zero_mul,l1n,List.getElem_cons_zero]
   rw[List.take_append_of_le_length (by rw[hf];omega),l1z (by rw[hf];omega)]
  |succ i=>
   simp only[l00,List.getElem_cons_succ]
   have:(i+1)*w=(f a).length+i*w:=by rw[hf,l19];omega
   rw[this,List.drop_append,List.drop_of_length_le (by omega),List.nil_append,Nat.add_sub_cancel_left]
   exact ih i (by simpa using h)
theorem A18 {α:Type} {t:TI} {e w:Nat} {f:α→List AV} {l:List α} {i:Nat} {K:AV→Am} (hd:t.d= .slice e w) (hf:∀x,(f x).length=w) (h:i<l.length):B1 t (.list l.length (l.flatMap f)) (I i) K=K (.iptr (f l[i])):=by
 have e1:B1 t (.list l.length (l.flatMap f)) (I (i:Int)) K=iN (i:Int) λm=>ck (Nat.blt m l.length) (QQ w (Da (Nat.mul m w) (l.flatMap f)) λc=>K (.iptr c)):=by
  obtain⟨a,b,d,z⟩:=t;simp only at hd;subst hd;rfl
 rw[e1,JM,Ct,Lh]
 have h3:Nat.blt i l.length=true:=by rw[TS];exact h
 rw[h3]
 show K (.iptr (((l.flatMap f).drop (i*w)).take w))=_
 rw[A0W f w hf l i h]
theorem EF {t:TI} {H:Hp} {r p e:Nat} {q:Bool} {cs:List AV} {K:AV→Am} (h:t.d.isAgg=true) (hl:Aw H r=some (.cells q e cs)) (hp:p+t.size≤cs.length):Ap t (.ptr r p 0) H K=K (.agg ((cs.drop p).take t.size)):=by
 have:Ap t (.ptr r p 0) H K=Lf H r λx=>L2 x λ_ cs=>@Bool.rec (λ_=>Am) (hdK (Da (Nat.add p 0) cs) K) (F2 t.size (Da (Nat.add p 0) cs) λc=>K (.agg c)) t.d.isAgg:=rfl
 rw[this,h,C6 hl]
 show F2 t.size (Da p cs) _=_
 rw[Ct,Mj _ _ _ (by simp;omega)]
abbrev YT:=List (Int×Int)
def Mv (t:Int×Int):List AV:=[I t.1,S (qn t.2),S (qd t.2)]
def EY (ts:YT):AV:=match ts with
 |[]=>AP
 |t::ts=> .list (t::ts).length ((t::ts).flatMap Mv)
structure TmsOk (ts:YT):Prop where
 len:ts.length≤6
 rng:∀t∈ts,1≤t.1∧t.1≤100∧ -8≤t.2∧t.2≤8∧t.2≠0
 asc:ts.Pairwise λa b=>a.1<b.1
theorem XA1 (ts:YT):Sl (EY ts):=by
 cases ts with
 |nil=>exact .inl rfl
 |cons t ts=>exact .inr ⟨_,_,rfl⟩
theorem Ng {ts:YT} {K:AV→Am}:AM A3 (EY ts) K=K (I ts.length):=by cases ts<;>exact id rfl
theorem B50 {ts:YT} {i:Nat} (h:i<ts.length):EY ts= .list ts.length (ts.flatMap Mv):=by
 cases ts with
 |nil=>simp at h
 |cons t ts=>rfl
theorem Si {ts:YT} {i:Nat} {K:AV→Am} (h:i<ts.length):B1 A3 (EY ts) (I i) K=K (.iptr (Mv ts[i])):=by
 rw[B50 h]
 exact A18 (f:=Mv) rfl (λ_=>rfl) h
theorem C5q {a b c d:List UInt8} {K:AV→Am}:Go.Abs.T8 NS .eql (.agg [S a,S b]) (.agg [S c,S d]) K=K (Bo (decide (a=c)&&decide (b=d))):=by
 have e:Go.Abs.T8 NS .eql (.agg [S a,S b]) (.agg [S c,S d]) K=(match(generalizing:=false) (some (eqB a c&&(eqB b d&&true)):Option Bool),BinOp.eql with
  |some q,.eql=>bB q K
  |some q,.neq=>bB (!q) K
  |_,_=>none):=rfl
 rw[e]
 show bB _ K=_
 rw[Lz,OR,OR,l1b]
 have h1:∀(x y:List UInt8),(x==y)=decide (x=y):= λx y=>by by_cases h:x=y<;>simp[h]
 rw[h1,h1]
section
variable {K:KV} {x:Am} {ca cb ra rb:List UInt8} {ts:YT}
theorem gT {q:Bool} {y:Bool→Am}:gdV q (.v (.bool q)) y=y true:=by cases q<;>exact id rfl
theorem gTF {y:Bool→Am}:gdV true (.v (.bool false)) y=y false:=id rfl
theorem gFT {y:Bool→Am}:gdV false (.v (.bool true)) y=y false:=id rfl
theorem BN {v:AV} {H:Hp} {K:KV}:DC (some (v,H)) K=K v H:=id rfl
theorem Un {a b:AV} {K:AV→Am}:AC (.v (.bool true)) a b K=K a:=id rfl
theorem QC {a b:AV} {K:AV→Am}:AC (.v (.bool false)) a b K=K b:=id rfl
theorem Xj {K:AV→Am}:EP .not (.v (.bool true)) K=K (Bo false):=id rfl
theorem ntF {K:AV→Am}:EP .not (.v (.bool false)) K=K (Bo true):=id rfl
abbrev A5I (ca cb ra rb:List UInt8) (ts:YT):Row:= .cells true Db [S ca,S cb,EY ts,S ra,S rb]
theorem C2N {k37:Hp→Am} {r0:Nat} (ht:TmsOk ts) (hx:∀H,k37 H=x):∀(f i:Nat) (H:Hp),i≤ts.length→ts.length-i<f→Aw H r0=some (A5I ca cb ra rb ts)→Wf H→
 KF (L+20) (rt (L+20) (n+41)) K k37 f (.ptr r0 0 0) (I i) H=x:=by
 intro f
 induction f with
 |zero=>intro i H _ h;omega
 |succ f ih=>
  intro i H hi hf hl w
  have hb:=ht.len
  rw[WS]
  unfold Oq AR Bu Aq DW Cz
  have f2:∀K:AV→Am,AH 2 (.ptr r0 0 0) K=K (.ptr r0 2 0):= λK=>id rfl
  have l2:∀K,Ap A3 (.ptr r0 2 0) H K=K (EY ts):= λK=>AW (p:=2) rfl hl (by simp)
  rw[f2,l2,Ng]
  by_cases h:i<ts.length
  ·rw[FR (by omega),Do,f2,l2,Si h]
   have hr:=ht.rng _ (Qu h)
   have lt:∀H K,Ap BF (.iptr (Mv ts[i])) H K=K (.agg (Mv ts[i])):= λH K=>id rfl
   rw[lt,Ba (cs:=[zI,zS,zS]) rfl]
   have hn0:=A0 (H:=H) (x:= .cells true AN [zI,zS,zS]) (by simp)
   rw[B0 (vs:=Mv ts[i]) hn0 rfl rfl rfl]
   have hr1:=A8 (q:=true) (e:=AN) (cs:=Mv ts[i]) hn0
   have hlt:=w.lt hl
   have hl1:Aw (upd ((A7 H,Row.cells true AN [zI,zS,zS])::H) (A7 H) (.cells true AN (Mv ts[i]))) r0=some (A5I ca cb ra rb ts):=by
    rw[As (by omega)];exact Bn hlt hl
   have w1:=C7 (r:=A7 H) (y:= .cells true AN (Mv ts[i])) (BP (x:= .cells true AN [zI,zS,zS]) w)
   generalize upd ((A7 H,Row.cells true AN [zI,zS,zS])::H) (A7 H) (.cells true AN (Mv ts[i]))=H1 at hr1 hl1 w1
   generalize A7 H=r at hr1
   have g1:∀K:AV→Am,AH 1 (.ptr r 0 0) K=K (.ptr r 1 0):= λK=>id rfl
   have g0:∀K:AV→Am,AH 0 (.ptr r 0 0) K=K (.ptr r 0 0):= λK=>id rfl
   have m1:∀K,Ap Ao (.ptr r 1 0) H1 K=K (.agg (qa ts[i].2)):= λK=>EF (p:=1) rfl hr1 (show 3≤3 from NV _)
   have m0:∀K,Ap Ab (.ptr r 0 0) H1 K=K (I ts[i].1):= λK=>AW (p:=0) rfl hr1 (show 0<3 by decide)
   have m2:∀K,Ap A3 (.ptr r0 2 0) H1 K=K (EY ts):= λK=>AW (p:=2) rfl hl1 (by simp)
   rw[g1,m1,A05 (n:=n+1) (by omega) (by omega)]
   have hq:=C2T (by omega) (by omega) hr.2.2.2.2
   have hw:∀H K,Ah (rt (L+20) (n+41)) JN [.v (.int .i64 0)] H K=K (.agg [S [48],S [49]]):= λH K=>A4Z (z:=0) (n:=n+1) (by decide) (by decide) H K
   have i1:∀K,Go.Abs.Aj Ab .lss (I ts[i].1) (.v (.int .i64 1)) K=K (Bo false):= λK=>FT (by omega)
   have i2:∀K,Go.Abs.Aj Ab .gtr (I ts[i].1) (.v (.int .i64 1000000)) K=K (Bo false):= λK=>by rw[DQ,decide_eq_false (by omega)]
   simp only[Xj,BK,gT,g1,m1,BN,hw,C5q,hq,decide_false,Bool.false_and,QC,g0,m0,i1,i2]
   by_cases hi0:0<i
   ·have i3:∀K,Go.Abs.Aj Ab .gtr (I (i:Int)) (.v (.int .i64 0)) K=K (Bo true):= λK=>by rw[DQ,decide_eq_true (by omega)]
    have hi1:i-1<ts.length:=by omega
    have i5:∀K:AV→Am,AH 0 (.iptr (Mv ts[i-1])) K=K (.iptr (Mv ts[i-1])):= λK=>id rfl
    have i6:∀K,Ap Ab (.iptr (Mv ts[i-1])) H1 K=K (I ts[i-1].1):= λK=>id rfl
    have hasc:ts[i-1].1<ts[i].1:=(l20.1 ht.asc) (i-1) i hi1 h (by omega)
    have i7:∀K,Go.Abs.Aj Ab .geq (I ts[i-1].1) (I ts[i].1) K=K (Bo false):= λK=>by rw[Lx,decide_eq_false (by omega)]
    simp only[i3,BK,BN,gT,f2,m2,A2q hi0 (by omega:i<1000000000),Si hi1,i5,i6,g0,m0,i7,Un,QC]
    rw[BC,DH (by omega)]
    exact ih (i+1) H1 (by omega) (by omega) hl1 w1
   ·have i3:∀K,Go.Abs.Aj Ab .gtr (I (i:Int)) (.v (.int .i64 0)) K=K (Bo false):= λK=>by rw[DQ,decide_eq_false (by omega)]
    simp only[i3,BK,BN,gT,gTF,Un,QC]
    rw[BC,DH (by omega)]
    exact ih (i+1) H1 (by omega) (by omega) hl1 w1
  ·rw[FT (by omega),BC]
   exact hx H
theorem A09 {c r:Int} (hc1: -80≤c) (hc2:c≤80) (hr1:0≤r) (hr2:r≤8) (hL:10<L) (ht:TmsOk ts):CS (rt (L+20) (n+42)) FM [.agg (Ur (qn c) (qd c) (EY ts) (qn r) (qd r))] (Bo true):=by
 intro K hK
 have hb:=ht.len
 rw[Y3]
 unfold PU Bu Aq DW Cz
 rw[EG (by cases ts<;>rfl)]
 have hn0:=A0 (H:=[]) (x:=A5I (qn c) (qd c) (qn r) (qd r) ts) (by simp)
 have w0:Wf [(A7 [],A5I (qn c) (qd c) (qn r) (qd r) ts)]:=BP Fw
 generalize [(A7 [],A5I (qn c) (qd c) (qn r) (qd r) ts)]=H at hn0 w0
 generalize A7 []=r0 at hn0
 have f0:∀K:AV→Am,AH 0 (.ptr r0 0 0) K=K (.ptr r0 0 0):= λK=>id rfl
 have f2:∀K:AV→Am,AH 2 (.ptr r0 0 0) K=K (.ptr r0 2 0):= λK=>id rfl
 have f3:∀K:AV→Am,AH 3 (.ptr r0 0 0) K=K (.ptr r0 3 0):= λK=>id rfl
 have m0:∀K,Ap Ao (.ptr r0 0 0) H K=K (.agg (qa c)):= λK=>EF (p:=0) rfl hn0 (show 2≤5 by decide)
 have m3:∀K,Ap Ao (.ptr r0 3 0) H K=K (.agg (qa r)):= λK=>EF (p:=3) rfl hn0 (show 5≤5 by decide)
 have m2:∀K,Ap A3 (.ptr r0 2 0) H K=K (EY ts):= λK=>AW (p:=2) rfl hn0 (show 2<5 by decide)
 have hw:∀H K,Ah (rt (L+20) (n+41)) JN [.v (.int .i64 0)] H K=K (.agg [S [48],S [49]]):= λH K=>A4Z (z:=0) (n:=n+1) (by decide) (by decide) H K
 rw[f0,m0,A05 (n:=n+1) (by omega) (by omega),f3,m3,A05 (n:=n+1) (by omega) (by omega)]
 have h1:∀K,Ah (rt (L+20) (n+41)) Nu [.agg (qa r),.agg [S [48],S [49]]] H K=K (I (if r=0 then 0 else 1)):= λK=>C0l (n:=n+1) (by omega) (by omega) H K
 have h2:∀K,Go.Abs.Aj Ab .lss (I (if r=0 then 0 else 1)) (.v (.int .i64 0)) K=K (Bo false):= λK=>FT (by split<;>omega)
 have h3:∀K,Go.Abs.Aj Ab .gtr (I (ts.length:Int)) (.v (.int .i64 64)) K=K (Bo false):= λK=>by rw[DQ,decide_eq_false (by omega)]
 simp only[Xj,BK,BN,gT,QC,f3,m3,hw,h1,h2,f2,m2,Ng,h3,Cm]
 rw[BC]
 have e0:(AV.v (.int .i64 0))=I ((0:Nat):Int):=rfl
 rw[e0]
 exact C2N (n:=n) ht (λH=>hK _ _ (λb=>⟨false,λK=>by kernel_rfl⟩)) (L+20) 0 H (by omega) (by omega) hn0 w0
end
end
section
variable {L n:Nat}
theorem B4M {z:Int} (h1:0≤z) (h2:z<9):PS (rt (L+20) (n+40)) Jf [.agg (qa z)] (I (if z=0 then 0 else 1)):=
 B0c (args:= λz=>[.agg (qa z)]) (val:= λz=>I (if z=0 then 0 else 1)) (a:=0) (b:=9) (λz H K=>by kernel_rfl) (by kernel_rfl) h1 h2
theorem B4L {z:Int} (h1: -8≤z) (h2:z<9):PS (rt (L+20) (n+40)) XA3 [.agg (qa z)] (Bo (decide (z=0))):=
 B0c (args:= λz=>[.agg (qa z)]) (val:= λz=>Bo (decide (z=0))) (a:= -8) (b:=9) (λz H K=>by kernel_rfl) (by kernel_rfl) h1 h2
end
end Go.Abs
end
