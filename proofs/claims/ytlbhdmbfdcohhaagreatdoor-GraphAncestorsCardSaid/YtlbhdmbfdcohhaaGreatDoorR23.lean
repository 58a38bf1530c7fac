import Derived.Test.YtlbhdmbfdcohhaaGreatDoorR17
import Derived.Test.YtlbhdmbfdcohhaaGreatDoorR22
set_option linter.all false
set_option maxHeartbeats 100000000
noncomputable section
namespace Go.Abs
open Go.RowKit Go.Proofs
set_option maxRecDepth 100000
section
variable {L n:Nat}
attribute [local irreducible] Ah rt YV eBi eEq cnd Go.Abs.Ak Go.Abs.Uw Av
section
variable {m:ND} {u:UD} {ca cb ra rb:List UInt8} {T nds:AV} {kd id vd:Int} {r:RD}
theorem A0s {n2:Nat} {c1 c2:List AV} (hT:Sl T) (hN:∃n cs,nds= .list n cs)
 (hp:LS (rt (L+20) (n+59)) Fu [.list n2 c1] (Bo true)) (hv:LS (rt (L+20) (n+59)) DZ [.agg (Bx id (.list n2 c2) nds u)] (Bo true)):
 CS (rt (L+20) (n+60)) Dm [.agg (DD kd m u ca cb T ra rb (.list n2 c1) id (.list n2 c2) nds u r vd)] (Bo true):=by
 intro K hK
 obtain⟨n3,c3,rfl⟩:=hN
 rcases hT with rfl|⟨n4,c4,rfl⟩
 all_goals
  rewrite [Py]
  unfold HH Ba CK
  try rewrite [zO]
  try rewrite [bO]
  try rewrite [qO]
  try rewrite [cO]
  generalize rt (L+20) (n+59)=R at*
  conv=>lhs;whnf
  rewrite [(hp) false _ _ ?hq]
  case hq=>exact λK=>by kernel_rfl
  conv=>lhs;whnf
  rewrite [(hv) false _ _ ?hq]
  case hq=>exact λK=>by kernel_rfl
  conv=>lhs;whnf
  rewrite [NQ ?hc]
  case hc=>rfl
  conv=>lhs;whnf
  rewrite [A20 u]
  conv=>lhs;whnf
  exact hK _ _ (λb=>⟨false,λK=>by kernel_rfl⟩)
end
end
section
variable {L n:Nat}
abbrev Ls (l:List (List UInt8)):AV:= .list l.length (Bn l)
theorem Nv {l:List (List UInt8)} {K:AV→Al}:AP Ad (Ls l) K=K (I l.length):=id rfl
theorem PT {l:List (List UInt8)} {i:Nat} {K:AV→Al} (h:i<l.length):B0 Ad (Ls l) (I i) K=K (.iptr [S l[i]]):=by
 rw[Uv rfl (by simp[Bn]) (by omega) (by omega),Xs,Mx h]
theorem FU {s:List UInt8} {H:Hp} {K:AV→Al}:Aq Ae (.iptr [S s]) H K=K (S s):=Ra rfl
theorem DS {ty:TI} {i:Nat} {K:AV→Al} (h:i<1000000000):Go.Abs.Ak ty .add (I i) (.v (.int .i64 1)) K=K (I ((i+1:Nat):Int)):=by
 rw[Cz,Cb (by omega) (by omega),OV]
theorem FW {ty:TI} {a b:Int} {K:AV→Al} (h:a<b):Go.Abs.Ak ty .lss (I a) (I b) K=K (Bo true):=by rw[Dy,decide_eq_true h]
theorem FX {ty:TI} {a b:Int} {K:AV→Al} (h:¬a<b):Go.Abs.Ak ty .lss (I a) (I b) K=K (Bo false):=by rw[Dy,decide_eq_false h]
theorem Dn {x y:Al}:Av (.v (.bool true)) x y=x:=id rfl
theorem BD {x y:Al}:Av (.v (.bool false)) x y=y:=id rfl
theorem BJ {v:AV} {H:Hp} {K:AV→Al}:Ai (some (v,H)) K=K v:=id rfl
section
variable {R:Rt} {K:KV} {ps:List (List UInt8)} {H:Hp}
theorem C1H {k39:AV→AV→AV→Hp→Al} {i:Nat} (hi:i<ps.length) (hn:ps.Nodup) (hb:ps.length<100):∀(f j:Nat),j≤i→i-j<f→
 HT (L+20) R K k39 f (Ls ps) (I i) (I j) H=k39 (Ls ps) (I i) (I i) H:=by
 intro f
 induction f with
 |zero=>intro j _ h;omega
 |succ f ih=>
  intro j hj hf
  rw[OZ]
  unfold JK Ar CK
  by_cases h:j<i
  ·rw[FW (by omega),Dn,PT (by omega),BJ,FU,BJ,PT hi,BJ,FU,BJ,Nb]
   have hne:ps[j]≠ps[i]:= λe=>by
    have:=(List.getElem_inj (h₀:=by omega) (h₁:=hi) hn).1 e
    omega
   rw[decide_eq_false hne,BJ,BD,DS (by omega)]
   exact ih (j+1) (by omega) (by omega)
  ·rw[FX (by omega),BD]
   have:j=i:=by omega
   rw[this]
theorem C1I {k14:AV→Hp→Al} (hn:ps.Nodup) (hb:ps.length<100) (hL:ps.length<L+20) (hl:∀s∈ps,s.length=32):∀(f i:Nat) (v:AV),i≤ps.length→ps.length-i<f→
 HU (L+20) R K k14 f (Ls ps) (I i) v H=k14 (Ls ps) H:=by
 intro f
 induction f with
 |zero=>intro i v _ h;omega
 |succ f ih=>
  intro i v hi hf
  rw[Pb]
  unfold JL Ar CK
  rw[Nv]
  by_cases h:i<ps.length
  ·rw[FW (by omega),Dn]
   simp only[Cp]
   rw[PT h,FU,MY rfl,hl _ (QS h),GF]
   rw[show(!decide (((32:Nat):Int)=32))=false from rfl,BD]
   have e0:(AV.v (.int .i64 0))=I ((0:Nat):Int):=rfl
   rw[e0,C1H h hn hb _ 0 (by omega) (by omega),DS (by omega)]
   exact ih (i+1) _ (by omega) (by omega)
  ·rw[FX (by omega),BD]
end
theorem A3m {ps:List (List UInt8)} (hn:ps.Nodup) (h0:1≤ps.length) (hb:ps.length≤6) (hl:∀s∈ps,s.length=32):
 CS (rt (L+20) (n+1)) ER [Ls ps] (.tup [Bo true,I ps.length]):=by
 intro K hK
 rw[Qq]
 unfold K0 Ba Ar CK
 simp only[Cp]
 have e0:(AV.v (.int .i64 0))=I ((0:Nat):Int):=rfl
 rw[e0,C1I hn (by omega) (by omega) hl _ 0 _ (by omega) (by omega),Nv,Me,decide_eq_true (by omega)]
 have g:∀(x:Bool→Al),gdV true (Bo true) x=x true:= λx=>id rfl
 have c:∀{v:AV} {H:Hp} {K:KV},DW (some (v,H)) K=K v H:=id rfl
 simp only[g,c,Nv]
 rw[Xf,decide_eq_true (by omega)]
 exact hK _ _ (λb=>⟨false,λK=>by kernel_rfl⟩)
end
section
variable {L n:Nat}
theorem DJ (l:List (List UInt8)):(Bn l).length=l.length:=by simp[Bn]
theorem B0N (a b:List (List UInt8)):Bn a++Bn b=Bn (a++b):=by simp[Bn]
theorem B53 {H:Hp} {v:AV} {l:List (List UInt8)} (b:List UInt8) (h:B1 H A4 1 v l.length (Bn l)) (w:Wf H) (hn:l.length<1000000000):
 ∃v' H',(∀K:KV,(Fh A4 1 Ae 1 [(0,1,S b)] H λv1 H1=>DN A4 1 Ae Ad v v1 H1 K)=K v' H')∧B1 H' A4 1 v' (l++[b]).length (Bn (l++[b]))∧Wf H'∧A6 H≤A6 H'∧(∀s x,Ax H s=some x→¬AX v s→Ax H' s=some x)∧(∀s,AX v' s→A6 H≤s):=by
 have hv1:B1 ((A6 H,.cells false A4 [S b])::H) A4 1 v l.length (Bn l):=h.lat w (Lat.cons H _ (λ_=>False)) (λ_ _ h=>h)
 have hsrc:=OW (H:=H) (e:=A4) (n:=1) (cs:=[S b]) rfl
 obtain⟨v',H',h1,h2,h3,h4⟩:=apt (ie:=Ae) (i2:=Ad) hv1 (λK=>SZ (K:=K) hsrc) rfl rfl (by decide) rfl rfl (by show(l.length+1)*16≤_;omega) (by omega)
 have h5:=(Lat.cons H (.cells false A4 [S b]) (AX v)).trans h4 (R:=AX v) (λ_ _ h=>h) (λ_ _ h=>h)
 refine⟨v',H',λK=> ?_,by rw[FA,←B0N];exact h2,h5.wf w,h5.nx,λs x hs hn=>h5.keep w s x hs hn,λs hs=> ?_⟩
 ·rw[A97 (z:=S []) (λ_=>rfl) (λ_=>rfl) rfl]
  exact h1 K
 ·rw[h3 s hs];exact l1p _
def T7 (c2 c6:AV) (p:Option (Option Code)):Row:= .loop 13 [(2,c2),(4,AO),(5,AV.dk),(6,c6),(7,AV.dk),(8,AV.dk),(9,AV.dk),(10,AV.dk),(11,AV.dk)] (Be).2.1 (Be).2.2.1 (Be).2.2.2 p
structure Coll (H0:Hp) (r0 s:Nat) (q0:Bool) (e0:Nat) (c6:AV) (l:List (List UInt8)) (v:AV) (H:Hp):Prop where
 at_:Ax H r0=some (.cells q0 e0 [v])
 sl:B1 H A4 1 v l.length (Bn l)
 lp:Ax H s=some (T7 (.ptr r0 0 0) c6 (some none))
 new:∀u,AX v u→u≠r0∧u≠s∧A6 H0≤u
 wf:Wf H
 keep:∀u y,Ax H0 u=some y→Ax H u=some y
 ne:r0≠s
 r0n:A6 H0≤r0
 sn:A6 H0≤s
 w0:Wf H0
variable {K:KV} {x:Al}
theorem B6y {H0 H:Hp} {r0 s e0:Nat} {q0:Bool} {c6 v:AV} {l:List (List UInt8)} {b:List UInt8} (h:Coll H0 r0 s q0 e0 c6 l v H) (hn:l.length<1000000000)
 (hx:∀v' H',Coll H0 r0 s q0 e0 c6 (l++[b]) v' H'→K (Bo true) H'=x):Eo (E (L+20)) (rt (L+20) (n+1)) (.yl s) [S b] H K=x:=by
 show Sc (rt (L+20) (n+1)) s [S b] H K=x
 rw[Xw h.lp (by kernel_rfl)]
 have hrun:(rt (L+20) (n+1)).run= λcf=>Vw (E (L+20)) (rt (L+20) n) cf:=rfl
 rw[hrun,Fz,X6 h.lp]
 have hw1:=Cj (r:=s) (y:=T7 (.ptr r0 0 0) c6 none) h.wf
 have hr1:Ax (upd H s (T7 (.ptr r0 0 0) c6 none)) r0=some (.cells q0 e0 [v]):=by rw[Au h.ne];exact h.at_
 have hs1:Ax (upd H s (T7 (.ptr r0 0 0) c6 none)) s=some (T7 (.ptr r0 0 0) c6 none):=MO h.lp
 have hv1:B1 (upd H s (T7 (.ptr r0 0 0) c6 none)) A4 1 v l.length (Bn l):=h.sl.lat h.wf (Lat.upd H s _ (P:= λu=>u=s) rfl) (λu hu=>(h.new u hu).2.1)
 have hk1:∀u y,Ax H0 u=some y→Ax (upd H s (T7 (.ptr r0 0 0) c6 none)) u=some y:= λu y hu=>by
  have:=h.w0.lt hu
  rw[Au (by have:=h.sn;omega)];exact h.keep u y hu
 show Aq Ad (.ptr r0 0 0) (upd H s (T7 (.ptr r0 0 0) c6 none)) _=_
 rw[AY (p:=0) rfl hr1 (by simp)]
 show Fh A4 1 Ae 1 [(0,1,S b)] (upd H s (T7 (.ptr r0 0 0) c6 none)) (λv15 H16=>DN A4 1 Ae Ad v v15 H16 _)=_
 obtain⟨v',H',h1,h2,h3,h4,h5,h6⟩:=B53 b hv1 hw1 hn
 rw[h1]
 have n0:¬AX v r0:= λhu=>(h.new r0 hu).1 rfl
 have ns:¬AX v s:= λhu=>(h.new s hu).2.1 rfl
 have hr2:=h5 r0 _ hr1 n0
 have hs2:=h5 s _ hs1 ns
 have hone:B6 v'=[v']∧AV.one v'=true:=by
  rcases h2 with⟨rfl,_⟩|⟨a,b,rfl,_⟩<;>exact⟨rfl,rfl⟩
 rw[Ez (q:=q0) (e:=e0) (cs:=[v]) hr2 (by simp) rfl hone.1 hone.2]
 have hnx:A6 H0≤A6 H:=by have:=h.wf.lt h.at_;have:=h.r0n;omega
 have hnu:A6 (upd H s (T7 (.ptr r0 0 0) c6 none))=A6 H:=Ck _ _ _
 have hfr:∀u,AX v' u→u≠r0∧u≠s∧A6 H0≤u:= λu hu=>by
  have a1:=h6 u hu
  rw[hnu] at a1
  have a2:=h.wf.lt h.at_
  have a3:=h.wf.lt h.lp
  exact⟨by omega,by omega,by omega⟩
 have hs3:Ax (upd H' r0 (.cells q0 e0 [v'])) s=some (T7 (.ptr r0 0 0) c6 none):=by rw[Au h.ne.symm];exact hs2
 show Ga (upd H' r0 (.cells q0 e0 [v'])) s false (some none) _=_
 have hs3':=hs3
 unfold T7 at hs3'
 rw[X5 hs3']
 refine hx v' _ ⟨?_,?_,?_,hfr,Cj (Cj h3),λu y hu=> ?_,h.ne,h.r0n,h.sn,h.w0⟩
 ·rw[Au h.ne]
  exact AC hr2
 ·have a:=h2.lat h3 (Lat.upd H' r0 (.cells q0 e0 [v']) (P:= λu=>u=r0) rfl) (λu hu=>(hfr u hu).1)
  exact a.lat (Cj h3) (Lat.upd _ s _ (P:= λu=>u=s) rfl) (λu hu=>(hfr u hu).2.1)
 ·exact MO hs3
 ·have hlt:=h.w0.lt hu
  have b1:=h.r0n
  have b2:=h.sn
  rw[Au (by omega),Au (by omega)]
  refine h5 u y (hk1 u y hu) (λhv=> ?_)
  have:=(h.new u hv).2.2
  omega
theorem C3l {H0:Hp} {r0 s e0:Nat} {q0:Bool} {c6:AV} {k3:Hp→Al} {ps:List (List UInt8)} (hn:ps.length<1000000000) (hx:∀v H,Coll H0 r0 s q0 e0 c6 ps v H→k3 H=x):
 ∀(f i:Nat) (v:AV) (H:Hp),i≤ps.length→ps.length-i<f→Coll H0 r0 s q0 e0 c6 (ps.take i) v H→
  CC (L+20) (rt (L+20) (n+1)) K k3 f (.yl s) (Ls ps) (I ps.length) (I i) H=x:=by
 intro f
 induction f with
 |zero=>intro i v H _ h;omega
 |succ f ih=>
  intro i v H hi hf hc
  rw[IY]
  unfold D6 Ar
  by_cases h:i<ps.length
  ·rw[FW (by omega),Dn,PT h,FU]
   refine B6y hc (by simp;omega) λv' H' hc'=> ?_
   rw[RK]
   show Av (.v (.bool false)) _ _=_
   rw[BD,DS (by omega)]
   rw[←l04 h] at hc'
   exact ih (i+1) v' H' (by omega) (by omega) hc'
  ·rw[FX (by omega),BD]
   have:i=ps.length:=by omega
   rw[this,l06] at hc
   exact hx v H hc
structure NewSl (H0:Hp) (l:List (List UInt8)) (v:AV) (H:Hp):Prop where
 sl:B1 H A4 1 v l.length (Bn l)
 new:∀u,AX v u→A6 H0≤u
 wf:Wf H
 keep:∀u y,Ax H0 u=some y→Ax H u=some y
 nx:A6 H0≤A6 H
abbrev B2B (ps:List (List UInt8)):AV:= .fn (.func DM) [] [.iptr [Ls ps]]
theorem B0J {H0:Hp} {ps:List (List UInt8)} (hn:ps.length<1000000000) (hL:ps.length<L) (w:Wf H0) (hx:∀v H,NewSl H0 ps v H→K v H=x):
 (rt (L+20) (n+4)).call FL [B2B ps] H0 K=x:=by
 rw[JU]
 unfold FD
 rw[FE]
 unfold CY
 simp only[Cp]
 rw[A90 (by rfl),A9B,Ju]
 unfold DL Ar
 simp only[Cp]
 have e1:∀H K,Aq Ad (.iptr [Ls ps]) H K=K (Ls ps):= λH K=>Ra rfl
 rw[e1,Nv]
 have e0:(AV.v (.int .i64 0))=I ((0:Nat):Int):=rfl
 rw[e0]
 have w1:=BE (x:= .cells true BS [AO]) w
 have hn0:=A1 (H:=H0) (x:= .cells true BS [AO]) (by simp)
 have hne:A6 ((A6 H0,Row.cells true BS [AO])::H0)=A6 H0+1:=rfl
 refine C3l (n:=n) (H0:=H0) (r0:=A6 H0) (s:=A6 H0+1) (q0:=true) (e0:=BS) (c6:=B2B ps) hn ?_ (L+20) 0 AO _ (by omega) (by omega) ⟨Bj (w1.lt hn0) hn0,.inl ⟨rfl,rfl,rfl⟩,A1 (H:=((A6 H0,Row.cells true BS [AO])::H0)) (x:=T7 (.ptr (A6 H0) 0 0) (B2B ps) (some none)) (by simp[T7]),λu ⟨_,_,_,h⟩=>(by cases h),BE w1,λu y hu=> ?_,by omega,by omega,by omega,w⟩
 ·intro v H hc
  rw[hne,Cl hc.lp]
  show Og H (A6 H0+1) .gone _=x
  rw[D8]
  have hr:Ax (upd H (A6 H0+1) .gone) (A6 H0)=some (.cells true BS [v]):=by rw[Au (by omega)];exact hc.at_
  show Aq Ad (.ptr (A6 H0) 0 0) (upd H (A6 H0+1) .gone) _=x
  rw[AY (p:=0) rfl hr (by simp)]
  refine hx _ _ ⟨?_,λu hu=>(hc.new u hu).2.2,Cj hc.wf,λu y hu=> ?_,?_⟩
  ·exact hc.sl.lat hc.wf (Lat.upd H _ _ (P:= λu=>u=A6 H0+1) rfl) (λu hu=>(hc.new u hu).2.1)
  ·have:=w.lt hu
   rw[Au (by omega)];exact hc.keep u y hu
  ·rw[Ck]
   have:=hc.wf.lt hc.at_
   omega
 ·have a1:=Bj (x:= .cells true BS [AO]) (w.lt hu) hu
  exact Bj (w1.lt a1) a1
theorem B2q {H0:Hp} {ps:List (List UInt8)} (h0:0<ps.length) (hn:ps.length<1000000000) (hL:ps.length<L) (w:Wf H0) (hx:∀v H,NewSl H0 (Mr ps) v H→K v H=x):
 (rt (L+20) (n+5)).call EI [B2B ps] H0 K=x:=by
 rw[Ks]
 unfold Ge
 refine B0J hn hL w λv H hs=> ?_
 have hp:=(G7 ps).length_eq
 rcases hs.sl with⟨_,h,_⟩|⟨r,q,rfl,hl,hc⟩
 ·omega
 ·have e1:∀K,(rt (L+20) (n+4)).call BV [.sl 1 r 0 ps.length] H K=Wm [.sl 1 r 0 ps.length] H K (A28 (E (L+20)) (nT (L+20)) (rt (L+20) (n+3)) BV [.sl 1 r 0 ps.length] H K):= λK=>rfl
  rw[e1]
  have hso:∀(l:List (List UInt8)),TG (Bn l)=some l:= λl=>by
   induction l with
   |nil=>rfl
   |cons a l ih=>show(TG (Bn l)).map _=_;rw[ih];rfl
  have e2:∀alt K,Wm [.sl 1 r 0 ps.length] H K alt=EG 0 (Bn (Mr ps)) (Bn ps) λcs'=>Og H r (.cells q A4 cs') λH'=>K (.tup []) H':= λalt K=>by
   unfold Wm
   simp only[hl,l1n]
   rw[l1z (by rw[DJ];omega),hso]
   have g:(Nat.beq ps.length ps.length&&(Nat.blt ps.length 4611686018427387904&&Nat.blt 0 ps.length))=true:=by simp;omega
   simp only[g]
   rfl
  rw[e2,KS _ _ _ _ (by rw[DJ,DJ];omega),Sg _ _ (by rw[DJ,DJ];exact hp),D8]
  refine hx _ _ ⟨.inr ⟨r,q,by rw[hp],AC hl,by rw[DJ];omega⟩,λu ⟨_,_,_,hh⟩=> ?_,Cj hs.wf,λu y hu=> ?_,by rw[Ck];exact hs.nx⟩
  ·injection hh with _ hh
   subst hh
   exact hs.new r ⟨1,0,ps.length,rfl⟩
  ·have a1:=w.lt hu
   have a2:=hs.new r ⟨1,0,ps.length,rfl⟩
   rw[Au (by omega)];exact hs.keep u y hu
end
section
variable {L n:Nat}
theorem A9A {R:Rt} {m g:Nat} {cap:List AV} {t:Tm} {ps:Array Tmp} {sa bd:Code} {H:Hp} {K:Option (Option Code)→Hp→Al}:
 Za R m (.fn (.func g) [] cap) t ps sa bd H K=R.call g (.yl (A6 H)::cap) ((A6 H,.loop m t ps sa bd (some none))::H) λ_ H2=>Kj H2 (A6 H) λx=>Vl x λ_ _ _ _ _ pend=>Og H2 (A6 H) .gone λH3=>K pend H3:=by
 have e:Za R m (.fn (.func g) [] cap) t ps sa bd H K=HE H λs=>Ur [] (.yl s::cap) λall=>R.call g all ((s,.loop m t ps sa bd (some none))::H) λ_ H2=>Kj H2 s λx=>Vl x λ_ _ _ _ _ pend=>Og H2 s .gone λH3=>K pend H3:=rfl
 rw[e,BX,K4];rfl
theorem B7S {es:List (Value×AV)} {H:Hp} {K:KV}:A1W (.imap es) H K=K (.it (A6 H)) ((A6 H,.iter es none)::H):=by
 have e:A1W (.imap es) H K=HE H λs=>K (.it s) ((s,.iter es none)::H):=rfl
 rw[e,BX]
theorem A3H {s:Nat} {H:Hp} {e:Value×AV} {es:List (Value×AV)} {o:Option (Value×AV)} {K:KV} (h:Ax H s=some (.iter (e::es) o)):
 A1X (.it s) H K=NZ (λe rest=>Og H s (.iter rest (some e)) λH'=>K (.tup [.v (.bool true),ofV e.1,e.2]) H') (e::es) []:=by
 have e1:A1X (.it s) H K=Kj H s λx=>A9W x λl=>@List.rec (Value×AV) (λ_=>Al) (K (.tup [.v (.bool false)]) H)
  (λ_ _ _=>NZ (λe rest=>Og H s (.iter rest (some e)) λH'=>K (.tup [.v (.bool true),ofV e.1,e.2]) H') l []) l:=rfl
 rw[e1,Cl h];rfl
theorem B4x {s:Nat} {H:Hp} {o:Option (Value×AV)} {K:KV} (h:Ax H s=some (.iter [] o)):A1X (.it s) H K=K (.tup [.v (.bool false)]) H:=by
 have e1:A1X (.it s) H K=Kj H s λx=>A9W x λl=>@List.rec (Value×AV) (λ_=>Al) (K (.tup [.v (.bool false)]) H)
  (λ_ _ _=>NZ (λe rest=>Og H s (.iter rest (some e)) λH'=>K (.tup [.v (.bool true),ofV e.1,e.2]) H') l []) l:=rfl
 rw[e1,Cl h];rfl
theorem B1D {s:Nat} {H:Hp} {p:Value×AV} {es:List (Value×AV)} {K:AV→Al} (h:Ax H s=some (.iter es (some p))):A6U (.it s) H K=K (.tup [ofV p.1,p.2]):=by
 have e1:A6U (.it s) H K=Kj H s λx=>B3W x λp=>K (.tup [ofV p.1,p.2]):=rfl
 rw[e1,Cl h];rfl
theorem A8T {a:AV} {l:List AV} {K:AV→Al}:AD (.tup (a::l)) 0 K=K a:=id rfl
theorem B7R {m:Nat} {H:Hp} {es:List (Value×AV)} {bo:Option (List Nat×Nat)} {K:KV} (hl:Ax H m=some (.map false es bo)) (hc:es.all (λp=>cl0 3 p.2)=true):A1W (.mp m) H K=K (.it (A6 H)) ((A6 H,.iter es none)::upd H m .gone):=by
 have e:A1W (.mp m) H K=Kj H m λx=>A2U x λes _=>ck (es.all λp=>cl0 3 p.2) (Og H m .gone λH1=>HE H1 λt=>K (.it t) ((t,.iter es none)::H1)):=rfl
 rw[e,Cl hl]
 show ck (es.all λp=>cl0 3 p.2) _=_
 rw[hc]
 show Og H m .gone _=_
 rw[D8,BX,Ck]
theorem B14 {F:Value×AV→List (Value×AV)→Al} {v:AV} (hv:aeq 6 v v=true):∀(l pre:List (Value×AV)),l≠[]→(∀l1 e l2,l=l1++e::l2→F e (pre++(l1++l2))=some (v,[]))→NZ F l pre=some (v,[]):=by
 intro l
 induction l with
 |nil=>intro _ h;exact absurd rfl h
 |cons e l ih=>
  intro pre _ h
  have h0:=h [] e l rfl
  rw[List.nil_append] at h0
  cases l with
  |nil=>rw[A14];rw[l1o] at h0;exact h0
  |cons e' l=>
   rw[YG,h0,ih (pre++[e]) (by simp) λl1 e1 l2 hl=> ?_]
   ·show(match aeq 6 v v with|true=>some (v,[])|false=>none)=_
    rw[hv]
   ·have:=h (e::l1) e1 l2 (by rw[hl];rfl)
    rw[l0k]
    exact this
theorem C1M {α:Type} {f:α→AV} {es:List (List UInt8×α)} {it:Nat} {H:Hp} {o:Option (Value×AV)} {w:AV} {K:KV} (hw:aeq 6 w w=true)
 (hl:Ax H it=some (.iter (es.map λe=>(.string ⟨⟨e.1⟩⟩,f e.2)) o)) (h0:es=[]→K (.tup [.v (.bool false)]) H=some (w,[]))
 (h1:∀a e b,es=a++e::b→K (.tup [.v (.bool true),S e.1,f e.2]) (upd H it (.iter ((a++b).map λe=>(.string ⟨⟨e.1⟩⟩,f e.2)) (some (.string ⟨⟨e.1⟩⟩,f e.2))))=some (w,[])):A1X (.it it) H K=some (w,[]):=by
 cases es with
 |nil=>rw[B4x hl];exact h0 rfl
 |cons e es=>
  rw[ZY] at hl
  rw[A3H hl]
  refine B14 hw _ [] (by simp) λl1 p l2 h=> ?_
  rw[←ZY (f:= λe:List UInt8×α=>((Value.string ⟨⟨e.1⟩⟩:Value),f e.2))] at h
  obtain⟨a,c,h2,h3,h4⟩:=List.map_eq_append_iff.1 h
  obtain⟨e',b,h5,h6,h7⟩:=List.map_eq_cons_iff.1 h4
  subst h5 h3 h6 h7
  rw[D8,List.nil_append,←l01]
  exact h1 a e' b h2
end
structure Ce (κ:Type) where
 real:Bool
 ps:List κ
section
variable {κ:Type} [DecidableEq κ] {g:List (κ×Ce κ)}
def KT {α:Type}:List (κ×α)→κ→Option α
 |[],_=>none
 |e::g,x=>if e.1=x then some e.2 else KT g x
def rz (g:List (κ×Ce κ)):Nat→κ→Bool
 |0,_=>false
 |n+1,x=>match KT g x with
  |none=>false
  |some c=>(c.real|| !c.ps.isEmpty)&&c.ps.all (rz g n)
def Rz (g:List (κ×Ce κ)) (x:κ):Prop:=∃n,rz g n x=true
theorem OY {n:Nat} {x:κ}:rz g (n+1) x=true↔∃c,KT g x=some c∧(c.real=true∨c.ps≠[])∧∀p∈c.ps,rz g n p=true:=by
 rw[show rz g (n+1) x=(match KT g x with
  |none=>false
  |some c=>(c.real|| !c.ps.isEmpty)&&c.ps.all (rz g n)) from rfl]
 cases KT g x with
 |none=>simp
 |some c=>simp[Hl]
theorem Wo:∀(n:Nat) (x:κ),rz g n x=true→rz g (n+1) x=true:=by
 intro n
 induction n with
 |zero=>intro x h;cases h
 |succ n ih=>
  intro x h
  obtain⟨c,h1,h2,h3⟩:=OY.1 h
  exact OY.2 ⟨c,h1,h2,λp hp=>ih p (h3 p hp)⟩
theorem A9z {n m:Nat} {x:κ} (h:n≤m) (h1:rz g n x=true):rz g m x=true:=by
 induction h with
 |refl=>exact h1
 |step _ ih=>exact Wo _ _ ih
theorem C2K {l:List κ} (h:∀p∈l,Rz g p):∃n,∀p∈l,rz g n p=true:=by
 induction l with
 |nil=>exact⟨0,by simp⟩
 |cons a l ih=>
  obtain⟨n,hn⟩:=ih λp hp=>h p (by simp[hp])
  obtain⟨m,hm⟩:=h a (by simp)
  refine⟨max n m,λp hp=> ?_⟩
  rcases WG.1 hp with rfl|hp
  ·exact A9z (by omega) hm
  ·exact A9z (by omega) (hn p hp)
theorem B5c {x:κ}:Rz g x↔∃c,KT g x=some c∧(c.real=true∨c.ps≠[])∧∀p∈c.ps,Rz g p:=by
 constructor
 ·rintro⟨n,h⟩
  cases n with
  |zero=>cases h
  |succ n=>
   obtain⟨c,h1,h2,h3⟩:=OY.1 h
   exact⟨c,h1,h2,λp hp=>⟨n,h3 p hp⟩⟩
 ·rintro⟨c,h1,h2,h3⟩
  obtain⟨n,hn⟩:=C2K h3
  exact⟨n+1,OY.2 ⟨c,h1,h2,hn⟩⟩
theorem XA9 {α:Type} {x:κ} {c:α}:∀{g:List (κ×α)},KT g x=some c→(x,c)∈g:=by
 intro g
 induction g with
 |nil=>intro h;cases h
 |cons e g ih=>
  intro h
  unfold KT at h
  split at h
  ·rename_i e1;cases h;subst e1;simp
  ·simp[ih h]
def rzN (g:List (κ×Ce κ)) (n:Nat):Nat:=(g.filter λe=>rz g n e.1).length
theorem Yu {α:Type} {p q:α→Bool} {l:List α} (h:∀a∈l,p a=true→q a=true) {a:α} (ha:a∈l) (h1:q a=true) (h2:p a=false):(l.filter p).length<(l.filter q).length:=by
 induction l with
 |nil=>cases ha
 |cons b l ih=>
  have mono:∀l:List α,(∀a∈l,p a=true→q a=true)→(l.filter p).length≤(l.filter q).length:=by
   intro l
   induction l with
   |nil=>intro _;simp
   |cons c l ih=>
    intro h
    have:=ih λa ha=>h a (by simp[ha])
    rw[l2h,l2h]
    have h3:=h c (by simp)
    cases hp:p c<;>cases hq:q c<;>simp_all<;>omega
  have h4:=mono l λa ha=>h a (by simp[ha])
  rw[l2h,l2h]
  rcases WG.1 ha with rfl|ha
  ·rw[h1,h2];simp;omega
  ·have:=ih (λa ha=>h a (by simp[ha])) ha
   have h3:=h b (by simp)
   cases hp:p b<;>cases hq:q b<;>simp_all<;>omega
theorem B6u (n:Nat):(∀m x,rz g m x=true→rz g n x=true)∨n≤rzN g n:=by
 induction n with
 |zero=>exact .inr (l1c _)
 |succ n ih=>
  rcases ih with ih|ih
  ·exact .inl λm x h=>Wo _ _ (ih m x h)
  ·by_cases hs:∀x,rz g (n+1) x=true→rz g n x=true
   ·left
    have:∀m x,rz g m x=true→rz g n x=true:=by
     intro m
     induction m with
     |zero=>intro x h;cases h
     |succ m ihm=>
      intro x h
      obtain⟨c,h1,h2,h3⟩:=OY.1 h
      exact hs x (OY.2 ⟨c,h1,h2,λp hp=>ihm p (h3 p hp)⟩)
    exact λm x h=>Wo _ _ (this m x h)
   ·right
    have⟨x,hx⟩:∃x,rz g (n+1) x=true∧¬rz g n x=true:=Classical.byContradiction λhc=>hs λx hx=>Classical.byContradiction λhn=>hc ⟨x,hx,hn⟩
    obtain⟨c,h1,_,_⟩:=OY.1 hx.1
    have:=Yu (p:= λe=>rz g n e.1) (q:= λe=>rz g (n+1) e.1) (l:=g) (λa _ h=>Wo _ _ h) (XA9 h1) hx.1 (by simpa using hx.2)
    show n+1≤(g.filter λe=>rz g (n+1) e.1).length
    have:n≤(g.filter λe=>rz g n e.1).length:=ih
    omega
theorem B5b {x:κ}:Rz g x↔rz g g.length x=true:=by
 constructor
 ·rintro⟨m,h⟩
  rcases B6u (g:=g) g.length with hs|hs
  ·exact hs m x h
  ·have:∀e∈g,rz g g.length e.1=true:=by
    have h1:(g.filter λe=>rz g g.length e.1).length=g.length:=Nat.le_antisymm (List.length_filter_le _ _) hs
    exact List.length_filter_eq_length_iff.1 h1
   cases m with
   |zero=>cases h
   |succ m=>
    obtain⟨c,h1,_,_⟩:=OY.1 h
    exact this _ (XA9 h1)
 ·exact λh=>⟨_,h⟩
inductive Rc (g:List (κ×Ce κ)):κ→κ→Prop
 |one {x y:κ} {c:Ce κ}:KT g x=some c→y∈c.ps→Rc g x y
 |more {x y z:κ}:Rc g x y→Rc g y z→Rc g x z
theorem Rc.rz {x y:κ} (h:Rc g x y):∀n,rz g n x=true→∃m,m<n∧rz g m y=true:=by
 induction h with
 |one h1 h2=>
  intro n h
  cases n with
  |zero=>cases h
  |succ n=>
   obtain⟨c,e,_,h3⟩:=OY.1 h
   rw[h1] at e;cases e
   exact⟨n,Nat.lt_succ_self n,h3 _ h2⟩
 |more _ _ i1 i2=>
  intro n h
  obtain⟨m,h1,h2⟩:=i1 n h
  obtain⟨k,h3,h4⟩:=i2 m h2
  exact⟨k,by omega,h4⟩
theorem Rc.no {x:κ} (h:Rc g x x):¬Rz g x:=by
 rintro⟨n,hn⟩
 induction n using Nat.strongRecOn with
 |_ n ih=>
  obtain⟨m,h1,h2⟩:=h.rz n hn
  exact ih m h1 h2
def IL {α:Type} (b:List (κ×α)) (x:κ) (v:α):List (κ×α):=match b with
 |[]=>[(x,v)]
 |e::b=>if e.1=x then(e.1,v)::b else e::IL b x v
theorem Ih {α:Type} {b:List (κ×α)} {x y:κ} {v:α}:KT (IL b x v) y=if x=y then some v else KT b y:=by
 induction b with
 |nil=>rfl
 |cons e b ih=>
  unfold IL
  by_cases h:e.1=x
  ·rw[if_pos h]
   simp only[KT]
   subst h
   by_cases h1:e.1=y<;>simp[h1]
  ·rw[if_neg h]
   simp only[KT,ih]
   by_cases h1:x=y
   ·subst h1;simp[h]
   ·simp[h1]
def A6Z (f:κ→List (κ×Bool)→Option (Bool×List (κ×Bool))):List κ→Bool→List (κ×Bool)→Option (Bool×List (κ×Bool))
 |[],good,b=>some (good,b)
 |p::ps,good,b=>if good then(match f p b with|none=>none|some (v,b')=>A6Z f ps v b') else A6Z f ps good b
def dfs (g:List (κ×Ce κ)):Nat→κ→List (κ×Bool)→Option (Bool×List (κ×Bool))
 |0,_,_=>none
 |n+1,x,b=>match KT b x with
  |some v=>some (v,b)
  |none=>match KT g x with
   |none=>some (false,IL (IL b x false) x false)
   |some c=>match A6Z (dfs g n) c.ps (c.real|| !c.ps.isEmpty) (IL b x false) with
    |none=>none
    |some (v,b')=>some (v,IL b' x v)
def XA8 (g:List (κ×Ce κ)) (b:List (κ×Bool)):Nat:=(g.filter λe=>(KT b e.1).isNone).length
structure InvD (g:List (κ×Ce κ)) (st:List κ) (b:List (κ×Bool)):Prop where
 t:∀y,KT b y=some true→Rz g y
 f:∀y,KT b y=some false→y∈st∨¬Rz g y
def B22 (b b':List (κ×Bool)):Prop:=∀y,KT b y≠none→KT b' y≠none
theorem A8u {b b':List (κ×Bool)} (h:B22 b b'):XA8 g b'≤XA8 g b:=by
 unfold XA8
 induction g with
 |nil=>simp
 |cons e g ih=>
  rw[l2h,l2h]
  have:=h e.1
  cases h1:KT b e.1<;>cases h2:KT b' e.1<;>simp_all<;>omega
theorem B7Y {f:κ→List (κ×Bool)→Option (Bool×List (κ×Bool))} {st:List κ} {k:Nat}
 (hf:∀p b,InvD g st b→(∀s∈st,Rc g s p)→XA8 g b<k→∃v b',f p b=some (v,b')∧(v=true↔Rz g p)∧InvD g st b'∧B22 b b'):
 ∀(ps:List κ) (good:Bool) (b:List (κ×Bool)),InvD g st b→(∀p∈ps,∀s∈st,Rc g s p)→XA8 g b<k→
  ∃v b',A6Z f ps good b=some (v,b')∧(v=true↔good=true∧∀p∈ps,Rz g p)∧InvD g st b'∧B22 b b':=by
 intro ps
 induction ps with
 |nil=>intro good b hi _ _;exact⟨good,b,rfl,by simp,hi,λ_ h=>h⟩
 |cons p ps ih=>
  intro good b hi hs hk
  unfold A6Z
  cases good with
  |false=>
   obtain⟨v,b',h1,h2,h3,h4⟩:=ih false b hi (λq hq=>hs q (by simp[hq])) hk
   exact⟨v,b',h1,by rw[h2];simp,h3,h4⟩
  |true=>
   obtain⟨v,b',h1,h2,h3,h4⟩:=hf p b hi (hs p (by simp)) hk
   obtain⟨w,b'',h5,h6,h7,h8⟩:=ih v b' h3 (λq hq=>hs q (by simp[hq])) (Nat.lt_of_le_of_lt (A8u h4) hk)
   refine⟨w,b'',?_,?_,h7,λy hy=>h8 y (h4 y hy)⟩
   ·simp only[h1,if_true];exact h5
   ·rw[h6,h2];simp
theorem C2z:∀(n:Nat) (st:List κ) (x:κ) (b:List (κ×Bool)),InvD g st b→(∀s∈st,Rc g s x)→XA8 g b<n→
 ∃v b',dfs g (n+1) x b=some (v,b')∧(v=true↔Rz g x)∧InvD g st b'∧B22 b b':=by
 intro n
 induction n with
 |zero=>intro st x b _ _ h;omega
 |succ n ih=>
  intro st x b hi hs hk
  unfold dfs
  cases hl:KT b x with
  |some v=>
   refine⟨v,b,rfl,?_,hi,λ_ h=>h⟩
   cases v with
   |true=>simp[hi.t x hl]
   |false=>
    simp only[l0z,false_iff]
    rcases hi.f x hl with h|h
    ·exact(hs x h).no
    ·exact h
  |none=>
   have hext:∀{b':List (κ×Bool)} {v:Bool},B22 (IL b x false) b'→B22 b (IL b' x v):=by
    intro b' v h y hy
    rw[Ih]
    split
    ·simp
    ·have:=h y;rw[Ih] at this;split at this
     ·exact this (by simp)
     ·exact this hy
   cases hg:KT g x with
   |none=>
    have hn:¬Rz g x:= λh=>by obtain⟨c,h1,_⟩:=B5c.1 h;rw[hg] at h1;cases h1
    refine⟨false,_,rfl,by simp[hn],⟨λy h=> ?_,λy h=> ?_⟩,hext λ_ h=>h⟩
    ·rw[Ih] at h;split at h
     ·cases h
     ·rw[Ih] at h;split at h
      ·cases h
      ·exact hi.t y h
    ·rw[Ih] at h;split at h
     ·rename_i e;subst e;exact .inr hn
     ·rw[Ih] at h;split at h
      ·rename_i e;subst e;exact .inr hn
      ·exact hi.f y h
   |some c=>
    have hmem:(x,c)∈g:=XA9 hg
    have hlt:XA8 g (IL b x false)<n:=by
     have:XA8 g (IL b x false)<XA8 g b:=by
      refine Yu (a:=(x,c)) ?_ hmem ?_ ?_
      ·intro a _ h
       rw[Ih] at h
       split at h
       ·cases h
       ·exact h
      ·simp[hl]
      ·simp[Ih]
     omega
    have hinv:InvD g (x::st) (IL b x false):=by
     refine⟨λy h=> ?_,λy h=> ?_⟩
     ·rw[Ih] at h;split at h
      ·cases h
      ·exact hi.t y h
     ·rw[Ih] at h;split at h
      ·rename_i e;subst e;exact .inl (by simp)
      ·rcases hi.f y h with h|h
       ·exact .inl (by simp[h])
       ·exact .inr h
    obtain⟨v,b',h1,h2,h3,h4⟩:=B7Y (f:=dfs g (n+1)) (k:=n) (st:=x::st) (λp b hb hp hk=>ih (x::st) p b hb hp hk) c.ps (c.real|| !c.ps.isEmpty) (IL b x false) hinv (λp hp s hs'=>by
     rcases WG.1 hs' with rfl|hs'
     ·exact .one hg hp
     ·exact .more (hs s hs') (.one hg hp)) hlt
    have hv:v=true↔Rz g x:=by
     rw[h2,B5c]
     constructor
     ·rintro⟨h5,h6⟩;exact⟨c,hg,by simpa using h5,h6⟩
     ·rintro⟨c',h5,h6,h7⟩;rw[hg] at h5;cases h5;exact⟨by simpa using h6,h7⟩
    refine⟨v,IL b' x v,?_,hv,⟨λy h=> ?_,λy h=> ?_⟩,hext h4⟩
    ·simp only[h1]
    ·rw[Ih] at h;split at h
     ·rename_i e;subst e;exact hv.1 (by cases h;rfl)
     ·exact h3.t y h
    ·rw[Ih] at h;split at h
     ·rename_i e;subst e
      exact .inr λhr=>by have:=hv.2 hr;rw[this] at h;cases h
     ·rcases h3.f y h with h5|h5
      ·rcases WG.1 h5 with rfl|h5
       ·contradiction
       ·exact .inl h5
      ·exact .inr h5
theorem B7X (x:κ):∃b',dfs g (g.length+2) x []=some (rz g g.length x,b'):=by
 obtain⟨v,b',h1,h2,_,_⟩:=C2z (g:=g) (g.length+1) [] x [] ⟨λy h=>(by cases h),λy h=>(by cases h)⟩ (by simp) (Nat.lt_succ_of_le (List.length_filter_le _ _))
 refine⟨b',?_⟩
 rw[h1]
 have:v=rz g g.length x:=by rw[Yg,h2,B5b]
 rw[this]
end
abbrev SV (s:List UInt8):Value:= .string ⟨⟨s⟩⟩
section
variable {α:Type} {f:α→AV} {b:List (List UInt8×α)} {x:List UInt8} {H:Hp}
abbrev Oe (f:α→AV) (b:List (List UInt8×α)):List (Value×AV):=b.map λe=>(SV e.1,f e.2)
def ZI (x:List UInt8):List (List UInt8×α)→Nat→Option (Nat×α)
 |[],_=>none
 |e::b,i=>if e.1=x then some (i,e.2) else ZI x b (i+1)
theorem Ys {e:List UInt8×α} {i:Nat}:ZI x (e::b) i=if e.1=x then some (i,e.2) else ZI x b (i+1):=rfl
theorem C4v {s u:List UInt8}:keq (SV s) (SV u)=some (decide (u=s)):=by
 show some (Go.Abs.eqB s u)=_
 rw[PQ]
 by_cases h:s=u
 ·subst h;simp
 ·simp[h,Ne.symm h]
theorem B41:∀(b:List (List UInt8×α)) (i:Nat),WH (SV x) (Oe f b) i=some ((ZI x b i).map λp=>(p.1,f p.2)):=by
 intro b
 induction b with
 |nil=>intro i;rfl
 |cons e b ih=>
  intro i
  show WH (SV x) ((SV e.1,f e.2)::Oe f b) i=_
  rw[VH,C4v,ih,Ys]
  by_cases h:e.1=x
  ·simp[h]
  ·simp[h]
theorem A6E:∀(b:List (List UInt8×α)) (i:Nat),(ZI x b i).map (·.2)=KT b x:=by
 intro b
 induction b with
 |nil=>intro i;rfl
 |cons e b ih=>
  intro i
  rw[Ys]
  unfold KT
  by_cases h:e.1=x
  ·simp[h]
  ·simp[h,ih]
theorem B4h (v:α):∀(b:List (List UInt8×α)) (i:Nat),(match ZI x b i with|none=>b++[(x,v)]|some (j,_)=>b.set (j-i) (x,v))=IL b x v∧(∀j w,ZI x b i=some (j,w)→i≤j):=by
 intro b
 induction b with
 |nil=>intro i;exact⟨rfl,λj w h=>by cases h⟩
 |cons e b ih=>
  intro i
  rw[Ys]
  unfold IL
  by_cases h:e.1=x
  ·refine⟨?_,λj w hj=> ?_⟩
   ·simp[h]
   ·simp[h] at hj;omega
  ·obtain⟨h1,h2⟩:=ih (i+1)
   refine⟨?_,λj w hj=> ?_⟩
   ·rw[if_neg h,if_neg h,←h1]
    cases hf:ZI x b (i+1) with
    |none=>rfl
    |some p=>
     obtain⟨j,w⟩:=p
     have:=h2 j w hf
     have e1:j-i=(j-(i+1))+1:=by omega
     simp only[e1,List.set_cons_succ]
   ·rw[if_neg h] at hj
    have:=h2 j w hj;omega
theorem SX {r:Nat} {es:List (Value×AV)} {bo:Option (List Nat×Nat)} {K:List (Value×AV)→Al} (h:Ax H r=some (.map false es bo)):A8H (.mp r) H K=K es:=by
 show Kj H r _=_
 rw[Cl h];rfl
theorem kfK {K:Option (Nat×AV)→Al}:QT (SV x) (Oe f b) K=K ((ZI x b 0).map λp=>(p.1,f p.2)):=by
 unfold QT
 rw[B41]
theorem QZ {ie:TI} {m:AV} {K:AV→Al} (h:∀K,A8H m H K=K (Oe f b)):Xu ie true m (SV x) H K=match KT b x with
 |some v=>K (.tup [f v,Bo true])
 |none=>K (.tup [ie.zero,Bo false]):=by
 unfold Xu
 rw[h,kfK,←A6E b 0]
 cases ZI x b 0<;>rfl
theorem B7T {ie:TI} {m:AV} {K:AV→Al} (h:∀K,A8H m H K=K (Oe f b)):Xu ie false m (SV x) H K=match KT b x with
 |some v=>K (f v)
 |none=>K ie.zero:=by
 unfold Xu
 rw[h,kfK,←A6E b 0]
 cases ZI x b 0<;>rfl
theorem UQ {r:Nat} {v:α} {K:Hp→Al} (h:Ax H r=some (.map false (Oe f b) none)):VL (.mp r) (SV x) (f v) H K=K (upd H r (.map false (Oe f (IL b x v)) none)):=by
 have e:VL (.mp r) (SV x) (f v) H K=Kj H r λy=>A2U y λes bo=>QT (SV x) es λq=>match q with
  |none=>Og H r (.map false (es++[(SV x,f v)]) (B4U bo)) K
  |some (i,_)=>Og H r (.map false (es.set i (SV x,f v)) bo) K:=rfl
 rw[e,Cl h]
 show QT (SV x) (Oe f b) _=_
 rw[kfK]
 obtain⟨h1,h2⟩:=B4h (x:=x) v b 0
 cases hf:ZI x b 0 with
 |none=>
  rw[hf] at h1
  show Og H r (.map false (Oe f b++[(SV x,f v)]) none) K=_
  rw[D8,←h1,Oe,Oe,l01];rfl
 |some p=>
  obtain⟨j,w⟩:=p
  rw[hf] at h1
  show Og H r (.map false ((Oe f b).set j (SV x,f v)) none) K=_
  rw[D8,←h1,Oe,Oe,List.map_set,Nat.sub_zero]
end
section
variable {L n:Nat}
abbrev uS:Unit→AV:= λ_=> .agg []
section
variable {K:KV} {x:Al}
theorem B6x {H0 H:Hp} {r0 s e0:Nat} {q0:Bool} {c6 v:AV} {l:List (List UInt8)} {b:List UInt8} (h:Coll H0 r0 s q0 e0 c6 l v H) (hn:l.length<1000000000)
 (hx:∀v' H',Coll H0 r0 s q0 e0 c6 (l++[b]) v' H'→(∀u y,u≠r0→u≠s→¬AX v u→Ax H u=some y→Ax H' u=some y)→(∀u,AX v' u→A6 H≤u)→K (Bo true) H'=x):Eo (E (L+20)) (rt (L+20) (n+1)) (.yl s) [S b] H K=x:=by
 show Sc (rt (L+20) (n+1)) s [S b] H K=x
 rw[Xw h.lp (by kernel_rfl)]
 have hrun:(rt (L+20) (n+1)).run= λcf=>Vw (E (L+20)) (rt (L+20) n) cf:=rfl
 rw[hrun,Fz,X6 h.lp]
 have hw1:=Cj (r:=s) (y:=T7 (.ptr r0 0 0) c6 none) h.wf
 have hr1:Ax (upd H s (T7 (.ptr r0 0 0) c6 none)) r0=some (.cells q0 e0 [v]):=by rw[Au h.ne];exact h.at_
 have hs1:Ax (upd H s (T7 (.ptr r0 0 0) c6 none)) s=some (T7 (.ptr r0 0 0) c6 none):=MO h.lp
 have hv1:B1 (upd H s (T7 (.ptr r0 0 0) c6 none)) A4 1 v l.length (Bn l):=h.sl.lat h.wf (Lat.upd H s _ (P:= λu=>u=s) rfl) (λu hu=>(h.new u hu).2.1)
 show Aq Ad (.ptr r0 0 0) (upd H s (T7 (.ptr r0 0 0) c6 none)) _=_
 rw[AY (p:=0) rfl hr1 (by simp)]
 show Fh A4 1 Ae 1 [(0,1,S b)] (upd H s (T7 (.ptr r0 0 0) c6 none)) (λv15 H16=>DN A4 1 Ae Ad v v15 H16 _)=_
 obtain⟨v',H',h1,h2,h3,h4,h5,h6⟩:=B53 b hv1 hw1 hn
 rw[h1]
 have n0:¬AX v r0:= λhu=>(h.new r0 hu).1 rfl
 have ns:¬AX v s:= λhu=>(h.new s hu).2.1 rfl
 have hr2:=h5 r0 _ hr1 n0
 have hs2:=h5 s _ hs1 ns
 have hone:B6 v'=[v']∧AV.one v'=true:=by
  rcases h2 with⟨rfl,_⟩|⟨a,b,rfl,_⟩<;>exact⟨rfl,rfl⟩
 rw[Ez (q:=q0) (e:=e0) (cs:=[v]) hr2 (by simp) rfl hone.1 hone.2]
 have hnx:A6 H0≤A6 H:=by have:=h.wf.lt h.at_;have:=h.r0n;omega
 have hnu:A6 (upd H s (T7 (.ptr r0 0 0) c6 none))=A6 H:=Ck _ _ _
 have hfr0:∀u,AX v' u→A6 H≤u:= λu hu=>by have:=h6 u hu;omega
 have hfr:∀u,AX v' u→u≠r0∧u≠s∧A6 H0≤u:= λu hu=>by
  have a1:=hfr0 u hu
  have a2:=h.wf.lt h.at_
  have a3:=h.wf.lt h.lp
  exact⟨by omega,by omega,by omega⟩
 have hs3:Ax (upd H' r0 (.cells q0 e0 [v'])) s=some (T7 (.ptr r0 0 0) c6 none):=by rw[Au h.ne.symm];exact hs2
 show Ga (upd H' r0 (.cells q0 e0 [v'])) s false (some none) _=_
 have hs3':=hs3
 unfold T7 at hs3'
 rw[X5 hs3']
 have kp:∀u y,u≠r0→u≠s→¬AX v u→Ax H u=some y→Ax (upd (upd H' r0 (.cells q0 e0 [v'])) s (T7 (.ptr r0 0 0) c6 (some none))) u=some y:= λu y h1 h2 h3 hu=>by
  rw[Au h2,Au h1]
  exact h5 u y (by rw[Au h2];exact hu) h3
 refine hx v' _ ⟨?_,?_,?_,hfr,Cj (Cj h3),λu y hu=> ?_,h.ne,h.r0n,h.sn,h.w0⟩ kp hfr0
 ·rw[Au h.ne]
  exact AC hr2
 ·have a:=h2.lat h3 (Lat.upd H' r0 (.cells q0 e0 [v']) (P:= λu=>u=r0) rfl) (λu hu=>(hfr u hu).1)
  exact a.lat (Cj h3) (Lat.upd _ s _ (P:= λu=>u=s) rfl) (λu hu=>(hfr u hu).2.1)
 ·exact MO hs3
 ·have hlt:=h.w0.lt hu
  have b1:=h.r0n
  have b2:=h.sn
  exact kp u y (by omega) (by omega) (λhv=>by have:=(h.new u hv).2.2;omega) (h.keep u y hu)
theorem Coll.it {H0 H:Hp} {r0 s e0 it:Nat} {q0:Bool} {c6 v:AV} {l:List (List UInt8)} (h:Coll H0 r0 s q0 e0 c6 l v H) (y:Row) (h1:it≠r0∧it≠s∧A6 H0≤it) (h2:¬AX v it):Coll H0 r0 s q0 e0 c6 l v (upd H it y):=
 ⟨by rw[Au h1.1.symm];exact h.at_,h.sl.lat h.wf (Lat.upd H it y (P:= λu=>u=it) rfl) (λu hu e=>h2 (e▸hu)),by rw[Au h1.2.1.symm];exact h.lp,h.new,Cj h.wf,λu z hu=>by rw[Au (by have:=h.w0.lt hu;omega)];exact h.keep u z hu,h.ne,h.r0n,h.sn,h.w0⟩
theorem A8r {H:Hp} {r:Nat} {x:Row} {es:List (Value×AV)} {o:Option (Value×AV)} (h:Ax H r=some x):Ax (upd H r (.iter es o)) r=some (.iter es o):=(Ec h).trans rfl
theorem B7p {H0:Hp} {r0 s e0 it:Nat} {q0:Bool} {c6 w:AV} {k4:Hp→Al} {ks:List (List UInt8)} (hw:aeq 6 w w=true) (hlen:ks.length<1000000)
 (hfin:∀l v H,l.Perm ks→(l=[]→v=AO)→Coll H0 r0 s q0 e0 c6 l v H→k4 H=some (w,[])) (hit:it≠r0∧it≠s∧A6 H0≤it):
 ∀(f:Nat) (es:List (List UInt8×Unit)) (l:List (List UInt8)) (v:AV) (H:Hp) (o:Option (Value×AV)),es.length<f→(l++es.map Prod.fst).Perm ks→(l=[]→v=AO)→Coll H0 r0 s q0 e0 c6 l v H→¬AX v it→Ax H it=some (.iter (Oe uS es) o)→
 BY (L+20) (rt (L+20) (n+1)) K k4 f (.yl s) (.it it) H=some (w,[]):=by
 intro f
 induction f with
 |zero=>intro es l v H o h;omega
 |succ f ih=>
  intro es l v H o hf hp h0 hc hv hl
  rw[GR]
  unfold CF
  refine C1M (f:=uS) hw hl (λe=> ?_) (λa e b he=> ?_)
  ·subst e
   rw[A8T,BD]
   exact hfin l v H (by simpa using hp) h0 hc
  ·subst he
   have hc1:=hc.it (.iter (Oe uS (a++b)) (some (.string ⟨⟨e.1⟩⟩,uS e.2))) hit hv
   have hl1:=A8r (es:=Oe uS (a++b)) (o:=some (.string ⟨⟨e.1⟩⟩,uS e.2)) hl
   have hll:(l++(a++e::b).map Prod.fst).length=ks.length:=hp.length_eq
   simp at hll
   have eo:ofV (.string ⟨⟨e.1⟩⟩)=S e.1:=rfl
   rw[A8T,Dn,B1D hl1,A8T,eo]
   refine B6x hc1 (by omega) λv' H' hc' hk hr=> ?_
   rw[RK]
   show Av (.v (.bool false)) _ _=_
   rw[BD]
   refine ih (a++b) (l++[e.1]) v' H' _ (by simp at hf⊢;omega) ?_ (by simp) hc' (λhu=> ?_) (hk it _ hit.1 hit.2.1 hv hl1)
   ·refine List.Perm.trans ?_ hp
    simp only[l01,ZY,l0k]
    refine List.Perm.append_left l ?_
    show(e.1::(a.map Prod.fst++b.map Prod.fst)).Perm _
    exact List.perm_middle.symm
   ·have g1:=hr it hu
    have g2:=hc1.wf.lt hl1
    rw[Ck] at g1 g2
    omega
end
abbrev Yi (c:AV):AV:= .fn (.func CI) [] [c]
section
variable {K:KV} {w:AV} {H0:Hp} {m rb:Nat} {es:List (List UInt8×Unit)}
theorem C3o (es:List (List UInt8×Unit)):(Oe uS es).all (λp=>cl0 3 p.2)=true:=by
 rw[Hl]
 intro p hp
 obtain⟨e,_,rfl⟩:=l2a.1 hp
 rfl
theorem A7I (hw:aeq 6 w w=true) (hn:es.length<1000000) (hL:es.length<L) (wf:Wf H0) (hb:Ax H0 rb=some (.cells true Gp [.mp m])) (hm:Ax H0 m=some (.map false (Oe uS es) none))
 (hx:∀l v H,l.Perm (es.map Prod.fst)→(l=[]→v=AO)→NewSl (upd H0 m .gone) l v H→K v H=some (w,[])):
 (rt (L+20) (n+4)).call FL [Yi (.ptr rb 0 0)] H0 K=some (w,[]):=by
 rw[JU]
 unfold FD
 rw[FE]
 unfold CY
 simp only[Cp]
 rw[A90 (by rfl),A9A,Hi]
 unfold CH
 simp only[Cp]
 have w1:=BE (x:= .cells true BS [AO]) wf
 have hn0:=A1 (H:=H0) (x:= .cells true BS [AO]) (by simp)
 have hne:A6 ((A6 H0,Row.cells true BS [AO])::H0)=A6 H0+1:=rfl
 have w2:Wf ((A6 H0+1,T7 (.ptr (A6 H0) 0 0) (Yi (.ptr rb 0 0)) (some none))::(A6 H0,Row.cells true BS [AO])::H0):=BE (x:=T7 (.ptr (A6 H0) 0 0) (Yi (.ptr rb 0 0)) (some none)) w1
 have hs0:Ax ((A6 H0+1,T7 (.ptr (A6 H0) 0 0) (Yi (.ptr rb 0 0)) (some none))::(A6 H0,Row.cells true BS [AO])::H0) (A6 H0+1)=some (T7 (.ptr (A6 H0) 0 0) (Yi (.ptr rb 0 0)) (some none)):=A1 (H:=((A6 H0,Row.cells true BS [AO])::H0)) (x:=T7 (.ptr (A6 H0) 0 0) (Yi (.ptr rb 0 0)) (some none)) (by simp[T7])
 have ol:∀u y,Ax H0 u=some y→Ax ((A6 H0+1,T7 (.ptr (A6 H0) 0 0) (Yi (.ptr rb 0 0)) (some none))::(A6 H0,Row.cells true BS [AO])::H0) u=some y:= λu y hu=>by
  have a1:=Bj (x:= .cells true BS [AO]) (wf.lt hu) hu
  exact Bj (w1.lt a1) a1
 show Aq He (.ptr rb 0 0) ((A6 H0+1,T7 (.ptr (A6 H0) 0 0) (Yi (.ptr rb 0 0)) (some none))::(A6 H0,Row.cells true BS [AO])::H0) _=_
 rw[AY (p:=0) rfl (ol _ _ hb) (by simp)]
 show A1W (.mp m) ((A6 H0+1,T7 (.ptr (A6 H0) 0 0) (Yi (.ptr rb 0 0)) (some none))::(A6 H0,Row.cells true BS [AO])::H0) _=_
 rw[B7R (ol _ _ hm) (C3o es)]
 have mlt:=wf.lt hm
 have wg:Wf (upd H0 m .gone):=Cj wf
 have hr2:Ax ((A6 H0+1,T7 (.ptr (A6 H0) 0 0) (Yi (.ptr rb 0 0)) (some none))::(A6 H0,Row.cells true BS [AO])::H0) (A6 H0)=some (.cells true BS [AO]):=Bj (w1.lt hn0) hn0
 generalize hH2:((A6 H0+1,T7 (.ptr (A6 H0) 0 0) (Yi (.ptr rb 0 0)) (some none))::(A6 H0,Row.cells true BS [AO])::H0:Hp)=H2 at w2 hs0 ol hr2
 have hn2:A6 H2=A6 H0+2:=by rw[←hH2];rfl
 have w3:Wf (upd H2 m .gone):=Cj w2
 have hn3:A6 (upd H2 m .gone)=A6 H0+2:=by rw[Ck,hn2]
 have w4:=BE (x:= .iter (Oe uS es) none) w3
 have up:∀u y,u≠m→Ax H2 u=some y→Ax ((A6 H2,Row.iter (Oe uS es) none)::upd H2 m .gone) u=some y:= λu y hu hy=>by
  have a:Ax (upd H2 m .gone) u=some y:=by rw[Au hu];exact hy
  have b:=Bj (x:= .iter (Oe uS es) none) (w3.lt a) a
  rw[hn3,←hn2] at b
  exact b
 have it0:Ax ((A6 H2,Row.iter (Oe uS es) none)::upd H2 m .gone) (A6 H2)=some (.iter (Oe uS es) none):=by
  have:=A1 (H:=upd H2 m .gone) (x:= .iter (Oe uS es) none) (by simp)
  rw[Ck] at this
  exact this
 rw[Ck] at w4
 refine B7p (n:=n) (H0:=upd H0 m .gone) (r0:=A6 H0) (s:=A6 H0+1) (it:=A6 H2) (q0:=true) (e0:=BS) (c6:=Yi (.ptr rb 0 0)) (ks:=es.map Prod.fst) hw (by simpa using hn) ?_ (by rw[Ck];omega) (L+20) es [] AO _ none (by omega) (by simp) (λ_=>rfl)
  ⟨up _ _ (by omega) hr2,.inl ⟨rfl,rfl,rfl⟩,up _ _ (by omega) hs0,λu ⟨_,_,_,h⟩=>(by cases h),w4,λu y hu=> ?_,by omega,by rw[Ck];omega,by rw[Ck];omega,wg⟩ (λ⟨_,_,_,h⟩=>(by cases h)) it0
 ·intro l v H hp h0 hc
  show Kj H (A6 H0+1) _=_
  rw[Cl hc.lp]
  show Og H (A6 H0+1) .gone _=_
  rw[D8]
  have hr:Ax (upd H (A6 H0+1) .gone) (A6 H0)=some (.cells true BS [v]):=by rw[Au (by omega)];exact hc.at_
  show Aq Ad (.ptr (A6 H0) 0 0) (upd H (A6 H0+1) .gone) _=_
  rw[AY (p:=0) rfl hr (by simp)]
  refine hx _ _ _ hp h0 ⟨?_,λu hu=>(hc.new u hu).2.2,Cj hc.wf,λu y hu=> ?_,?_⟩
  ·exact hc.sl.lat hc.wf (Lat.upd H _ _ (P:= λu=>u=A6 H0+1) rfl) (λu hu=>(hc.new u hu).2.1)
  ·have:=wg.lt hu
   rw[Ck] at this
   rw[Au (by omega)];exact hc.keep u y hu
  ·rw[Ck,Ck]
   have:=hc.wf.lt hc.at_
   omega
 ·have hne':u≠m:= λe=>by
   subst e
   rw[Ec hm] at hu
   cases hu
  rw[Au hne'] at hu
  exact up u y hne' (ol u y hu)
theorem B99 {x:Al} {H:Hp} {ps:List (List UInt8)} {v:AV} (wf:Wf H0) (hn:ps.length<1000000000) (h0:ps=[]→v=AO) (hs:NewSl H0 ps v H) (hx:∀H',NewSl H0 (Mr ps) v H'→K (.tup []) H'=x):
 (rt (L+20) (n+4)).call BV [v] H K=x:=by
 by_cases hp0:ps=[]
 ·subst hp0
  obtain rfl:=h0 rfl
  have e:(rt (L+20) (n+4)).call BV [AO] H K=K (.tup []) H:=by kernel_rfl
  rw[e]
  exact hx H hs
 have hp:=(G7 ps).length_eq
 rcases hs.sl with⟨_,h,_⟩|⟨r,q,rfl,hl,hc⟩
 ·exact absurd (l1s h) hp0
 ·have e1:∀K,(rt (L+20) (n+4)).call BV [.sl 1 r 0 ps.length] H K=Wm [.sl 1 r 0 ps.length] H K (A28 (E (L+20)) (nT (L+20)) (rt (L+20) (n+3)) BV [.sl 1 r 0 ps.length] H K):= λK=>rfl
  rw[e1]
  have hso:∀(l:List (List UInt8)),TG (Bn l)=some l:= λl=>by
   induction l with
   |nil=>rfl
   |cons a l ih=>show(TG (Bn l)).map _=_;rw[ih];rfl
  have hpos:0<ps.length:=List.length_pos_iff.2 hp0
  have e2:∀alt K,Wm [.sl 1 r 0 ps.length] H K alt=EG 0 (Bn (Mr ps)) (Bn ps) λcs'=>Og H r (.cells q A4 cs') λH'=>K (.tup []) H':= λalt K=>by
   unfold Wm
   simp only[hl,l1n]
   rw[l1z (by rw[DJ];omega),hso]
   have g:(Nat.beq ps.length ps.length&&(Nat.blt ps.length 4611686018427387904&&Nat.blt 0 ps.length))=true:=by simp;omega
   simp only[g]
   rfl
  rw[e2,KS _ _ _ _ (by rw[DJ,DJ];omega),Sg _ _ (by rw[DJ,DJ];exact hp),D8]
  refine hx _ ⟨.inr ⟨r,q,by rw[hp],AC hl,by rw[DJ];omega⟩,λu hu=>hs.new u hu,Cj hs.wf,λu y hu=> ?_,by rw[Ck];exact hs.nx⟩
  have a1:=wf.lt hu
  have a2:=hs.new r ⟨1,0,ps.length,rfl⟩
  rw[Au (by omega)];exact hs.keep u y hu
theorem C2u {ty m:Nat} {H:Hp} {K:KV}:Dh ty (.mp m) H K=K (.ptr (A6 H) 0 0) ((A6 H,.cells true ty [.mp m])::H):=by
 unfold Dh
 rw[Dc,Gc,BX];rfl
theorem A5A {ks:List (List UInt8)} (hw:aeq 6 w w=true) (hn:es.length<1000000) (hL:es.length<L) (wf:Wf H0) (hm:Ax H0 m=some (.map false (Oe uS es) none)) (hk:(es.map Prod.fst).Perm ks) (hs:ks.Pairwise (· ≤ ·))
 (hx:∀v H,B1 H A4 1 v ks.length (Bn ks)→(ks=[]→v=AO)→K v H=some (w,[])):(rt (L+20) (n+6)).call I9 [.mp m] H0 K=some (w,[]):=by
 rw[Uf]
 unfold KM
 rw[I3]
 unfold Dt
 have eb:∀{K:KV},Dh Gp (.mp m) H0 K=K (.ptr (A6 H0) 0 0) ((A6 H0,.cells true Gp [.mp m])::H0):= λ{K}=>C2u
 rw[eb]
 show(rt (L+20) (n+5)).call EI [Yi (.ptr (A6 H0) 0 0)] ((A6 H0,Row.cells true Gp [.mp m])::H0) _=_
 rw[Ks]
 unfold Ge
 have w1:=BE (x:= .cells true Gp [.mp m]) wf
 have hb:=A1 (H:=H0) (x:= .cells true Gp [.mp m]) (by simp)
 have hm1:=Bj (x:= .cells true Gp [.mp m]) (wf.lt hm) hm
 refine A7I (n:=n) hw hn hL w1 hb hm1 λl v H hp h0 hc=> ?_
 have e:Mr l=ks:=Q6 ((G7 l).trans (hp.trans hk)) (O9 l) hs
 have hll:l.length=es.length:=by rw[hp.length_eq,l1u]
 refine B99 (n:=n) (Cj w1) (by omega) h0 hc λH' hc'=> ?_
 rw[e] at hc'
 refine hx v H' hc'.sl λh=>h0 ?_
 have:=(hp.trans hk).length_eq
 rw[h] at this
 exact l1s this
end
end
end Go.Abs
end
