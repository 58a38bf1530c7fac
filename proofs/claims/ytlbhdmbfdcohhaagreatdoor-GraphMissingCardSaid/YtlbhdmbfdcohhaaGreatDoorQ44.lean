import Derived.Test.YtlbhdmbfdcohhaaGreatDoorQ22
import Derived.Test.YtlbhdmbfdcohhaaGreatDoorQ31
import Derived.Test.YtlbhdmbfdcohhaaGreatDoorQ43
set_option linter.all false
set_option maxHeartbeats 100000000
noncomputable section
namespace Go.Abs
open Go.RowKit Go.Proofs
set_option maxRecDepth 100000
section
variable {L n:Nat}
theorem B69 (s:List UInt8):(sha s).length=32:=TC _ 8
theorem A8V (c:Cd):c.id.length=32:=B69 _
theorem A1W (c:Cd):c.id≠[]:= λh=>by have:=A8V c;rw[h] at this;cases this
def LA (gs:List Cd) (a:AV):Prop:=a= .list gs.length (gs.flatMap Cd.cs)∨(gs=[]∧a=AM)
section
variable {gs:List Cd} {a:AV} {c:Cd} {K:AV→Al} {i:Nat} {H:Hp}
theorem LA.len (h:LA gs a):AN A2 a K=K (I gs.length):=by
 rcases h with rfl|⟨rfl,rfl⟩<;>exact id rfl
theorem LA.ia (h:LA gs a) (hi:i<gs.length):Bv A2 a (I i) K=K (.iptr gs[i].cs):=by
 rcases h with rfl|⟨rfl,rfl⟩
 ·exact A1P (f:=Cd.cs) rfl (λ_=>BM) hi
 ·simp at hi
theorem A1O:Aq Ac (.iptr c.cs) H K=K (.agg c.cs):=by
 match c with
 | .re b u=>exact id rfl
 | .co b p ps none=>exact id rfl
 | .co b p ps (some (k,vd))=>exact id rfl
abbrev BA:List AV:=DF 0 ⟨0,0,0,0,0⟩ u0 [] [] AM [] [] AM 0 AM AM u0 r0 0
abbrev B8t (c:Cd):Row:= .cells true Ai c.cs
def gE (gs:List Cd):List (List UInt8×Cd):=gs.map λc=>(c.id,c)
theorem A1A {α:Type} {b:List (List UInt8×α)} {x:List UInt8} (h:x∉b.map (·.1)):QO b x=none:=by
 induction b with
 |nil=>rfl
 |cons e b ih=>
  simp only[ZK,Xi,not_or] at h
  unfold QO
  rw[if_neg (Ne.symm h.1)]
  exact ih h.2
theorem B0J {α:Type} {b:List (List UInt8×α)} {x:List UInt8} {v:α} (h:x∉b.map (·.1)):HL b x v=b++[(x,v)]:=by
 induction b with
 |nil=>rfl
 |cons e b ih=>
  simp only[ZK,Xi,not_or] at h
  unfold HL
  rw[if_neg (Ne.symm h.1),ih h.2];rfl
theorem A8t (gs:List Cd):(gE gs).map (·.1)=gs.map Cd.id:=by simp[gE]
end
structure GOk (gs:List Cd):Prop where
 ok:∀c∈gs,c.Ok
 nd:∀c∈gs,c.ps.Nodup
 ids:(gs.map Cd.id).Nodup
 len:gs.length≤8
section
variable {K:KV} {x:Al} {gs:List Cd} {a:AV}
abbrev VJ (c:Cd):AV:= .agg c.cs
theorem C3L {k12:AV→AV→Hp→Al} {r:Nat} {w:AV} (hg:GOk gs) (hL:40000<L) (ha:LA gs a)
 (hx:∀H,Au H r=some (.map false (Nw VJ (gE gs)) none)→k12 w (.mp r) H=x):∀(f i:Nat) (H:Hp),i≤gs.length→gs.length-i<f→Au H r=some (.map false (Nw VJ (gE (gs.take i))) none)→Wf H→
 Nz (L+20) (rt (L+20) (n+63)) K k12 f w (.mp r) a (I gs.length) (I i) H=x:=by
 intro f
 induction f with
 |zero=>intro i H _ h;omega
 |succ f ih=>
  intro i H hi hf hl wf
  rw[QB]
  unfold N0 Bw Ar E4 CH
  by_cases h:i<gs.length
  ·have hm:=Ow h
   have hid:=B4D (L:=L) (n:=n) hL (hg.ok _ hm) (hg.nd _ hm)
   have hnew:gs[i].id∉(gE (gs.take i)).map (·.1):= λhc=>by
    rw[A8t] at hc
    have hp:=hg.ids
    rw[←List.take_append_drop i gs,Zt,List.nodup_append] at hp
    have hd:gs[i].id∈(gs.drop i).map Cd.id:=l2a.2 ⟨_,by rw[l11 h];exact List.mem_cons_self,rfl⟩
    exact hp.2.2 _ hc _ hd rfl
   rw[Ge (by omega),D3,ha.ia h,A1O,Ba (cs:=BA) rfl,B0 (cs:=BA) (vs:=gs[i].cs) (Ay (by simp)) BM rfl Jg]
   obtain⟨H1,e1,hc1,w1,k1⟩:=Ed (e:=Ai) (zs:=BA) (vs:=gs[i].cs) wf BM
   rw[←e1,Bk rfl BM.symm hc1,Be hid (YC H1)]
   have hl1:=(k1 _ _ hl).1
   have ek:∀(F:Value→Al),Mi (S gs[i].id) F=F (SV gs[i].id):= λF=>id rfl
   rw[ek,SL (f:=VJ) (b:=gE (gs.take i)) (λK=>Uz hl1),A1A hnew]
   simp only[]
   rw[CY,CX,Ba (cs:=BA) rfl]
   rw[show(Ac.zero:AV)= .agg BA from rfl,B0 (cs:=BA) (vs:=BA) (Ay (by simp)) rfl rfl rfl]
   obtain⟨H2,e2,hc2,w2,k2⟩:=Ed (e:=Ai) (zs:=BA) (vs:=BA) w1 rfl
   rw[←e2]
   have hl2:=(k2 _ _ hl1).1
   have hc3:=(k2 _ _ hc1).1
   have q1:∀{K},Go.Abs.Ak Ad .eql (S gs[i].id) (S []) K=K (Bo false):= λ{K}=>by rw[JR,decide_eq_false (A1W _)]
   simp only[gT,Ci,q1,TB]
   rw[B9,Bk rfl BM.symm hc3,ek,U9 (f:=VJ) (v:=gs[i]) hl2,B0J hnew,DS (by have:=hg.len;omega)]
   have e3:gE (gs.take i)++[(gs[i].id,gs[i])]=gE (gs.take (i+1)):=by
    rw[l04 h,gE,gE,Zt];rfl
   rw[e3]
   exact ih (i+1) _ (by omega) (by omega) ((Ef hl2).trans rfl) (BL w2)
  ·rw[Gf (by omega),B9]
   have:i=gs.length:=by omega
   subst this
   rw[l06] at hl
   exact hx H hl
abbrev gV (gs:List Cd):AV:= .imap (Nw VJ (gE gs))
theorem A1U {D:Nat} {m:ND} {u o:UD} {ca cb ra rb:List UInt8} {T P ins nds:AV} {kd id vd:Int} {r:RD} {H:Hp} (hT:Sl T) (hP:Sl P) (hI:Sl ins) (hN:Sl nds):Fx true (D+3) (.agg (DF kd m u ca cb T ra rb P id ins nds o r vd)) (.agg (DF kd m u ca cb T ra rb P id ins nds o r vd)) H false:=by
 rcases hT with rfl|⟨_,_,rfl⟩<;>rcases hP with rfl|⟨_,_,rfl⟩<;>rcases hI with rfl|⟨_,_,rfl⟩<;>rcases hN with rfl|⟨_,_,rfl⟩<;>exact λK=>by kernel_rfl
theorem A4U {D:Nat} {c:Cd} {H:Hp}:Fx true (D+3) (.agg c.cs) (.agg c.cs) H false:=by
 match c with
 | .re b u=>exact A1U (F4 _) (Lz _) (.inl rfl) (.inl rfl)
 | .co b p ps none=>exact A1U (F4 _) (Lz _) (.inr ⟨_,_,rfl⟩) (.inr ⟨_,_,rfl⟩)
 | .co b p ps (some (k,vd))=>exact A1U (F4 _) (Lz _) (.inr ⟨_,_,rfl⟩) (.inr ⟨_,_,rfl⟩)
theorem B8o {D r:Nat} {H:Hp} {es:List (List UInt8×Cd)} (h:Au H r=some (.map false (Nw VJ es) none)):Fx true (D+4) (.mp r) (.imap (Nw VJ es)) H true:=by
 intro K
 show Ks H r (λx=>B71 x λes=>Y0 (IZ true H (D+3)) es λ_ es'=>K true (.imap es'))=_
 rw[Cm h]
 show Y0 (IZ true H (D+3)) (Nw VJ es) _=_
 have e:∀(es:List (List UInt8×Cd)) (F:Bool→List (Value×AV)→Al),Y0 (IZ true H (D+3)) (Nw VJ es) F=F false (Nw VJ es):=by
  intro es
  induction es with
  |nil=>intro F;rfl
  |cons a es ih=>
   intro F
   show IZ true H (D+3) (.agg a.2.cs) (λq a'=>Y0 (IZ true H (D+3)) (Nw VJ es) λq' l'=>F (@Bool.rec (λ_=>Bool) q' true q) ((SV a.1,a')::l'))=_
   rw[A4U,ih];rfl
 rw[e]
theorem B5z (hg:GOk gs) (hL:40000<L) (ha:LA gs a) (K:KV) (hK:∀v0 H0,(∃q,Fx true depth v0 (.tup [gV gs,Bo true]) H0 q)→K v0 H0=some (.tup [gV gs,Bo true],[])):(rt (L+20) (n+64)).call Et [a] [] K=some (.tup [gV gs,Bo true],[]):=by
 rw[Wx]
 unfold Sq Ar E4 CH
 have em:∀(H:Hp) (K:KV),Mn Ac H K=K (.mp (A3 H)) ((A3 H,.map false [] none)::H):= λH K=>by
  show HM H (λs=>K (.mp s) ((s,.map false [] (A4p Ac.d))::H))=_
  rw[BW];rfl
 rw[em]
 simp only[Cl]
 have e0:(AV.v (.int .i64 0))=I ((0:Nat):Int):=rfl
 rw[ha.len,e0]
 refine C3L hg hL ha (λH hl=> ?_) (L+20) 0 _ (by omega) (by have:=hg.len;omega) (Ay (by simp)) (B3 F3)
 rw[ha.len,Ey,decide_eq_false (by have:=hg.len;omega),B9]
 exact hK _ _ ⟨_,Yb (D:=depth-1) (A0 (B8o (D:=depth-5) hl) (A0 (q:=false) E5 Bp))⟩
end
end
section
variable {L n:Nat}
def cE (c:Cd):Ce (List UInt8):=⟨decide (c.kd=1),c.ps⟩
def gr (gs:List Cd):List (List UInt8×Ce (List UInt8)):=gs.map λc=>(c.id,cE c)
theorem C1N {gs:List Cd} {s:List UInt8}:QO (gr gs) s=(QO (gE gs) s).map cE:=by
 unfold gr gE
 induction gs with
 |nil=>rfl
 |cons c gs ih=>
  simp only[ZK]
  unfold QO
  by_cases h:c.id=s
  ·simp[h]
  ·simp[h,ih]
abbrev clR (x y z:Nat):AV:= .fn (.func Ch) [] [.ptr x 0 0,.ptr y 0 0,.ptr z 0 0]
abbrev bA (v:Bool):AV:=Bo v
theorem gU {q:Bool} {y:Bool→Al}:gdV q (.v undef) y=y false:=by cases q<;>exact id rfl
structure Rl (gs:List Cd) (y m x z:Nat) (b:List (List UInt8×Bool)) (H:Hp):Prop where
 g:Au H y=some (.cells true Cj [gV gs])
 mm:Au H m=some (.map false (Nw bA b) none)
 c:Au H x=some (.cells true Jk [.mp m])
 f:Au H z=some (.cells true Il [clR x y z])
 wf:Wf H
 ne:m≠y∧m≠x∧m≠z
section
variable {gs:List Cd} {y m x z:Nat} {b:List (List UInt8×Bool)} {H H':Hp} {K:KV}
theorem Rl.up (h:Rl gs y m x z b H) (b':List (List UInt8×Bool)):Rl gs y m x z b' (upd H m (.map false (Nw bA b') none)):=
 ⟨by rw[Ap h.ne.1.symm];exact h.g,(Ef h.mm).trans rfl,by rw[Ap h.ne.2.1.symm];exact h.c,by rw[Ap h.ne.2.2.symm];exact h.f,BL h.wf,h.ne⟩
theorem Rl.kp (h:Rl gs y m x z b H) (w:Wf H') (k:∀s r,Au H s=some r→Au H' s=some r∧s≠A3 H):Rl gs y m x z b H':=
 ⟨(k _ _ h.g).1,(k _ _ h.mm).1,(k _ _ h.c).1,(k _ _ h.f).1,w,h.ne⟩
theorem B7Y {N:Nat} {s:List UInt8}:Eb (E (L+20)) (rt (L+20) N) (clR x y z) [S s] H K=(rt (L+20) N).call Ch [S s,.ptr x 0 0,.ptr y 0 0,.ptr z 0 0] H K:=by
 show WJ [S s] [.ptr x 0 0,.ptr y 0 0,.ptr z 0 0] (λas'=>WJ [] as' λall=>B7A ((E (L+20)).ne Ch) all H K (@Bool.rec (λ_=>Al) (Ah (rt (L+20) N) Ch all H λv=>K v H) ((rt (L+20) N).call Ch all H K) ((E (L+20)).imp Ch)))=_
 rw[N6,N6,show(E (L+20)).ne Ch=false from rfl,show(E (L+20)).imp Ch=true from rfl]
 rfl
def RlC (L N n:Nat) (gs:List Cd) (y m x z:Nat):Prop:=∀(s:List UInt8) (b b':List (List UInt8×Bool)) (v:Bool) (H:Hp),Rl gs y m x z b H→dfs (gr gs) N s b=some (v,b')→
 ∃H',Rl gs y m x z b' H'∧∀K:KV,(rt (L+20) (n+N)).call Ch [S s,.ptr x 0 0,.ptr y 0 0,.ptr z 0 0] H K=K (Bo v) H'
theorem C3y {N:Nat} {a0 a1:AV} {ps:List (List UInt8)} {v:Bool} {b':List (List UInt8×Bool)} (hb:ps.length<100) (hc:RlC L N n gs y m x z):
 ∀(f i:Nat) (good:Bool) (b:List (List UInt8×Bool)) (H:Hp),i≤ps.length→ps.length-i<f→Rl gs y m x z b H→A6S (dfs (gr gs) N) (ps.drop i) good b=some (v,b')→
 ∃H',Rl gs y m x z b' H'∧∀(K:KV) (k50:AV→AV→AV→Hp→Al),Ds (L+20) (rt (L+20) (n+N)) K k50 f a0 a1 (.ptr z 0 0) (Bo good) (Ec ps) (I ps.length) (I i) H=k50 a0 a1 (Bo v) H':=by
 intro f
 induction f with
 |zero=>intro i good b H _ h;omega
 |succ f ih=>
  intro i good b H hi hf hr hd
  by_cases h:i<ps.length
  ·have hps:Ec ps=Ls ps:=T6 (by omega)
   rw[l11 h] at hd
   unfold A6S at hd
   cases good with
   |false=>
    obtain⟨H2,hr2,h2⟩:=ih (i+1) false b H (by omega) (by omega) hr hd
    refine⟨H2,hr2,λK k50=> ?_⟩
    rw[FL]
    unfold Dt AU Ar CH
    rw[Ge (by omega),D3,hps,PA h,ET,←hps]
    simp only[gTF,Ci,TB]
    rw[DS (by omega)]
    exact h2 K k50
   |true=>
    simp only[if_true] at hd
    cases hq:dfs (gr gs) N ps[i] b with
    |none=>rw[hq] at hd;cases hd
    |some p=>
     obtain⟨w,b2⟩:=p
     rw[hq] at hd
     obtain⟨H2,hr2,hc2⟩:=hc ps[i] b b2 w H hr hq
     have lf:∀{K},Aq Aa (.ptr z 0 0) H K=K (clR x y z):= λ{K}=>AQ (p:=0) rfl hr.f (show 0<1 by decide)
     obtain⟨H3,hr3,h3⟩:=ih (i+1) w b2 H2 (by omega) (by omega) hr2 hd
     refine⟨H3,hr3,λK k50=> ?_⟩
     rw[FL]
     unfold Dt AU Ar CH
     rw[Ge (by omega),D3,hps,PA h,ET,←hps]
     simp only[gT,Ci,lf,B7Y,hc2,Vu]
     rw[DS (by omega)]
     exact h3 K k50
  ·have:i=ps.length:=by omega
   subst this
   rw[List.drop_length] at hd
   cases hd
   refine⟨H,hr,λK k50=> ?_⟩
   rw[FL]
   unfold Dt AU Ar CH
   rw[Gf (by omega),B9]
theorem C51 {c:Cd} {r:Nat} (h:Au H r=some (B8t c)) {K:AV→Al}:Aq Ab (.ptr r 0 0) H K=K (I c.kd):=by
 match c with
 | .re b u=>exact AQ (p:=0) rfl h (show 0<68 by decide)
 | .co b p ps none=>exact AQ (p:=0) rfl h (show 0<68 by decide)
 | .co b p ps (some (k,vd))=>exact AQ (p:=0) rfl h (show 0<68 by decide)
theorem B4H {c:Cd} {r:Nat} (h:Au H r=some (B8t c)) {K:AV→Al}:Aq Ae (.ptr r 31 0) H K=K (Ec c.ps):=by
 match c with
 | .re b u=>exact AQ (p:=31) rfl h (show 31<68 by decide)
 | .co b p ps none=>exact AQ (p:=31) rfl h (show 31<68 by decide)
 | .co b p ps (some (k,vd))=>exact AQ (p:=31) rfl h (show 31<68 by decide)
theorem C1O {gs:List Cd} {s:List UInt8} {c:Cd} (h:QO (gE gs) s=some c):c∈gs∧c.id=s:=by
 have:=ZO h
 obtain⟨c',h1,h2⟩:=l2a.1 this
 cases h2
 exact⟨h1,rfl⟩
theorem B6r (hL:100<L) (hps:∀c∈gs,c.ps.length<100):∀N,RlC L N n gs y m x z:=by
 intro N
 induction N with
 |zero=>intro s b b' v H _ h;cases h
 |succ N ihN=>
  intro s b b' v H hr hd
  have lc:∀{K},Aq Cs (.ptr x 0 0) H K=K (.mp m):= λ{K}=>AQ (p:=0) rfl hr.c (show 0<1 by decide)
  have ek:∀(F:Value→Al),Mi (S s) F=F (SV s):= λF=>id rfl
  unfold dfs at hd
  cases hf:QO b s with
  |some w=>
   rw[hf] at hd
   cases hd
   refine⟨H,hr,λK=> ?_⟩
   rw[←Xk,Ix]
   unfold FC AU Bw Ar E4 CH
   rw[lc,ek,SL (f:=bA) (b:=b) (λK=>Uz hr.mm),hf]
   simp only[]
   rw[CY,CX,D3]
  |none=>
   rw[hf] at hd
   simp only[] at hd
   have hr1:=hr.up (HL b s false)
   have up1:∀{F:Hp→Al},UQ (.mp m) (SV s) (.v (.bool false)) H F=F (upd H m (.map false (Nw bA (HL b s false)) none)):= λ{F}=>U9 (f:=bA) (v:=false) hr.mm
   generalize upd H m (.map false (Nw bA (HL b s false)) none)=H1 at hr1 up1
   have lg:∀{K},Aq AX (.ptr y 0 0) H1 K=K (gV gs):= λ{K}=>AQ (p:=0) rfl hr1.g (show 0<1 by decide)
   have f0:∀{s j:Nat} {K:AV→Al},AL j (.ptr s 0 0) K=K (.ptr s j 0):= λ{s j K}=>by rw[fA,K1]
   rw[C1N] at hd
   cases hg:QO (gE gs) s with
   |none=>
    rw[hg] at hd
    cases hd
    obtain⟨H2,e2,hc2,w2,k2⟩:=Ed (e:=Ai) (zs:=BA) (vs:=BA) hr1.wf rfl
    have hr2:=hr1.kp w2 k2
    refine⟨_,hr2.up _,λK=> ?_⟩
    rw[←Xk,Ix]
    unfold FC AU Bw Ar E4 CH
    rw[lc,ek,SL (f:=bA) (b:=b) (λK=>Uz hr.mm),hf]
    simp only[]
    rw[CY,CX,B9,lc,ek,up1,lg,ek,SL (f:=VJ) (b:=gE gs) (λK=>id rfl),hg]
    simp only[]
    rw[CY,CX,Ba (cs:=BA) rfl,show(Ac.zero:AV)= .agg BA from rfl,B0 (cs:=BA) (vs:=BA) (Ay (by simp)) rfl rfl rfl,←e2]
    have lp:∀{K},Aq Ae (.ptr (A3 H1) 31 0) H2 K=K AM:= λ{K}=>AQ (p:=31) rfl hc2 (show 31<68 by decide)
    have ln:∀{K:AV→Al},AN Ae AM K=K (I 0):=id rfl
    simp only[gTF,gU,Ci,TB,Cl,f0,lp,ln]
    have e5:∀(k:AV→AV→AV→Hp→Al),Ds (L+20) (rt (L+20) (n+N)) K k (L+20)=Dt (L+20) (rt (L+20) (n+N)) K k (Ds (L+20) (rt (L+20) (n+N)) K k (L+19)):= λk=>FL _ _ _ _ _
    rw[e5]
    unfold Dt AU Ar CH
    have lc2:∀{K},Aq Cs (.ptr x 0 0) H2 K=K (.mp m):= λ{K}=>AQ (p:=0) rfl hr2.c (show 0<1 by decide)
    rw[Gf (by omega),B9]
    show Aq Cs (.ptr x 0 0) H2 _=_
    rw[lc2,ek,U9 (f:=bA) (v:=false) hr2.mm]
   |some c=>
    rw[hg] at hd
    obtain⟨hcm,hcid⟩:=C1O hg
    simp only[l0x] at hd
    obtain⟨H2,e2,hc2,w2,k2⟩:=Ed (e:=Ai) (zs:=BA) (vs:=c.cs) hr1.wf BM
    have hr2:=hr1.kp w2 k2
    cases hq:A6S (dfs (gr gs) N) (cE c).ps ((cE c).real|| !(cE c).ps.isEmpty) (HL b s false) with
    |none=>rw[hq] at hd;cases hd
    |some p=>
     obtain⟨w,b2⟩:=p
     rw[hq] at hd
     cases hd
     obtain⟨H3,hr3,h3⟩:=C3y (L:=L) (n:=n) (N:=N) (a0:=S s) (a1:= .ptr x 0 0) (ps:=c.ps) (hps c hcm) ihN (L+20) 0 _ _ H2 (by omega) (by have:=hps c hcm;omega) hr2 (by rw[l1n];exact hq)
     refine⟨_,hr3.up _,λK=> ?_⟩
     rw[←Xk,Ix]
     unfold FC AU Bw Ar E4 CH
     rw[lc,ek,SL (f:=bA) (b:=b) (λK=>Uz hr.mm),hf]
     simp only[]
     rw[CY,CX,B9,lc,ek,up1,lg,ek,SL (f:=VJ) (b:=gE gs) (λK=>id rfl),hg]
     simp only[]
     rw[CY,CX,Ba (cs:=BA) rfl,B0 (cs:=BA) (vs:=c.cs) (Ay (by simp)) BM rfl Jg,←e2]
     have lp:∀{K},Aq Ae (.ptr (A3 H1) 31 0) H2 K=K (Ec c.ps):= λ{K}=>B4H hc2
     have lk:∀{K},Aq Ab (.ptr (A3 H1) 0 0) H2 K=K (I c.kd):= λ{K}=>C51 hc2
     have e1:∀{K},Go.Abs.Ak Ab .eql (I c.kd) (.v (.int .i64 1)) K=K (Bo (decide (c.kd=1))):= λ{K}=>by rw[Dy]
     have g0:∀{K},Go.Abs.Ak Ab .gtr (I (c.ps.length:Int)) (.v (.int .i64 0)) K=K (Bo (!c.ps.isEmpty)):= λ{K}=>by
      rw[Ey]
      cases hp:c.ps<;>simp
     have lc3:∀{K},Aq Cs (.ptr x 0 0) H3 K=K (.mp m):= λ{K}=>AQ (p:=0) rfl hr3.c (show 0<1 by decide)
     simp only[gT,Ci,f0,lk,e1]
     have fin:∀good:Bool,((cE c).real|| !(cE c).ps.isEmpty)=good→(Ds (L+20) (rt (L+20) (n+N)) K (λv51 v52 v53 H54=>Aq Cs v52 H54 λv43=>Mi v51 λq44=>UQ v43 q44 v53 H54 λH45=>K v53 H45) (L+20) (S s) (.ptr x 0 0) (.ptr z 0 0) (Bo good) (Ec c.ps) (I c.ps.length) (I ((0:Nat):Int)) H2)=K (Bo v) (upd H3 m (.map false (Nw bA (HL b2 s v)) none)):= λgood hgd=>by
      rw[←hgd,h3]
      rw[lc3,ek,U9 (f:=bA) (v:=v) hr3.mm]
     by_cases hk:c.kd=1
     ·simp only[hk,decide_true,gFT,Ci,Vu,Cl,f0,lp,Ua]
      exact fin true (by simp[cE,hk])
     ·simp only[hk,decide_false,gT,Ci,TB,Vu,Cl,f0,lp,Ua,g0]
      exact fin _ (by simp[cE,hk])
theorem A7w {a:AV} {s:List UInt8} (hg:GOk gs) (hL:40000<L) (hp:∀c∈gs,c.ps.length<100) (ha:LA gs a):CS (rt (L+20) (n+80)) Fs [a,S s] (Bo (rz (gr gs) gs.length s)):=by
 intro K hK
 rw[Vz]
 unfold MC
 have hfx:PH true depth [a] [a] [] false:=by rcases ha with rfl|⟨_,rfl⟩<;>exact λK=>by kernel_rfl
 have of:∀{K:AV→Al},Ah (rt (L+20) (n+79)) Et [a] [] K=K (.tup [gV gs,Bo true]):= λ{K}=>HP (λK hK=>B5z (n:=n+15) hg hL ha K hK) hfx
 rw[of,CY,CX]
 have hr:Rl gs 0 1 2 3 [] [(3,.cells true Il [clR 2 0 3]),(2,.cells true Jk [.mp 1]),(1,.map false [] none),(0,.cells true Cj [gV gs])]:=
  ⟨rfl,rfl,rfl,rfl,λk hk=>by simp at hk;show k<4;omega,by decide⟩
 have go:Eb (E (L+20)) (rt (L+20) (n+79)) (clR 2 0 3) [S s] [(3,.cells true Il [clR 2 0 3]),(2,.cells true Jk [.mp 1]),(1,.map false [] none),(0,.cells true Cj [gV gs])] K=some (Bo (rz (gr gs) gs.length s),[]):=by
  rw[B7Y]
  have hlen:(gr gs).length=gs.length:=by simp[gr]
  obtain⟨b',hd⟩:=B7H (g:=gr gs) s
  rw[hlen] at hd
  obtain⟨H',_,h⟩:=B6r (L:=L) (n:=n+77-gs.length) (by omega) hp (gs.length+2) s [] b' _ _ hr hd
  have e:n+79=n+77-gs.length+(gs.length+2):=by have:=hg.len;omega
  rw[e,h]
  exact hK _ _ (λb=>⟨false,λK=>by kernel_rfl⟩)
 exact go
end
end
end Go.Abs
end
noncomputable section
end
noncomputable section
namespace Go.Abs
open Go.RowKit Go.Proofs
set_option maxRecDepth 100000
section
variable {L n:Nat}
def SA (l:List (List UInt8)) (a:AV):Prop:=a=Ls l∨(l=[]∧a=AM)
theorem Gx (l:List (List UInt8)):SA l (Ec l):=by cases l with|nil=>exact .inr ⟨rfl,rfl⟩|cons p l=>exact .inl rfl
section
variable {l:List (List UInt8)} {a:AV} {i:Nat} {K:AV→Al} {s:List UInt8}
theorem SA.len (h:SA l a):AN Ae a K=K (I l.length):=by
 rcases h with rfl|⟨rfl,rfl⟩
 ·exact Np
 ·exact id rfl
theorem SA.ia (h:SA l a) (hi:i<l.length):Bv Ae a (I i) K=K (.iptr [S l[i]]):=by
 rcases h with rfl|⟨rfl,rfl⟩
 ·exact PA hi
 ·simp at hi
theorem SA.fx (h:SA l a) (H:Hp):Fx true depth a a H false:=by
 rcases h with rfl|⟨rfl,rfl⟩<;>exact λK=>by kernel_rfl
def XY (s:List UInt8):List (List UInt8)→Nat→AV
 |[],_=> .tup [Bo false,I (-1)]
 |a::l,i=>if a=s then .tup [Bo true,I i] else XY s l (i+1)
theorem WE:∀(l:List (List UInt8)) (i:Nat),s∉l→XY s l i= .tup [Bo false,I (-1)]:=by
 intro l
 induction l with
 |nil=>intro i _;rfl
 |cons a l ih=>
  intro i h
  simp only[Xi,not_or] at h
  unfold XY
  rw[if_neg (Ne.symm h.1)]
  exact ih _ h.2
theorem WD:∀(l:List (List UInt8)) (i:Nat),s∈l→∃k,∃h:k<l.length,l[k]=s∧(∀m (hm:m<k),l[m]≠s)∧XY s l i= .tup [Bo true,I ((i+k:Nat):Int)]:=by
 intro l
 induction l with
 |nil=>intro i h;cases h
 |cons a l ih=>
  intro i h
  unfold XY
  by_cases e:a=s
  ·exact⟨0,by simp,e,λm hm=>by omega,by rw[if_pos e];rfl⟩
  ·obtain⟨k,hk,h1,h2,h3⟩:=ih (i+1) ((Xi.1 h).resolve_left (Ne.symm e))
   refine⟨k+1,by simp;omega,by simpa using h1,λm hm=> ?_,by rw[if_neg e,h3];congr 4;omega⟩
   cases m with
   |zero=>exact e
   |succ m=>exact h2 m (by omega)
end
section
variable {K:KV} {x:Al} {l:List (List UInt8)} {a:AV} {s:List UInt8} {gs:List Cd}
theorem C1E {k3:Hp→Al} {H:Hp} (ha:SA l a) (hb:l.length<1000) {v:AV} (hv:K v H=x) (hk:v= .tup [Bo false,I (-1)]→k3 H=x):∀(f i:Nat),i≤l.length→l.length-i<f→XY s (l.drop i) i=v→
 Ol (L+20) (rt (L+20) n) K k3 f a (S s) (I i) H=x:=by
 intro f
 induction f with
 |zero=>intro i _ h;omega
 |succ f ih=>
  intro i hi hf hd
  rw[A0v]
  unfold RR Ar E4
  rw[ha.len]
  by_cases h:i<l.length
  ·rw[l11 h] at hd
   unfold XY at hd
   rw[Ge (by omega),D3,ha.ia h,ET,JR]
   by_cases e:l[i]=s
   ·rw[if_pos e] at hd
    rw[decide_eq_true e,D3,hd]
    exact hv
   ·rw[if_neg e] at hd
    rw[decide_eq_false e,B9,DS (by omega)]
    exact ih (i+1) (by omega) (by omega) hd
  ·rw[Gf (by omega),B9]
   have:i=l.length:=by omega
   subst this
   rw[List.drop_length] at hd
   exact hk hd.symm
theorem B84 (ha:SA l a) (hb:l.length<1000) (hL:2000<L):CS (rt (L+20) (n+1)) N9 [a,S s] (XY s l 0):=by
 intro K hK
 have fin:∀H,K (XY s l 0) H=some (XY s l 0,[]):= λH=>hK _ _ (λb=>⟨false,by
  by_cases h:s∈l
  ·obtain⟨k,_,_,_,e⟩:=WD l 0 h
   rw[e];exact λK=>by kernel_rfl
  ·rw[WE l 0 h];exact λK=>by kernel_rfl⟩)
 rw[A2x]
 unfold TJ Ar CH
 simp only[Cl]
 have e0:(AV.v (.int .i64 0))=I ((0:Nat):Int):=rfl
 rw[e0]
 refine C1E ha hb (fin []) (λe=> ?_) (L+20) 0 (by omega) (by omega) (by rw[l1n])
 have:=fin []
 rw[e] at this
 rw[e]
 exact this
theorem C1C {k4:AV→Hp→Al} (hg:∀c∈gs,c.Ok∧c.ps.Nodup) (hb:gs.length<100) (hL:40000<L) (ha:LA gs a)
 (hx:∀v H,B1 H AI 1 v gs.length (B5 (gs.map Cd.id))→(gs=[]→v=AM)→k4 v H=x):∀(f i:Nat) (v:AV) (H:Hp),i≤gs.length→gs.length-i<f→B1 H AI 1 v (gs.take i).length (B5 ((gs.take i).map Cd.id))→(gs.take i=[]→v=AM)→Wf H→
 Oj (L+20) (rt (L+20) (n+64)) K k4 f a v (I i) H=x:=by
 intro f
 induction f with
 |zero=>intro i v H _ h;omega
 |succ f ih=>
  intro i v H hi hf hs h0 w
  rw[A0u]
  unfold RQ Ar
  rw[ha.len]
  by_cases h:i<gs.length
  ·obtain⟨h1,h2⟩:=hg _ (Ow h)
   have e1:(gs.take i).length=((gs.take i).map Cd.id).length:=by simp
   rw[e1] at hs
   obtain⟨v',H',h3,h4,h5,h6, -⟩:=B4S gs[i].id hs w (by simp;omega)
   rw[Ge (by omega),D3,ha.ia h,A1O,Be (A8U (n:=n) hL h1 h2) (YC H),h3,DS (by omega)]
   have e2:(gs.take i).map Cd.id++[gs[i].id]=(gs.take (i+1)).map Cd.id:=by rw[l04 h,Zt];rfl
   rw[e2] at h4
   exact ih (i+1) v' H' (by omega) (by omega) (by rw[l1u] at h4;exact h4) (λe=>by have:=congrArg List.length e;rw[l0g,Od] at this;omega) h5
  ·rw[Gf (by omega),B9]
   have:i=gs.length:=by omega
   subst this
   rw[l06] at hs h0
   exact hx v H hs h0
theorem B3c (hg:∀c∈gs,c.Ok∧c.ps.Nodup) (hb:gs.length<100) (hL:40000<L) (ha:LA gs a):CS (rt (L+20) (n+65)) Ie [a] (Ec (gs.map Cd.id)):=by
 intro K hK
 rw[A2w]
 unfold TH Ar
 simp only[Cl]
 have e0:(AV.v (.int .i64 0))=I ((0:Nat):Int):=rfl
 rw[e0]
 refine C1C hg hb hL ha (λv H hs h0=> ?_) (L+20) 0 _ [] (by omega) (by omega) (.inl ⟨rfl,rfl,rfl⟩) (λ_=>rfl) F3
 refine hK _ _ (λb=> ?_)
 by_cases hn:gs=[]
 ·subst hn
  rw[h0 rfl]
  exact⟨false,E5⟩
 ·have hl:(gs.map Cd.id)≠[]:=by simpa using hn
  have e:Ec (gs.map Cd.id)= .list gs.length (B5 (gs.map Cd.id)):=by rw[T6 (by cases hq:gs.map Cd.id with|nil=>exact absurd hq hl|cons _ _=>simp),Ls];simp
  rw[e]
  exact⟨true,A1z hs (by cases gs with|nil=>exact absurd rfl hn|cons _ _=>simp) (λs=>Value.string ⟨⟨s⟩⟩) (gs.map Cd.id) rfl⟩
theorem B1i {t:TI} {e w m i:Nat} {cs:List AV} {K:AV→Al} (hd:t.d= .slice e w) (h:i≤m):El t (.list m cs) none (some (I (i:Int))) none K=K (.list i (cs.take (i*w))):=by
 obtain⟨s,b,d,z⟩:=t
 simp only at hd
 subst hd
 have e1:El ⟨s,b,.slice e w,z⟩ (.list m cs) none (some (I (i:Int))) none K=R7 none 0 λl=>iN (i:Int) λh=>fN m λx=>ck ((true||true)&&(Nat.ble l h&&(Nat.ble h x&&Nat.ble x m))) (fN (Nat.sub h l) λn=>Po (Nat.mul n w) (Dg (Nat.mul l w) cs) λc=>K (.list n c)):=rfl
 have e2:∀F:Nat→Al,R7 none 0 F=F 0:= λF=>rfl
 rw[e1,e2,J6,DL]
 have c:((true||true)&&(Nat.ble 0 i&&(Nat.ble i m&&Nat.ble m m)))=true:=by simp only[Bool.true_or,l16,Jp,XS];omega
 rw[c]
 show fN (Nat.sub i 0) (λn=>Po (Nat.mul n w) (Dg (Nat.mul 0 w) cs) λc=>K (.list n c))=_
 rw[DL,Kt,Ct]
 show K (.list (i-0) ((cs.drop (0*w)).take ((i-0)*w)))=_
 rw[Nat.zero_mul,Nat.sub_zero,l1n]
end
end
section
variable {L n:Nat}
def CT (R:Rt) (f:Nat) (args:List AV) (v:AV):Prop:=∀K:KV,(∀v0 H0,(∃q,Fx true depth v0 v H0 q)→K v0 H0=some (v,[]))→R.call f args [] K=some (v,[])
theorem CT.z {R:Rt} {f:Nat} {args args':List AV} {v:AV} {H:Hp} {K:AV→Al} (hc:CT R f args' v) (ha:PH true depth args args' H false):Ah R f args H K=K v:=HP hc ha
def pk (c n:Int):Int:=(if c<0 then-(c+1) else c)%n
theorem ED {c n:Int} (h:0<n):0≤pk c n∧pk c n<n:=⟨Int.emod_nonneg _ (by omega),Int.emod_lt_of_pos _ h⟩
section
variable {K:KV} {x:Al} {a b:AV} {s:List UInt8} {gs:List Cd} {H:Hp}
theorem LA.fx (h:LA gs a) (H:Hp):Fx true depth a a H false:=by rcases h with rfl|⟨_,rfl⟩<;>exact λK=>by kernel_rfl
theorem B7w {gs:List Cd} {s:List UInt8}:(∃h:s∈gs.map Cd.id,∃k,∃hk:k<gs.length,QO (gE gs) s=some gs[k]∧XY s (gs.map Cd.id) 0= .tup [Bo true,I (k:Int)])∨(s∉gs.map Cd.id∧QO (gE gs) s=none∧XY s (gs.map Cd.id) 0= .tup [Bo false,I (-1)]):=by
 by_cases h:s∈gs.map Cd.id
 ·left
  obtain⟨k,hk,h1,h2,h3⟩:=WD _ 0 h
  refine⟨h,k,by simpa using hk,?_,by rw[h3,K1]⟩
  clear h h3
  induction gs generalizing k with
  |nil=>simp at hk
  |cons c gs ih=>
   show QO ((c.id,c)::gE gs) s=_
   unfold QO
   cases k with
   |zero=>simp at h1;rw[if_pos h1];rfl
   |succ k=>
    have h0:=h2 0 (by omega)
    simp at h0
    rw[if_neg h0]
    exact ih k (by simpa using hk) (by simpa using h1) (λm hm=>by simpa using h2 (m+1) (by omega))
 ·exact .inr ⟨h,A1A (by rw[A8t];exact h),WE _ 0 h⟩
theorem B1c {z:Int} {K:AV→Al} (h1: -9223372036854775808<z) (h2:z<9223372036854775808):F2 .neg (I z) K=K (I (-z)):=by
 have e:F2 .neg (I z) K=LF .i64 (0-z) λz=>K (.v (.int .i64 z)):=rfl
 rw[e,G9,Int.zero_sub,Ca (by omega) (by omega)]
end
def JU (z:Int):Prop:= -9223372036854775808≤z∧z<9223372036854775808
section
variable {c m:Int}
theorem A0O {K:AV→Al} (hc:JU c) (hm:0<m) (hm2:m<9223372036854775808) {k1:AV→Al} (hk:k1= λv=>Go.Abs.Ak Ab .rem v (I m) K):
 (Go.Abs.Ak Ab .lss (I c) (.v (.int .i64 0)) λv5=>As v5 (Go.Abs.Ak Ab .add (I c) (.v (.int .i64 1)) λv6=>F2 .neg v6 λv7=>k1 v7) (k1 (I c)))=K (I (pk c m)):=by
 subst hk
 obtain⟨h1,h2⟩:=hc
 rw[Dx]
 by_cases h:c<0
 ·rw[decide_eq_true h,D3,Cv,Ca (by omega) (by omega),B1c (by omega) (by omega)]
  show Go.Abs.Ak Ab .rem (I (-(c+1))) (I m) K=_
  rw[Ud (by omega),Int.tmod_eq_emod_of_nonneg (by omega)]
  unfold pk;rw[if_pos h]
 ·rw[decide_eq_false h,B9]
  show Go.Abs.Ak Ab .rem (I c) (I m) K=_
  rw[Ud (by omega),Int.tmod_eq_emod_of_nonneg (by omega)]
  unfold pk;rw[if_neg h]
theorem B3p (hc:JU c) (hm:0<m) (hm2:m<9223372036854775808):PS (rt (L+20) (n+1)) O1 [I c,I m] (I (pk c m)):=by
 refine CS.ps (λK hK=> ?_) (λH=> λK=>by kernel_rfl)
 rw[A18]
 unfold Sn Ar
 simp only[Cl]
 exact(A0O (K:= λv=>K v []) hc hm hm2 rfl).trans (hK _ _ (λb=>⟨false,λK=>by kernel_rfl⟩))
theorem A62 (hc:JU c) (hm:0<m) (hm2:m<9223372036854775808):PS (rt (L+20) (n+1)) JO [I c,I m] (I (pk c m)):=by
 refine CS.ps (λK hK=> ?_) (λH=> λK=>by kernel_rfl)
 rw[A0T]
 unfold RX Ar
 simp only[Cl]
 exact(A0O (K:= λv=>K v []) hc hm hm2 rfl).trans (hK _ _ (λb=>⟨false,λK=>by kernel_rfl⟩))
theorem Kl (hc:JU c) (hm:0<m) (hm2:m<9223372036854775808):PS (rt (L+20) (n+1)) Bx [I c,I m] (I (pk c m)):=by
 refine CS.ps (λK hK=> ?_) (λH=> λK=>by kernel_rfl)
 rw[A0V]
 unfold RZ Ar
 simp only[Cl]
 exact(A0O (K:= λv=>K v []) hc hm hm2 rfl).trans (hK _ _ (λb=>⟨false,λK=>by kernel_rfl⟩))
theorem A0P (hc:JU c) (hm:0<m) (hm2:m<9223372036854775808):PS (rt (L+20) (n+1)) Hn [I c,I m] (I (pk c m)):=by
 refine CS.ps (λK hK=> ?_) (λH=> λK=>by kernel_rfl)
 rw[A11]
 unfold Si Ar
 simp only[Cl]
 exact(A0O (K:= λv=>K v []) hc hm hm2 rfl).trans (hK _ _ (λb=>⟨false,λK=>by kernel_rfl⟩))
theorem Km (hc:JU c) (hm:0<m) (hm2:m<9223372036854775808):PS (rt (L+20) (n+1)) BI [I c,I m] (I (pk c m)):=by
 refine CS.ps (λK hK=> ?_) (λH=> λK=>by kernel_rfl)
 rw[A0Y]
 unfold Se Ar
 simp only[Cl]
 exact(A0O (K:= λv=>K v []) hc hm hm2 rfl).trans (hK _ _ (λb=>⟨false,λK=>by kernel_rfl⟩))
end
section
variable {K:KV} {x:Al} {a:AV} {s:List UInt8} {gs:List Cd} {H:Hp}
def NA (ws:List Int) (w:AV):Prop:=(w= .list ws.length (Ev ws)∨(ws=[]∧w=AM))∧ws.length<9223372036854775808∧∀z∈ws,JU z
theorem NA.len {ws:List Int} {w:AV} {K:AV→Al} (h:NA ws w):AN Af w K=K (I ws.length):=by
 rcases h.1 with rfl|⟨rfl,rfl⟩<;>exact id rfl
theorem NA.ia {ws:List Int} {w:AV} {K:AV→Al} {i:Nat} (h:NA ws w) (hi:i<ws.length) (hb:i<1000000):(Bv Af w (I i) λp=>Aq Ab p H K)=K (I ws[i]):=by
 rcases h.1 with rfl|⟨rfl,rfl⟩
 ·have el:(Ev ws).length=ws.length:=by simp[Ev]
  rw[Ub rfl el (by omega) (by omega),Xj,QG rfl,Pm hi]
 ·simp at hi
end
end
section
variable {L n:Nat}
section
variable {c:Int}
theorem B87 {k m:Int} (h0:0≤k) (h1:k<m):pk k m=k:=by
 unfold pk
 rw[if_neg (by omega),Int.emod_eq_of_lt h0 h1]
theorem B2O:((List.range 7).all λi=>HN (AW (C4 (rt (L+20) (n+42)) EO [I (i:Nat)]) (.agg (uu i).cs)))=true:=by kernel_rfl
theorem A7Y (hc:JU c):PS (rt (L+20) (n+42)) EO [I c] (.agg (Cb (uu (pk c 7).toNat))):=by
 have pr:=ED (c:=c) (n:=7) (by decide)
 obtain⟨k,hk⟩:∃k:Nat,pk c 7=k:=⟨(pk c 7).toNat,by omega⟩
 have hk7:k<7:=by omega
 refine Bu (λH K=>by kernel_rfl) ?_
 have e:C4 (rt (L+20) (n+42)) EO [I c]=C4 (rt (L+20) (n+42)) EO [I (k:Nat)]:=by
  unfold C4
  rw[TM,TM]
  unfold Sf Ar
  have h1:∀H K,Ah (rt (L+20) (n+41)) BI [I c,.v (.int .i64 7)] H K=K (I (pk c 7)):=Km (n:=n+40) hc (by decide) (by decide)
  have h2:∀H K,Ah (rt (L+20) (n+41)) BI [I (k:Int),.v (.int .i64 7)] H K=K (I (pk k 7)):=Km (n:=n+40) (by unfold JU;omega) (by decide) (by decide)
  simp only[h1,h2,hk,B87 (k:=(k:Int)) (m:=7) (by omega) (by omega)]
 rw[e,hk,Xj]
 exact Hv.1 B2O k (IL.2 hk7)
theorem B31:((List.range 3).all λi=>HN (AW (C4 (rt (L+20) (n+2)) I0 [I (i:Nat)]) (.agg (rr (1+i)).cs)))=true:=by kernel_rfl
theorem B6F (hc:JU c):PS (rt (L+20) (n+2)) I0 [I c] (.agg (rr (1+(pk c 3).toNat)).cs):=by
 have pr:=ED (c:=c) (n:=3) (by decide)
 obtain⟨k,hk⟩:∃k:Nat,pk c 3=k:=⟨(pk c 3).toNat,by omega⟩
 have hk7:k<3:=by omega
 refine Bu (λH K=>by kernel_rfl) ?_
 have e:C4 (rt (L+20) (n+2)) I0 [I c]=C4 (rt (L+20) (n+2)) I0 [I (k:Nat)]:=by
  unfold C4
  rw[TK,TK]
  unfold Sb Ar
  have h1:∀H K,Ah (rt (L+20) (n+1)) Bx [I c,.v (.int .i64 3)] H K=K (I (pk c 3)):=Kl (n:=n) hc (by decide) (by decide)
  have h2:∀H K,Ah (rt (L+20) (n+1)) Bx [I (k:Int),.v (.int .i64 3)] H K=K (I (pk k 3)):=Kl (n:=n) (by unfold JU;omega) (by decide) (by decide)
  simp only[h1,h2,hk,B87 (k:=(k:Int)) (m:=3) (by omega) (by omega)]
 rw[e,hk,Xj]
 exact Hv.1 B31 k (IL.2 hk7)
def A2r (c:Int):List UInt8:=sha (GS [c])
theorem A0K (hL:40000<L) (h1: -10≤c) (h2:c<1090):PS (rt (L+20) (n+20)) FD [I c] (S (A2r c)):=by
 refine CS.ps (λK hK=> ?_) (λH=> λK=>by kernel_rfl)
 rw[XJ]
 unfold OZ
 have hl:=Ek [c]
 have fx:PH true depth [.sl 1 (A3 []) 0 1] [.list 1 (Ev [c])] ((A3 [],.cells false CV (Ev [c]))::[]) true:=
  A0 (q:=true) (q':=false) (UZ (D:=depth-1) (q':=false) (Ay (by simp)) rfl (Kb (λz:Int=>Value.int .i64 z) [c])) Bp
 rw[UA,Be (A37 (L:=L) (n:=n+14) (l:=[c]) (by simp) (by simp;omega) (by simp;omega)) fx,Be (B81 (L:=L+20) (n:=n+16) (s:=GS [c]) (by simp only[Lf,Od] at hl;omega) (by simp only[Lf,Od] at hl;omega)) (q:=false) (λK=>by kernel_rfl)]
 exact hK _ _ (λb=>⟨false,λK=>by kernel_rfl⟩)
end
end
section
variable {L n:Nat}
theorem A6Z {e sz n:Nat} {ie i2:TI} {H:Hp} {v:AV} {cs ys:List AV} (h:B1 H e sz v n cs) (w:Wf H) (hl:ys.length=sz) (h1:ys.all AV.one=true) (hsz:sz≠0) (hz:(B6 ie.zero).length=sz)
 (ht:∀s,(A5G i2.d&&Wc sz (.sl sz s 0 1))=true) (hb:(n+1)*ie.bytes≤70368744177664) (hb2:n+1≤70368744177664):
 ∃v' H',(∀K:KV,Ea e sz ie i2 v (.sl sz (A3 H) 0 1) ((A3 H,.cells false e ys)::H) K=K v' H')∧B1 H' e sz v' (n+1) (cs++ys)∧Wf H'∧A3 H≤A3 H'∧(∀s x,Au H s=some x→¬Bb v s→Au H' s=some x)∧(∀s,Bb v' s→A3 H≤s):=by
 have hv1:B1 ((A3 H,.cells false e ys)::H) e sz v n cs:=h.lat w (Lat.cons H _ (λ_=>False)) (λ_ _ h=>h)
 have hsrc:B1 ((A3 H,.cells false e ys)::H) e sz (.sl sz (A3 H) 0 1) 1 ys:= .inr ⟨A3 H,false,rfl,Ay (by simp),by omega⟩
 obtain⟨v',H',h1,h2,h3,h4⟩:=apt (ie:=ie) (i2:=i2) hv1 (λK=>SK (K:=K) hsrc) (by omega) h1 hsz hz (ht _) hb hb2
 have h5:=(Lat.cons H (.cells false e ys) (Bb v)).trans h4 (R:=Bb v) (λ_ _ h=>h) (λ_ _ h=>h)
 refine⟨v',H',h1,h2,h5.wf w,h5.nx,λs x hs hn=>h5.keep w s x hs hn,λs hs=> ?_⟩
 rw[h3 s hs];exact l1p _
theorem C6E {e sz n:Nat} {ie i2:TI} {H:Hp} {v x:AV} {cs ys:List AV} (hbs:∀K:KV,Ft e sz ie 1 [(0,sz,x)] H K=K (.sl sz (A3 H) 0 1) ((A3 H,.cells false e ys)::H)) (h:B1 H e sz v n cs) (w:Wf H) (hl:ys.length=sz) (h1:ys.all AV.one=true) (hsz:sz≠0) (hz:(B6 ie.zero).length=sz)
 (ht:∀s,(A5G i2.d&&Wc sz (.sl sz s 0 1))=true) (hb:(n+1)*ie.bytes≤70368744177664) (hb2:n+1≤70368744177664):
 ∃v' H',(∀K:KV,(Ft e sz ie 1 [(0,sz,x)] H λv1 H1=>Ea e sz ie i2 v v1 H1 K)=K v' H')∧B1 H' e sz v' (n+1) (cs++ys)∧Wf H'∧A3 H≤A3 H'∧(∀s x,Au H s=some x→¬Bb v s→Au H' s=some x)∧(∀s,Bb v' s→A3 H≤s):=by
 obtain⟨v',H',a1,a2⟩:=A6Z (ie:=ie) (i2:=i2) h w hl h1 hsz hz ht hb hb2
 exact⟨v',H',λK=>by rw[hbs];exact a1 K,a2⟩
theorem Yj {i:TI} {s p e:Nat} {q:Bool} {cs vs:List AV} {H:Hp} {K:Hp→Al} (hl:Au H s=some (.cells q e cs)) (hp:p+vs.length≤cs.length) (hz:i.size=vs.length) (h1:vs.all AV.one=true):Ck i (.ptr s p 0) (.agg vs) H K=K (upd H s (.cells q e (splice cs p vs))):=by
 have e1:Ck i (.ptr s p 0) (.agg vs) H K=Ks H s λx=>A2l x λq e cs=>GT (.agg vs) λvs=>Ia vs 0 λn=>ck (Nat.beq n i.size) (ck (Qs vs) (EL (Nat.add p 0) vs cs λcs'=>Oe H s (.cells q e cs') K)):=rfl
 rw[e1,Cm hl]
 show(GT (.agg vs) λvs=>Ia vs 0 λn=>ck (Nat.beq n i.size) (ck (Qs vs) (EL p vs cs λcs'=>Oe H s (.cells q e cs') K)))=_
 have hc:B6 (.agg vs)=vs:=rfl
 rw[Da,hc,CA,hz,FZ,h1,K1,l29]
 show EL p vs cs _=_
 rw[KO _ _ _ _ (by omega),D8]
theorem B1.one {H:Hp} {e sz n:Nat} {v:AV} {cs:List AV} (h:B1 H e sz v n cs):AV.one v=true:=by
 rcases h with⟨rfl,_⟩|⟨r,q,rfl,_⟩<;>rfl
theorem B1.cell {H:Hp} {e sz n:Nat} {v:AV} {cs:List AV} (h:B1 H e sz v n cs):B6 v=[v]:=by
 rcases h with⟨rfl,_⟩|⟨r,q,rfl,_⟩<;>rfl
def tmV (t:Int×Int):List Value:=[.int .i64 t.1,.string ⟨⟨qn t.2⟩⟩,.string ⟨⟨qd t.2⟩⟩]
theorem C36 (l:ZB):l.flatMap MX=(l.flatMap tmV).map λx=> .v x:=by
 induction l with
 |nil=>rfl
 |cons k l ih=>rw[l00,l00,Zt,ih];rfl
theorem C1J {D:Nat} {b:Bool} {H:Hp} {v:AV} {l:ZB} (h:B1 H AO 3 v l.length (l.flatMap MX)) (h0:l=[]→v=AM):∃q,Fx b (D+1) v (Fw l) H q:=by
 rcases h with⟨rfl,h2,_⟩|⟨r,q,rfl,h2,h3⟩
 ·cases l with
  |nil=>exact⟨false,E5⟩
  |cons a l=>simp at h2
 ·cases l with
  |nil=>have:=h0 rfl;cases this
  |cons a l=>
   refine⟨true,?_⟩
   show Fx b (D+1) _ (.list (a::l).length ((a::l).flatMap MX)) H true
   rw[C36] at h2 h3⊢
   exact UZ (q':=false) h2 h3 (Kb _root_.id _)
def Jx (x:List Int):Nat→ZB
 |0=>[]
 |i+1=>if pk (x.getD i 0) 17-8≠0∧(Jx x i).length<5 then Jx x i++[(1+(i:Int),pk (x.getD i 0) 17-8)] else Jx x i
theorem A9j (x:List Int):∀i,i≤6→TmsOk (Jx x i)∧(Jx x i).length≤5∧∀t∈Jx x i,t.1≤i:=by
 intro i
 induction i with
 |zero=>intro _;exact⟨⟨by simp[Jx],by simp[Jx],by simp[Jx]⟩,by simp[Jx],by simp[Jx]⟩
 |succ i ih=>
  intro hi
  obtain⟨h1,h2,h3⟩:=ih (by omega)
  have pr:=ED (c:=x.getD i 0) (n:=17) (by decide)
  unfold Jx
  by_cases h:pk (x.getD i 0) 17-8≠0∧(Jx x i).length<5
  ·rw[if_pos h]
   refine⟨⟨by simp;omega,λt ht=> ?_,?_⟩,by simp;omega,λt ht=> ?_⟩
   ·rcases l2e.1 ht with ht|ht
    ·exact h1.rng t ht
    ·rw[l2f] at ht;subst ht
     simp only
     omega
   ·rw[List.pairwise_append]
    refine⟨h1.asc,by simp,λa ha b hb=> ?_⟩
    rw[l2f] at hb;subst hb
    have:=h3 a ha
    simp only
    omega
   ·rcases l2e.1 ht with ht|ht
    ·have:=h3 t ht;omega
    ·rw[l2f] at ht;subst ht
     simp only
     omega
  ·rw[if_neg h]
   exact⟨h1,h2,λt ht=>by have:=h3 t ht;omega⟩
theorem C6x {t:Int×Int} {H:Hp} {K:KV}:Ft AO 3 BG 1 [(0,3,.agg (MX t))] H K=K (.sl 3 (A3 H) 0 1) ((A3 H,.cells false AO (MX t))::H):=by
 have e:Ft AO 3 BG 1 [(0,3,.agg (MX t))] H K=HM H (λs=>K (.sl 3 s 0 1) ((s,.cells false AO (MX t))::H)):=_root_.id rfl
 rw[e,BW]
section
variable {K:KV} {x:Al} {xs:List Int} {ca cb ra rb:List UInt8} {b r z:Nat} {c e:Int}
abbrev C4P (ca cb ra rb:List UInt8) (v:AV):Row:= .cells true Do [S ca,S cb,v,S ra,S rb]
structure FmH (b r z:Nat) (xs:List Int) (ca cb ra rb:List UInt8) (ts:ZB) (v:AV) (H:Hp):Prop where
 hb:Au H b=some (.cells true GW (Ev xs))
 hr:Au H r=some (C4P ca cb ra rb v)
 hz:∃cs,cs.length=5∧Au H z=some (.cells true Do cs)
 sl:B1 H AO 3 v ts.length (ts.flatMap MX)
 nl:ts=[]→v=AM
 nb:¬Bb v b
 nr:¬Bb v r
 nz:¬Bb v z
 wf:Wf H
theorem B4o {t:TI} {H:Hp} {e sz n:Nat} {v:AV} {cs:List AV} {K:AV→Al} (hd:t.d= .slice e sz) (h:B1 H e sz v n cs):AN t v K=K (I n):=I5 hd h
theorem C4O {k33:AV→AV→Hp→Al} (hL:100<L) (hbr:b≠r) (hzr:z≠r) (hx:xs.length=6) (hi64:∀c∈xs,JU c) (hfin:∀v H,FmH b r z xs ca cb ra rb (Jx xs 6) v H→k33 (.ptr z 0 0) (.ptr r 0 0) H=x):
 ∀(f i:Nat) (v:AV) (H:Hp),i≤6→6-i<f→FmH b r z xs ca cb ra rb (Jx xs i) v H→
 Nh (L+20) (rt (L+20) (n+40)) K k33 f (.ptr b 0 0) (.ptr z 0 0) (.ptr r 0 0) (I i) H=x:=by
 intro f
 induction f with
 |zero=>intro i v H _ h;omega
 |succ f ih=>
  intro i v H hi hf hh
  rw[YS]
  unfold Qr AU Ar CH
  have e6:(AV.v (.int .i64 6))=I ((6:Nat):Int):=rfl
  rw[e6]
  by_cases h:i<6
  ·have hlt:i<xs.length:=by omega
   have hgd:(Ev xs).getD i .dk=I (xs.getD i 0):=by rw[Pm hlt];simp[List.getD,Ka hlt]
   have hc:JU (xs.getD i 0):=by simp only[List.getD,Ka hlt,l1l];exact hi64 _ (Ow hlt)
   have pr:=ED (c:=xs.getD i 0) (n:=17) (by decide)
   have ld:∀{K},Aq Ab (.ptr b i 0) H K=K (I (xs.getD i 0)):= λ{K}=>by rw[AQ (p:=i) rfl hh.hb (by simp[Ev];omega),hgd]
   have hpk:∀H K,Ah (rt (L+20) (n+40)) Hn [I (xs.getD i 0),.v (.int .i64 17)] H K=K (I (pk (xs.getD i 0) 17)):=A0P (n:=n+39) hc (by decide) (by decide)
   have ia:∀{K:AV→Al},Bv Bj (.ptr b 0 0) (I i) K=K (.ptr b i 0):= λ{K}=>DE i rfl rfl h
   rw[Ge (by omega),D3]
   simp only[Cl]
   rw[ia,ld,hpk,GE,Ca (by omega) (by omega)]
   have hne:∀{K:AV→Al},Go.Abs.Ak Ab .neq (I (pk (xs.getD i 0) 17-8)) (.v (.int .i64 0)) K=K (Bo (decide (pk (xs.getD i 0) 17-8≠0))):= λ{K}=>by rw[Hu];simp
   rw[hne]
   have tm1:Jx xs (i+1)=if pk (xs.getD i 0) 17-8≠0∧(Jx xs i).length<5 then Jx xs i++[(1+(i:Int),pk (xs.getD i 0) 17-8)] else Jx xs i:=rfl
   have add:∀{K:AV→Al},Go.Abs.Ak Ab .add (I i) (.v (.int .i64 1)) K=K (I ((i+1:Nat):Int)):= λ{K}=>DS (by omega)
   by_cases h0:pk (xs.getD i 0) 17-8=0
   ·rw[decide_eq_false (by simpa using h0)]
    simp only[gTF,Ci,TB]
    rw[B9,add]
    rw[if_neg λhh=>hh.1 h0] at tm1
    exact ih (i+1) v H (by omega) (by omega) (by rw[tm1];exact hh)
   ·have hln:=(A9j xs i (by omega)).2.1
    have f2:∀K:AV→Al,AL 2 (.ptr r 0 0) K=K (.ptr r 2 0):= λK=>id rfl
    have l2:∀K,Aq A5 (.ptr r 2 0) H K=K v:= λK=>AQ (p:=2) rfl hh.hr (by simp)
    rw[decide_eq_true (by simpa using h0)]
    simp only[gT,Ci,Vu,f2,l2,B4o (t:=A5) rfl hh.sl]
    have e5:(AV.v (.int .i64 5))=I ((5:Nat):Int):=rfl
    rw[e5]
    by_cases h5:(Jx xs i).length<5
    ·rw[Ge (by omega),Ci,D3]
     rw[if_pos ⟨h0,h5⟩] at tm1
     have hof:∀H K,Ah (rt (L+20) (n+40)) EP [I (pk (xs.getD i 0) 17-8),.v (.int .i64 4)] H K=K (.tup [.agg (qa (pk (xs.getD i 0) 17-8)),I 0]):=B35 (by omega) (by omega)
     rw[hof,CY,CX,Ba (cs:=[zS,zS]) rfl]
     have hn0:=Ay (H:=H) (x:= .cells true AB [zS,zS]) (by simp)
     have w1:=B3 (x:= .cells true AB [zS,zS]) hh.wf
     rw[B0 (vs:=qa (pk (xs.getD i 0) 17-8)) hn0 rfl rfl rfl]
     have hr1:=A9 (q:=true) (e:=AB) (cs:=qa (pk (xs.getD i 0) 17-8)) hn0
     have kp:∀s x,Au H s=some x→Au (upd ((A3 H,Row.cells true AB [zS,zS])::H) (A3 H) (.cells true AB (qa (pk (xs.getD i 0) 17-8)))) s=some x:= λs x hs=>by
      have:=hh.wf.lt hs
      rw[Ap (by omega)];exact Bh this hs
     have w2:=BL (r:=A3 H) (y:= .cells true AB (qa (pk (xs.getD i 0) 17-8))) w1
     generalize upd ((A3 H,Row.cells true AB [zS,zS])::H) (A3 H) (.cells true AB (qa (pk (xs.getD i 0) 17-8)))=H1 at hr1 kp w2
     generalize A3 H=r1 at hr1
     have l3:∀K,Aq A5 (.ptr r 2 0) H1 K=K v:= λK=>AQ (p:=2) rfl (kp _ _ hh.hr) (by simp)
     have l4:∀K,Aq Ao (.ptr r1 0 0) H1 K=K (.agg (qa (pk (xs.getD i 0) 17-8))):= λK=>Bk rfl rfl hr1
     have ad1:∀{K:AV→Al},Go.Abs.Ak Ab .add (.v (.int .i64 1)) (I i) K=K (I (1+(i:Int))):= λ{K}=>by rw[Cv,Ca (by omega) (by omega)]
     have bd:∀{K:AV→Al},Bi BG [(0,1,I (1+(i:Int))),(1,2,.agg (qa (pk (xs.getD i 0) 17-8)))] K=K (.agg (MX (1+(i:Int),pk (xs.getD i 0) 17-8))):= λ{K}=>id rfl
     rw[l3,ad1,l4,bd]
     have sl1:B1 H1 AO 3 v (Jx xs i).length ((Jx xs i).flatMap MX):=by
      rcases hh.sl with hs|⟨r2,q,h2,h3,h4⟩
      ·exact .inl hs
      ·exact .inr ⟨r2,q,h2,kp _ _ h3,h4⟩
     obtain⟨v',H',a1,a2,a3,a4,a5,a6⟩:=C6E (ie:=BG) (i2:=A5) (λK=>C6x (t:=(1+(i:Int),pk (xs.getD i 0) 17-8)) (H:=H1) (K:=K)) sl1 w2 rfl rfl (by decide) rfl (λ_=>rfl) (by show _*40≤_;omega) (by omega)
     have hr':Au H' r=some (C4P ca cb ra rb v):=a5 _ _ (kp _ _ hh.hr) hh.nr
     rw[a1,E1 hr' (by simp) rfl (B1.cell a2) (B1.one a2),add]
     obtain⟨cs,hcs,hcz⟩:=hh.hz
     have new:∀{s x},Au H s=some x→¬Bb v' s:= λ{s x} hs hv=>by
      have h1:=w2.lt (kp _ _ hs)
      have h2:=a6 _ hv
      omega
     refine ih (i+1) v' _ (by omega) (by omega) ⟨?_,A9 hr',⟨cs,hcs,?_⟩,?_,?_,new hh.hb,new hh.hr,new hcz,BL a3⟩
     ·rw[Ap hbr];exact a5 _ _ (kp _ _ hh.hb) hh.nb
     ·rw[Ap hzr];exact a5 _ _ (kp _ _ hcz) hh.nz
     ·rw[tm1,FK,l2g]
      have:(List.flatMap MX [(1+(i:Int),pk (xs.getD i 0) 17-8)])=MX (1+(i:Int),pk (xs.getD i 0) 17-8):=by simp
      rw[this]
      rcases a2 with hs|⟨r2,q,h2,h3,h4⟩
      ·exact .inl hs
      ·refine .inr ⟨r2,q,h2,?_,h4⟩
       rw[Ap (λe=>new hh.hr (by rw[h2,←e];exact⟨_,_,_,rfl⟩))]
       exact h3
     ·rw[tm1];intro hc;simp at hc
    ·rw[Gf (by omega),Ci,B9,add]
     rw[if_neg λhh=>h5 hh.2] at tm1
     exact ih (i+1) v H (by omega) (by omega) (by rw[tm1];exact hh)
  ·have:i=6:=by omega
   subst this
   rw[Gf (by omega),B9]
   exact hfin v H hh
theorem A3l (l:List Int):(Ev l).all AV.one=true:=by
 rw[Hv];intro a ha
 obtain⟨z,_,rfl⟩:=l2a.1 ha;rfl
theorem B39 (hL:100<L) (hc:JU c) (hr:JU e) (hx:xs.length=6) (hi:∀c∈xs,JU c):CS (rt (L+20) (n+41)) Oz [I c,I e,.agg (Ev xs)] (.agg [S (qn (pk c 161-80)),S (qd (pk c 161-80)),Fw (Jx xs 6),S (qn (pk e 9)),S (qd (pk e 9))]):=by
 intro K hK
 rw[A12]
 unfold Sj Ar
 have p1:=ED (c:=c) (n:=161) (by decide)
 have p2:=ED (c:=e) (n:=9) (by decide)
 have k1:∀H K,Ah (rt (L+20) (n+40)) Hn [I c,.v (.int .i64 161)] H K=K (I (pk c 161)):=A0P (n:=n+39) hc (by decide) (by decide)
 have k2:∀H K,Ah (rt (L+20) (n+40)) Hn [I e,.v (.int .i64 9)] H K=K (I (pk e 9)):=A0P (n:=n+39) hr (by decide) (by decide)
 have o1:∀H K,Ah (rt (L+20) (n+40)) EP [I (pk c 161-80),.v (.int .i64 4)] H K=K (.tup [.agg (qa (pk c 161-80)),I 0]):=B35 (by omega) (by omega)
 have o2:∀H K,Ah (rt (L+20) (n+40)) EP [I (pk e 9),.v (.int .i64 4)] H K=K (.tup [.agg (qa (pk e 9)),I 0]):=B35 (by omega) (by omega)
 rw[Fa (A3l xs)]
 have hb:=Ay (H:=[]) (x:= .cells true GW (Ev xs)) (by simp)
 have w0:=B3 (x:= .cells true GW (Ev xs)) F3
 generalize ((A3 [],Row.cells true GW (Ev xs))::([]:Hp))=H0 at hb w0
 generalize A3 []=b at hb
 rw[Ba (cs:=[zS,zS,AM,zS,zS]) rfl]
 have hz:=Ay (H:=H0) (x:= .cells true Do [zS,zS,AM,zS,zS]) (by simp)
 have b1:=Bh (x:= .cells true Do [zS,zS,AM,zS,zS]) (w0.lt hb) hb
 have nb:=w0.lt hb
 have w1:=B3 (x:= .cells true Do [zS,zS,AM,zS,zS]) w0
 generalize ((A3 H0,Row.cells true Do [zS,zS,AM,zS,zS])::H0)=H1 at hz w1 b1
 generalize A3 H0=z at hz nb
 have bd:∀{K:AV→Al},Bi DW [] K=K (.agg [zS,zS,AM,zS,zS]):= λ{K}=>id rfl
 rw[bd,Ba (cs:=[zS,zS,AM,zS,zS]) rfl]
 obtain⟨H2,e2,r2,w2,kp⟩:=Ed (e:=Do) (zs:=[zS,zS,AM,zS,zS]) (vs:=[zS,zS,AM,zS,zS]) w1 rfl
 rw[B0 (vs:=[zS,zS,AM,zS,zS]) (Ay (by simp)) rfl rfl rfl,←e2]
 obtain⟨b2,nbr⟩:=kp _ _ b1
 obtain⟨z2,nzr⟩:=kp _ _ hz
 generalize A3 H1=r at r2 nbr nzr
 have f0:∀K:AV→Al,AL 0 (.ptr r 0 0) K=K (.ptr r 0 0):= λK=>id rfl
 have f3:∀K:AV→Al,AL 3 (.ptr r 0 0) K=K (.ptr r 3 0):= λK=>id rfl
 rw[k1,GE,Ca (by omega) (by omega),o1,CY,CX,f0,Yj (vs:=qa (pk c 161-80)) r2 (show 0+2≤5 by decide) rfl rfl]
 have r3:=A9 (q:=true) (e:=Do) (cs:=splice [zS,zS,AM,zS,zS] 0 (qa (pk c 161-80))) r2
 have b3:=b2;have z3:=z2
 rw[←Ap (H:=H2) (r:=r) (y:= .cells true Do (splice [zS,zS,AM,zS,zS] 0 (qa (pk c 161-80)))) nbr] at b3
 rw[←Ap (H:=H2) (r:=r) (y:= .cells true Do (splice [zS,zS,AM,zS,zS] 0 (qa (pk c 161-80)))) nzr] at z3
 have w3:=BL (r:=r) (y:= .cells true Do (splice [zS,zS,AM,zS,zS] 0 (qa (pk c 161-80)))) w2
 generalize upd H2 r (.cells true Do (splice [zS,zS,AM,zS,zS] 0 (qa (pk c 161-80))))=H3 at r3 b3 z3 w3
 rw[k2,o2,CY,CX,f3,Yj (vs:=qa (pk e 9)) r3 (show 3+2≤5 by decide) rfl rfl]
 simp only[Cl]
 refine C4O (n:=n) (b:=b) (r:=r) (z:=z) (ca:=qn (pk c 161-80)) (cb:=qd (pk c 161-80)) (ra:=qn (pk e 9)) (rb:=qd (pk e 9)) hL nbr nzr hx hi ?_ (L+20) 0 AM _ (by omega) (by omega) ⟨?_,A9 r3,⟨[zS,zS,AM,zS,zS],rfl,?_⟩,.inl ⟨rfl,rfl,rfl⟩,λ_=>rfl,?_,?_,?_,BL w3⟩
 ·intro v H hh
  obtain⟨cs,hcs,hcz⟩:=hh.hz
  have o:[S (qn (pk c 161-80)),S (qd (pk c 161-80)),v,S (qn (pk e 9)),S (qd (pk e 9))].all AV.one=true:=by
   show(true&&(true&&(AV.one v&&(true&&(true&&true)))))=true
   rw[B1.one hh.sl];rfl
  rw[Bk rfl rfl hh.hr,B0 hcz (by rw[hcs];rfl) (by rw[hcs];rfl) o,Bk rfl rfl (A9 hcz)]
  refine hK _ _ (λq=> ?_)
  have sl1:B1 (upd H z (.cells true Do [S (qn (pk c 161-80)),S (qd (pk c 161-80)),v,S (qn (pk e 9)),S (qd (pk e 9))])) AO 3 v (Jx xs 6).length ((Jx xs 6).flatMap MX):=by
   rcases hh.sl with hs|⟨r2,q,h2,h3,h4⟩
   ·exact .inl hs
   ·refine .inr ⟨r2,q,h2,?_,h4⟩
    rw[Ap (λe=>hh.nz (by rw[h2,←e];exact⟨_,_,_,rfl⟩))]
    exact h3
  obtain⟨q',hq⟩:=C1J (D:=depth-2) (b:=q) sl1 hh.nl
  exact⟨_,Pn (D:=depth-1) (A0 (q:=false) E5 (A0 (q:=false) E5 (A0 hq (A0 (q:=false) E5 (A0 (q:=false) E5 Bp)))))⟩
 ·rw[Ap nbr];exact b3
 ·rw[Ap nzr];exact z3
 all_goals (rintro⟨_,_,_,h⟩;cases h)
end
end
end Go.Abs
end
