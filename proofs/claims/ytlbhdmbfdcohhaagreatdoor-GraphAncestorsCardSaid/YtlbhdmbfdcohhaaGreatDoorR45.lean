import Derived.Test.YtlbhdmbfdcohhaaGreatDoorR23
import Derived.Test.YtlbhdmbfdcohhaaGreatDoorR32
import Derived.Test.YtlbhdmbfdcohhaaGreatDoorR44
set_option linter.all false
set_option maxHeartbeats 100000000
noncomputable section
namespace Go.Abs
open Go.RowKit Go.Proofs
set_option maxRecDepth 100000
section
variable {L n:Nat}
section
variable {c:Cd}
theorem A95 (hL:40000<L) (h:c.Ok) (hn:c.ps.Nodup):CS (rt (L+20) (n+64)) GB [.agg c.cs] (S c.id):=by
 refine C6c (n:=n+1) hL JE Ct YS (Xj h) ?_
 match c,h,hn with
 | .re b u,⟨hb,hu⟩,_=>
  have st:=B0V (L:=L) (n:=n+1) (o:=u0) hb.m (Fw b.ts) (A4n (L:=L) (n:=n+21)).o (B3d (L:=L) (n:=n+21)).o (Pk L (n+21) u (by omega)).o (A11 (L:=L) (n:=n+19) hb.c1 hb.c2 hb.r1 hb.r2 (by omega) hb.ts).ls
  exact A88 (n:=n+1) (Fw _) (L5 []) (.inl rfl) (.inl rfl) (Xj (c:= .re b u) ⟨hb,hu⟩) st (A87 (n:=n) (ps:=[]) (vd:=0) (kd:=1) (by omega) hb.m (.inl rfl) hb.ts (.inl rfl) (.inl rfl) (by simp) (by simp) (by have:=EP u;omega) (by simp) (.inl rfl) A4p (by decide) hb.cl (Rx L (n+21) u (by omega)) (C3W (L:=L) (n:=n+21)).ls)
 | .co b p ps none,⟨hb,hp,h1,h2,h3⟩,hn=>
  have k1:=hp.k1
  have k3:=hp.k3
  have hps:DO ps=Ls ps:=TP (by omega)
  have hpa:=(A3m (L:=L) (n:=n+60) (ps:=ps) hn (by omega) (by omega) h2).ls
  rw[←hps,h1] at hpa
  have st:=B0U (L:=L) (n:=n+1) hb.m (Fw b.ts) (A4n (L:=L) (n:=n+21)).o ⟨_,_,hps⟩ ⟨_,_,rfl⟩ hpa (A69 (L:=L) (n:=n+17) (by omega) hp).ls (Pk L (n+21) p.out (HW hp)).o (A11 (L:=L) (n:=n+19) hb.c1 hb.c2 hb.r1 hb.r2 (by omega) hb.ts).ls
  exact A88 (n:=n+1) (Fw _) (L5 ps) (.inr ⟨_,_,rfl⟩) (.inr ⟨_,_,rfl⟩) (Xj (c:= .co b p ps none) ⟨hb,hp,h1,h2,h3⟩) st (A87 (n:=n) (ps:=ps) (vd:=0) (kd:=2) (by omega) hb.m (.inr (.inl rfl)) hb.ts (.inr ⟨_,_,rfl⟩) (.inr ⟨_,_,rfl⟩) (by omega) (λs hs=>by rw[h2 s hs];decide) (by have:=EP p.out;omega) (XR hp) (.inl rfl) A4p (by decide) hb.cl (Rx L (n+21) _ (HW hp)) (B8p (L:=L) (n:=n+16) (by omega) hp).ls)
 | .co b p ps (some (k,vd)),⟨hb,hp,h1,h2,h3,h4,h5⟩,hn=>
  have k1:=hp.k1
  have k3:=hp.k3
  have hps:DO ps=Ls ps:=TP (by omega)
  have hpa:=(A3m (L:=L) (n:=n+60) (ps:=ps) hn (by omega) (by omega) h2).ls
  rw[←hps,h1] at hpa
  have st:=B0T (L:=L) (n:=n+1) hb.m (Fw b.ts) (B3f (L:=L) (n:=n+21) h3).o h4 h5 ⟨_,_,hps⟩ ⟨_,_,rfl⟩ hpa (A69 (L:=L) (n:=n+17) (by omega) hp).ls (Pk L (n+21) p.out (HW hp)).o (A11 (L:=L) (n:=n+19) hb.c1 hb.c2 hb.r1 hb.r2 (by omega) hb.ts).ls
  exact A88 (n:=n+1) (Fw _) (L5 ps) (.inr ⟨_,_,rfl⟩) (.inr ⟨_,_,rfl⟩) (Xj (c:= .co b p ps (some (k,vd))) ⟨hb,hp,h1,h2,h3,h4,h5⟩) st (A87 (n:=n) (ps:=ps) (vd:=vd) (kd:=3) (by omega) hb.m (.inr (.inr rfl)) hb.ts (.inr ⟨_,_,rfl⟩) (.inr ⟨_,_,rfl⟩) (by omega) (λs hs=>by rw[h2 s hs];decide) (by have:=EP p.out;omega) (XR hp) (C3P h3) (A82 h3) (by omega) hb.cl (Rx L (n+21) _ (HW hp)) (B8p (L:=L) (n:=n+16) (by omega) hp).ls)
theorem B82 (hL:40000<L) (h:c.Ok) (hn:¬c.ps.Nodup):CS (rt (L+20) (n+64)) GB [.agg c.cs] (S []):=by
 refine C3X (n:=n+1) JE Ct YS ?_
 match c,h,hn with
 | .re b u,_,hn=>exact absurd List.nodup_nil hn
 | .co b p ps none,⟨hb,hp,h1,h2,h3⟩,hn=>
  have k1:=hp.k1
  have k3:=hp.k3
  have hps:DO ps=Ls ps:=TP (by omega)
  have hpa:=(A0Y (L:=L) (n:=n+60) (ps:=ps) hn (by omega) h2).ls
  rw[←hps,h1] at hpa
  have st:=A86 (L:=L) (n:=n+1) hb.m (Fw b.ts) (A4n (L:=L) (n:=n+21)).o ⟨_,_,hps⟩ ⟨_,_,rfl⟩ hpa (A69 (L:=L) (n:=n+17) (by omega) hp).ls (Pk L (n+21) p.out (HW hp)).o (A11 (L:=L) (n:=n+19) hb.c1 hb.c2 hb.r1 hb.r2 (by omega) hb.ts).ls
  exact A9E (n:=n+1) (Fw _) (L5 ps) (.inr ⟨_,_,rfl⟩) (.inr ⟨_,_,rfl⟩) st
 | .co b p ps (some (k,vd)),⟨hb,hp,h1,h2,h3,h4,h5⟩,hn=>
  have k1:=hp.k1
  have k3:=hp.k3
  have hps:DO ps=Ls ps:=TP (by omega)
  have hpa:=(A0Y (L:=L) (n:=n+60) (ps:=ps) hn (by omega) h2).ls
  rw[←hps,h1] at hpa
  have st:=A85 (L:=L) (n:=n+1) hb.m (Fw b.ts) (B3f (L:=L) (n:=n+21) h3).o h4 h5 ⟨_,_,hps⟩ ⟨_,_,rfl⟩ hpa (A69 (L:=L) (n:=n+17) (by omega) hp).ls (Pk L (n+21) p.out (HW hp)).o (A11 (L:=L) (n:=n+19) hb.c1 hb.c2 hb.r1 hb.r2 (by omega) hb.ts).ls
  exact A9E (n:=n+1) (Fw _) (L5 ps) (.inr ⟨_,_,rfl⟩) (.inr ⟨_,_,rfl⟩) st
end
end
section
variable {L n:Nat}
theorem B6i (s:List UInt8):(sha s).length=32:=TU _ 8
theorem A96 (c:Cd):c.id.length=32:=B6i _
theorem A26 (c:Cd):c.id≠[]:= λh=>by have:=A96 c;rw[h] at this;cases this
def LA (gs:List Cd) (a:AV):Prop:=a= .list gs.length (gs.flatMap Cd.cs)∨(gs=[]∧a=AO)
section
variable {gs:List Cd} {a:AV} {c:Cd} {K:AV→Al} {i:Nat} {H:Hp}
theorem LA.len (h:LA gs a):AP AR a K=K (I gs.length):=by
 rcases h with rfl|⟨rfl,rfl⟩<;>exact id rfl
theorem LA.ia (h:LA gs a) (hi:i<gs.length):B0 AR a (I i) K=K (.iptr gs[i].cs):=by
 rcases h with rfl|⟨rfl,rfl⟩
 ·exact A1Z (f:=Cd.cs) rfl (λ_=>Ct) hi
 ·simp at hi
theorem Y0:Aq Ac (.iptr c.cs) H K=K (.agg c.cs):=by
 match c with
 | .re b u=>exact id rfl
 | .co b p ps none=>exact id rfl
 | .co b p ps (some (k,vd))=>exact id rfl
abbrev BM:List AV:=DD 0 ⟨0,0,0,0,0⟩ u0 [] [] AO [] [] AO 0 AO AO u0 r0 0
abbrev B8O (c:Cd):Row:= .cells true Aj c.cs
def gE (gs:List Cd):List (List UInt8×Cd):=gs.map λc=>(c.id,c)
theorem Uq {α:Type} {b:List (List UInt8×α)} {x:List UInt8} (h:x∉b.map (·.1)):KT b x=none:=by
 induction b with
 |nil=>rfl
 |cons e b ih=>
  simp only[ZY,WG,not_or] at h
  unfold KT
  rw[if_neg (Ne.symm h.1)]
  exact ih h.2
theorem B0Y {α:Type} {b:List (List UInt8×α)} {x:List UInt8} {v:α} (h:x∉b.map (·.1)):IL b x v=b++[(x,v)]:=by
 induction b with
 |nil=>rfl
 |cons e b ih=>
  simp only[ZY,WG,not_or] at h
  unfold IL
  rw[if_neg (Ne.symm h.1),ih h.2];rfl
theorem A1L (gs:List Cd):(gE gs).map (·.1)=gs.map Cd.id:=by simp[gE]
end
structure GOk (gs:List Cd):Prop where
 ok:∀c∈gs,c.Ok
 nd:∀c∈gs,c.ps.Nodup
 ids:(gs.map Cd.id).Nodup
 len:gs.length≤8
section
variable {K:KV} {x:Al} {gs:List Cd} {a:AV}
abbrev cA' (c:Cd):AV:= .agg c.cs
theorem C44 {k12:AV→AV→Hp→Al} {r:Nat} {w:AV} (hg:GOk gs) (hL:40000<L) (ha:LA gs a)
 (hx:∀H,Ax H r=some (.map false (Oe cA' (gE gs)) none)→k12 w (.mp r) H=x):∀(f i:Nat) (H:Hp),i≤gs.length→gs.length-i<f→Ax H r=some (.map false (Oe cA' (gE (gs.take i))) none)→Wf H→
 XA6 (L+20) (rt (L+20) (n+63)) K k12 f w (.mp r) a (I gs.length) (I i) H=x:=by
 intro f
 induction f with
 |zero=>intro i H _ h;omega
 |succ f ih=>
  intro i H hi hf hl wf
  rw[QU]
  unfold NG Bu Ar Ev CK
  by_cases h:i<gs.length
  ·have hm:=QS h
   have hid:=B4P (L:=L) (n:=n) hL (hg.ok _ hm) (hg.nd _ hm)
   have hnew:gs[i].id∉(gE (gs.take i)).map (·.1):= λhc=>by
    rw[A1L] at hc
    have hp:=hg.ids
    rw[←List.take_append_drop i gs,l01,List.nodup_append] at hp
    have hd:gs[i].id∈(gs.drop i).map Cd.id:=l2a.2 ⟨_,by rw[l11 h];exact List.mem_cons_self,rfl⟩
    exact hp.2.2 _ hc _ hd rfl
   rw[FW (by omega),Dn,ha.ia h,Y0,Bf (cs:=BM) rfl,B7 (cs:=BM) (vs:=gs[i].cs) (A1 (by simp)) Ct rfl JE]
   obtain⟨H1,e1,hc1,w1,k1⟩:=Er (e:=Aj) (zs:=BM) (vs:=gs[i].cs) wf Ct
   rw[←e1,Bm rfl Ct.symm hc1,Bc hid (YS H1)]
   have hl1:=(k1 _ _ hl).1
   have ek:∀(F:Value→Al),Mp (S gs[i].id) F=F (SV gs[i].id):= λF=>id rfl
   rw[ek,QZ (f:=cA') (b:=gE (gs.take i)) (λK=>SX hl1),Uq hnew]
   simp only[]
   rw[CW,CV,Bf (cs:=BM) rfl]
   rw[show(Ac.zero:AV)= .agg BM from rfl,B7 (cs:=BM) (vs:=BM) (A1 (by simp)) rfl rfl rfl]
   obtain⟨H2,e2,hc2,w2,k2⟩:=Er (e:=Aj) (zs:=BM) (vs:=BM) w1 rfl
   rw[←e2]
   have hl2:=(k2 _ _ hl1).1
   have hc3:=(k2 _ _ hc1).1
   have q1:∀{K},Go.Abs.Ak Ae .eql (S gs[i].id) (S []) K=K (Bo false):= λ{K}=>by rw[Nb,decide_eq_false (A26 _)]
   simp only[gT,Co,q1,Vk]
   rw[BD,Bm rfl Ct.symm hc3,ek,UQ (f:=cA') (v:=gs[i]) hl2,B0Y hnew,DS (by have:=hg.len;omega)]
   have e3:gE (gs.take i)++[(gs[i].id,gs[i])]=gE (gs.take (i+1)):=by
    rw[l04 h,gE,gE,l01];rfl
   rw[e3]
   exact ih (i+1) _ (by omega) (by omega) ((Ec hl2).trans rfl) (Cj w2)
  ·rw[FX (by omega),BD]
   have:i=gs.length:=by omega
   subst this
   rw[l06] at hl
   exact hx H hl
abbrev gV (gs:List Cd):AV:= .imap (Oe cA' (gE gs))
theorem A24 {D:Nat} {m:ND} {u o:UD} {ca cb ra rb:List UInt8} {T P ins nds:AV} {kd id vd:Int} {r:RD} {H:Hp} (hT:Sl T) (hP:Sl P) (hI:Sl ins) (hN:Sl nds):Fx true (D+3) (.agg (DD kd m u ca cb T ra rb P id ins nds o r vd)) (.agg (DD kd m u ca cb T ra rb P id ins nds o r vd)) H false:=by
 rcases hT with rfl|⟨_,_,rfl⟩<;>rcases hP with rfl|⟨_,_,rfl⟩<;>rcases hI with rfl|⟨_,_,rfl⟩<;>rcases hN with rfl|⟨_,_,rfl⟩<;>exact λK=>by kernel_rfl
theorem A54 {D:Nat} {c:Cd} {H:Hp}:Fx true (D+3) (.agg c.cs) (.agg c.cs) H false:=by
 match c with
 | .re b u=>exact A24 (Fw _) (L5 _) (.inl rfl) (.inl rfl)
 | .co b p ps none=>exact A24 (Fw _) (L5 _) (.inr ⟨_,_,rfl⟩) (.inr ⟨_,_,rfl⟩)
 | .co b p ps (some (k,vd))=>exact A24 (Fw _) (L5 _) (.inr ⟨_,_,rfl⟩) (.inr ⟨_,_,rfl⟩)
theorem B8J {D r:Nat} {H:Hp} {es:List (List UInt8×Cd)} (h:Ax H r=some (.map false (Oe cA' es) none)):Fx true (D+4) (.mp r) (.imap (Oe cA' es)) H true:=by
 intro K
 show Kj H r (λx=>B7d x λes=>YJ (Jg true H (D+3)) es λ_ es'=>K true (.imap es'))=_
 rw[Cl h]
 show YJ (Jg true H (D+3)) (Oe cA' es) _=_
 have e:∀(es:List (List UInt8×Cd)) (F:Bool→List (Value×AV)→Al),YJ (Jg true H (D+3)) (Oe cA' es) F=F false (Oe cA' es):=by
  intro es
  induction es with
  |nil=>intro F;rfl
  |cons a es ih=>
   intro F
   show Jg true H (D+3) (.agg a.2.cs) (λq a'=>YJ (Jg true H (D+3)) (Oe cA' es) λq' l'=>F (@Bool.rec (λ_=>Bool) q' true q) ((SV a.1,a')::l'))=_
   rw[A54,ih];rfl
 rw[e]
theorem B5G (hg:GOk gs) (hL:40000<L) (ha:LA gs a) (K:KV) (hK:∀v0 H0,(∃q,Fx true depth v0 (.tup [gV gs,Bo true]) H0 q)→K v0 H0=some (.tup [gV gs,Bo true],[])):(rt (L+20) (n+64)).call EN [a] [] K=some (.tup [gV gs,Bo true],[]):=by
 rw[WB]
 unfold SG Ar Ev CK
 have em:∀(H:Hp) (K:KV),NR Ac H K=K (.mp (A6 H)) ((A6 H,.map false [] none)::H):= λH K=>by
  show HE H (λs=>K (.mp s) ((s,.map false [] (A4y Ac.d))::H))=_
  rw[BX];rfl
 rw[em]
 simp only[Cp]
 have e0:(AV.v (.int .i64 0))=I ((0:Nat):Int):=rfl
 rw[ha.len,e0]
 refine C44 hg hL ha (λH hl=> ?_) (L+20) 0 _ (by omega) (by have:=hg.len;omega) (A1 (by simp)) (BE Fv)
 rw[ha.len,Ej,decide_eq_false (by have:=hg.len;omega),BD]
 exact hK _ _ ⟨_,Yo (D:=depth-1) (A2 (B8J (D:=depth-5) hl) (A2 (q:=false) Ed Bt))⟩
end
end
section
variable {L n:Nat}
def cE (c:Cd):Ce (List UInt8):=⟨decide (c.kd=1),c.ps⟩
def gr (gs:List Cd):List (List UInt8×Ce (List UInt8)):=gs.map λc=>(c.id,cE c)
theorem A4R {gs:List Cd} {s:List UInt8}:KT (gr gs) s=(KT (gE gs) s).map cE:=by
 unfold gr gE
 induction gs with
 |nil=>rfl
 |cons c gs ih=>
  simp only[ZY]
  unfold KT
  by_cases h:c.id=s
  ·simp[h]
  ·simp[h,ih]
abbrev clR (x y z:Nat):AV:= .fn (.func Ci) [] [.ptr x 0 0,.ptr y 0 0,.ptr z 0 0]
abbrev bA (v:Bool):AV:=Bo v
theorem gU {q:Bool} {y:Bool→Al}:gdV q (.v undef) y=y false:=by cases q<;>exact id rfl
structure Rl (gs:List Cd) (y m x z:Nat) (b:List (List UInt8×Bool)) (H:Hp):Prop where
 g:Ax H y=some (.cells true DF [gV gs])
 mm:Ax H m=some (.map false (Oe bA b) none)
 c:Ax H x=some (.cells true Jm [.mp m])
 f:Ax H z=some (.cells true It [clR x y z])
 wf:Wf H
 ne:m≠y∧m≠x∧m≠z
section
variable {gs:List Cd} {y m x z:Nat} {b:List (List UInt8×Bool)} {H H':Hp} {K:KV}
theorem Rl.up (h:Rl gs y m x z b H) (b':List (List UInt8×Bool)):Rl gs y m x z b' (upd H m (.map false (Oe bA b') none)):=
 ⟨by rw[Au h.ne.1.symm];exact h.g,(Ec h.mm).trans rfl,by rw[Au h.ne.2.1.symm];exact h.c,by rw[Au h.ne.2.2.symm];exact h.f,Cj h.wf,h.ne⟩
theorem Rl.kp (h:Rl gs y m x z b H) (w:Wf H') (k:∀s r,Ax H s=some r→Ax H' s=some r∧s≠A6 H):Rl gs y m x z b H':=
 ⟨(k _ _ h.g).1,(k _ _ h.mm).1,(k _ _ h.c).1,(k _ _ h.f).1,w,h.ne⟩
theorem B8h {N:Nat} {s:List UInt8}:Eo (E (L+20)) (rt (L+20) N) (clR x y z) [S s] H K=(rt (L+20) N).call Ci [S s,.ptr x 0 0,.ptr y 0 0,.ptr z 0 0] H K:=by
 show WR [S s] [.ptr x 0 0,.ptr y 0 0,.ptr z 0 0] (λas'=>WR [] as' λall=>B7M ((E (L+20)).ne Ci) all H K (@Bool.rec (λ_=>Al) (Ah (rt (L+20) N) Ci all H λv=>K v H) ((rt (L+20) N).call Ci all H K) ((E (L+20)).imp Ci)))=_
 rw[NJ,NJ,show(E (L+20)).ne Ci=false from rfl,show(E (L+20)).imp Ci=true from rfl]
 rfl
def RlC (L N n:Nat) (gs:List Cd) (y m x z:Nat):Prop:=∀(s:List UInt8) (b b':List (List UInt8×Bool)) (v:Bool) (H:Hp),Rl gs y m x z b H→dfs (gr gs) N s b=some (v,b')→
 ∃H',Rl gs y m x z b' H'∧∀K:KV,(rt (L+20) (n+N)).call Ci [S s,.ptr x 0 0,.ptr y 0 0,.ptr z 0 0] H K=K (Bo v) H'
theorem C3R {N:Nat} {a0 a1:AV} {ps:List (List UInt8)} {v:Bool} {b':List (List UInt8×Bool)} (hb:ps.length<100) (hc:RlC L N n gs y m x z):
 ∀(f i:Nat) (good:Bool) (b:List (List UInt8×Bool)) (H:Hp),i≤ps.length→ps.length-i<f→Rl gs y m x z b H→A6Z (dfs (gr gs) N) (ps.drop i) good b=some (v,b')→
 ∃H',Rl gs y m x z b' H'∧∀(K:KV) (k50:AV→AV→AV→Hp→Al),Du (L+20) (rt (L+20) (n+N)) K k50 f a0 a1 (.ptr z 0 0) (Bo good) (DO ps) (I ps.length) (I i) H=k50 a0 a1 (Bo v) H':=by
 intro f
 induction f with
 |zero=>intro i good b H _ h;omega
 |succ f ih=>
  intro i good b H hi hf hr hd
  by_cases h:i<ps.length
  ·have hps:DO ps=Ls ps:=TP (by omega)
   rw[l11 h] at hd
   unfold A6Z at hd
   cases good with
   |false=>
    obtain⟨H2,hr2,h2⟩:=ih (i+1) false b H (by omega) (by omega) hr hd
    refine⟨H2,hr2,λK k50=> ?_⟩
    rw[FK]
    unfold Dv Ba Ar CK
    rw[FW (by omega),Dn,hps,PT h,FU,←hps]
    simp only[gTF,Co,Vk]
    rw[DS (by omega)]
    exact h2 K k50
   |true=>
    simp only[if_true] at hd
    cases hq:dfs (gr gs) N ps[i] b with
    |none=>rw[hq] at hd;cases hd
    |some p=>
     obtain⟨w,b2⟩:=p
     rw[hq] at hd
     obtain⟨H2,hr2,hc2⟩:=hc ps[i] b b2 w H hr hq
     have lf:∀{K},Aq Aa (.ptr z 0 0) H K=K (clR x y z):= λ{K}=>AY (p:=0) rfl hr.f (show 0<1 by decide)
     obtain⟨H3,hr3,h3⟩:=ih (i+1) w b2 H2 (by omega) (by omega) hr2 hd
     refine⟨H3,hr3,λK k50=> ?_⟩
     rw[FK]
     unfold Dv Ba Ar CK
     rw[FW (by omega),Dn,hps,PT h,FU,←hps]
     simp only[gT,Co,lf,B8h,hc2,Wu]
     rw[DS (by omega)]
     exact h3 K k50
  ·have:i=ps.length:=by omega
   subst this
   rw[List.drop_length] at hd
   cases hd
   refine⟨H,hr,λK k50=> ?_⟩
   rw[FK]
   unfold Dv Ba Ar CK
   rw[FX (by omega),BD]
theorem C5g {c:Cd} {r:Nat} (h:Ax H r=some (B8O c)) {K:AV→Al}:Aq Ab (.ptr r 0 0) H K=K (I c.kd):=by
 match c with
 | .re b u=>exact AY (p:=0) rfl h (show 0<68 by decide)
 | .co b p ps none=>exact AY (p:=0) rfl h (show 0<68 by decide)
 | .co b p ps (some (k,vd))=>exact AY (p:=0) rfl h (show 0<68 by decide)
theorem C5f {c:Cd} {r:Nat} (h:Ax H r=some (B8O c)) {K:AV→Al}:Aq Ad (.ptr r 31 0) H K=K (DO c.ps):=by
 match c with
 | .re b u=>exact AY (p:=31) rfl h (show 31<68 by decide)
 | .co b p ps none=>exact AY (p:=31) rfl h (show 31<68 by decide)
 | .co b p ps (some (k,vd))=>exact AY (p:=31) rfl h (show 31<68 by decide)
theorem B4d {gs:List Cd} {s:List UInt8} {c:Cd} (h:KT (gE gs) s=some c):c∈gs∧c.id=s:=by
 have:=XA9 h
 obtain⟨c',h1,h2⟩:=l2a.1 this
 cases h2
 exact⟨h1,rfl⟩
theorem B6A (hL:100<L) (hps:∀c∈gs,c.ps.length<100):∀N,RlC L N n gs y m x z:=by
 intro N
 induction N with
 |zero=>intro s b b' v H _ h;cases h
 |succ N ihN=>
  intro s b b' v H hr hd
  have lc:∀{K},Aq Cx (.ptr x 0 0) H K=K (.mp m):= λ{K}=>AY (p:=0) rfl hr.c (show 0<1 by decide)
  have ek:∀(F:Value→Al),Mp (S s) F=F (SV s):= λF=>id rfl
  unfold dfs at hd
  cases hf:KT b s with
  |some w=>
   rw[hf] at hd
   cases hd
   refine⟨H,hr,λK=> ?_⟩
   rw[←Xt,I5]
   unfold F5 Ba Bu Ar Ev CK
   rw[lc,ek,QZ (f:=bA) (b:=b) (λK=>SX hr.mm),hf]
   simp only[]
   rw[CW,CV,Dn]
  |none=>
   rw[hf] at hd
   simp only[] at hd
   have hr1:=hr.up (IL b s false)
   have up1:∀{F:Hp→Al},VL (.mp m) (SV s) (.v (.bool false)) H F=F (upd H m (.map false (Oe bA (IL b s false)) none)):= λ{F}=>UQ (f:=bA) (v:=false) hr.mm
   generalize upd H m (.map false (Oe bA (IL b s false)) none)=H1 at hr1 up1
   have lg:∀{K},Aq BO (.ptr y 0 0) H1 K=K (gV gs):= λ{K}=>AY (p:=0) rfl hr1.g (show 0<1 by decide)
   have f0:∀{s j:Nat} {K:AV→Al},AN j (.ptr s 0 0) K=K (.ptr s j 0):= λ{s j K}=>by rw[fA,Ln]
   rw[A4R] at hd
   cases hg:KT (gE gs) s with
   |none=>
    rw[hg] at hd
    cases hd
    obtain⟨H2,e2,hc2,w2,k2⟩:=Er (e:=Aj) (zs:=BM) (vs:=BM) hr1.wf rfl
    have hr2:=hr1.kp w2 k2
    refine⟨_,hr2.up _,λK=> ?_⟩
    rw[←Xt,I5]
    unfold F5 Ba Bu Ar Ev CK
    rw[lc,ek,QZ (f:=bA) (b:=b) (λK=>SX hr.mm),hf]
    simp only[]
    rw[CW,CV,BD,lc,ek,up1,lg,ek,QZ (f:=cA') (b:=gE gs) (λK=>id rfl),hg]
    simp only[]
    rw[CW,CV,Bf (cs:=BM) rfl,show(Ac.zero:AV)= .agg BM from rfl,B7 (cs:=BM) (vs:=BM) (A1 (by simp)) rfl rfl rfl,←e2]
    have lp:∀{K},Aq Ad (.ptr (A6 H1) 31 0) H2 K=K AO:= λ{K}=>AY (p:=31) rfl hc2 (show 31<68 by decide)
    have ln:∀{K:AV→Al},AP Ad AO K=K (I 0):=id rfl
    simp only[gTF,gU,Co,Vk,Cp,f0,lp,ln]
    have e5:∀(k:AV→AV→AV→Hp→Al),Du (L+20) (rt (L+20) (n+N)) K k (L+20)=Dv (L+20) (rt (L+20) (n+N)) K k (Du (L+20) (rt (L+20) (n+N)) K k (L+19)):= λk=>FK _ _ _ _ _
    rw[e5]
    unfold Dv Ba Ar CK
    have lc2:∀{K},Aq Cx (.ptr x 0 0) H2 K=K (.mp m):= λ{K}=>AY (p:=0) rfl hr2.c (show 0<1 by decide)
    rw[FX (by omega),BD]
    show Aq Cx (.ptr x 0 0) H2 _=_
    rw[lc2,ek,UQ (f:=bA) (v:=false) hr2.mm]
   |some c=>
    rw[hg] at hd
    obtain⟨hcm,hcid⟩:=B4d hg
    simp only[l0x] at hd
    obtain⟨H2,e2,hc2,w2,k2⟩:=Er (e:=Aj) (zs:=BM) (vs:=c.cs) hr1.wf Ct
    have hr2:=hr1.kp w2 k2
    cases hq:A6Z (dfs (gr gs) N) (cE c).ps ((cE c).real|| !(cE c).ps.isEmpty) (IL b s false) with
    |none=>rw[hq] at hd;cases hd
    |some p=>
     obtain⟨w,b2⟩:=p
     rw[hq] at hd
     cases hd
     obtain⟨H3,hr3,h3⟩:=C3R (L:=L) (n:=n) (N:=N) (a0:=S s) (a1:= .ptr x 0 0) (ps:=c.ps) (hps c hcm) ihN (L+20) 0 _ _ H2 (by omega) (by have:=hps c hcm;omega) hr2 (by rw[l1n];exact hq)
     refine⟨_,hr3.up _,λK=> ?_⟩
     rw[←Xt,I5]
     unfold F5 Ba Bu Ar Ev CK
     rw[lc,ek,QZ (f:=bA) (b:=b) (λK=>SX hr.mm),hf]
     simp only[]
     rw[CW,CV,BD,lc,ek,up1,lg,ek,QZ (f:=cA') (b:=gE gs) (λK=>id rfl),hg]
     simp only[]
     rw[CW,CV,Bf (cs:=BM) rfl,B7 (cs:=BM) (vs:=c.cs) (A1 (by simp)) Ct rfl JE,←e2]
     have lp:∀{K},Aq Ad (.ptr (A6 H1) 31 0) H2 K=K (DO c.ps):= λ{K}=>C5f hc2
     have lk:∀{K},Aq Ab (.ptr (A6 H1) 0 0) H2 K=K (I c.kd):= λ{K}=>C5g hc2
     have e1:∀{K},Go.Abs.Ak Ab .eql (I c.kd) (.v (.int .i64 1)) K=K (Bo (decide (c.kd=1))):= λ{K}=>by rw[Dz]
     have g0:∀{K},Go.Abs.Ak Ab .gtr (I (c.ps.length:Int)) (.v (.int .i64 0)) K=K (Bo (!c.ps.isEmpty)):= λ{K}=>by
      rw[Ej]
      cases hp:c.ps<;>simp
     have lc3:∀{K},Aq Cx (.ptr x 0 0) H3 K=K (.mp m):= λ{K}=>AY (p:=0) rfl hr3.c (show 0<1 by decide)
     simp only[gT,Co,f0,lk,e1]
     have fin:∀good:Bool,((cE c).real|| !(cE c).ps.isEmpty)=good→(Du (L+20) (rt (L+20) (n+N)) K (λv51 v52 v53 H54=>Aq Cx v52 H54 λv43=>Mp v51 λq44=>VL v43 q44 v53 H54 λH45=>K v53 H45) (L+20) (S s) (.ptr x 0 0) (.ptr z 0 0) (Bo good) (DO c.ps) (I c.ps.length) (I ((0:Nat):Int)) H2)=K (Bo v) (upd H3 m (.map false (Oe bA (IL b2 s v)) none)):= λgood hgd=>by
      rw[←hgd,h3]
      rw[lc3,ek,UQ (f:=bA) (v:=v) hr3.mm]
     by_cases hk:c.kd=1
     ·simp only[hk,decide_true,gFT,Co,Wu,Cp,f0,lp,Xb]
      exact fin true (by simp[cE,hk])
     ·simp only[hk,decide_false,gT,Co,Vk,Wu,Cp,f0,lp,Xb,g0]
      exact fin _ (by simp[cE,hk])
theorem V0 {a:AV} {s:List UInt8} (hg:GOk gs) (hL:40000<L) (hp:∀c∈gs,c.ps.length<100) (ha:LA gs a):CS (rt (L+20) (n+80)) CU [a,S s] (Bo (rz (gr gs) gs.length s)):=by
 intro K hK
 rw[VD]
 unfold MH
 have hfx:OM true depth [a] [a] [] false:=by rcases ha with rfl|⟨_,rfl⟩<;>exact λK=>by kernel_rfl
 have of:∀{K:AV→Al},Ah (rt (L+20) (n+79)) EN [a] [] K=K (.tup [gV gs,Bo true]):= λ{K}=>IK (λK hK=>B5G (n:=n+15) hg hL ha K hK) hfx
 rw[of,CW,CV]
 have hr:Rl gs 0 1 2 3 [] [(3,.cells true It [clR 2 0 3]),(2,.cells true Jm [.mp 1]),(1,.map false [] none),(0,.cells true DF [gV gs])]:=
  ⟨rfl,rfl,rfl,rfl,λk hk=>by simp at hk;show k<4;omega,by decide⟩
 have go:Eo (E (L+20)) (rt (L+20) (n+79)) (clR 2 0 3) [S s] [(3,.cells true It [clR 2 0 3]),(2,.cells true Jm [.mp 1]),(1,.map false [] none),(0,.cells true DF [gV gs])] K=some (Bo (rz (gr gs) gs.length s),[]):=by
  rw[B8h]
  have hlen:(gr gs).length=gs.length:=by simp[gr]
  obtain⟨b',hd⟩:=B7X (g:=gr gs) s
  rw[hlen] at hd
  obtain⟨H',_,h⟩:=B6A (L:=L) (n:=n+77-gs.length) (by omega) hp (gs.length+2) s [] b' _ _ hr hd
  have e:n+79=n+77-gs.length+(gs.length+2):=by have:=hg.len;omega
  rw[e,h]
  exact hK _ _ (λb=>⟨false,λK=>by kernel_rfl⟩)
 exact go
end
end
end Go.Abs
end
noncomputable section
end
noncomputable section
namespace Go.Abs
open Go.RowKit Go.Proofs
set_option maxRecDepth 100000
section
variable {L n:Nat}
def SA (l:List (List UInt8)) (a:AV):Prop:=a=Ls l∨(l=[]∧a=AO)
theorem HV (l:List (List UInt8)):SA l (DO l):=by cases l with|nil=>exact .inr ⟨rfl,rfl⟩|cons p l=>exact .inl rfl
section
variable {l:List (List UInt8)} {a:AV} {i:Nat} {K:AV→Al} {s:List UInt8}
theorem SA.len (h:SA l a):AP Ad a K=K (I l.length):=by
 rcases h with rfl|⟨rfl,rfl⟩
 ·exact Nv
 ·exact id rfl
theorem SA.ia (h:SA l a) (hi:i<l.length):B0 Ad a (I i) K=K (.iptr [S l[i]]):=by
 rcases h with rfl|⟨rfl,rfl⟩
 ·exact PT hi
 ·simp at hi
theorem SA.fx (h:SA l a) (H:Hp):Fx true depth a a H false:=by
 rcases h with rfl|⟨rfl,rfl⟩<;>exact λK=>by kernel_rfl
def Ym (s:List UInt8):List (List UInt8)→Nat→AV
 |[],_=> .tup [Bo false,I (-1)]
 |a::l,i=>if a=s then .tup [Bo true,I i] else Ym s l (i+1)
theorem WM:∀(l:List (List UInt8)) (i:Nat),s∉l→Ym s l i= .tup [Bo false,I (-1)]:=by
 intro l
 induction l with
 |nil=>intro i _;rfl
 |cons a l ih=>
  intro i h
  simp only[WG,not_or] at h
  unfold Ym
  rw[if_neg (Ne.symm h.1)]
  exact ih _ h.2
theorem WL:∀(l:List (List UInt8)) (i:Nat),s∈l→∃k,∃h:k<l.length,l[k]=s∧(∀m (hm:m<k),l[m]≠s)∧Ym s l i= .tup [Bo true,I ((i+k:Nat):Int)]:=by
 intro l
 induction l with
 |nil=>intro i h;cases h
 |cons a l ih=>
  intro i h
  unfold Ym
  by_cases e:a=s
  ·exact⟨0,by simp,e,λm hm=>by omega,by rw[if_pos e];rfl⟩
  ·obtain⟨k,hk,h1,h2,h3⟩:=ih (i+1) ((WG.1 h).resolve_left (Ne.symm e))
   refine⟨k+1,by simp;omega,by simpa using h1,λm hm=> ?_,by rw[if_neg e,h3];congr 4;omega⟩
   cases m with
   |zero=>exact e
   |succ m=>exact h2 m (by omega)
end
section
variable {K:KV} {x:Al} {l:List (List UInt8)} {a:AV} {s:List UInt8} {gs:List Cd}
theorem C26 {k3:Hp→Al} {H:Hp} (ha:SA l a) (hb:l.length<1000) {v:AV} (hv:K v H=x) (hk:v= .tup [Bo false,I (-1)]→k3 H=x):∀(f i:Nat),i≤l.length→l.length-i<f→Ym s (l.drop i) i=v→
 Oz (L+20) (rt (L+20) n) K k3 f a (S s) (I i) H=x:=by
 intro f
 induction f with
 |zero=>intro i _ h;omega
 |succ f ih=>
  intro i hi hf hd
  rw[A0K]
  unfold Sj Ar Ev
  rw[ha.len]
  by_cases h:i<l.length
  ·rw[l11 h] at hd
   unfold Ym at hd
   rw[FW (by omega),Dn,ha.ia h,FU,Nb]
   by_cases e:l[i]=s
   ·rw[if_pos e] at hd
    rw[decide_eq_true e,Dn,hd]
    exact hv
   ·rw[if_neg e] at hd
    rw[decide_eq_false e,BD,DS (by omega)]
    exact ih (i+1) (by omega) (by omega) hd
  ·rw[FX (by omega),BD]
   have:i=l.length:=by omega
   subst this
   rw[List.drop_length] at hd
   exact hk hd.symm
theorem B8n (ha:SA l a) (hb:l.length<1000) (hL:2000<L):CS (rt (L+20) (n+1)) NM [a,S s] (Ym s l 0):=by
 intro K hK
 have fin:∀H,K (Ym s l 0) H=some (Ym s l 0,[]):= λH=>hK _ _ (λb=>⟨false,by
  by_cases h:s∈l
  ·obtain⟨k,_,_,_,e⟩:=WL l 0 h
   rw[e];exact λK=>by kernel_rfl
  ·rw[WM l 0 h];exact λK=>by kernel_rfl⟩)
 rw[A2J]
 unfold TZ Ar CK
 simp only[Cp]
 have e0:(AV.v (.int .i64 0))=I ((0:Nat):Int):=rfl
 rw[e0]
 refine C26 ha hb (fin []) (λe=> ?_) (L+20) 0 (by omega) (by omega) (by rw[l1n])
 have:=fin []
 rw[e] at this
 rw[e]
 exact this
theorem C23 {k4:AV→Hp→Al} (hg:∀c∈gs,c.Ok∧c.ps.Nodup) (hb:gs.length<100) (hL:40000<L) (ha:LA gs a)
 (hx:∀v H,B1 H A4 1 v gs.length (Bn (gs.map Cd.id))→(gs=[]→v=AO)→k4 v H=x):∀(f i:Nat) (v:AV) (H:Hp),i≤gs.length→gs.length-i<f→B1 H A4 1 v (gs.take i).length (Bn ((gs.take i).map Cd.id))→(gs.take i=[]→v=AO)→Wf H→
 Oy (L+20) (rt (L+20) (n+64)) K k4 f a v (I i) H=x:=by
 intro f
 induction f with
 |zero=>intro i v H _ h;omega
 |succ f ih=>
  intro i v H hi hf hs h0 w
  rw[A0J]
  unfold Si Ar
  rw[ha.len]
  by_cases h:i<gs.length
  ·obtain⟨h1,h2⟩:=hg _ (QS h)
   have e1:(gs.take i).length=((gs.take i).map Cd.id).length:=by simp
   rw[e1] at hs
   obtain⟨v',H',h3,h4,h5,h6, -⟩:=B53 gs[i].id hs w (by simp;omega)
   rw[FW (by omega),Dn,ha.ia h,Y0,Bc (A95 (n:=n) hL h1 h2) (YS H),h3,DS (by omega)]
   have e2:(gs.take i).map Cd.id++[gs[i].id]=(gs.take (i+1)).map Cd.id:=by rw[l04 h,l01];rfl
   rw[e2] at h4
   exact ih (i+1) v' H' (by omega) (by omega) (by rw[l1u] at h4;exact h4) (λe=>by have:=congrArg List.length e;rw[l0g,Ot] at this;omega) h5
  ·rw[FX (by omega),BD]
   have:i=gs.length:=by omega
   subst this
   rw[l06] at hs h0
   exact hx v H hs h0
theorem B3p (hg:∀c∈gs,c.Ok∧c.ps.Nodup) (hb:gs.length<100) (hL:40000<L) (ha:LA gs a):CS (rt (L+20) (n+65)) Il [a] (DO (gs.map Cd.id)):=by
 intro K hK
 rw[A2I]
 unfold TY Ar
 simp only[Cp]
 have e0:(AV.v (.int .i64 0))=I ((0:Nat):Int):=rfl
 rw[e0]
 refine C23 hg hb hL ha (λv H hs h0=> ?_) (L+20) 0 _ [] (by omega) (by omega) (.inl ⟨rfl,rfl,rfl⟩) (λ_=>rfl) Fv
 refine hK _ _ (λb=> ?_)
 by_cases hn:gs=[]
 ·subst hn
  rw[h0 rfl]
  exact⟨false,Ed⟩
 ·have hl:(gs.map Cd.id)≠[]:=by simpa using hn
  have e:DO (gs.map Cd.id)= .list gs.length (Bn (gs.map Cd.id)):=by rw[TP (by cases hq:gs.map Cd.id with|nil=>exact absurd hq hl|cons _ _=>simp),Ls];simp
  rw[e]
  exact⟨true,A1M hs (by cases gs with|nil=>exact absurd rfl hn|cons _ _=>simp) (λs=>Value.string ⟨⟨s⟩⟩) (gs.map Cd.id) rfl⟩
end
end
section
variable {L n:Nat}
def CT (R:Rt) (f:Nat) (args:List AV) (v:AV):Prop:=∀K:KV,(∀v0 H0,(∃q,Fx true depth v0 v H0 q)→K v0 H0=some (v,[]))→R.call f args [] K=some (v,[])
theorem CT.z {R:Rt} {f:Nat} {args args':List AV} {v:AV} {H:Hp} {K:AV→Al} (hc:CT R f args' v) (ha:OM true depth args args' H false):Ah R f args H K=K v:=IK hc ha
def pk (c n:Int):Int:=(if c<0 then-(c+1) else c)%n
theorem E9 {c n:Int} (h:0<n):0≤pk c n∧pk c n<n:=⟨Int.emod_nonneg _ (by omega),Int.emod_lt_of_pos _ h⟩
section
variable {K:KV} {x:Al} {a b:AV} {s:List UInt8} {gs:List Cd} {H:Hp}
theorem LA.fx (h:LA gs a) (H:Hp):Fx true depth a a H false:=by rcases h with rfl|⟨_,rfl⟩<;>exact λK=>by kernel_rfl
theorem B7J {gs:List Cd} {s:List UInt8}:(∃h:s∈gs.map Cd.id,∃k,∃hk:k<gs.length,KT (gE gs) s=some gs[k]∧Ym s (gs.map Cd.id) 0= .tup [Bo true,I (k:Int)])∨(s∉gs.map Cd.id∧KT (gE gs) s=none∧Ym s (gs.map Cd.id) 0= .tup [Bo false,I (-1)]):=by
 by_cases h:s∈gs.map Cd.id
 ·left
  obtain⟨k,hk,h1,h2,h3⟩:=WL _ 0 h
  refine⟨h,k,by simpa using hk,?_,by rw[h3,Ln]⟩
  clear h h3
  induction gs generalizing k with
  |nil=>simp at hk
  |cons c gs ih=>
   show KT ((c.id,c)::gE gs) s=_
   unfold KT
   cases k with
   |zero=>simp at h1;rw[if_pos h1];rfl
   |succ k=>
    have h0:=h2 0 (by omega)
    simp at h0
    rw[if_neg h0]
    exact ih k (by simpa using hk) (by simpa using h1) (λm hm=>by simpa using h2 (m+1) (by omega))
 ·exact .inr ⟨h,Uq (by rw[A1L];exact h),WM _ 0 h⟩
theorem B1p {z:Int} {K:AV→Al} (h1: -9223372036854775808<z) (h2:z<9223372036854775808):F8 .neg (I z) K=K (I (-z)):=by
 have e:F8 .neg (I z) K=LN .i64 (0-z) λz=>K (.v (.int .i64 z)):=rfl
 rw[e,GA,Int.zero_sub,Cb (by omega) (by omega)]
end
def K8 (z:Int):Prop:= -9223372036854775808≤z∧z<9223372036854775808
section
variable {c m:Int}
theorem A4r {K:AV→Al} (hc:K8 c) (hm:0<m) (hm2:m<9223372036854775808) {k1:AV→Al} (hk:k1= λv=>Go.Abs.Ak Ab .rem v (I m) K):
 (Go.Abs.Ak Ab .lss (I c) (.v (.int .i64 0)) λv5=>Av v5 (Go.Abs.Ak Ab .add (I c) (.v (.int .i64 1)) λv6=>F8 .neg v6 λv7=>k1 v7) (k1 (I c)))=K (I (pk c m)):=by
 subst hk
 obtain⟨h1,h2⟩:=hc
 rw[Dy]
 by_cases h:c<0
 ·rw[decide_eq_true h,Dn,Cz,Cb (by omega) (by omega),B1p (by omega) (by omega)]
  show Go.Abs.Ak Ab .rem (I (-(c+1))) (I m) K=_
  rw[Ux (by omega),Int.tmod_eq_emod_of_nonneg (by omega)]
  unfold pk;rw[if_pos h]
 ·rw[decide_eq_false h,BD]
  show Go.Abs.Ak Ab .rem (I c) (I m) K=_
  rw[Ux (by omega),Int.tmod_eq_emod_of_nonneg (by omega)]
  unfold pk;rw[if_neg h]
theorem A6a (hc:K8 c) (hm:0<m) (hm2:m<9223372036854775808):PS (rt (L+20) (n+1)) JP [I c,I m] (I (pk c m)):=by
 refine CS.ps (λK hK=> ?_) (λH=> λK=>by kernel_rfl)
 rw[A16]
 unfold So Ar
 simp only[Cp]
 exact(A4r (K:= λv=>K v []) hc hm hm2 rfl).trans (hK _ _ (λb=>⟨false,λK=>by kernel_rfl⟩))
theorem Kq (hc:K8 c) (hm:0<m) (hm2:m<9223372036854775808):PS (rt (L+20) (n+1)) B3 [I c,I m] (I (pk c m)):=by
 refine CS.ps (λK hK=> ?_) (λH=> λK=>by kernel_rfl)
 rw[A18]
 unfold Sq Ar
 simp only[Cp]
 exact(A4r (K:= λv=>K v []) hc hm hm2 rfl).trans (hK _ _ (λb=>⟨false,λK=>by kernel_rfl⟩))
theorem A13 (hc:K8 c) (hm:0<m) (hm2:m<9223372036854775808):PS (rt (L+20) (n+1)) Ht [I c,I m] (I (pk c m)):=by
 refine CS.ps (λK hK=> ?_) (λH=> λK=>by kernel_rfl)
 rw[A1e]
 unfold SB Ar
 simp only[Cp]
 exact(A4r (K:= λv=>K v []) hc hm hm2 rfl).trans (hK _ _ (λb=>⟨false,λK=>by kernel_rfl⟩))
theorem Kr (hc:K8 c) (hm:0<m) (hm2:m<9223372036854775808):PS (rt (L+20) (n+1)) BK [I c,I m] (I (pk c m)):=by
 refine CS.ps (λK hK=> ?_) (λH=> λK=>by kernel_rfl)
 rw[A1b]
 unfold Sx Ar
 simp only[Cp]
 exact(A4r (K:= λv=>K v []) hc hm hm2 rfl).trans (hK _ _ (λb=>⟨false,λK=>by kernel_rfl⟩))
end
section
variable {K:KV} {x:Al} {a:AV} {s:List UInt8} {gs:List Cd} {H:Hp}
def NA (ws:List Int) (w:AV):Prop:=(w= .list ws.length (Et ws)∨(ws=[]∧w=AO))∧ws.length<9223372036854775808∧∀z∈ws,K8 z
theorem NA.len {ws:List Int} {w:AV} {K:AV→Al} (h:NA ws w):AP Af w K=K (I ws.length):=by
 rcases h.1 with rfl|⟨rfl,rfl⟩<;>exact id rfl
theorem NA.ia {ws:List Int} {w:AV} {K:AV→Al} {i:Nat} (h:NA ws w) (hi:i<ws.length) (hb:i<1000000):(B0 Af w (I i) λp=>Aq Ab p H K)=K (I ws[i]):=by
 rcases h.1 with rfl|⟨rfl,rfl⟩
 ·have el:(Et ws).length=ws.length:=by simp[Et]
  rw[Uv rfl el (by omega) (by omega),Xs,Ra rfl,PB hi]
 ·simp at hi
end
end
section
variable {L n:Nat}
section
variable {c:Int}
theorem B8q {k m:Int} (h0:0≤k) (h1:k<m):pk k m=k:=by
 unfold pk
 rw[if_neg (by omega),Int.emod_eq_of_lt h0 h1]
theorem B31:((List.range 7).all λi=>HQ (AZ (C9 (rt (L+20) (n+42)) EJ [I (i:Nat)]) (.agg (uu i).cs)))=true:=by kernel_rfl
theorem A84 (hc:K8 c):PS (rt (L+20) (n+42)) EJ [I c] (.agg (Cc (uu (pk c 7).toNat))):=by
 have pr:=E9 (c:=c) (n:=7) (by decide)
 obtain⟨k,hk⟩:∃k:Nat,pk c 7=k:=⟨(pk c 7).toNat,by omega⟩
 have hk7:k<7:=by omega
 refine B2 (λH K=>by kernel_rfl) ?_
 have e:C9 (rt (L+20) (n+42)) EJ [I c]=C9 (rt (L+20) (n+42)) EJ [I (k:Nat)]:=by
  unfold C9
  rw[Uc,Uc]
  unfold Sy Ar
  have h1:∀H K,Ah (rt (L+20) (n+41)) BK [I c,.v (.int .i64 7)] H K=K (I (pk c 7)):=Kr (n:=n+40) hc (by decide) (by decide)
  have h2:∀H K,Ah (rt (L+20) (n+41)) BK [I (k:Int),.v (.int .i64 7)] H K=K (I (pk k 7)):=Kr (n:=n+40) (by unfold K8;omega) (by decide) (by decide)
  simp only[h1,h2,hk,B8q (k:=(k:Int)) (m:=7) (by omega) (by omega)]
 rw[e,hk,Xs]
 exact Hl.1 B31 k (IV.2 hk7)
theorem B3e:((List.range 3).all λi=>HQ (AZ (C9 (rt (L+20) (n+2)) I8 [I (i:Nat)]) (.agg (rr (1+i)).cs)))=true:=by kernel_rfl
theorem B6O (hc:K8 c):PS (rt (L+20) (n+2)) I8 [I c] (.agg (rr (1+(pk c 3).toNat)).cs):=by
 have pr:=E9 (c:=c) (n:=3) (by decide)
 obtain⟨k,hk⟩:∃k:Nat,pk c 3=k:=⟨(pk c 3).toNat,by omega⟩
 have hk7:k<3:=by omega
 refine B2 (λH K=>by kernel_rfl) ?_
 have e:C9 (rt (L+20) (n+2)) I8 [I c]=C9 (rt (L+20) (n+2)) I8 [I (k:Nat)]:=by
  unfold C9
  rw[Ua,Ua]
  unfold Su Ar
  have h1:∀H K,Ah (rt (L+20) (n+1)) B3 [I c,.v (.int .i64 3)] H K=K (I (pk c 3)):=Kq (n:=n) hc (by decide) (by decide)
  have h2:∀H K,Ah (rt (L+20) (n+1)) B3 [I (k:Int),.v (.int .i64 3)] H K=K (I (pk k 3)):=Kq (n:=n) (by unfold K8;omega) (by decide) (by decide)
  simp only[h1,h2,hk,B8q (k:=(k:Int)) (m:=3) (by omega) (by omega)]
 rw[e,hk,Xs]
 exact Hl.1 B3e k (IV.2 hk7)
def A2D (c:Int):List UInt8:=sha (GT [c])
theorem A0Z (hL:40000<L) (h1: -10≤c) (h2:c<1090):PS (rt (L+20) (n+20)) F6 [I c] (S (A2D c)):=by
 refine CS.ps (λK hK=> ?_) (λH=> λK=>by kernel_rfl)
 rw[XV]
 unfold Pq
 have hl:=Ei [c]
 have fx:OM true depth [.sl 1 (A6 []) 0 1] [.list 1 (Et [c])] ((A6 [],.cells false CZ (Et [c]))::[]) true:=
  A2 (q:=true) (q':=false) (Vn (D:=depth-1) (q':=false) (A1 (by simp)) rfl (Kf (λz:Int=>Value.int .i64 z) [c])) Bt
 rw[US,Bc (A3k (L:=L) (n:=n+14) (l:=[c]) (by simp) (by simp;omega) (by simp;omega)) fx,Bc (B8k (L:=L+20) (n:=n+16) (s:=GT [c]) (by simp only[Lj,Ot] at hl;omega) (by simp only[Lj,Ot] at hl;omega)) (q:=false) (λK=>by kernel_rfl)]
 exact hK _ _ (λb=>⟨false,λK=>by kernel_rfl⟩)
end
end
section
variable {L n:Nat}
theorem A59 {e sz n:Nat} {ie i2:TI} {H:Hp} {v:AV} {cs ys:List AV} (h:B1 H e sz v n cs) (w:Wf H) (hl:ys.length=sz) (h1:ys.all AV.one=true) (hsz:sz≠0) (hz:(B6 ie.zero).length=sz)
 (ht:∀s,(A0B i2.d&&TH sz (.sl sz s 0 1))=true) (hb:(n+1)*ie.bytes≤70368744177664) (hb2:n+1≤70368744177664):
 ∃v' H',(∀K:KV,DN e sz ie i2 v (.sl sz (A6 H) 0 1) ((A6 H,.cells false e ys)::H) K=K v' H')∧B1 H' e sz v' (n+1) (cs++ys)∧Wf H'∧A6 H≤A6 H'∧(∀s x,Ax H s=some x→¬AX v s→Ax H' s=some x)∧(∀s,AX v' s→A6 H≤s):=by
 have hv1:B1 ((A6 H,.cells false e ys)::H) e sz v n cs:=h.lat w (Lat.cons H _ (λ_=>False)) (λ_ _ h=>h)
 have hsrc:B1 ((A6 H,.cells false e ys)::H) e sz (.sl sz (A6 H) 0 1) 1 ys:= .inr ⟨A6 H,false,rfl,A1 (by simp),by omega⟩
 obtain⟨v',H',h1,h2,h3,h4⟩:=apt (ie:=ie) (i2:=i2) hv1 (λK=>SZ (K:=K) hsrc) (by omega) h1 hsz hz (ht _) hb hb2
 have h5:=(Lat.cons H (.cells false e ys) (AX v)).trans h4 (R:=AX v) (λ_ _ h=>h) (λ_ _ h=>h)
 refine⟨v',H',h1,h2,h5.wf w,h5.nx,λs x hs hn=>h5.keep w s x hs hn,λs hs=> ?_⟩
 rw[h3 s hs];exact l1p _
theorem C6T {e sz n:Nat} {ie i2:TI} {H:Hp} {v x:AV} {cs ys:List AV} (hbs:∀K:KV,Fh e sz ie 1 [(0,sz,x)] H K=K (.sl sz (A6 H) 0 1) ((A6 H,.cells false e ys)::H)) (h:B1 H e sz v n cs) (w:Wf H) (hl:ys.length=sz) (h1:ys.all AV.one=true) (hsz:sz≠0) (hz:(B6 ie.zero).length=sz)
 (ht:∀s,(A0B i2.d&&TH sz (.sl sz s 0 1))=true) (hb:(n+1)*ie.bytes≤70368744177664) (hb2:n+1≤70368744177664):
 ∃v' H',(∀K:KV,(Fh e sz ie 1 [(0,sz,x)] H λv1 H1=>DN e sz ie i2 v v1 H1 K)=K v' H')∧B1 H' e sz v' (n+1) (cs++ys)∧Wf H'∧A6 H≤A6 H'∧(∀s x,Ax H s=some x→¬AX v s→Ax H' s=some x)∧(∀s,AX v' s→A6 H≤s):=by
 obtain⟨v',H',a1,a2⟩:=A59 (ie:=ie) (i2:=i2) h w hl h1 hsz hz ht hb hb2
 exact⟨v',H',λK=>by rw[hbs];exact a1 K,a2⟩
theorem Yx {i:TI} {s p e:Nat} {q:Bool} {cs vs:List AV} {H:Hp} {K:Hp→Al} (hl:Ax H s=some (.cells q e cs)) (hp:p+vs.length≤cs.length) (hz:i.size=vs.length) (h1:vs.all AV.one=true):Cq i (.ptr s p 0) (.agg vs) H K=K (upd H s (.cells q e (splice cs p vs))):=by
 have e1:Cq i (.ptr s p 0) (.agg vs) H K=Kj H s λx=>A2x x λq e cs=>GU (.agg vs) λvs=>HJ vs 0 λn=>ck (Nat.beq n i.size) (ck (Qa vs) (EG (Nat.add p 0) vs cs λcs'=>Og H s (.cells q e cs') K)):=rfl
 rw[e1,Cl hl]
 show(GU (.agg vs) λvs=>HJ vs 0 λn=>ck (Nat.beq n i.size) (ck (Qa vs) (EG p vs cs λcs'=>Og H s (.cells q e cs') K)))=_
 have hc:B6 (.agg vs)=vs:=rfl
 rw[Dc,hc,Cw,hz,Gc,h1,Ln,l29]
 show EG p vs cs _=_
 rw[KS _ _ _ _ (by omega),D8]
theorem B1.one {H:Hp} {e sz n:Nat} {v:AV} {cs:List AV} (h:B1 H e sz v n cs):AV.one v=true:=by
 rcases h with⟨rfl,_⟩|⟨r,q,rfl,_⟩<;>rfl
theorem B1.cell {H:Hp} {e sz n:Nat} {v:AV} {cs:List AV} (h:B1 H e sz v n cs):B6 v=[v]:=by
 rcases h with⟨rfl,_⟩|⟨r,q,rfl,_⟩<;>rfl
def tmV (t:Int×Int):List Value:=[.int .i64 t.1,.string ⟨⟨qn t.2⟩⟩,.string ⟨⟨qd t.2⟩⟩]
theorem C3q (l:ZQ):l.flatMap Nf=(l.flatMap tmV).map λx=> .v x:=by
 induction l with
 |nil=>rfl
 |cons k l ih=>rw[l00,l00,l01,ih];rfl
theorem C2c {D:Nat} {b:Bool} {H:Hp} {v:AV} {l:ZQ} (h:B1 H AQ 3 v l.length (l.flatMap Nf)) (h0:l=[]→v=AO):∃q,Fx b (D+1) v (Fq l) H q:=by
 rcases h with⟨rfl,h2,_⟩|⟨r,q,rfl,h2,h3⟩
 ·cases l with
  |nil=>exact⟨false,Ed⟩
  |cons a l=>simp at h2
 ·cases l with
  |nil=>have:=h0 rfl;cases this
  |cons a l=>
   refine⟨true,?_⟩
   show Fx b (D+1) _ (.list (a::l).length ((a::l).flatMap Nf)) H true
   rw[C3q] at h2 h3⊢
   exact Vn (q':=false) h2 h3 (Kf _root_.id _)
def Jy (x:List Int):Nat→ZQ
 |0=>[]
 |i+1=>if pk (x.getD i 0) 17-8≠0∧(Jy x i).length<5 then Jy x i++[(1+(i:Int),pk (x.getD i 0) 17-8)] else Jy x i
theorem A9v (x:List Int):∀i,i≤6→TmsOk (Jy x i)∧(Jy x i).length≤5∧∀t∈Jy x i,t.1≤i:=by
 intro i
 induction i with
 |zero=>intro _;exact⟨⟨by simp[Jy],by simp[Jy],by simp[Jy]⟩,by simp[Jy],by simp[Jy]⟩
 |succ i ih=>
  intro hi
  obtain⟨h1,h2,h3⟩:=ih (by omega)
  have pr:=E9 (c:=x.getD i 0) (n:=17) (by decide)
  unfold Jy
  by_cases h:pk (x.getD i 0) 17-8≠0∧(Jy x i).length<5
  ·rw[if_pos h]
   refine⟨⟨by simp;omega,λt ht=> ?_,?_⟩,by simp;omega,λt ht=> ?_⟩
   ·rcases l2e.1 ht with ht|ht
    ·exact h1.rng t ht
    ·rw[l2f] at ht;subst ht
     simp only
     omega
   ·rw[List.pairwise_append]
    refine⟨h1.asc,by simp,λa ha b hb=> ?_⟩
    rw[l2f] at hb;subst hb
    have:=h3 a ha
    simp only
    omega
   ·rcases l2e.1 ht with ht|ht
    ·have:=h3 t ht;omega
    ·rw[l2f] at ht;subst ht
     simp only
     omega
  ·rw[if_neg h]
   exact⟨h1,h2,λt ht=>by have:=h3 t ht;omega⟩
theorem C6O {t:Int×Int} {H:Hp} {K:KV}:Fh AQ 3 BI 1 [(0,3,.agg (Nf t))] H K=K (.sl 3 (A6 H) 0 1) ((A6 H,.cells false AQ (Nf t))::H):=by
 have e:Fh AQ 3 BI 1 [(0,3,.agg (Nf t))] H K=HE H (λs=>K (.sl 3 s 0 1) ((s,.cells false AQ (Nf t))::H)):=_root_.id rfl
 rw[e,BX]
section
variable {K:KV} {x:Al} {xs:List Int} {ca cb ra rb:List UInt8} {b r z:Nat} {c e:Int}
abbrev C53 (ca cb ra rb:List UInt8) (v:AV):Row:= .cells true Dq [S ca,S cb,v,S ra,S rb]
structure FmH (b r z:Nat) (xs:List Int) (ca cb ra rb:List UInt8) (ts:ZQ) (v:AV) (H:Hp):Prop where
 hb:Ax H b=some (.cells true GX (Et xs))
 hr:Ax H r=some (C53 ca cb ra rb v)
 hz:∃cs,cs.length=5∧Ax H z=some (.cells true Dq cs)
 sl:B1 H AQ 3 v ts.length (ts.flatMap Nf)
 nl:ts=[]→v=AO
 nb:¬AX v b
 nr:¬AX v r
 nz:¬AX v z
 wf:Wf H
theorem B4A {t:TI} {H:Hp} {e sz n:Nat} {v:AV} {cs:List AV} {K:AV→Al} (hd:t.d= .slice e sz) (h:B1 H e sz v n cs):AP t v K=K (I n):=Js hd h
theorem C52 {k33:AV→AV→Hp→Al} (hL:100<L) (hbr:b≠r) (hzr:z≠r) (hx:xs.length=6) (hi64:∀c∈xs,K8 c) (hfin:∀v H,FmH b r z xs ca cb ra rb (Jy xs 6) v H→k33 (.ptr z 0 0) (.ptr r 0 0) H=x):
 ∀(f i:Nat) (v:AV) (H:Hp),i≤6→6-i<f→FmH b r z xs ca cb ra rb (Jy xs i) v H→
 Nn (L+20) (rt (L+20) (n+40)) K k33 f (.ptr b 0 0) (.ptr z 0 0) (.ptr r 0 0) (I i) H=x:=by
 intro f
 induction f with
 |zero=>intro i v H _ h;omega
 |succ f ih=>
  intro i v H hi hf hh
  rw[Zj]
  unfold QF Ba Ar CK
  have e6:(AV.v (.int .i64 6))=I ((6:Nat):Int):=rfl
  rw[e6]
  by_cases h:i<6
  ·have hlt:i<xs.length:=by omega
   have hgd:(Et xs).getD i .dk=I (xs.getD i 0):=by rw[PB hlt];simp[List.getD,JV hlt]
   have hc:K8 (xs.getD i 0):=by simp only[List.getD,JV hlt,l1l];exact hi64 _ (QS hlt)
   have pr:=E9 (c:=xs.getD i 0) (n:=17) (by decide)
   have ld:∀{K},Aq Ab (.ptr b i 0) H K=K (I (xs.getD i 0)):= λ{K}=>by rw[AY (p:=i) rfl hh.hb (by simp[Et];omega),hgd]
   have hpk:∀H K,Ah (rt (L+20) (n+40)) Ht [I (xs.getD i 0),.v (.int .i64 17)] H K=K (I (pk (xs.getD i 0) 17)):=A13 (n:=n+39) hc (by decide) (by decide)
   have ia:∀{K:AV→Al},B0 Bl (.ptr b 0 0) (I i) K=K (.ptr b i 0):= λ{K}=>DC i rfl rfl h
   rw[FW (by omega),Dn]
   simp only[Cp]
   rw[ia,ld,hpk,GE,Cb (by omega) (by omega)]
   have hne:∀{K:AV→Al},Go.Abs.Ak Ab .neq (I (pk (xs.getD i 0) 17-8)) (.v (.int .i64 0)) K=K (Bo (decide (pk (xs.getD i 0) 17-8≠0))):= λ{K}=>by rw[GF];simp
   rw[hne]
   have tm1:Jy xs (i+1)=if pk (xs.getD i 0) 17-8≠0∧(Jy xs i).length<5 then Jy xs i++[(1+(i:Int),pk (xs.getD i 0) 17-8)] else Jy xs i:=rfl
   have add:∀{K:AV→Al},Go.Abs.Ak Ab .add (I i) (.v (.int .i64 1)) K=K (I ((i+1:Nat):Int)):= λ{K}=>DS (by omega)
   by_cases h0:pk (xs.getD i 0) 17-8=0
   ·rw[decide_eq_false (by simpa using h0)]
    simp only[gTF,Co,Vk]
    rw[BD,add]
    rw[if_neg λhh=>hh.1 h0] at tm1
    exact ih (i+1) v H (by omega) (by omega) (by rw[tm1];exact hh)
   ·have hln:=(A9v xs i (by omega)).2.1
    have f2:∀K:AV→Al,AN 2 (.ptr r 0 0) K=K (.ptr r 2 0):= λK=>id rfl
    have l2:∀K,Aq A8 (.ptr r 2 0) H K=K v:= λK=>AY (p:=2) rfl hh.hr (by simp)
    rw[decide_eq_true (by simpa using h0)]
    simp only[gT,Co,Wu,f2,l2,B4A (t:=A8) rfl hh.sl]
    have e5:(AV.v (.int .i64 5))=I ((5:Nat):Int):=rfl
    rw[e5]
    by_cases h5:(Jy xs i).length<5
    ·rw[FW (by omega),Co,Dn]
     rw[if_pos ⟨h0,h5⟩] at tm1
     have hof:∀H K,Ah (rt (L+20) (n+40)) EK [I (pk (xs.getD i 0) 17-8),.v (.int .i64 4)] H K=K (.tup [.agg (qa (pk (xs.getD i 0) 17-8)),I 0]):=B3i (by omega) (by omega)
     rw[hof,CW,CV,Bf (cs:=[zS,zS]) rfl]
     have hn0:=A1 (H:=H) (x:= .cells true AE [zS,zS]) (by simp)
     have w1:=BE (x:= .cells true AE [zS,zS]) hh.wf
     rw[B7 (vs:=qa (pk (xs.getD i 0) 17-8)) hn0 rfl rfl rfl]
     have hr1:=AC (q:=true) (e:=AE) (cs:=qa (pk (xs.getD i 0) 17-8)) hn0
     have kp:∀s x,Ax H s=some x→Ax (upd ((A6 H,Row.cells true AE [zS,zS])::H) (A6 H) (.cells true AE (qa (pk (xs.getD i 0) 17-8)))) s=some x:= λs x hs=>by
      have:=hh.wf.lt hs
      rw[Au (by omega)];exact Bj this hs
     have w2:=Cj (r:=A6 H) (y:= .cells true AE (qa (pk (xs.getD i 0) 17-8))) w1
     generalize upd ((A6 H,Row.cells true AE [zS,zS])::H) (A6 H) (.cells true AE (qa (pk (xs.getD i 0) 17-8)))=H1 at hr1 kp w2
     generalize A6 H=r1 at hr1
     have l3:∀K,Aq A8 (.ptr r 2 0) H1 K=K v:= λK=>AY (p:=2) rfl (kp _ _ hh.hr) (by simp)
     have l4:∀K,Aq Ap (.ptr r1 0 0) H1 K=K (.agg (qa (pk (xs.getD i 0) 17-8))):= λK=>Bm rfl rfl hr1
     have ad1:∀{K:AV→Al},Go.Abs.Ak Ab .add (.v (.int .i64 1)) (I i) K=K (I (1+(i:Int))):= λ{K}=>by rw[Cz,Cb (by omega) (by omega)]
     have bd:∀{K:AV→Al},Bk BI [(0,1,I (1+(i:Int))),(1,2,.agg (qa (pk (xs.getD i 0) 17-8)))] K=K (.agg (Nf (1+(i:Int),pk (xs.getD i 0) 17-8))):= λ{K}=>id rfl
     rw[l3,ad1,l4,bd]
     have sl1:B1 H1 AQ 3 v (Jy xs i).length ((Jy xs i).flatMap Nf):=by
      rcases hh.sl with hs|⟨r2,q,h2,h3,h4⟩
      ·exact .inl hs
      ·exact .inr ⟨r2,q,h2,kp _ _ h3,h4⟩
     obtain⟨v',H',a1,a2,a3,a4,a5,a6⟩:=C6T (ie:=BI) (i2:=A8) (λK=>C6O (t:=(1+(i:Int),pk (xs.getD i 0) 17-8)) (H:=H1) (K:=K)) sl1 w2 rfl rfl (by decide) rfl (λ_=>rfl) (by show _*40≤_;omega) (by omega)
     have hr':Ax H' r=some (C53 ca cb ra rb v):=a5 _ _ (kp _ _ hh.hr) hh.nr
     rw[a1,Ez hr' (by simp) rfl (B1.cell a2) (B1.one a2),add]
     obtain⟨cs,hcs,hcz⟩:=hh.hz
     have new:∀{s x},Ax H s=some x→¬AX v' s:= λ{s x} hs hv=>by
      have h1:=w2.lt (kp _ _ hs)
      have h2:=a6 _ hv
      omega
     refine ih (i+1) v' _ (by omega) (by omega) ⟨?_,AC hr',⟨cs,hcs,?_⟩,?_,?_,new hh.hb,new hh.hr,new hcz,Cj a3⟩
     ·rw[Au hbr];exact a5 _ _ (kp _ _ hh.hb) hh.nb
     ·rw[Au hzr];exact a5 _ _ (kp _ _ hcz) hh.nz
     ·rw[tm1,FA,l2g]
      have:(List.flatMap Nf [(1+(i:Int),pk (xs.getD i 0) 17-8)])=Nf (1+(i:Int),pk (xs.getD i 0) 17-8):=by simp
      rw[this]
      rcases a2 with hs|⟨r2,q,h2,h3,h4⟩
      ·exact .inl hs
      ·refine .inr ⟨r2,q,h2,?_,h4⟩
       rw[Au (λe=>new hh.hr (by rw[h2,←e];exact⟨_,_,_,rfl⟩))]
       exact h3
     ·rw[tm1];intro hc;simp at hc
    ·rw[FX (by omega),Co,BD,add]
     rw[if_neg λhh=>h5 hh.2] at tm1
     exact ih (i+1) v H (by omega) (by omega) (by rw[tm1];exact hh)
  ·have:i=6:=by omega
   subst this
   rw[FX (by omega),BD]
   exact hfin v H hh
theorem A3w (l:List Int):(Et l).all AV.one=true:=by
 rw[Hl];intro a ha
 obtain⟨z,_,rfl⟩:=l2a.1 ha;rfl
theorem B3m (hL:100<L) (hc:K8 c) (hr:K8 e) (hx:xs.length=6) (hi:∀c∈xs,K8 c):CS (rt (L+20) (n+41)) OC [I c,I e,.agg (Et xs)] (.agg [S (qn (pk c 161-80)),S (qd (pk c 161-80)),Fq (Jy xs 6),S (qn (pk e 9)),S (qd (pk e 9))]):=by
 intro K hK
 rw[A1f]
 unfold SC Ar
 have p1:=E9 (c:=c) (n:=161) (by decide)
 have p2:=E9 (c:=e) (n:=9) (by decide)
 have k1:∀H K,Ah (rt (L+20) (n+40)) Ht [I c,.v (.int .i64 161)] H K=K (I (pk c 161)):=A13 (n:=n+39) hc (by decide) (by decide)
 have k2:∀H K,Ah (rt (L+20) (n+40)) Ht [I e,.v (.int .i64 9)] H K=K (I (pk e 9)):=A13 (n:=n+39) hr (by decide) (by decide)
 have o1:∀H K,Ah (rt (L+20) (n+40)) EK [I (pk c 161-80),.v (.int .i64 4)] H K=K (.tup [.agg (qa (pk c 161-80)),I 0]):=B3i (by omega) (by omega)
 have o2:∀H K,Ah (rt (L+20) (n+40)) EK [I (pk e 9),.v (.int .i64 4)] H K=K (.tup [.agg (qa (pk e 9)),I 0]):=B3i (by omega) (by omega)
 rw[EY (A3w xs)]
 have hb:=A1 (H:=[]) (x:= .cells true GX (Et xs)) (by simp)
 have w0:=BE (x:= .cells true GX (Et xs)) Fv
 generalize ((A6 [],Row.cells true GX (Et xs))::([]:Hp))=H0 at hb w0
 generalize A6 []=b at hb
 rw[Bf (cs:=[zS,zS,AO,zS,zS]) rfl]
 have hz:=A1 (H:=H0) (x:= .cells true Dq [zS,zS,AO,zS,zS]) (by simp)
 have b1:=Bj (x:= .cells true Dq [zS,zS,AO,zS,zS]) (w0.lt hb) hb
 have nb:=w0.lt hb
 have w1:=BE (x:= .cells true Dq [zS,zS,AO,zS,zS]) w0
 generalize ((A6 H0,Row.cells true Dq [zS,zS,AO,zS,zS])::H0)=H1 at hz w1 b1
 generalize A6 H0=z at hz nb
 have bd:∀{K:AV→Al},Bk DX [] K=K (.agg [zS,zS,AO,zS,zS]):= λ{K}=>id rfl
 rw[bd,Bf (cs:=[zS,zS,AO,zS,zS]) rfl]
 obtain⟨H2,e2,r2,w2,kp⟩:=Er (e:=Dq) (zs:=[zS,zS,AO,zS,zS]) (vs:=[zS,zS,AO,zS,zS]) w1 rfl
 rw[B7 (vs:=[zS,zS,AO,zS,zS]) (A1 (by simp)) rfl rfl rfl,←e2]
 obtain⟨b2,nbr⟩:=kp _ _ b1
 obtain⟨z2,nzr⟩:=kp _ _ hz
 generalize A6 H1=r at r2 nbr nzr
 have f0:∀K:AV→Al,AN 0 (.ptr r 0 0) K=K (.ptr r 0 0):= λK=>id rfl
 have f3:∀K:AV→Al,AN 3 (.ptr r 0 0) K=K (.ptr r 3 0):= λK=>id rfl
 rw[k1,GE,Cb (by omega) (by omega),o1,CW,CV,f0,Yx (vs:=qa (pk c 161-80)) r2 (show 0+2≤5 by decide) rfl rfl]
 have r3:=AC (q:=true) (e:=Dq) (cs:=splice [zS,zS,AO,zS,zS] 0 (qa (pk c 161-80))) r2
 have b3:=b2;have z3:=z2
 rw[←Au (H:=H2) (r:=r) (y:= .cells true Dq (splice [zS,zS,AO,zS,zS] 0 (qa (pk c 161-80)))) nbr] at b3
 rw[←Au (H:=H2) (r:=r) (y:= .cells true Dq (splice [zS,zS,AO,zS,zS] 0 (qa (pk c 161-80)))) nzr] at z3
 have w3:=Cj (r:=r) (y:= .cells true Dq (splice [zS,zS,AO,zS,zS] 0 (qa (pk c 161-80)))) w2
 generalize upd H2 r (.cells true Dq (splice [zS,zS,AO,zS,zS] 0 (qa (pk c 161-80))))=H3 at r3 b3 z3 w3
 rw[k2,o2,CW,CV,f3,Yx (vs:=qa (pk e 9)) r3 (show 3+2≤5 by decide) rfl rfl]
 simp only[Cp]
 refine C52 (n:=n) (b:=b) (r:=r) (z:=z) (ca:=qn (pk c 161-80)) (cb:=qd (pk c 161-80)) (ra:=qn (pk e 9)) (rb:=qd (pk e 9)) hL nbr nzr hx hi ?_ (L+20) 0 AO _ (by omega) (by omega) ⟨?_,AC r3,⟨[zS,zS,AO,zS,zS],rfl,?_⟩,.inl ⟨rfl,rfl,rfl⟩,λ_=>rfl,?_,?_,?_,Cj w3⟩
 ·intro v H hh
  obtain⟨cs,hcs,hcz⟩:=hh.hz
  have o:[S (qn (pk c 161-80)),S (qd (pk c 161-80)),v,S (qn (pk e 9)),S (qd (pk e 9))].all AV.one=true:=by
   show(true&&(true&&(AV.one v&&(true&&(true&&true)))))=true
   rw[B1.one hh.sl];rfl
  rw[Bm rfl rfl hh.hr,B7 hcz (by rw[hcs];rfl) (by rw[hcs];rfl) o,Bm rfl rfl (AC hcz)]
  refine hK _ _ (λq=> ?_)
  have sl1:B1 (upd H z (.cells true Dq [S (qn (pk c 161-80)),S (qd (pk c 161-80)),v,S (qn (pk e 9)),S (qd (pk e 9))])) AQ 3 v (Jy xs 6).length ((Jy xs 6).flatMap Nf):=by
   rcases hh.sl with hs|⟨r2,q,h2,h3,h4⟩
   ·exact .inl hs
   ·refine .inr ⟨r2,q,h2,?_,h4⟩
    rw[Au (λe=>hh.nz (by rw[h2,←e];exact⟨_,_,_,rfl⟩))]
    exact h3
  obtain⟨q',hq⟩:=C2c (D:=depth-2) (b:=q) sl1 hh.nl
  exact⟨_,PE (D:=depth-1) (A2 (q:=false) Ed (A2 (q:=false) Ed (A2 hq (A2 (q:=false) Ed (A2 (q:=false) Ed Bt)))))⟩
 ·rw[Au nbr];exact b3
 ·rw[Au nzr];exact z3
 all_goals (rintro⟨_,_,_,h⟩;cases h)
end
end
end Go.Abs
end
