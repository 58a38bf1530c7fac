import Derived.Test.YtlbhdmbfdcohhaaGreatDoorS22
import Derived.Test.YtlbhdmbfdcohhaaGreatDoorS30
import Derived.Test.YtlbhdmbfdcohhaaGreatDoorS42
set_option linter.all false
set_option maxHeartbeats 100000000
noncomputable section
namespace Go.Abs
open Go.RowKit Go.Proofs
set_option maxRecDepth 100000
section
variable {L n:Nat}
theorem B6Q (s:List UInt8):(sha s).length=32:=Ut _ 8
theorem A9n (c:Cd):c.id.length=32:=B6Q _
theorem A2n (c:Cd):c.id≠[]:= λh=>by have:=A9n c;rw[h] at this;cases this
def LA (gs:List Cd) (a:AV):Prop:=a= .list gs.length (gs.flatMap Cd.cs)∨(gs=[]∧a=AA)
section
variable {gs:List Cd} {a:AV} {c:Cd} {K:AV→Aj} {i:Nat} {H:Hp}
theorem LA.len (h:LA gs a):AQ Bn a K=K (I gs.length):=by
 rcases h with rfl|⟨rfl,rfl⟩<;>exact id rfl
theorem LA.ia (h:LA gs a) (hi:i<gs.length):B9 Bn a (I i) K=K (.iptr gs[i].cs):=by
 rcases h with rfl|⟨rfl,rfl⟩
 ·exact A2g (f:=Cd.cs) rfl (λ_=>CA) hi
 ·simp at hi
theorem A5k:Ar Ad (.iptr c.cs) H K=K (.agg c.cs):=by
 match c with
 | .re b u=>exact id rfl
 | .co b p ps none=>exact id rfl
 | .co b p ps (some (k,vd))=>exact id rfl
abbrev BJ:List AV:=Eb 0 ⟨0,0,0,0,0⟩ u0 [] [] AA [] [] AA 0 AA AA u0 r0 0
abbrev B9i (c:Cd):Row:= .cells true Al c.cs
def gE (gs:List Cd):List (List UInt8×Cd):=gs.map λc=>(c.id,c)
theorem A26 {α:Type} {b:List (List UInt8×α)} {x:List UInt8} (h:x∉b.map (·.1)):JM b x=none:=by
 induction b with
 |nil=>rfl
 |cons e b ih=>
  simp only[XS,UJ,not_or] at h
  unfold JM
  rw[if_neg (Ne.symm h.1)]
  exact ih h.2
theorem B1g {α:Type} {b:List (List UInt8×α)} {x:List UInt8} {v:α} (h:x∉b.map (·.1)):Gv b x v=b++[(x,v)]:=by
 induction b with
 |nil=>rfl
 |cons e b ih=>
  simp only[XS,UJ,not_or] at h
  unfold Gv
  rw[if_neg (Ne.symm h.1),ih h.2];rfl
theorem A59 (gs:List Cd):(gE gs).map (·.1)=gs.map Cd.id:=by simp[gE]
end
structure GOk (gs:List Cd):Prop where
 ok:∀c∈gs,c.Ok
 nd:∀c∈gs,c.ps.Nodup
 ids:(gs.map Cd.id).Nodup
 len:gs.length≤8
section
variable {K:KV} {x:Aj} {gs:List Cd} {a:AV}
abbrev P0 (c:Cd):AV:= .agg c.cs
theorem C4O {k12:AV→AV→Hp→Aj} {r:Nat} {w:AV} (hg:GOk gs) (hL:40000<L) (ha:LA gs a)
 (hx:∀H,Aq H r=some (.map false (GF P0 (gE gs)) none)→k12 w (.mp r) H=x):∀(f i:Nat) (H:Hp),i≤gs.length→gs.length-i<f→Aq H r=some (.map false (GF P0 (gE (gs.take i))) none)→Wf H→
 On (L+20) (rt (L+20) (n+63)) K k12 f w (.mp r) a (I gs.length) (I i) H=x:=by
 intro f
 induction f with
 |zero=>intro i H _ h;omega
 |succ f ih=>
  intro i H hi hf hl wf
  rw[Rs]
  unfold Oo BS Av Gb Dr
  by_cases h:i<gs.length
  ·have hm:=QE h
   have hid:=B5l (L:=L) (n:=n) hL (hg.ok _ hm) (hg.nd _ hm)
   have hnew:gs[i].id∉(gE (gs.take i)).map (·.1):= λhc=>by
    rw[A59] at hc
    have hp:=hg.ids
    rw[←List.take_append_drop i gs,Zl,List.nodup_append] at hp
    have hd:gs[i].id∈(gs.drop i).map Cd.id:=l2a.2 ⟨_,by rw[l11 h];exact List.mem_cons_self,rfl⟩
    exact hp.2.2 _ hc _ hd rfl
   rw[FW (by omega),De,ha.ia h,A5k,Bi (cs:=BJ) rfl,B7 (cs:=BJ) (vs:=gs[i].cs) (A1 (by simp)) CA rfl KC]
   obtain⟨H1,e1,hc1,w1,k1⟩:=Er (e:=Al) (zs:=BJ) (vs:=gs[i].cs) wf CA
   rw[←e1,Bq rfl CA.symm hc1,Ba hid (Zq H1)]
   have hl1:=(k1 _ _ hl).1
   have ek:∀(F:Value→Aj),IV (S gs[i].id) F=F (SV gs[i].id):= λF=>id rfl
   rw[ek,R4 (f:=P0) (b:=gE (gs.take i)) (λK=>Pq hl1),A26 hnew]
   simp only[]
   rw[CZ,CY,Bi (cs:=BJ) rfl]
   rw[show(Ad.zero:AV)= .agg BJ from rfl,B7 (cs:=BJ) (vs:=BJ) (A1 (by simp)) rfl rfl rfl]
   obtain⟨H2,e2,hc2,w2,k2⟩:=Er (e:=Al) (zs:=BJ) (vs:=BJ) w1 rfl
   rw[←e2]
   have hl2:=(k2 _ _ hl1).1
   have hc3:=(k2 _ _ hc1).1
   have q1:∀{K},Go.Abs.Ak Ae .eql (S gs[i].id) (S []) K=K (Bo false):= λ{K}=>by rw[L9,decide_eq_false (A2n _)]
   simp only[gT,Cz,q1,WV]
   rw[Bz,Bq rfl CA.symm hc3,ek,Vv (f:=P0) (v:=gs[i]) hl2,B1g hnew,D4 (by have:=hg.len;omega)]
   have e3:gE (gs.take i)++[(gs[i].id,gs[i])]=gE (gs.take (i+1)):=by
    rw[l04 h,gE,gE,Zl];rfl
   rw[e3]
   exact ih (i+1) _ (by omega) (by omega) ((Ed hl2).trans rfl) (BR w2)
  ·rw[FE (by omega),Bz]
   have:i=gs.length:=by omega
   subst this
   rw[l06] at hl
   exact hx H hl
abbrev gV (gs:List Cd):AV:= .imap (GF P0 (gE gs))
theorem A2l {D:Nat} {m:ND} {u o:UD} {ca cb ra rb:List UInt8} {T P ins nds:AV} {kd id vd:Int} {r:RD} {H:Hp} (hT:Sl T) (hP:Sl P) (hI:Sl ins) (hN:Sl nds):Fx true (D+3) (.agg (Eb kd m u ca cb T ra rb P id ins nds o r vd)) (.agg (Eb kd m u ca cb T ra rb P id ins nds o r vd)) H false:=by
 rcases hT with rfl|⟨_,_,rfl⟩<;>rcases hP with rfl|⟨_,_,rfl⟩<;>rcases hI with rfl|⟨_,_,rfl⟩<;>rcases hN with rfl|⟨_,_,rfl⟩<;>exact λK=>by kernel_rfl
theorem A9o {D:Nat} {c:Cd} {H:Hp}:Fx true (D+3) (.agg c.cs) (.agg c.cs) H false:=by
 match c with
 | .re b u=>exact A2l (FI _) (Mh _) (.inl rfl) (.inl rfl)
 | .co b p ps none=>exact A2l (FI _) (Mh _) (.inr ⟨_,_,rfl⟩) (.inr ⟨_,_,rfl⟩)
 | .co b p ps (some (k,vd))=>exact A2l (FI _) (Mh _) (.inr ⟨_,_,rfl⟩) (.inr ⟨_,_,rfl⟩)
theorem B9c {D r:Nat} {H:Hp} {es:List (List UInt8×Cd)} (h:Aq H r=some (.map false (GF P0 es) none)):Fx true (D+4) (.mp r) (.imap (GF P0 es)) H true:=by
 intro K
 show JL H r (λx=>B4b x λes=>T4 (HO true H (D+3)) es λ_ es'=>K true (.imap es'))=_
 rw[BI h]
 show T4 (HO true H (D+3)) (GF P0 es) _=_
 have e:∀(es:List (List UInt8×Cd)) (F:Bool→List (Value×AV)→Aj),T4 (HO true H (D+3)) (GF P0 es) F=F false (GF P0 es):=by
  intro es
  induction es with
  |nil=>intro F;rfl
  |cons a es ih=>
   intro F
   show HO true H (D+3) (.agg a.2.cs) (λq a'=>T4 (HO true H (D+3)) (GF P0 es) λq' l'=>F (@Bool.rec (λ_=>Bool) q' true q) ((SV a.1,a')::l'))=_
   rw[A9o,ih];rfl
 rw[e]
theorem B2N (hg:GOk gs) (hL:40000<L) (ha:LA gs a) (K:KV) (hK:∀v0 H0,(∃q,Fx true depth v0 (.tup [gV gs,Bo true]) H0 q)→K v0 H0=some (.tup [gV gs,Bo true],[])):(rt (L+20) (n+64)).call ED [a] [] K=some (.tup [gV gs,Bo true],[]):=by
 rw[Xf]
 unfold SZ Av Gb Dr
 have em:∀(H:Hp) (K:KV),MQ Ad H K=K (.mp (A2 H)) ((A2 H,.map false [] none)::H):= λH K=>by
  show XA3 H (λs=>K (.mp s) ((s,.map false [] (A4S Ad.d))::H))=_
  rw[BZ];rfl
 rw[em]
 simp only[BX]
 have e0:(AV.v (.int .i64 0))=I ((0:Nat):Int):=rfl
 rw[ha.len,e0]
 refine C4O hg hL ha (λH hl=> ?_) (L+20) 0 _ (by omega) (by have:=hg.len;omega) (A1 (by simp)) (Br FH)
 rw[ha.len,DM,decide_eq_false (by have:=hg.len;omega),Bz]
 exact hK _ _ ⟨_,UO (D:=depth-1) (Ay (B9c (D:=depth-5) hl) (Ay (q:=false) D2 Be))⟩
end
end
section
variable {L n:Nat}
def cE (c:Cd):Ce (List UInt8):=⟨decide (c.kd=1),c.ps⟩
def gr (gs:List Cd):List (List UInt8×Ce (List UInt8)):=gs.map λc=>(c.id,cE c)
theorem B4F {gs:List Cd} {s:List UInt8}:JM (gr gs) s=(JM (gE gs) s).map cE:=by
 unfold gr gE
 induction gs with
 |nil=>rfl
 |cons c gs ih=>
  simp only[XS]
  unfold JM
  by_cases h:c.id=s
  ·simp[h]
  ·simp[h,ih]
abbrev clR (x y z:Nat):AV:= .fn (.func Cn) [] [.ptr x 0 0,.ptr y 0 0,.ptr z 0 0]
abbrev bA (v:Bool):AV:=Bo v
theorem gU {q:Bool} {y:Bool→Aj}:gdV q (.v undef) y=y false:=by cases q<;>exact id rfl
structure Rl (gs:List Cd) (y m x z:Nat) (b:List (List UInt8×Bool)) (H:Hp):Prop where
 g:Aq H y=some (.cells true BC [gV gs])
 mm:Aq H m=some (.map false (GF bA b) none)
 c:Aq H x=some (.cells true JB [.mp m])
 f:Aq H z=some (.cells true IG [clR x y z])
 wf:Wf H
 ne:m≠y∧m≠x∧m≠z
section
variable {gs:List Cd} {y m x z:Nat} {b:List (List UInt8×Bool)} {H H':Hp} {K:KV}
theorem Rl.up (h:Rl gs y m x z b H) (b':List (List UInt8×Bool)):Rl gs y m x z b' (upd H m (.map false (GF bA b') none)):=
 ⟨by rw[Ap h.ne.1.symm];exact h.g,(Ed h.mm).trans rfl,by rw[Ap h.ne.2.1.symm];exact h.c,by rw[Ap h.ne.2.2.symm];exact h.f,BR h.wf,h.ne⟩
theorem Rl.kp (h:Rl gs y m x z b H) (w:Wf H') (k:∀s r,Aq H s=some r→Aq H' s=some r∧s≠A2 H):Rl gs y m x z b H':=
 ⟨(k _ _ h.g).1,(k _ _ h.mm).1,(k _ _ h.c).1,(k _ _ h.f).1,w,h.ne⟩
theorem B8P {N:Nat} {s:List UInt8}:Dy (E (L+20)) (rt (L+20) N) (clR x y z) [S s] H K=(rt (L+20) N).call Cn [S s,.ptr x 0 0,.ptr y 0 0,.ptr z 0 0] H K:=by
 show US [S s] [.ptr x 0 0,.ptr y 0 0,.ptr z 0 0] (λas'=>US [] as' λall=>B4P ((E (L+20)).ne Cn) all H K (@Bool.rec (λ_=>Aj) (Ah (rt (L+20) N) Cn all H λv=>K v H) ((rt (L+20) N).call Cn all H K) ((E (L+20)).imp Cn)))=_
 rw[KS,KS,show(E (L+20)).ne Cn=false from rfl,show(E (L+20)).imp Cn=true from rfl]
 rfl
def RlC (L N n:Nat) (gs:List Cd) (y m x z:Nat):Prop:=∀(s:List UInt8) (b b':List (List UInt8×Bool)) (v:Bool) (H:Hp),Rl gs y m x z b H→dfs (gr gs) N s b=some (v,b')→
 ∃H',Rl gs y m x z b' H'∧∀K:KV,(rt (L+20) (n+N)).call Cn [S s,.ptr x 0 0,.ptr y 0 0,.ptr z 0 0] H K=K (Bo v) H'
theorem C4y {N:Nat} {a0 a1:AV} {ps:List (List UInt8)} {v:Bool} {b':List (List UInt8×Bool)} (hb:ps.length<100) (hc:RlC L N n gs y m x z):
 ∀(f i:Nat) (good:Bool) (b:List (List UInt8×Bool)) (H:Hp),i≤ps.length→ps.length-i<f→Rl gs y m x z b H→A7p (dfs (gr gs) N) (ps.drop i) good b=some (v,b')→
 ∃H',Rl gs y m x z b' H'∧∀(K:KV) (k50:AV→AV→AV→Hp→Aj),DG (L+20) (rt (L+20) (n+N)) K k50 f a0 a1 (.ptr z 0 0) (Bo good) (Ep ps) (I ps.length) (I i) H=k50 a0 a1 (Bo v) H':=by
 intro f
 induction f with
 |zero=>intro i good b H _ h;omega
 |succ f ih=>
  intro i good b H hi hf hr hd
  by_cases h:i<ps.length
  ·have hps:Ep ps=Ls ps:=Uo (by omega)
   rw[l11 h] at hd
   unfold A7p at hd
   cases good with
   |false=>
    obtain⟨H2,hr2,h2⟩:=ih (i+1) false b H (by omega) (by omega) hr hd
    refine⟨H2,hr2,λK k50=> ?_⟩
    rw[Gi]
    unfold DH Bc Av Dr
    rw[FW (by omega),De,hps,NL h,Gt,←hps]
    simp only[gTF,Cz,WV]
    rw[D4 (by omega)]
    exact h2 K k50
   |true=>
    simp only[if_true] at hd
    cases hq:dfs (gr gs) N ps[i] b with
    |none=>rw[hq] at hd;cases hd
    |some p=>
     obtain⟨w,b2⟩:=p
     rw[hq] at hd
     obtain⟨H2,hr2,hc2⟩:=hc ps[i] b b2 w H hr hq
     have lf:∀{K},Ar Aa (.ptr z 0 0) H K=K (clR x y z):= λ{K}=>AP (p:=0) rfl hr.f (show 0<1 by decide)
     obtain⟨H3,hr3,h3⟩:=ih (i+1) w b2 H2 (by omega) (by omega) hr2 hd
     refine⟨H3,hr3,λK k50=> ?_⟩
     rw[Gi]
     unfold DH Bc Av Dr
     rw[FW (by omega),De,hps,NL h,Gt,←hps]
     simp only[gT,Cz,lf,B8P,hc2,XO]
     rw[D4 (by omega)]
     exact h3 K k50
  ·have:i=ps.length:=by omega
   subst this
   rw[List.drop_length] at hd
   cases hd
   refine⟨H,hr,λK k50=> ?_⟩
   rw[Gi]
   unfold DH Bc Av Dr
   rw[FE (by omega),Bz]
theorem C62 {c:Cd} {r:Nat} (h:Aq H r=some (B9i c)) {K:AV→Aj}:Ar Ab (.ptr r 0 0) H K=K (I c.kd):=by
 match c with
 | .re b u=>exact AP (p:=0) rfl h (show 0<68 by decide)
 | .co b p ps none=>exact AP (p:=0) rfl h (show 0<68 by decide)
 | .co b p ps (some (k,vd))=>exact AP (p:=0) rfl h (show 0<68 by decide)
theorem B9l {c:Cd} {r:Nat} (h:Aq H r=some (B9i c)) {K:AV→Aj}:Ar Ac (.ptr r 31 0) H K=K (Ep c.ps):=by
 match c with
 | .re b u=>exact AP (p:=31) rfl h (show 31<68 by decide)
 | .co b p ps none=>exact AP (p:=31) rfl h (show 31<68 by decide)
 | .co b p ps (some (k,vd))=>exact AP (p:=31) rfl h (show 31<68 by decide)
theorem B4G {gs:List Cd} {s:List UInt8} {c:Cd} (h:JM (gE gs) s=some c):c∈gs∧c.id=s:=by
 have:=Xu h
 obtain⟨c',h1,h2⟩:=l2a.1 this
 cases h2
 exact⟨h1,rfl⟩
theorem B77 (hL:100<L) (hps:∀c∈gs,c.ps.length<100):∀N,RlC L N n gs y m x z:=by
 intro N
 induction N with
 |zero=>intro s b b' v H _ h;cases h
 |succ N ihN=>
  intro s b b' v H hr hd
  have lc:∀{K},Ar CC (.ptr x 0 0) H K=K (.mp m):= λ{K}=>AP (p:=0) rfl hr.c (show 0<1 by decide)
  have ek:∀(F:Value→Aj),IV (S s) F=F (SV s):= λF=>id rfl
  unfold dfs at hd
  cases hf:JM b s with
  |some w=>
   rw[hf] at hd
   cases hd
   refine⟨H,hr,λK=> ?_⟩
   rw[←Xk,IS]
   unfold FU Bc BS Av Gb Dr
   rw[lc,ek,R4 (f:=bA) (b:=b) (λK=>Pq hr.mm),hf]
   simp only[]
   rw[CZ,CY,De]
  |none=>
   rw[hf] at hd
   simp only[] at hd
   have hr1:=hr.up (Gv b s false)
   have up1:∀{F:Hp→Aj},Qx (.mp m) (SV s) (.v (.bool false)) H F=F (upd H m (.map false (GF bA (Gv b s false)) none)):= λ{F}=>Vv (f:=bA) (v:=false) hr.mm
   generalize upd H m (.map false (GF bA (Gv b s false)) none)=H1 at hr1 up1
   have lg:∀{K},Ar AT (.ptr y 0 0) H1 K=K (gV gs):= λ{K}=>AP (p:=0) rfl hr1.g (show 0<1 by decide)
   have f0:∀{s j:Nat} {K:AV→Aj},AM j (.ptr s 0 0) K=K (.ptr s j 0):= λ{s j K}=>by rw[fA,KF]
   rw[B4F] at hd
   cases hg:JM (gE gs) s with
   |none=>
    rw[hg] at hd
    cases hd
    obtain⟨H2,e2,hc2,w2,k2⟩:=Er (e:=Al) (zs:=BJ) (vs:=BJ) hr1.wf rfl
    have hr2:=hr1.kp w2 k2
    refine⟨_,hr2.up _,λK=> ?_⟩
    rw[←Xk,IS]
    unfold FU Bc BS Av Gb Dr
    rw[lc,ek,R4 (f:=bA) (b:=b) (λK=>Pq hr.mm),hf]
    simp only[]
    rw[CZ,CY,Bz,lc,ek,up1,lg,ek,R4 (f:=P0) (b:=gE gs) (λK=>id rfl),hg]
    simp only[]
    rw[CZ,CY,Bi (cs:=BJ) rfl,show(Ad.zero:AV)= .agg BJ from rfl,B7 (cs:=BJ) (vs:=BJ) (A1 (by simp)) rfl rfl rfl,←e2]
    have lp:∀{K},Ar Ac (.ptr (A2 H1) 31 0) H2 K=K AA:= λ{K}=>AP (p:=31) rfl hc2 (show 31<68 by decide)
    have ln:∀{K:AV→Aj},AQ Ac AA K=K (I 0):=id rfl
    simp only[gTF,gU,Cz,WV,BX,f0,lp,ln]
    have e5:∀(k:AV→AV→AV→Hp→Aj),DG (L+20) (rt (L+20) (n+N)) K k (L+20)=DH (L+20) (rt (L+20) (n+N)) K k (DG (L+20) (rt (L+20) (n+N)) K k (L+19)):= λk=>Gi _ _ _ _ _
    rw[e5]
    unfold DH Bc Av Dr
    have lc2:∀{K},Ar CC (.ptr x 0 0) H2 K=K (.mp m):= λ{K}=>AP (p:=0) rfl hr2.c (show 0<1 by decide)
    rw[FE (by omega),Bz]
    show Ar CC (.ptr x 0 0) H2 _=_
    rw[lc2,ek,Vv (f:=bA) (v:=false) hr2.mm]
   |some c=>
    rw[hg] at hd
    obtain⟨hcm,hcid⟩:=B4G hg
    simp only[l0x] at hd
    obtain⟨H2,e2,hc2,w2,k2⟩:=Er (e:=Al) (zs:=BJ) (vs:=c.cs) hr1.wf CA
    have hr2:=hr1.kp w2 k2
    cases hq:A7p (dfs (gr gs) N) (cE c).ps ((cE c).real|| !(cE c).ps.isEmpty) (Gv b s false) with
    |none=>rw[hq] at hd;cases hd
    |some p=>
     obtain⟨w,b2⟩:=p
     rw[hq] at hd
     cases hd
     obtain⟨H3,hr3,h3⟩:=C4y (L:=L) (n:=n) (N:=N) (a0:=S s) (a1:= .ptr x 0 0) (ps:=c.ps) (hps c hcm) ihN (L+20) 0 _ _ H2 (by omega) (by have:=hps c hcm;omega) hr2 (by rw[l1n];exact hq)
     refine⟨_,hr3.up _,λK=> ?_⟩
     rw[←Xk,IS]
     unfold FU Bc BS Av Gb Dr
     rw[lc,ek,R4 (f:=bA) (b:=b) (λK=>Pq hr.mm),hf]
     simp only[]
     rw[CZ,CY,Bz,lc,ek,up1,lg,ek,R4 (f:=P0) (b:=gE gs) (λK=>id rfl),hg]
     simp only[]
     rw[CZ,CY,Bi (cs:=BJ) rfl,B7 (cs:=BJ) (vs:=c.cs) (A1 (by simp)) CA rfl KC,←e2]
     have lp:∀{K},Ar Ac (.ptr (A2 H1) 31 0) H2 K=K (Ep c.ps):= λ{K}=>B9l hc2
     have lk:∀{K},Ar Ab (.ptr (A2 H1) 0 0) H2 K=K (I c.kd):= λ{K}=>C62 hc2
     have e1:∀{K},Go.Abs.Ak Ab .eql (I c.kd) (.v (.int .i64 1)) K=K (Bo (decide (c.kd=1))):= λ{K}=>by rw[Dd]
     have g0:∀{K},Go.Abs.Ak Ab .gtr (I (c.ps.length:Int)) (.v (.int .i64 0)) K=K (Bo (!c.ps.isEmpty)):= λ{K}=>by
      rw[DM]
      cases hp:c.ps<;>simp
     have lc3:∀{K},Ar CC (.ptr x 0 0) H3 K=K (.mp m):= λ{K}=>AP (p:=0) rfl hr3.c (show 0<1 by decide)
     simp only[gT,Cz,f0,lk,e1]
     have fin:∀good:Bool,((cE c).real|| !(cE c).ps.isEmpty)=good→(DG (L+20) (rt (L+20) (n+N)) K (λv51 v52 v53 H54=>Ar CC v52 H54 λv43=>IV v51 λq44=>Qx v43 q44 v53 H54 λH45=>K v53 H45) (L+20) (S s) (.ptr x 0 0) (.ptr z 0 0) (Bo good) (Ep c.ps) (I c.ps.length) (I ((0:Nat):Int)) H2)=K (Bo v) (upd H3 m (.map false (GF bA (Gv b2 s v)) none)):= λgood hgd=>by
      rw[←hgd,h3]
      rw[lc3,ek,Vv (f:=bA) (v:=v) hr3.mm]
     by_cases hk:c.kd=1
     ·simp only[hk,decide_true,gFT,Cz,XO,BX,f0,lp,UW]
      exact fin true (by simp[cE,hk])
     ·simp only[hk,decide_false,gT,Cz,WV,XO,BX,f0,lp,UW,g0]
      exact fin _ (by simp[cE,hk])
theorem A7Y {a:AV} {s:List UInt8} (hg:GOk gs) (hL:40000<L) (hp:∀c∈gs,c.ps.length<100) (ha:LA gs a):CS (rt (L+20) (n+80)) F9 [a,S s] (Bo (rz (gr gs) gs.length s)):=by
 intro K hK
 rw[We]
 unfold Nr
 have hfx:Pu true depth [a] [a] [] false:=by rcases ha with rfl|⟨_,rfl⟩<;>exact λK=>by kernel_rfl
 have of:∀{K:AV→Aj},Ah (rt (L+20) (n+79)) ED [a] [] K=K (.tup [gV gs,Bo true]):= λ{K}=>GS (λK hK=>B2N (n:=n+15) hg hL ha K hK) hfx
 rw[of,CZ,CY]
 have hr:Rl gs 0 1 2 3 [] [(3,.cells true IG [clR 2 0 3]),(2,.cells true JB [.mp 1]),(1,.map false [] none),(0,.cells true BC [gV gs])]:=
  ⟨rfl,rfl,rfl,rfl,λk hk=>by simp at hk;show k<4;omega,by decide⟩
 have go:Dy (E (L+20)) (rt (L+20) (n+79)) (clR 2 0 3) [S s] [(3,.cells true IG [clR 2 0 3]),(2,.cells true JB [.mp 1]),(1,.map false [] none),(0,.cells true BC [gV gs])] K=some (Bo (rz (gr gs) gs.length s),[]):=by
  rw[B8P]
  have hlen:(gr gs).length=gs.length:=by simp[gr]
  obtain⟨b',hd⟩:=B8s (g:=gr gs) s
  rw[hlen] at hd
  obtain⟨H',_,h⟩:=B77 (L:=L) (n:=n+77-gs.length) (by omega) hp (gs.length+2) s [] b' _ _ hr hd
  have e:n+79=n+77-gs.length+(gs.length+2):=by have:=hg.len;omega
  rw[e,h]
  exact hK _ _ (λb=>⟨false,λK=>by kernel_rfl⟩)
 exact go
end
end
end Go.Abs
end
noncomputable section
end
noncomputable section
namespace Go.Abs
open Go.RowKit Go.Proofs
set_option maxRecDepth 100000
section
variable {L n:Nat}
def SA (l:List (List UInt8)) (a:AV):Prop:=a=Ls l∨(l=[]∧a=AA)
theorem JU (l:List (List UInt8)):SA l (Ep l):=by cases l with|nil=>exact .inr ⟨rfl,rfl⟩|cons p l=>exact .inl rfl
section
variable {l:List (List UInt8)} {a:AV} {i:Nat} {K:AV→Aj} {s:List UInt8}
theorem SA.len (h:SA l a):AQ Ac a K=K (I l.length):=by
 rcases h with rfl|⟨rfl,rfl⟩
 ·exact Lc
 ·exact id rfl
theorem SA.ia (h:SA l a) (hi:i<l.length):B9 Ac a (I i) K=K (.iptr [S l[i]]):=by
 rcases h with rfl|⟨rfl,rfl⟩
 ·exact NL hi
 ·simp at hi
theorem SA.fx (h:SA l a) (H:Hp):Fx true depth a a H false:=by
 rcases h with rfl|⟨rfl,rfl⟩<;>exact λK=>by kernel_rfl
def Xr (s:List UInt8):List (List UInt8)→Nat→AV
 |[],_=> .tup [Bo false,I (-1)]
 |a::l,i=>if a=s then .tup [Bo true,I i] else Xr s l (i+1)
theorem Xq:∀(l:List (List UInt8)) (i:Nat),s∉l→Xr s l i= .tup [Bo false,I (-1)]:=by
 intro l
 induction l with
 |nil=>intro i _;rfl
 |cons a l ih=>
  intro i h
  simp only[UJ,not_or] at h
  unfold Xr
  rw[if_neg (Ne.symm h.1)]
  exact ih _ h.2
theorem UM:∀(l:List (List UInt8)) (i:Nat),s∈l→∃k,∃h:k<l.length,l[k]=s∧(∀m (hm:m<k),l[m]≠s)∧Xr s l i= .tup [Bo true,I ((i+k:Nat):Int)]:=by
 intro l
 induction l with
 |nil=>intro i h;cases h
 |cons a l ih=>
  intro i h
  unfold Xr
  by_cases e:a=s
  ·exact⟨0,by simp,e,λm hm=>by omega,by rw[if_pos e];rfl⟩
  ·obtain⟨k,hk,h1,h2,h3⟩:=ih (i+1) ((UJ.1 h).resolve_left (Ne.symm e))
   refine⟨k+1,by simp;omega,by simpa using h1,λm hm=> ?_,by rw[if_neg e,h3];congr 4;omega⟩
   cases m with
   |zero=>exact e
   |succ m=>exact h2 m (by omega)
end
section
variable {K:KV} {x:Aj} {l:List (List UInt8)} {a:AV} {s:List UInt8} {gs:List Cd}
theorem C2D {k3:Hp→Aj} {H:Hp} (ha:SA l a) (hb:l.length<1000) {v:AV} (hv:K v H=x) (hk:v= .tup [Bo false,I (-1)]→k3 H=x):∀(f i:Nat),i≤l.length→l.length-i<f→Xr s (l.drop i) i=v→
 Pb (L+20) (rt (L+20) n) K k3 f a (S s) (I i) H=x:=by
 intro f
 induction f with
 |zero=>intro i _ h;omega
 |succ f ih=>
  intro i hi hf hd
  rw[A1e]
  unfold SF Av Gb
  rw[ha.len]
  by_cases h:i<l.length
  ·rw[l11 h] at hd
   unfold Xr at hd
   rw[FW (by omega),De,ha.ia h,Gt,L9]
   by_cases e:l[i]=s
   ·rw[if_pos e] at hd
    rw[decide_eq_true e,De,hd]
    exact hv
   ·rw[if_neg e] at hd
    rw[decide_eq_false e,Bz,D4 (by omega)]
    exact ih (i+1) (by omega) (by omega) hd
  ·rw[FE (by omega),Bz]
   have:i=l.length:=by omega
   subst this
   rw[List.drop_length] at hd
   exact hk hd.symm
theorem B3K (ha:SA l a) (hb:l.length<1000) (hL:2000<L):CS (rt (L+20) (n+1)) IB [a,S s] (Xr s l 0):=by
 intro K hK
 have fin:∀H,K (Xr s l 0) H=some (Xr s l 0,[]):= λH=>hK _ _ (λb=>⟨false,by
  by_cases h:s∈l
  ·obtain⟨k,_,_,_,e⟩:=UM l 0 h
   rw[e];exact λK=>by kernel_rfl
  ·rw[Xq l 0 h];exact λK=>by kernel_rfl⟩)
 rw[A34]
 unfold Uy Av Dr
 simp only[BX]
 have e0:(AV.v (.int .i64 0))=I ((0:Nat):Int):=rfl
 rw[e0]
 refine C2D ha hb (fin []) (λe=> ?_) (L+20) 0 (by omega) (by omega) (by rw[l1n])
 have:=fin []
 rw[e] at this
 rw[e]
 exact this
theorem C2A {k4:AV→Hp→Aj} (hg:∀c∈gs,c.Ok∧c.ps.Nodup) (hb:gs.length<100) (hL:40000<L) (ha:LA gs a)
 (hx:∀v H,Bv H Au 1 v gs.length (AK (gs.map Cd.id))→(gs=[]→v=AA)→k4 v H=x):∀(f i:Nat) (v:AV) (H:Hp),i≤gs.length→gs.length-i<f→Bv H Au 1 v (gs.take i).length (AK ((gs.take i).map Cd.id))→(gs.take i=[]→v=AA)→Wf H→
 OZ (L+20) (rt (L+20) (n+64)) K k4 f a v (I i) H=x:=by
 intro f
 induction f with
 |zero=>intro i v H _ h;omega
 |succ f ih=>
  intro i v H hi hf hs h0 w
  rw[A1d]
  unfold SE Av
  rw[ha.len]
  by_cases h:i<gs.length
  ·obtain⟨h1,h2⟩:=hg _ (QE h)
   have e1:(gs.take i).length=((gs.take i).map Cd.id).length:=by simp
   rw[e1] at hs
   obtain⟨v',H',h3,h4,h5,h6, -⟩:=B0C gs[i].id hs w (by simp;omega)
   rw[FW (by omega),De,ha.ia h,A5k,Ba (A9m (n:=n) hL h1 h2) (Zq H),h3,D4 (by omega)]
   have e2:(gs.take i).map Cd.id++[gs[i].id]=(gs.take (i+1)).map Cd.id:=by rw[l04 h,Zl];rfl
   rw[e2] at h4
   exact ih (i+1) v' H' (by omega) (by omega) (by rw[Wv] at h4;exact h4) (λe=>by have:=congrArg List.length e;rw[l0g,OU] at this;omega) h5
  ·rw[FE (by omega),Bz]
   have:i=gs.length:=by omega
   subst this
   rw[l06] at hs h0
   exact hx v H hs h0
theorem B3J (hg:∀c∈gs,c.Ok∧c.ps.Nodup) (hb:gs.length<100) (hL:40000<L) (ha:LA gs a):CS (rt (L+20) (n+65)) IA [a] (Ep (gs.map Cd.id)):=by
 intro K hK
 rw[A33]
 unfold Ux Av
 simp only[BX]
 have e0:(AV.v (.int .i64 0))=I ((0:Nat):Int):=rfl
 rw[e0]
 refine C2A hg hb hL ha (λv H hs h0=> ?_) (L+20) 0 _ [] (by omega) (by omega) (.inl ⟨rfl,rfl,rfl⟩) (λ_=>rfl) FH
 refine hK _ _ (λb=> ?_)
 by_cases hn:gs=[]
 ·subst hn
  rw[h0 rfl]
  exact⟨false,D2⟩
 ·have hl:(gs.map Cd.id)≠[]:=by simpa using hn
  have e:Ep (gs.map Cd.id)= .list gs.length (AK (gs.map Cd.id)):=by rw[Uo (by cases hq:gs.map Cd.id with|nil=>exact absurd hq hl|cons _ _=>simp),Ls];simp
  rw[e]
  exact⟨true,A25 hs (by cases gs with|nil=>exact absurd rfl hn|cons _ _=>simp) (λs=>Value.string ⟨⟨s⟩⟩) (gs.map Cd.id) rfl⟩
theorem B1M {t:TI} {e w m i:Nat} {cs:List AV} {K:AV→Aj} (hd:t.d= .slice e w) (h:i≤m):Dh t (.list m cs) none (some (I (i:Int))) none K=K (.list i (cs.take (i*w))):=by
 obtain⟨s,b,d,z⟩:=t
 simp only at hd
 subst hd
 have e1:Dh ⟨s,b,.slice e w,z⟩ (.list m cs) none (some (I (i:Int))) none K=Sj none 0 λl=>iN (i:Int) λh=>fN m λx=>ck ((true||true)&&(Nat.ble l h&&(Nat.ble h x&&Nat.ble x m))) (fN (Nat.sub h l) λn=>Ot (Nat.mul n w) (Dv (Nat.mul l w) cs) λc=>K (.list n c)):=rfl
 have e2:∀F:Nat→Aj,Sj none 0 F=F 0:= λF=>rfl
 rw[e1,e2,Jn,Di]
 have c:((true||true)&&(Nat.ble 0 i&&(Nat.ble i m&&Nat.ble m m)))=true:=by simp only[Bool.true_or,l16,Jm,XQ];omega
 rw[c]
 show fN (Nat.sub i 0) (λn=>Ot (Nat.mul n w) (Dv (Nat.mul 0 w) cs) λc=>K (.list n c))=_
 rw[Di,KR,CE]
 show K (.list (i-0) ((cs.drop (0*w)).take ((i-0)*w)))=_
 rw[Nat.zero_mul,Nat.sub_zero,l1n]
end
end
section
variable {L n:Nat}
def CT (R:Rt) (f:Nat) (args:List AV) (v:AV):Prop:=∀K:KV,(∀v0 H0,(∃q,Fx true depth v0 v H0 q)→K v0 H0=some (v,[]))→R.call f args [] K=some (v,[])
theorem CT.z {R:Rt} {f:Nat} {args args':List AV} {v:AV} {H:Hp} {K:AV→Aj} (hc:CT R f args' v) (ha:Pu true depth args args' H false):Ah R f args H K=K v:=GS hc ha
def pk (c n:Int):Int:=(if c<0 then-(c+1) else c)%n
theorem EU {c n:Int} (h:0<n):0≤pk c n∧pk c n<n:=⟨Int.emod_nonneg _ (by omega),Int.emod_lt_of_pos _ h⟩
section
variable {K:KV} {x:Aj} {a b:AV} {s:List UInt8} {gs:List Cd} {H:Hp}
theorem LA.fx (h:LA gs a) (H:Hp):Fx true depth a a H false:=by rcases h with rfl|⟨_,rfl⟩<;>exact λK=>by kernel_rfl
theorem B8e {gs:List Cd} {s:List UInt8}:(∃h:s∈gs.map Cd.id,∃k,∃hk:k<gs.length,JM (gE gs) s=some gs[k]∧Xr s (gs.map Cd.id) 0= .tup [Bo true,I (k:Int)])∨(s∉gs.map Cd.id∧JM (gE gs) s=none∧Xr s (gs.map Cd.id) 0= .tup [Bo false,I (-1)]):=by
 by_cases h:s∈gs.map Cd.id
 ·left
  obtain⟨k,hk,h1,h2,h3⟩:=UM _ 0 h
  refine⟨h,k,by simpa using hk,?_,by rw[h3,KF]⟩
  clear h h3
  induction gs generalizing k with
  |nil=>simp at hk
  |cons c gs ih=>
   show JM ((c.id,c)::gE gs) s=_
   unfold JM
   cases k with
   |zero=>simp at h1;rw[if_pos h1];rfl
   |succ k=>
    have h0:=h2 0 (by omega)
    simp at h0
    rw[if_neg h0]
    exact ih k (by simpa using hk) (by simpa using h1) (λm hm=>by simpa using h2 (m+1) (by omega))
 ·exact .inr ⟨h,A26 (by rw[A59];exact h),Xq _ 0 h⟩
theorem B1H {z:Int} {K:AV→Aj} (h1: -9223372036854775808<z) (h2:z<9223372036854775808):GR .neg (I z) K=K (I (-z)):=by
 have e:GR .neg (I z) K=MD .i64 (0-z) λz=>K (.v (.int .i64 z)):=rfl
 rw[e,He,Int.zero_sub,Cp (by omega) (by omega)]
end
def Le (z:Int):Prop:= -9223372036854775808≤z∧z<9223372036854775808
section
variable {c m:Int}
theorem A4K {K:AV→Aj} (hc:Le c) (hm:0<m) (hm2:m<9223372036854775808) {k1:AV→Aj} (hk:k1= λv=>Go.Abs.Ak Ab .rem v (I m) K):
 (Go.Abs.Ak Ab .lss (I c) (.v (.int .i64 0)) λv5=>Aw v5 (Go.Abs.Ak Ab .add (I c) (.v (.int .i64 1)) λv6=>GR .neg v6 λv7=>k1 v7) (k1 (I c)))=K (I (pk c m)):=by
 subst hk
 obtain⟨h1,h2⟩:=hc
 rw[DL]
 by_cases h:c<0
 ·rw[decide_eq_true h,De,CH,Cp (by omega) (by omega),B1H (by omega) (by omega)]
  show Go.Abs.Ak Ab .rem (I (-(c+1))) (I m) K=_
  rw[UZ (by omega),Int.tmod_eq_emod_of_nonneg (by omega)]
  unfold pk;rw[if_pos h]
 ·rw[decide_eq_false h,Bz]
  show Go.Abs.Ak Ab .rem (I c) (I m) K=_
  rw[UZ (by omega),Int.tmod_eq_emod_of_nonneg (by omega)]
  unfold pk;rw[if_neg h]
theorem A6A (hc:Le c) (hm:0<m) (hm2:m<9223372036854775808):PS (rt (L+20) (n+1)) Kr [I c,I m] (I (pk c m)):=by
 refine CS.ps (λK hK=> ?_) (λH=> λK=>by kernel_rfl)
 rw[A1w]
 unfold SJ Av
 simp only[BX]
 exact(A4K (K:= λv=>K v []) hc hm hm2 rfl).trans (hK _ _ (λb=>⟨false,λK=>by kernel_rfl⟩))
theorem KL (hc:Le c) (hm:0<m) (hm2:m<9223372036854775808):PS (rt (L+20) (n+1)) B5 [I c,I m] (I (pk c m)):=by
 refine CS.ps (λK hK=> ?_) (λH=> λK=>by kernel_rfl)
 rw[A1y]
 unfold SL Av
 simp only[BX]
 exact(A4K (K:= λv=>K v []) hc hm hm2 rfl).trans (hK _ _ (λb=>⟨false,λK=>by kernel_rfl⟩))
theorem A1t (hc:Le c) (hm:0<m) (hm2:m<9223372036854775808):PS (rt (L+20) (n+1)) HT [I c,I m] (I (pk c m)):=by
 refine CS.ps (λK hK=> ?_) (λH=> λK=>by kernel_rfl)
 rw[A1E]
 unfold SU Av
 simp only[BX]
 exact(A4K (K:= λv=>K v []) hc hm hm2 rfl).trans (hK _ _ (λb=>⟨false,λK=>by kernel_rfl⟩))
theorem KM (hc:Le c) (hm:0<m) (hm2:m<9223372036854775808):PS (rt (L+20) (n+1)) BO [I c,I m] (I (pk c m)):=by
 refine CS.ps (λK hK=> ?_) (λH=> λK=>by kernel_rfl)
 rw[A1B]
 unfold SQ Av
 simp only[BX]
 exact(A4K (K:= λv=>K v []) hc hm hm2 rfl).trans (hK _ _ (λb=>⟨false,λK=>by kernel_rfl⟩))
end
section
variable {K:KV} {x:Aj} {a:AV} {s:List UInt8} {gs:List Cd} {H:Hp}
def NA (ws:List Int) (w:AV):Prop:=(w= .list ws.length (EG ws)∨(ws=[]∧w=AA))∧ws.length<9223372036854775808∧∀z∈ws,Le z
theorem NA.len {ws:List Int} {w:AV} {K:AV→Aj} (h:NA ws w):AQ Ag w K=K (I ws.length):=by
 rcases h.1 with rfl|⟨rfl,rfl⟩<;>exact id rfl
theorem NA.ia {ws:List Int} {w:AV} {K:AV→Aj} {i:Nat} (h:NA ws w) (hi:i<ws.length) (hb:i<1000000):(B9 Ag w (I i) λp=>Ar Ab p H K)=K (I ws[i]):=by
 rcases h.1 with rfl|⟨rfl,rfl⟩
 ·have el:(EG ws).length=ws.length:=by simp[EG]
  rw[UX rfl el (by omega) (by omega),XP,NJ rfl,Qk hi]
 ·simp at hi
end
end
section
variable {L n:Nat}
section
variable {c:Int}
theorem B8X {k m:Int} (h0:0≤k) (h1:k<m):pk k m=k:=by
 unfold pk
 rw[if_neg (by omega),Int.emod_eq_of_lt h0 h1]
theorem B3l:((List.range 7).all λi=>Iu (AX (CL (rt (L+20) (n+42)) Ff [I (i:Nat)]) (.agg (uu i).cs)))=true:=by kernel_rfl
theorem A8r (hc:Le c):PS (rt (L+20) (n+42)) Ff [I c] (.agg (Ck (uu (pk c 7).toNat))):=by
 have pr:=EU (c:=c) (n:=7) (by decide)
 obtain⟨k,hk⟩:∃k:Nat,pk c 7=k:=⟨(pk c 7).toNat,by omega⟩
 have hk7:k<7:=by omega
 refine B4 (λH K=>by kernel_rfl) ?_
 have e:CL (rt (L+20) (n+42)) Ff [I c]=CL (rt (L+20) (n+42)) Ff [I (k:Nat)]:=by
  unfold CL
  rw[UA,UA]
  unfold SR Av
  have h1:∀H K,Ah (rt (L+20) (n+41)) BO [I c,.v (.int .i64 7)] H K=K (I (pk c 7)):=KM (n:=n+40) hc (by decide) (by decide)
  have h2:∀H K,Ah (rt (L+20) (n+41)) BO [I (k:Int),.v (.int .i64 7)] H K=K (I (pk k 7)):=KM (n:=n+40) (by unfold Le;omega) (by decide) (by decide)
  simp only[h1,h2,hk,B8X (k:=(k:Int)) (m:=7) (by omega) (by omega)]
 rw[e,hk,XP]
 exact HB.1 B3l k (Ju.2 hk7)
theorem B3y:((List.range 3).all λi=>Iu (AX (CL (rt (L+20) (n+2)) IZ [I (i:Nat)]) (.agg (rr (1+i)).cs)))=true:=by kernel_rfl
theorem B7l (hc:Le c):PS (rt (L+20) (n+2)) IZ [I c] (.agg (rr (1+(pk c 3).toNat)).cs):=by
 have pr:=EU (c:=c) (n:=3) (by decide)
 obtain⟨k,hk⟩:∃k:Nat,pk c 3=k:=⟨(pk c 3).toNat,by omega⟩
 have hk7:k<3:=by omega
 refine B4 (λH K=>by kernel_rfl) ?_
 have e:CL (rt (L+20) (n+2)) IZ [I c]=CL (rt (L+20) (n+2)) IZ [I (k:Nat)]:=by
  unfold CL
  rw[Uz,Uz]
  unfold SN Av
  have h1:∀H K,Ah (rt (L+20) (n+1)) B5 [I c,.v (.int .i64 3)] H K=K (I (pk c 3)):=KL (n:=n) hc (by decide) (by decide)
  have h2:∀H K,Ah (rt (L+20) (n+1)) B5 [I (k:Int),.v (.int .i64 3)] H K=K (I (pk k 3)):=KL (n:=n) (by unfold Le;omega) (by decide) (by decide)
  simp only[h1,h2,hk,B8X (k:=(k:Int)) (m:=3) (by omega) (by omega)]
 rw[e,hk,XP]
 exact HB.1 B3y k (Ju.2 hk7)
def A2V (c:Int):List UInt8:=sha (HD [c])
theorem A1p (hL:40000<L) (h1: -10≤c) (h2:c<1090):PS (rt (L+20) (n+20)) FZ [I c] (S (A2V c)):=by
 refine CS.ps (λK hK=> ?_) (λH=> λK=>by kernel_rfl)
 rw[Yz]
 unfold Qb
 have hl:=E6 [c]
 have fx:Pu true depth [.sl 1 (A2 []) 0 1] [.list 1 (EG [c])] ((A2 [],.cells false DA (EG [c]))::[]) true:=
  Ay (q:=true) (q':=false) (Xt (D:=depth-1) (q':=false) (A1 (by simp)) rfl (KA (λz:Int=>Value.int .i64 z) [c])) Be
 rw[Vw,Ba (A3B (L:=L) (n:=n+14) (l:=[c]) (by simp) (by simp;omega) (by simp;omega)) fx,Ba (B8S (L:=L+20) (n:=n+16) (s:=HD [c]) (by simp only[K9,OU] at hl;omega) (by simp only[K9,OU] at hl;omega)) (q:=false) (λK=>by kernel_rfl)]
 exact hK _ _ (λb=>⟨false,λK=>by kernel_rfl⟩)
end
end
section
variable {L n:Nat}
theorem A7w {e sz n:Nat} {ie i2:TI} {H:Hp} {v:AV} {cs ys:List AV} (h:Bv H e sz v n cs) (w:Wf H) (hl:ys.length=sz) (h1:ys.all AV.one=true) (hsz:sz≠0) (hz:(B8 ie.zero).length=sz)
 (ht:∀s,(A14 i2.d&&Uh sz (.sl sz s 0 1))=true) (hb:(n+1)*ie.bytes≤70368744177664) (hb2:n+1≤70368744177664):
 ∃v' H',(∀K:KV,DN e sz ie i2 v (.sl sz (A2 H) 0 1) ((A2 H,.cells false e ys)::H) K=K v' H')∧Bv H' e sz v' (n+1) (cs++ys)∧Wf H'∧A2 H≤A2 H'∧(∀s x,Aq H s=some x→¬AG v s→Aq H' s=some x)∧(∀s,AG v' s→A2 H≤s):=by
 have hv1:Bv ((A2 H,.cells false e ys)::H) e sz v n cs:=h.lat w (Lat.cons H _ (λ_=>False)) (λ_ _ h=>h)
 have hsrc:Bv ((A2 H,.cells false e ys)::H) e sz (.sl sz (A2 H) 0 1) 1 ys:= .inr ⟨A2 H,false,rfl,A1 (by simp),by omega⟩
 obtain⟨v',H',h1,h2,h3,h4⟩:=apt (ie:=ie) (i2:=i2) hv1 (λK=>Pt (K:=K) hsrc) (by omega) h1 hsz hz (ht _) hb hb2
 have h5:=(Lat.cons H (.cells false e ys) (AG v)).trans h4 (R:=AG v) (λ_ _ h=>h) (λ_ _ h=>h)
 refine⟨v',H',h1,h2,h5.wf w,h5.nx,λs x hs hn=>h5.keep w s x hs hn,λs hs=> ?_⟩
 rw[h3 s hs];exact l1p _
theorem C7P {e sz n:Nat} {ie i2:TI} {H:Hp} {v x:AV} {cs ys:List AV} (hbs:∀K:KV,F3 e sz ie 1 [(0,sz,x)] H K=K (.sl sz (A2 H) 0 1) ((A2 H,.cells false e ys)::H)) (h:Bv H e sz v n cs) (w:Wf H) (hl:ys.length=sz) (h1:ys.all AV.one=true) (hsz:sz≠0) (hz:(B8 ie.zero).length=sz)
 (ht:∀s,(A14 i2.d&&Uh sz (.sl sz s 0 1))=true) (hb:(n+1)*ie.bytes≤70368744177664) (hb2:n+1≤70368744177664):
 ∃v' H',(∀K:KV,(F3 e sz ie 1 [(0,sz,x)] H λv1 H1=>DN e sz ie i2 v v1 H1 K)=K v' H')∧Bv H' e sz v' (n+1) (cs++ys)∧Wf H'∧A2 H≤A2 H'∧(∀s x,Aq H s=some x→¬AG v s→Aq H' s=some x)∧(∀s,AG v' s→A2 H≤s):=by
 obtain⟨v',H',a1,a2⟩:=A7w (ie:=ie) (i2:=i2) h w hl h1 hsz hz ht hb hb2
 exact⟨v',H',λK=>by rw[hbs];exact a1 K,a2⟩
theorem YP {i:TI} {s p e:Nat} {q:Bool} {cs vs:List AV} {H:Hp} {K:Hp→Aj} (hl:Aq H s=some (.cells q e cs)) (hp:p+vs.length≤cs.length) (hz:i.size=vs.length) (h1:vs.all AV.one=true):CG i (.ptr s p 0) (.agg vs) H K=K (upd H s (.cells q e (splice cs p vs))):=by
 have e1:CG i (.ptr s p 0) (.agg vs) H K=JL H s λx=>A1a x λq e cs=>Hi (.agg vs) λvs=>GP vs 0 λn=>ck (Nat.beq n i.size) (ck (PZ vs) (E8 (Nat.add p 0) vs cs λcs'=>LL H s (.cells q e cs') K)):=rfl
 rw[e1,BI hl]
 show(Hi (.agg vs) λvs=>GP vs 0 λn=>ck (Nat.beq n i.size) (ck (PZ vs) (E8 p vs cs λcs'=>LL H s (.cells q e cs') K)))=_
 have hc:B8 (.agg vs)=vs:=rfl
 rw[CQ,hc,Co,hz,Gg,h1,KF,Zj]
 show E8 p vs cs _=_
 rw[Ka _ _ _ _ (by omega),Dm]
theorem Bv.one {H:Hp} {e sz n:Nat} {v:AV} {cs:List AV} (h:Bv H e sz v n cs):AV.one v=true:=by
 rcases h with⟨rfl,_⟩|⟨r,q,rfl,_⟩<;>rfl
theorem Bv.cell {H:Hp} {e sz n:Nat} {v:AV} {cs:List AV} (h:Bv H e sz v n cs):B8 v=[v]:=by
 rcases h with⟨rfl,_⟩|⟨r,q,rfl,_⟩<;>rfl
def tmV (t:Int×Int):List Value:=[.int .i64 t.1,.string ⟨⟨qn t.2⟩⟩,.string ⟨⟨qd t.2⟩⟩]
theorem C47 (l:Tms):l.flatMap NO=(l.flatMap tmV).map λx=> .v x:=by
 induction l with
 |nil=>rfl
 |cons k l ih=>rw[l00,l00,Zl,ih];rfl
theorem C2H {D:Nat} {b:Bool} {H:Hp} {v:AV} {l:Tms} (h:Bv H AR 3 v l.length (l.flatMap NO)) (h0:l=[]→v=AA):∃q,Fx b (D+1) v (FC l) H q:=by
 rcases h with⟨rfl,h2,_⟩|⟨r,q,rfl,h2,h3⟩
 ·cases l with
  |nil=>exact⟨false,D2⟩
  |cons a l=>simp at h2
 ·cases l with
  |nil=>have:=h0 rfl;cases this
  |cons a l=>
   refine⟨true,?_⟩
   show Fx b (D+1) _ (.list (a::l).length ((a::l).flatMap NO)) H true
   rw[C47] at h2 h3⊢
   exact Xt (q':=false) h2 h3 (KA _root_.id _)
def JR (x:List Int):Nat→Tms
 |0=>[]
 |i+1=>if pk (x.getD i 0) 17-8≠0∧(JR x i).length<5 then JR x i++[(1+(i:Int),pk (x.getD i 0) 17-8)] else JR x i
theorem A9P (x:List Int):∀i,i≤6→TmsOk (JR x i)∧(JR x i).length≤5∧∀t∈JR x i,t.1≤i:=by
 intro i
 induction i with
 |zero=>intro _;exact⟨⟨by simp[JR],by simp[JR],by simp[JR]⟩,by simp[JR],by simp[JR]⟩
 |succ i ih=>
  intro hi
  obtain⟨h1,h2,h3⟩:=ih (by omega)
  have pr:=EU (c:=x.getD i 0) (n:=17) (by decide)
  unfold JR
  by_cases h:pk (x.getD i 0) 17-8≠0∧(JR x i).length<5
  ·rw[if_pos h]
   refine⟨⟨by simp;omega,λt ht=> ?_,?_⟩,by simp;omega,λt ht=> ?_⟩
   ·rcases Zi.1 ht with ht|ht
    ·exact h1.rng t ht
    ·rw[l2f] at ht;subst ht
     simp only
     omega
   ·rw[List.pairwise_append]
    refine⟨h1.asc,by simp,λa ha b hb=> ?_⟩
    rw[l2f] at hb;subst hb
    have:=h3 a ha
    simp only
    omega
   ·rcases Zi.1 ht with ht|ht
    ·have:=h3 t ht;omega
    ·rw[l2f] at ht;subst ht
     simp only
     omega
  ·rw[if_neg h]
   exact⟨h1,h2,λt ht=>by have:=h3 t ht;omega⟩
theorem C7J {t:Int×Int} {H:Hp} {K:KV}:F3 AR 3 BM 1 [(0,3,.agg (NO t))] H K=K (.sl 3 (A2 H) 0 1) ((A2 H,.cells false AR (NO t))::H):=by
 have e:F3 AR 3 BM 1 [(0,3,.agg (NO t))] H K=XA3 H (λs=>K (.sl 3 s 0 1) ((s,.cells false AR (NO t))::H)):=_root_.id rfl
 rw[e,BZ]
section
variable {K:KV} {x:Aj} {xs:List Int} {ca cb ra rb:List UInt8} {b r z:Nat} {c e:Int}
abbrev C5P (ca cb ra rb:List UInt8) (v:AV):Row:= .cells true DC [S ca,S cb,v,S ra,S rb]
structure FmH (b r z:Nat) (xs:List Int) (ca cb ra rb:List UInt8) (ts:Tms) (v:AV) (H:Hp):Prop where
 hb:Aq H b=some (.cells true HF (EG xs))
 hr:Aq H r=some (C5P ca cb ra rb v)
 hz:∃cs,cs.length=5∧Aq H z=some (.cells true DC cs)
 sl:Bv H AR 3 v ts.length (ts.flatMap NO)
 nl:ts=[]→v=AA
 nb:¬AG v b
 nr:¬AG v r
 nz:¬AG v z
 wf:Wf H
theorem B54 {t:TI} {H:Hp} {e sz n:Nat} {v:AV} {cs:List AV} {K:AV→Aj} (hd:t.d= .slice e sz) (h:Bv H e sz v n cs):AQ t v K=K (I n):=JI hd h
theorem C5O {k33:AV→AV→Hp→Aj} (hL:100<L) (hbr:b≠r) (hzr:z≠r) (hx:xs.length=6) (hi64:∀c∈xs,Le c) (hfin:∀v H,FmH b r z xs ca cb ra rb (JR xs 6) v H→k33 (.ptr z 0 0) (.ptr r 0 0) H=x):
 ∀(f i:Nat) (v:AV) (H:Hp),i≤6→6-i<f→FmH b r z xs ca cb ra rb (JR xs i) v H→
 NW (L+20) (rt (L+20) (n+40)) K k33 f (.ptr b 0 0) (.ptr z 0 0) (.ptr r 0 0) (I i) H=x:=by
 intro f
 induction f with
 |zero=>intro i v H _ h;omega
 |succ f ih=>
  intro i v H hi hf hh
  rw[ZF]
  unfold Rf Bc Av Dr
  have e6:(AV.v (.int .i64 6))=I ((6:Nat):Int):=rfl
  rw[e6]
  by_cases h:i<6
  ·have hlt:i<xs.length:=by omega
   have hgd:(EG xs).getD i .dk=I (xs.getD i 0):=by rw[Qk hlt];simp[List.getD,Kq hlt]
   have hc:Le (xs.getD i 0):=by simp only[List.getD,Kq hlt,l1l];exact hi64 _ (QE hlt)
   have pr:=EU (c:=xs.getD i 0) (n:=17) (by decide)
   have ld:∀{K},Ar Ab (.ptr b i 0) H K=K (I (xs.getD i 0)):= λ{K}=>by rw[AP (p:=i) rfl hh.hb (by simp[EG];omega),hgd]
   have hpk:∀H K,Ah (rt (L+20) (n+40)) HT [I (xs.getD i 0),.v (.int .i64 17)] H K=K (I (pk (xs.getD i 0) 17)):=A1t (n:=n+39) hc (by decide) (by decide)
   have ia:∀{K:AV→Aj},B9 Bp (.ptr b 0 0) (I i) K=K (.ptr b i 0):= λ{K}=>DZ i rfl rfl h
   rw[FW (by omega),De]
   simp only[BX]
   rw[ia,ld,hpk,HY,Cp (by omega) (by omega)]
   have hne:∀{K:AV→Aj},Go.Abs.Ak Ab .neq (I (pk (xs.getD i 0) 17-8)) (.v (.int .i64 0)) K=K (Bo (decide (pk (xs.getD i 0) 17-8≠0))):= λ{K}=>by rw[G6];simp
   rw[hne]
   have tm1:JR xs (i+1)=if pk (xs.getD i 0) 17-8≠0∧(JR xs i).length<5 then JR xs i++[(1+(i:Int),pk (xs.getD i 0) 17-8)] else JR xs i:=rfl
   have add:∀{K:AV→Aj},Go.Abs.Ak Ab .add (I i) (.v (.int .i64 1)) K=K (I ((i+1:Nat):Int)):= λ{K}=>D4 (by omega)
   by_cases h0:pk (xs.getD i 0) 17-8=0
   ·rw[decide_eq_false (by simpa using h0)]
    simp only[gTF,Cz,WV]
    rw[Bz,add]
    rw[if_neg λhh=>hh.1 h0] at tm1
    exact ih (i+1) v H (by omega) (by omega) (by rw[tm1];exact hh)
   ·have hln:=(A9P xs i (by omega)).2.1
    have f2:∀K:AV→Aj,AM 2 (.ptr r 0 0) K=K (.ptr r 2 0):= λK=>id rfl
    have l2:∀K,Ar A7 (.ptr r 2 0) H K=K v:= λK=>AP (p:=2) rfl hh.hr (by simp)
    rw[decide_eq_true (by simpa using h0)]
    simp only[gT,Cz,XO,f2,l2,B54 (t:=A7) rfl hh.sl]
    have e5:(AV.v (.int .i64 5))=I ((5:Nat):Int):=rfl
    rw[e5]
    by_cases h5:(JR xs i).length<5
    ·rw[FW (by omega),Cz,De]
     rw[if_pos ⟨h0,h5⟩] at tm1
     have hof:∀H K,Ah (rt (L+20) (n+40)) Fg [I (pk (xs.getD i 0) 17-8),.v (.int .i64 4)] H K=K (.tup [.agg (qa (pk (xs.getD i 0) 17-8)),I 0]):=B3C (by omega) (by omega)
     rw[hof,CZ,CY,Bi (cs:=[zS,zS]) rfl]
     have hn0:=A1 (H:=H) (x:= .cells true Bb [zS,zS]) (by simp)
     have w1:=Br (x:= .cells true Bb [zS,zS]) hh.wf
     rw[B7 (vs:=qa (pk (xs.getD i 0) 17-8)) hn0 rfl rfl rfl]
     have hr1:=AB (q:=true) (e:=Bb) (cs:=qa (pk (xs.getD i 0) 17-8)) hn0
     have kp:∀s x,Aq H s=some x→Aq (upd ((A2 H,Row.cells true Bb [zS,zS])::H) (A2 H) (.cells true Bb (qa (pk (xs.getD i 0) 17-8)))) s=some x:= λs x hs=>by
      have:=hh.wf.lt hs
      rw[Ap (by omega)];exact AS this hs
     have w2:=BR (r:=A2 H) (y:= .cells true Bb (qa (pk (xs.getD i 0) 17-8))) w1
     generalize upd ((A2 H,Row.cells true Bb [zS,zS])::H) (A2 H) (.cells true Bb (qa (pk (xs.getD i 0) 17-8)))=H1 at hr1 kp w2
     generalize A2 H=r1 at hr1
     have l3:∀K,Ar A7 (.ptr r 2 0) H1 K=K v:= λK=>AP (p:=2) rfl (kp _ _ hh.hr) (by simp)
     have l4:∀K,Ar Ax (.ptr r1 0 0) H1 K=K (.agg (qa (pk (xs.getD i 0) 17-8))):= λK=>Bq rfl rfl hr1
     have ad1:∀{K:AV→Aj},Go.Abs.Ak Ab .add (.v (.int .i64 1)) (I i) K=K (I (1+(i:Int))):= λ{K}=>by rw[CH,Cp (by omega) (by omega)]
     have bd:∀{K:AV→Aj},B3 BM [(0,1,I (1+(i:Int))),(1,2,.agg (qa (pk (xs.getD i 0) 17-8)))] K=K (.agg (NO (1+(i:Int),pk (xs.getD i 0) 17-8))):= λ{K}=>id rfl
     rw[l3,ad1,l4,bd]
     have sl1:Bv H1 AR 3 v (JR xs i).length ((JR xs i).flatMap NO):=by
      rcases hh.sl with hs|⟨r2,q,h2,h3,h4⟩
      ·exact .inl hs
      ·exact .inr ⟨r2,q,h2,kp _ _ h3,h4⟩
     obtain⟨v',H',a1,a2,a3,a4,a5,a6⟩:=C7P (ie:=BM) (i2:=A7) (λK=>C7J (t:=(1+(i:Int),pk (xs.getD i 0) 17-8)) (H:=H1) (K:=K)) sl1 w2 rfl rfl (by decide) rfl (λ_=>rfl) (by show _*40≤_;omega) (by omega)
     have hr':Aq H' r=some (C5P ca cb ra rb v):=a5 _ _ (kp _ _ hh.hr) hh.nr
     rw[a1,Ez hr' (by simp) rfl (Bv.cell a2) (Bv.one a2),add]
     obtain⟨cs,hcs,hcz⟩:=hh.hz
     have new:∀{s x},Aq H s=some x→¬AG v' s:= λ{s x} hs hv=>by
      have h1:=w2.lt (kp _ _ hs)
      have h2:=a6 _ hv
      omega
     refine ih (i+1) v' _ (by omega) (by omega) ⟨?_,AB hr',⟨cs,hcs,?_⟩,?_,?_,new hh.hb,new hh.hr,new hcz,BR a3⟩
     ·rw[Ap hbr];exact a5 _ _ (kp _ _ hh.hb) hh.nb
     ·rw[Ap hzr];exact a5 _ _ (kp _ _ hcz) hh.nz
     ·rw[tm1,Fl,l2g]
      have:(List.flatMap NO [(1+(i:Int),pk (xs.getD i 0) 17-8)])=NO (1+(i:Int),pk (xs.getD i 0) 17-8):=by simp
      rw[this]
      rcases a2 with hs|⟨r2,q,h2,h3,h4⟩
      ·exact .inl hs
      ·refine .inr ⟨r2,q,h2,?_,h4⟩
       rw[Ap (λe=>new hh.hr (by rw[h2,←e];exact⟨_,_,_,rfl⟩))]
       exact h3
     ·rw[tm1];intro hc;simp at hc
    ·rw[FE (by omega),Cz,Bz,add]
     rw[if_neg λhh=>h5 hh.2] at tm1
     exact ih (i+1) v H (by omega) (by omega) (by rw[tm1];exact hh)
  ·have:i=6:=by omega
   subst this
   rw[FE (by omega),Bz]
   exact hfin v H hh
theorem A3O (l:List Int):(EG l).all AV.one=true:=by
 rw[HB];intro a ha
 obtain⟨z,_,rfl⟩:=l2a.1 ha;rfl
theorem B3G (hL:100<L) (hc:Le c) (hr:Le e) (hx:xs.length=6) (hi:∀c∈xs,Le c):CS (rt (L+20) (n+41)) Pm [I c,I e,.agg (EG xs)] (.agg [S (qn (pk c 161-80)),S (qd (pk c 161-80)),FC (JR xs 6),S (qn (pk e 9)),S (qd (pk e 9))]):=by
 intro K hK
 rw[A1F]
 unfold SW Av
 have p1:=EU (c:=c) (n:=161) (by decide)
 have p2:=EU (c:=e) (n:=9) (by decide)
 have k1:∀H K,Ah (rt (L+20) (n+40)) HT [I c,.v (.int .i64 161)] H K=K (I (pk c 161)):=A1t (n:=n+39) hc (by decide) (by decide)
 have k2:∀H K,Ah (rt (L+20) (n+40)) HT [I e,.v (.int .i64 9)] H K=K (I (pk e 9)):=A1t (n:=n+39) hr (by decide) (by decide)
 have o1:∀H K,Ah (rt (L+20) (n+40)) Fg [I (pk c 161-80),.v (.int .i64 4)] H K=K (.tup [.agg (qa (pk c 161-80)),I 0]):=B3C (by omega) (by omega)
 have o2:∀H K,Ah (rt (L+20) (n+40)) Fg [I (pk e 9),.v (.int .i64 4)] H K=K (.tup [.agg (qa (pk e 9)),I 0]):=B3C (by omega) (by omega)
 rw[Ft (A3O xs)]
 have hb:=A1 (H:=[]) (x:= .cells true HF (EG xs)) (by simp)
 have w0:=Br (x:= .cells true HF (EG xs)) FH
 generalize ((A2 [],Row.cells true HF (EG xs))::([]:Hp))=H0 at hb w0
 generalize A2 []=b at hb
 rw[Bi (cs:=[zS,zS,AA,zS,zS]) rfl]
 have hz:=A1 (H:=H0) (x:= .cells true DC [zS,zS,AA,zS,zS]) (by simp)
 have b1:=AS (x:= .cells true DC [zS,zS,AA,zS,zS]) (w0.lt hb) hb
 have nb:=w0.lt hb
 have w1:=Br (x:= .cells true DC [zS,zS,AA,zS,zS]) w0
 generalize ((A2 H0,Row.cells true DC [zS,zS,AA,zS,zS])::H0)=H1 at hz w1 b1
 generalize A2 H0=z at hz nb
 have bd:∀{K:AV→Aj},B3 Ev [] K=K (.agg [zS,zS,AA,zS,zS]):= λ{K}=>id rfl
 rw[bd,Bi (cs:=[zS,zS,AA,zS,zS]) rfl]
 obtain⟨H2,e2,r2,w2,kp⟩:=Er (e:=DC) (zs:=[zS,zS,AA,zS,zS]) (vs:=[zS,zS,AA,zS,zS]) w1 rfl
 rw[B7 (vs:=[zS,zS,AA,zS,zS]) (A1 (by simp)) rfl rfl rfl,←e2]
 obtain⟨b2,nbr⟩:=kp _ _ b1
 obtain⟨z2,nzr⟩:=kp _ _ hz
 generalize A2 H1=r at r2 nbr nzr
 have f0:∀K:AV→Aj,AM 0 (.ptr r 0 0) K=K (.ptr r 0 0):= λK=>id rfl
 have f3:∀K:AV→Aj,AM 3 (.ptr r 0 0) K=K (.ptr r 3 0):= λK=>id rfl
 rw[k1,HY,Cp (by omega) (by omega),o1,CZ,CY,f0,YP (vs:=qa (pk c 161-80)) r2 (show 0+2≤5 by decide) rfl rfl]
 have r3:=AB (q:=true) (e:=DC) (cs:=splice [zS,zS,AA,zS,zS] 0 (qa (pk c 161-80))) r2
 have b3:=b2;have z3:=z2
 rw[←Ap (H:=H2) (r:=r) (y:= .cells true DC (splice [zS,zS,AA,zS,zS] 0 (qa (pk c 161-80)))) nbr] at b3
 rw[←Ap (H:=H2) (r:=r) (y:= .cells true DC (splice [zS,zS,AA,zS,zS] 0 (qa (pk c 161-80)))) nzr] at z3
 have w3:=BR (r:=r) (y:= .cells true DC (splice [zS,zS,AA,zS,zS] 0 (qa (pk c 161-80)))) w2
 generalize upd H2 r (.cells true DC (splice [zS,zS,AA,zS,zS] 0 (qa (pk c 161-80))))=H3 at r3 b3 z3 w3
 rw[k2,o2,CZ,CY,f3,YP (vs:=qa (pk e 9)) r3 (show 3+2≤5 by decide) rfl rfl]
 simp only[BX]
 refine C5O (n:=n) (b:=b) (r:=r) (z:=z) (ca:=qn (pk c 161-80)) (cb:=qd (pk c 161-80)) (ra:=qn (pk e 9)) (rb:=qd (pk e 9)) hL nbr nzr hx hi ?_ (L+20) 0 AA _ (by omega) (by omega) ⟨?_,AB r3,⟨[zS,zS,AA,zS,zS],rfl,?_⟩,.inl ⟨rfl,rfl,rfl⟩,λ_=>rfl,?_,?_,?_,BR w3⟩
 ·intro v H hh
  obtain⟨cs,hcs,hcz⟩:=hh.hz
  have o:[S (qn (pk c 161-80)),S (qd (pk c 161-80)),v,S (qn (pk e 9)),S (qd (pk e 9))].all AV.one=true:=by
   show(true&&(true&&(AV.one v&&(true&&(true&&true)))))=true
   rw[Bv.one hh.sl];rfl
  rw[Bq rfl rfl hh.hr,B7 hcz (by rw[hcs];rfl) (by rw[hcs];rfl) o,Bq rfl rfl (AB hcz)]
  refine hK _ _ (λq=> ?_)
  have sl1:Bv (upd H z (.cells true DC [S (qn (pk c 161-80)),S (qd (pk c 161-80)),v,S (qn (pk e 9)),S (qd (pk e 9))])) AR 3 v (JR xs 6).length ((JR xs 6).flatMap NO):=by
   rcases hh.sl with hs|⟨r2,q,h2,h3,h4⟩
   ·exact .inl hs
   ·refine .inr ⟨r2,q,h2,?_,h4⟩
    rw[Ap (λe=>hh.nz (by rw[h2,←e];exact⟨_,_,_,rfl⟩))]
    exact h3
  obtain⟨q',hq⟩:=C2H (D:=depth-2) (b:=q) sl1 hh.nl
  exact⟨_,Qm (D:=depth-1) (Ay (q:=false) D2 (Ay (q:=false) D2 (Ay hq (Ay (q:=false) D2 (Ay (q:=false) D2 Be)))))⟩
 ·rw[Ap nbr];exact b3
 ·rw[Ap nzr];exact z3
 all_goals (rintro⟨_,_,_,h⟩;cases h)
end
end
end Go.Abs
end
