import Derived.Test.YtlbhdmbfdcohhaaGreatDoorP44
set_option linter.all false
set_option maxHeartbeats 100000000
noncomputable section
namespace Go.Abs
open Go.RowKit Go.Proofs
set_option maxRecDepth 100000
section
variable {L n:Nat}
def CT (R:Rt) (f:Nat) (args:List AV) (v:AV):Prop:=∀K:KV,(∀v0 H0,(∃q,Fx true depth v0 v H0 q)→K v0 H0=some (v,[]))→R.call f args [] K=some (v,[])
theorem CT.z {R:Rt} {f:Nat} {args args':List AV} {v:AV} {H:Hp} {K:AV→Am} (hc:CT R f args' v) (ha:Py true depth args args' H false):Ah R f args H K=K v:=IN hc ha
def pk (c n:Int):Int:=(if c<0 then-(c+1) else c)%n
theorem DI {c n:Int} (h:0<n):0≤pk c n∧pk c n<n:=⟨Int.emod_nonneg _ (by omega),Int.emod_lt_of_pos _ h⟩
section
variable {K:KV} {x:Am} {a b:AV} {s:List UInt8} {gs:List Cd} {H:Hp}
theorem LA.fx (h:LA gs a) (H:Hp):Fx true depth a a H false:=by rcases h with rfl|⟨_,rfl⟩<;>exact λK=>by kernel_rfl
theorem B5T (hg:GOk gs) (hL:40000<L) (ha:LA gs a):CT (rt (L+20) (n+66)) Qh [a] (.tup [FQ (gs.map Cd.id),Bo true]):=by
 intro K hK
 have hlen:=hg.len
 rw[Yy]
 unfold PN Aq DW Cz
 have ids:=A8H (L:=L) (n:=n) (gs:=gs) (a:=a) (λc hc=>⟨hg.ok c hc,hg.nd c hc⟩) (by omega) hL ha
 rw[ha.len,DQ,decide_eq_false (by omega),BC,AZ ids (Ay (ha.fx _) Bl)]
 simp only[Cm]
 have e0:(AV.v (.int .i64 0))=I ((0:Nat):Int):=rfl
 rw[e0]
 refine B3j (n:=n+64) hg.ids (λs hs=> ?_) (by simp) (by omega) hL ha (Gp _) ?_ (L+20) 0 (by omega) (by omega)
 ·obtain⟨c,_,rfl⟩:=l2a.1 hs
  exact XD c
 ·refine hK _ _ ?_
  rcases Gp (gs.map Cd.id) with h|⟨_,h⟩<;>rw[h]<;>exact⟨false,λK=>by kernel_rfl⟩
def B6K (gs:List Cd) (s:List UInt8):AV:=match Ml (gE gs) s with
 |some c=> .tup [.agg c.cs,Bo true]
 |none=> .tup [.agg B8,Bo false]
theorem B6I {gs:List Cd} {s:List UInt8}:(∃h:s∈gs.map Cd.id,∃k,∃hk:k<gs.length,Ml (gE gs) s=some gs[k]∧VX s (gs.map Cd.id) 0= .tup [Bo true,I (k:Int)])∨(s∉gs.map Cd.id∧Ml (gE gs) s=none∧VX s (gs.map Cd.id) 0= .tup [Bo false,I (-1)]):=by
 by_cases h:s∈gs.map Cd.id
 ·left
  obtain⟨k,hk,h1,h2,h3⟩:=A0I _ 0 h
  refine⟨h,k,by simpa using hk,?_,by rw[h3,Le]⟩
  clear h h3
  induction gs generalizing k with
  |nil=>simp at hk
  |cons c gs ih=>
   show Ml ((c.id,c)::gE gs) s=_
   unfold Ml
   cases k with
   |zero=>simp at h1;rw[if_pos h1];rfl
   |succ k=>
    have h0:=h2 0 (by omega)
    simp at h0
    rw[if_neg h0]
    exact ih k (by simpa using hk) (by simpa using h1) (λm hm=>by simpa using h2 (m+1) (by omega))
 ·exact .inr ⟨h,A5H (by rw[B3k];exact h),VW _ 0 h⟩
theorem C0o (hg:GOk gs) (hL:40000<L) (ha:LA gs a):CT (rt (L+20) (n+67)) RZ [a,S s] (B6K gs s):=by
 intro K hK
 have hlen:=hg.len
 rw[A0g]
 unfold Ry Bu DW Cz
 rw[Ba (cs:=B8) rfl]
 have hz:=A0 (H:=[]) (x:= .cells true Ak B8) (by simp)
 generalize ((A7 [],Row.cells true Ak B8)::([]:Hp))=H0 at hz
 generalize A7 []=r at hz
 have hs:∀{K:AV→Am},Ah (rt (L+20) (n+66)) HD [FQ (gs.map Cd.id),S s] H0 K=K (VX s (gs.map Cd.id) 0):= λ{K}=>AZ (B2A (L:=L) (n:=n+65) (s:=s) (Gp (gs.map Cd.id)) (by simp;omega) (by omega)) (Ay ((Gp _).fx H0) (Ay (q:=false) E1 Bl))
 rw[CT.z (B5T (n:=n) hg hL ha) (Ay (ha.fx _) Bl),CJ,CI,hs]
 rcases B6I (gs:=gs) (s:=s) with⟨_,k,hk,h1,h2⟩|⟨_,h1,h2⟩
 ·rw[h2,CJ,CI,Xj]
  simp only[gT,BN,Xj,QC]
  rw[BC,ha.ia hk,A17,B0 (vs:=gs[k].cs) hz Cc rfl J9,Bf rfl Cc.symm (A8 hz)]
  unfold B6K at hK⊢
  rw[h1] at hK⊢
  exact hK _ _ ⟨_,UW (D:=depth-1) (Ay (A4a (D:=depth-4)) (Ay (q:=false) E1 Bl))⟩
 ·rw[h2,CJ,CI,Xj]
  simp only[gT,BN,ntF,QC]
  have bz:∀{K:AV→Am},Bg Ac [] K=K (.agg B8):= λ{K}=>id rfl
  rw[Do,bz,B0 (vs:=B8) hz rfl rfl rfl,Bf rfl rfl (A8 hz)]
  unfold B6K at hK⊢
  rw[h1] at hK⊢
  exact hK _ _ ⟨false,λK=>by kernel_rfl⟩
theorem B0C {z:Int} {K:AV→Am} (h1: -9223372036854775808<z) (h2:z<9223372036854775808):EP .neg (I z) K=K (I (-z)):=by
 have e:EP .neg (I z) K=Lg .i64 (0-z) λz=>K (.v (.int .i64 z)):=rfl
 rw[e,Ga,Int.zero_sub,Ca (by omega) (by omega)]
end
def IM (z:Int):Prop:= -9223372036854775808≤z∧z<9223372036854775808
section
variable {c m:Int}
theorem A0b {K:AV→Am} (hc:IM c) (hm:0<m) (hm2:m<9223372036854775808) {k1:AV→Am} (hk:k1= λv=>Go.Abs.Aj Ab .rem v (I m) K):
 (Go.Abs.Aj Ab .lss (I c) (.v (.int .i64 0)) λv5=>Ar v5 (Go.Abs.Aj Ab .add (I c) (.v (.int .i64 1)) λv6=>EP .neg v6 λv7=>k1 v7) (k1 (I c)))=K (I (pk c m)):=by
 subst hk
 obtain⟨h1,h2⟩:=hc
 rw[Dj]
 by_cases h:c<0
 ·rw[decide_eq_true h,Do,Co,Ca (by omega) (by omega),B0C (by omega) (by omega)]
  show Go.Abs.Aj Ab .rem (I (-(c+1))) (I m) K=_
  rw[T9 (by omega),Int.tmod_eq_emod_of_nonneg (by omega)]
  unfold pk;rw[if_pos h]
 ·rw[decide_eq_false h,BC]
  show Go.Abs.Aj Ab .rem (I c) (I m) K=_
  rw[T9 (by omega),Int.tmod_eq_emod_of_nonneg (by omega)]
  unfold pk;rw[if_neg h]
theorem A5c (hc:IM c) (hm:0<m) (hm2:m<9223372036854775808):PS (rt (L+20) (n+1)) Ia [I c,I m] (I (pk c m)):=by
 refine CS.ps (λK hK=> ?_) (λH=> λK=>by kernel_rfl)
 rw[A0u]
 unfold RI Aq
 simp only[Cm]
 exact(A0b (K:= λv=>K v []) hc hm hm2 rfl).trans (hK _ _ (λb=>⟨false,λK=>by kernel_rfl⟩))
theorem A5b (hc:IM c) (hm:0<m) (hm2:m<9223372036854775808):PS (rt (L+20) (n+1)) Jx [I c,I m] (I (pk c m)):=by
 refine CS.ps (λK hK=> ?_) (λH=> λK=>by kernel_rfl)
 rw[A0e]
 unfold Rw Aq
 simp only[Cm]
 exact(A0b (K:= λv=>K v []) hc hm hm2 rfl).trans (hK _ _ (λb=>⟨false,λK=>by kernel_rfl⟩))
theorem JI (hc:IM c) (hm:0<m) (hm2:m<9223372036854775808):PS (rt (L+20) (n+1)) Bw [I c,I m] (I (pk c m)):=by
 refine CS.ps (λK hK=> ?_) (λH=> λK=>by kernel_rfl)
 rw[A0h]
 unfold R4 Aq
 simp only[Cm]
 exact(A0b (K:= λv=>K v []) hc hm hm2 rfl).trans (hK _ _ (λb=>⟨false,λK=>by kernel_rfl⟩))
theorem A0c (hc:IM c) (hm:0<m) (hm2:m<9223372036854775808):PS (rt (L+20) (n+1)) GI [I c,I m] (I (pk c m)):=by
 refine CS.ps (λK hK=> ?_) (λH=> λK=>by kernel_rfl)
 rw[A0n]
 unfold RE Aq
 simp only[Cm]
 exact(A0b (K:= λv=>K v []) hc hm hm2 rfl).trans (hK _ _ (λb=>⟨false,λK=>by kernel_rfl⟩))
theorem JJ (hc:IM c) (hm:0<m) (hm2:m<9223372036854775808):PS (rt (L+20) (n+1)) BH [I c,I m] (I (pk c m)):=by
 refine CS.ps (λK hK=> ?_) (λH=> λK=>by kernel_rfl)
 rw[A0k]
 unfold R9 Aq
 simp only[Cm]
 exact(A0b (K:= λv=>K v []) hc hm hm2 rfl).trans (hK _ _ (λb=>⟨false,λK=>by kernel_rfl⟩))
end
section
variable {K:KV} {x:Am} {a:AV} {s:List UInt8} {gs:List Cd} {H:Hp}
def NA (ws:List Int) (w:AV):Prop:=(w= .list ws.length (D3 ws)∨(ws=[]∧w=AP))∧ws.length<9223372036854775808∧∀z∈ws,IM z
theorem NA.len {ws:List Int} {w:AV} {K:AV→Am} (h:NA ws w):AM Af w K=K (I ws.length):=by
 rcases h.1 with rfl|⟨rfl,rfl⟩<;>exact id rfl
theorem NA.ia {ws:List Int} {w:AV} {K:AV→Am} {i:Nat} (h:NA ws w) (hi:i<ws.length) (hb:i<1000000):(B1 Af w (I i) λp=>Ap Ab p H K)=K (I ws[i]):=by
 rcases h.1 with rfl|⟨rfl,rfl⟩
 ·have el:(D3 ws).length=ws.length:=by simp[D3]
  rw[T7 rfl el (by omega) (by omega),WB,Qm rfl,OD hi]
 ·simp at hi
def Yc (ws:List Int) (i:Nat) (c:Ce (List UInt8)):Nat:=(pk (ws.getD i 0) c.ps.length).toNat
theorem B1N {k3:Hp→Am} {ws:List Int} {w:AV} (hg:GOk gs) (hL:40000<L) (ha:LA gs a) (hw:NA ws w) (hp:∀c∈gs,c.ps.length<100) {v:Bool}
 (hv:∀H,K (Bo v) H=x) (hk:v=false→∀H,k3 H=x):∀(f i:Nat) (s:List UInt8) (H:Hp),i≤gs.length+1→gs.length+1-i<f→Wf H→trc (gr gs) (Yc ws) (gs.length+1-i) i s=v→
 Jb (L+20) (rt (L+20) (n+67)) K k3 f a (S s) w (I i) H=x:=by
 intro f
 induction f with
 |zero=>intro i s H _ h;omega
 |succ f ih=>
  intro i s H hi hf wf ht
  have hlen:=hg.len
  rw[Xt]
  unfold OC AR Bu Aq DW Cz
  rw[ha.len]
  by_cases h:i≤gs.length
  ·rw[QY,decide_eq_true (by omega),Do]
   rw[CT.z (C0o (n:=n) (s:=s) hg hL ha) (Ay (ha.fx _) (Ay (q:=false) E1 Bl))]
   have e1:gs.length+1-i=(gs.length-i)+1:=by omega
   rw[e1] at ht
   unfold trc at ht
   rw[B3o] at ht
   have f0:∀{s j:Nat} {K:AV→Am},AH j (.ptr s 0 0) K=K (.ptr s j 0):= λ{s j K}=>by rw[fA,Le]
   unfold B6K
   cases hq:Ml (gE gs) s with
   |none=>
    rw[hq] at ht
    subst ht
    simp only[]
    rw[CJ,CI,Ba (cs:=B8) rfl,B0 (cs:=B8) (vs:=B8) (A0 (by simp)) rfl rfl rfl,ntF]
    simp only[gFT,gU,gTF,BN,Un]
    rw[Do]
    exact hv _
   |some c=>
    rw[hq] at ht
    obtain⟨hcm,hcid⟩:=B3p hq
    simp only[l0x] at ht
    simp only[]
    obtain⟨H2,e2,hc2,w2,k2⟩:=DZ (e:=Ak) (zs:=B8) (vs:=c.cs) wf Cc
    rw[CJ,CI,Ba (cs:=B8) rfl,B0 (cs:=B8) (vs:=c.cs) (A0 (by simp)) Cc rfl J9,←e2,Xj]
    have lp:∀{K},Ap Ae (.ptr (A7 H) 31 0) H2 K=K (FQ c.ps):= λ{K}=>B7N hc2
    have lk:∀{K},Ap Ab (.ptr (A7 H) 0 0) H2 K=K (I c.kd):= λ{K}=>B7O hc2
    have n1:∀{K},Go.Abs.Aj Ab .neq (I c.kd) (.v (.int .i64 1)) K=K (Bo (!decide (c.kd=1))):= λ{K}=>by rw[F8]
    have n2:∀{K},Go.Abs.Aj Ab .eql (I (c.ps.length:Int)) (.v (.int .i64 0)) K=K (Bo (c.ps.isEmpty)):= λ{K}=>by
     rw[CG]
     cases c.ps with
     |nil=>rfl
     |cons p q=>rw[decide_eq_false (by simp;omega)];rfl
    by_cases hkd:c.kd=1
    ·have hr:(cE c).real=true:=by simp[cE,hkd]
     rw[if_pos hr] at ht
     subst ht
     have n1':∀{K},Go.Abs.Aj Ab .neq (I 1) (.v (.int .i64 1)) K=K (Bo false):= λ{K}=>by rw[F8];rfl
     simp only[gT,BN,f0,lk,hkd,n1',gTF,gU,QC]
     rw[BC,CG,decide_eq_true rfl,Do]
     exact hv _
    ·have hr:¬(cE c).real=true:=by simp[cE,hkd]
     rw[if_neg hr] at ht
     simp only[gT,BN,f0,lk,n1,hkd,decide_false,Bool.not_false,lp,QU,n2,Un,QC]
     cases hps:c.ps with
     |nil=>
      have:(cE c).ps=[]:=hps
      rw[this] at ht
      simp only[List.getElem?_nil] at ht
      subst ht
      simp only[List.isEmpty_nil]
      rw[Do]
      exact hv _
     |cons p0 pl=>
      simp only[List.isEmpty_cons]
      rw[BC,CG,decide_eq_false hkd,BC]
      have hl100:=hp c hcm
      have hpos:0<c.ps.length:=by rw[hps];simp
      have hpe:(cE c).ps=c.ps:=rfl
      have hwlen:=hw.2.1
      have go:∀z:Int,IM z→z=ws.getD i 0→(Ai (AH 31 (.ptr (A7 H) 0 0) λv=>some (v,[])) λv45=>
       Ai (Ap Ae v45 H2 λv=>some (v,[])) λv46=>
       Ai (AH 31 (.ptr (A7 H) 0 0) λv=>some (v,[])) λv47=>
       Ai (Ap Ae v47 H2 λv=>some (v,[])) λv48=>
       Ai (AM Ae v48 λv=>some (v,[])) λv49=>
       Ai (Ah (rt (L+20) (n+67)) Ia [I z,v49] H2 λv=>some (v,[])) λv50=>
       Ai (B1 Ae v46 v50 λv=>some (v,[])) λv51=>
       Ai (Ap Ad v51 H2 λv=>some (v,[])) λv52=>
       Go.Abs.Aj Ab .add (I (i:Int)) (.v (.int .i64 1)) λv53=>
       Jb (L+20) (rt (L+20) (n+67)) K k3 f a v52 w v53 H2)=x:= λz hz hze=>by
       have pr:=DI (c:=z) (n:=(c.ps.length:Int)) (by omega)
       have ep:pk z c.ps.length=((Yc ws i (cE c):Nat):Int):=by unfold Yc;rw[hpe,←hze];omega
       have hlt:Yc ws i (cE c)<c.ps.length:=by omega
       have pkk:∀{K:AV→Am},Ah (rt (L+20) (n+67)) Ia [I z,I (c.ps.length:Int)] H2 K=K (I (pk z c.ps.length)):= λ{K}=>A5c (n:=n+66) hz (by omega) (by omega) H2 K
       simp only[f0,BK,lp,QU,pkk]
       rw[ep,(Gp c.ps).ia hlt,BK,F3,BK,DH (by omega)]
       rw[hpe,Jw hlt] at ht
       exact ih (i+1) _ H2 (by omega) (by omega) w2 (by rw[show gs.length+1-(i+1)=gs.length-i by omega];exact ht)
      simp only[Cm]
      rw[hw.len]
      by_cases hwi:i<ws.length
      ·rw[FR (by omega),Do,hw.ia hwi (by omega)]
       have e3:ws.getD i 0=ws[i]:=by simp[List.getD,Jw hwi]
       exact go _ (hw.2.2 _ (Qu hwi)) e3.symm
      ·rw[FT (by omega),BC]
       have e3:ws.getD i 0=0:=by simp[List.getD,l1e (Nat.le_of_not_lt hwi)]
       exact go 0 (by unfold IM;omega) e3.symm
  ·rw[QY,decide_eq_false (by omega),BC]
   have e1:gs.length+1-i=0:=by omega
   rw[e1] at ht
   exact hk ht.symm H
theorem B4J {ws:List Int} {w:AV} (hg:GOk gs) (hL:40000<L) (ha:LA gs a) (hw:NA ws w) (hp:∀c∈gs,c.ps.length<100):CS (rt (L+20) (n+68)) JO [a,S s,w] (Bo (trc (gr gs) (Yc ws) (gs.length+1) 0 s)):=by
 intro K hK
 rw[YE]
 unfold PW Aq Cz
 simp only[Cm]
 have e0:(AV.v (.int .i64 0))=I ((0:Nat):Int):=rfl
 rw[e0]
 have hfin:∀H,K (Bo (trc (gr gs) (Yc ws) (gs.length+1) 0 s)) H=some (Bo (trc (gr gs) (Yc ws) (gs.length+1) 0 s),[]):= λH=>hK _ _ (λb=>⟨false,λK=>by kernel_rfl⟩)
 refine B1N hg hL ha hw hp (v:=trc (gr gs) (Yc ws) (gs.length+1) 0 s) hfin (λhv H=> ?_) (L+20) 0 s [] (by omega) (by have:=hg.len;omega) Fw rfl
 have:=hfin H
 rw[hv] at this
 rw[hv]
 exact this
end
end
section
variable {L n:Nat}
section
variable {gs:List Cd} {s:List UInt8}
theorem C16 (gs:List Cd):(gr gs).length=gs.length:=by simp[gr]
theorem A9c (h:(gs.map Cd.id).Nodup) {i:Nat} (hi:i<gs.length):Ml (gr gs) gs[i].id=some (cE gs[i]):=by
 induction gs generalizing i with
 |nil=>simp at hi
 |cons c gs ih=>
  rw[l1i,List.nodup_cons] at h
  show Ml ((c.id,cE c)::gr gs) _=_
  unfold Ml
  cases i with
  |zero=>rw[List.getElem_cons_zero,if_pos rfl]
  |succ i=>
   rw[List.getElem_cons_succ]
   have hi':i<gs.length:=by simpa using hi
   rw[if_neg (λe=>h.1 (l2a.2 ⟨_,Qu hi',e.symm⟩))]
   exact ih h.2 hi'
theorem B3n {m:Nat} {x:List UInt8} {c:Ce (List UInt8)} (h:Ml (gr (gs.take m)) x=some c):Ml (gr gs) x=some c:=by
 have e:gr gs=gr (gs.take m)++gr (gs.drop m):=by
  unfold gr
  rw[←l01,List.take_append_drop]
 rw[e];exact B6J h
theorem C07 (h:(gs.map Cd.id).Nodup) {i:Nat} (hi:i<gs.length):rz (gr gs) gs.length gs[i].id=((decide (gs[i].kd=1)||decide (0<gs[i].ps.length))&&gs[i].ps.all λp=>rz (gr gs) gs.length p):=by
 have e:∀x,rz (gr gs) gs.length x=true↔Rz (gr gs) x:= λx=>by rw[←C16 gs];exact B4l.symm
 rw[YK,e,A8p]
 constructor
 ·rintro⟨c,h1,h2,h3⟩
  rw[A9c h hi] at h1
  cases h1
  rw[Iv,GW]
  refine⟨?_,λp hp=>(e p).2 (h3 p hp)⟩
  rcases h2 with h2|h2
  ·have:decide (gs[i].kd=1)=true:=h2
   rw[this];rfl
  ·have h2':gs[i].ps≠[]:=h2
   have:0<gs[i].ps.length:=List.length_pos_iff.2 h2'
   rw[decide_eq_true this,Bool.or_true]
 ·intro hh
  rw[Iv,GW] at hh
  refine⟨_,A9c h hi,?_,λp hp=>(e p).1 (hh.2 p hp)⟩
  by_cases hk:gs[i].kd=1
  ·exact .inl (decide_eq_true hk)
  ·right
   have:=hh.1
   rw[decide_eq_false hk,Bool.false_or,decide_eq_true_eq] at this
   exact List.length_pos_iff.1 this
theorem B5x {m:Nat} {x:List UInt8} (h:rz (gr (gs.take m)) (gs.take m).length x=true):rz (gr gs) gs.length x=true:=by
 have h1:=C08 (λx c hc=>B3n (gs:=gs) hc) _ x h
 exact A3t (by rw[l0g];omega) h1
theorem B25 {ws:List Int} {x:List UInt8} (h:rz (gr gs) gs.length x=true):trc (gr gs) (Yc ws) (gs.length+1) 0 x=true:=by
 refine B8q (λi c hc=> ?_) gs.length _ 0 x h (by omega)
 unfold Yc
 have:=DI (c:=ws.getD i 0) (n:=c.ps.length) (by have:=List.length_pos_iff.2 hc;omega)
 omega
theorem A4T {x:List UInt8} (h:x.length≠32):rz (gr gs) gs.length x=false:=by
 cases hr:rz (gr gs) gs.length x with
 |false=>rfl
 |true=>
  exfalso
  obtain⟨n,hn⟩:∃n,gs.length=n+1:=by
   cases hg:gs.length with
   |zero=>rw[hg] at hr;cases hr
   |succ n=>exact⟨n,rfl⟩
  rw[hn] at hr
  obtain⟨c,h1, -⟩:=LL.1 hr
  have:=Wb h1
  obtain⟨d, -,e⟩:=l2a.1 this
  cases e
  exact h (A49 d)
theorem GOk.take (h:GOk gs) (m:Nat):GOk (gs.take m):=by
 have hm:∀c∈gs.take m,c∈gs:= λc hc=>l24 hc
 refine⟨λc hc=>h.ok c (hm c hc),λc hc=>h.nd c (hm c hc),?_,?_⟩
 ·rw[List.map_take]
  exact h.ids.sublist (List.take_sublist _ _)
 ·have:=h.len
  rw[l0g];omega
end
end
section
variable {L n:Nat}
section
variable {c:Int}
theorem B7k {k m:Int} (h0:0≤k) (h1:k<m):pk k m=k:=by
 unfold pk
 rw[if_neg (by omega),Int.emod_eq_of_lt h0 h1]
theorem B2c:((List.range 7).all λi=>Hg (AU (Cu (rt (L+20) (n+42)) E3 [I (i:Nat)]) (.agg (uu i).cs)))=true:=by kernel_rfl
theorem A79 (hc:IM c):PS (rt (L+20) (n+42)) E3 [I c] (.agg (BW (uu (pk c 7).toNat))):=by
 have pr:=DI (c:=c) (n:=7) (by decide)
 obtain⟨k,hk⟩:∃k:Nat,pk c 7=k:=⟨(pk c 7).toNat,by omega⟩
 have hk7:k<7:=by omega
 refine Bt (λH K=>by kernel_rfl) ?_
 have e:Cu (rt (L+20) (n+42)) E3 [I c]=Cu (rt (L+20) (n+42)) E3 [I (k:Nat)]:=by
  unfold Cu
  rw[Tp,Tp]
  unfold RA Aq
  have h1:∀H K,Ah (rt (L+20) (n+41)) BH [I c,.v (.int .i64 7)] H K=K (I (pk c 7)):=JJ (n:=n+40) hc (by decide) (by decide)
  have h2:∀H K,Ah (rt (L+20) (n+41)) BH [I (k:Int),.v (.int .i64 7)] H K=K (I (pk k 7)):=JJ (n:=n+40) (by unfold IM;omega) (by decide) (by decide)
  simp only[h1,h2,hk,B7k (k:=(k:Int)) (m:=7) (by omega) (by omega)]
 rw[e,hk,WB]
 exact GW.1 B2c k (Iw.2 hk7)
theorem B2p:((List.range 3).all λi=>Hg (AU (Cu (rt (L+20) (n+2)) HZ [I (i:Nat)]) (.agg (rr (1+i)).cs)))=true:=by kernel_rfl
theorem B5S (hc:IM c):PS (rt (L+20) (n+2)) HZ [I c] (.agg (rr (1+(pk c 3).toNat)).cs):=by
 have pr:=DI (c:=c) (n:=3) (by decide)
 obtain⟨k,hk⟩:∃k:Nat,pk c 3=k:=⟨(pk c 3).toNat,by omega⟩
 have hk7:k<3:=by omega
 refine Bt (λH K=>by kernel_rfl) ?_
 have e:Cu (rt (L+20) (n+2)) HZ [I c]=Cu (rt (L+20) (n+2)) HZ [I (k:Nat)]:=by
  unfold Cu
  rw[Tn,Tn]
  unfold R6 Aq
  have h1:∀H K,Ah (rt (L+20) (n+1)) Bw [I c,.v (.int .i64 3)] H K=K (I (pk c 3)):=JI (n:=n) hc (by decide) (by decide)
  have h2:∀H K,Ah (rt (L+20) (n+1)) Bw [I (k:Int),.v (.int .i64 3)] H K=K (I (pk k 3)):=JI (n:=n) (by unfold IM;omega) (by decide) (by decide)
  simp only[h1,h2,hk,B7k (k:=(k:Int)) (m:=3) (by omega) (by omega)]
 rw[e,hk,WB]
 exact GW.1 B2p k (Iw.2 hk7)
def A1K (c:Int):List UInt8:=sha (Gu [c])
theorem A07 (hL:40000<L) (h1: -10≤c) (h2:c<1090):PS (rt (L+20) (n+20)) Fm [I c] (S (A1K c)):=by
 refine CS.ps (λK hK=> ?_) (λH=> λK=>by kernel_rfl)
 rw[Xl]
 unfold O1
 have hl:=DP [c]
 have fx:Py true depth [.sl 1 (A7 []) 0 1] [.list 1 (D3 [c])] ((A7 [],.cells false CK (D3 [c]))::[]) true:=
  Ay (q:=true) (q':=false) (VZ (D:=depth-1) (q':=false) (A0 (by simp)) rfl (J6 (λz:Int=>Value.int .i64 z) [c])) Bl
 rw[TV,AZ (A2x (L:=L) (n:=n+14) (l:=[c]) (by simp) (by simp;omega) (by simp;omega)) fx,AZ (B7f (L:=L+20) (n:=n+16) (s:=Gu [c]) (by simp only[L0,N2] at hl;omega) (by simp only[L0,N2] at hl;omega)) (q:=false) (λK=>by kernel_rfl)]
 exact hK _ _ (λb=>⟨false,λK=>by kernel_rfl⟩)
end
end
section
variable {L n:Nat}
theorem A68 {e sz n:Nat} {ie i2:TI} {H:Hp} {v:AV} {cs ys:List AV} (h:B3 H e sz v n cs) (w:Wf H) (hl:ys.length=sz) (h1:ys.all AV.one=true) (hsz:sz≠0) (hz:(B7 ie.zero).length=sz)
 (ht:∀s,(A4O i2.d&&V2 sz (.sl sz s 0 1))=true) (hb:(n+1)*ie.bytes≤70368744177664) (hb2:n+1≤70368744177664):
 ∃v' H',(∀K:KV,Ea e sz ie i2 v (.sl sz (A7 H) 0 1) ((A7 H,.cells false e ys)::H) K=K v' H')∧B3 H' e sz v' (n+1) (cs++ys)∧Wf H'∧A7 H≤A7 H'∧(∀s x,Aw H s=some x→¬Bh v s→Aw H' s=some x)∧(∀s,Bh v' s→A7 H≤s):=by
 have hv1:B3 ((A7 H,.cells false e ys)::H) e sz v n cs:=h.lat w (Lat.cons H _ (λ_=>False)) (λ_ _ h=>h)
 have hsrc:B3 ((A7 H,.cells false e ys)::H) e sz (.sl sz (A7 H) 0 1) 1 ys:= .inr ⟨A7 H,false,rfl,A0 (by simp),by omega⟩
 obtain⟨v',H',h1,h2,h3,h4⟩:=apt (ie:=ie) (i2:=i2) hv1 (λK=>Sg (K:=K) hsrc) (by omega) h1 hsz hz (ht _) hb hb2
 have h5:=(Lat.cons H (.cells false e ys) (Bh v)).trans h4 (R:=Bh v) (λ_ _ h=>h) (λ_ _ h=>h)
 refine⟨v',H',h1,h2,h5.wf w,h5.nx,λs x hs hn=>h5.keep w s x hs hn,λs hs=> ?_⟩
 rw[h3 s hs];exact l1p _
theorem C5C {e sz n:Nat} {ie i2:TI} {H:Hp} {v x:AV} {cs ys:List AV} (hbs:∀K:KV,Fp e sz ie 1 [(0,sz,x)] H K=K (.sl sz (A7 H) 0 1) ((A7 H,.cells false e ys)::H)) (h:B3 H e sz v n cs) (w:Wf H) (hl:ys.length=sz) (h1:ys.all AV.one=true) (hsz:sz≠0) (hz:(B7 ie.zero).length=sz)
 (ht:∀s,(A4O i2.d&&V2 sz (.sl sz s 0 1))=true) (hb:(n+1)*ie.bytes≤70368744177664) (hb2:n+1≤70368744177664):
 ∃v' H',(∀K:KV,(Fp e sz ie 1 [(0,sz,x)] H λv1 H1=>Ea e sz ie i2 v v1 H1 K)=K v' H')∧B3 H' e sz v' (n+1) (cs++ys)∧Wf H'∧A7 H≤A7 H'∧(∀s x,Aw H s=some x→¬Bh v s→Aw H' s=some x)∧(∀s,Bh v' s→A7 H≤s):=by
 obtain⟨v',H',a1,a2⟩:=A68 (ie:=ie) (i2:=i2) h w hl h1 hsz hz ht hb hb2
 exact⟨v',H',λK=>by rw[hbs];exact a1 K,a2⟩
theorem X6 {i:TI} {s p e:Nat} {q:Bool} {cs vs:List AV} {H:Hp} {K:Hp→Am} (hl:Aw H s=some (.cells q e cs)) (hp:p+vs.length≤cs.length) (hz:i.size=vs.length) (h1:vs.all AV.one=true):Cb i (.ptr s p 0) (.agg vs) H K=K (upd H s (.cells q e (splice cs p vs))):=by
 have e1:Cb i (.ptr s p 0) (.agg vs) H K=Lf H s λx=>A1E x λq e cs=>Gv (.agg vs) λvs=>Hw vs 0 λn=>ck (Nat.beq n i.size) (ck (PK vs) (EH (Nat.add p 0) vs cs λcs'=>Qf H s (.cells q e cs') K)):=rfl
 rw[e1,C6 hl]
 show(Gv (.agg vs) λvs=>Hw vs 0 λn=>ck (Nat.beq n i.size) (ck (PK vs) (EH p vs cs λcs'=>Qf H s (.cells q e cs') K)))=_
 have hc:B7 (.agg vs)=vs:=rfl
 rw[Dq,hc,C4,hz,G9,h1,Le,l29]
 show EH p vs cs _=_
 rw[Mk _ _ _ _ (by omega),Ez]
theorem B3.one {H:Hp} {e sz n:Nat} {v:AV} {cs:List AV} (h:B3 H e sz v n cs):AV.one v=true:=by
 rcases h with⟨rfl,_⟩|⟨r,q,rfl,_⟩<;>rfl
theorem B3.cell {H:Hp} {e sz n:Nat} {v:AV} {cs:List AV} (h:B3 H e sz v n cs):B7 v=[v]:=by
 rcases h with⟨rfl,_⟩|⟨r,q,rfl,_⟩<;>rfl
def tmV (t:Int×Int):List Value:=[.int .i64 t.1,.string ⟨⟨qn t.2⟩⟩,.string ⟨⟨qd t.2⟩⟩]
theorem C2l (l:YT):l.flatMap Mv=(l.flatMap tmV).map λx=> .v x:=by
 induction l with
 |nil=>rfl
 |cons k l ih=>rw[l00,l00,l01,ih];rfl
theorem C18 {D:Nat} {b:Bool} {H:Hp} {v:AV} {l:YT} (h:B3 H AN 3 v l.length (l.flatMap Mv)) (h0:l=[]→v=AP):∃q,Fx b (D+1) v (EY l) H q:=by
 rcases h with⟨rfl,h2,_⟩|⟨r,q,rfl,h2,h3⟩
 ·cases l with
  |nil=>exact⟨false,E1⟩
  |cons a l=>simp at h2
 ·cases l with
  |nil=>have:=h0 rfl;cases this
  |cons a l=>
   refine⟨true,?_⟩
   show Fx b (D+1) _ (.list (a::l).length ((a::l).flatMap Mv)) H true
   rw[C2l] at h2 h3⊢
   exact VZ (q':=false) h2 h3 (J6 _root_.id _)
def IS (x:List Int):Nat→YT
 |0=>[]
 |i+1=>if pk (x.getD i 0) 17-8≠0∧(IS x i).length<5 then IS x i++[(1+(i:Int),pk (x.getD i 0) 17-8)] else IS x i
theorem A8A (x:List Int):∀i,i≤6→TmsOk (IS x i)∧(IS x i).length≤5∧∀t∈IS x i,t.1≤i:=by
 intro i
 induction i with
 |zero=>intro _;exact⟨⟨by simp[IS],by simp[IS],by simp[IS]⟩,by simp[IS],by simp[IS]⟩
 |succ i ih=>
  intro hi
  obtain⟨h1,h2,h3⟩:=ih (by omega)
  have pr:=DI (c:=x.getD i 0) (n:=17) (by decide)
  unfold IS
  by_cases h:pk (x.getD i 0) 17-8≠0∧(IS x i).length<5
  ·rw[if_pos h]
   refine⟨⟨by simp;omega,λt ht=> ?_,?_⟩,by simp;omega,λt ht=> ?_⟩
   ·rcases l2e.1 ht with ht|ht
    ·exact h1.rng t ht
    ·rw[l2f] at ht;subst ht
     simp only
     omega
   ·rw[List.pairwise_append]
    refine⟨h1.asc,by simp,λa ha b hb=> ?_⟩
    rw[l2f] at hb;subst hb
    have:=h3 a ha
    simp only
    omega
   ·rcases l2e.1 ht with ht|ht
    ·have:=h3 t ht;omega
    ·rw[l2f] at ht;subst ht
     simp only
     omega
  ·rw[if_neg h]
   exact⟨h1,h2,λt ht=>by have:=h3 t ht;omega⟩
theorem C5w {t:Int×Int} {H:Hp} {K:KV}:Fp AN 3 BF 1 [(0,3,.agg (Mv t))] H K=K (.sl 3 (A7 H) 0 1) ((A7 H,.cells false AN (Mv t))::H):=by
 have e:Fp AN 3 BF 1 [(0,3,.agg (Mv t))] H K=Ij H (λs=>K (.sl 3 s 0 1) ((s,.cells false AN (Mv t))::H)):=_root_.id rfl
 rw[e,Cg]
section
variable {K:KV} {x:Am} {xs:List Int} {ca cb ra rb:List UInt8} {b r z:Nat} {c e:Int}
abbrev C40 (ca cb ra rb:List UInt8) (v:AV):Row:= .cells true Db [S ca,S cb,v,S ra,S rb]
structure FmH (b r z:Nat) (xs:List Int) (ca cb ra rb:List UInt8) (ts:YT) (v:AV) (H:Hp):Prop where
 hb:Aw H b=some (.cells true Gx (D3 xs))
 hr:Aw H r=some (C40 ca cb ra rb v)
 hz:∃cs,cs.length=5∧Aw H z=some (.cells true Db cs)
 sl:B3 H AN 3 v ts.length (ts.flatMap Mv)
 nl:ts=[]→v=AP
 nb:¬Bh v b
 nr:¬Bh v r
 nz:¬Bh v z
 wf:Wf H
theorem B3K {t:TI} {H:Hp} {e sz n:Nat} {v:AV} {cs:List AV} {K:AV→Am} (hd:t.d= .slice e sz) (h:B3 H e sz v n cs):AM t v K=K (I n):=IJ hd h
theorem C3Z {k33:AV→AV→Hp→Am} (hL:100<L) (hbr:b≠r) (hzr:z≠r) (hx:xs.length=6) (hi64:∀c∈xs,IM c) (hfin:∀v H,FmH b r z xs ca cb ra rb (IS xs 6) v H→k33 (.ptr z 0 0) (.ptr r 0 0) H=x):
 ∀(f i:Nat) (v:AV) (H:Hp),i≤6→6-i<f→FmH b r z xs ca cb ra rb (IS xs i) v H→
 MC (L+20) (rt (L+20) (n+40)) K k33 f (.ptr b 0 0) (.ptr z 0 0) (.ptr r 0 0) (I i) H=x:=by
 intro f
 induction f with
 |zero=>intro i v H _ h;omega
 |succ f ih=>
  intro i v H hi hf hh
  rw[Yp]
  unfold PI AR Aq Cz
  have e6:(AV.v (.int .i64 6))=I ((6:Nat):Int):=rfl
  rw[e6]
  by_cases h:i<6
  ·have hlt:i<xs.length:=by omega
   have hgd:(D3 xs).getD i .dk=I (xs.getD i 0):=by rw[OD hlt];simp[List.getD,Jw hlt]
   have hc:IM (xs.getD i 0):=by simp only[List.getD,Jw hlt,l1l];exact hi64 _ (Qu hlt)
   have pr:=DI (c:=xs.getD i 0) (n:=17) (by decide)
   have ld:∀{K},Ap Ab (.ptr b i 0) H K=K (I (xs.getD i 0)):= λ{K}=>by rw[AW (p:=i) rfl hh.hb (by simp[D3];omega),hgd]
   have hpk:∀H K,Ah (rt (L+20) (n+40)) GI [I (xs.getD i 0),.v (.int .i64 17)] H K=K (I (pk (xs.getD i 0) 17)):=A0c (n:=n+39) hc (by decide) (by decide)
   have ia:∀{K:AV→Am},B1 Bi (.ptr b 0 0) (I i) K=K (.ptr b i 0):= λ{K}=>Dx i rfl rfl h
   rw[FR (by omega),Do]
   simp only[Cm]
   rw[ia,ld,hpk,GN,Ca (by omega) (by omega)]
   have hne:∀{K:AV→Am},Go.Abs.Aj Ab .neq (I (pk (xs.getD i 0) 17-8)) (.v (.int .i64 0)) K=K (Bo (decide (pk (xs.getD i 0) 17-8≠0))):= λ{K}=>by rw[F8];simp
   rw[hne]
   have tm1:IS xs (i+1)=if pk (xs.getD i 0) 17-8≠0∧(IS xs i).length<5 then IS xs i++[(1+(i:Int),pk (xs.getD i 0) 17-8)] else IS xs i:=rfl
   have add:∀{K:AV→Am},Go.Abs.Aj Ab .add (I i) (.v (.int .i64 1)) K=K (I ((i+1:Nat):Int)):= λ{K}=>DH (by omega)
   by_cases h0:pk (xs.getD i 0) 17-8=0
   ·rw[decide_eq_false (by simpa using h0)]
    simp only[gTF,BN,QC]
    rw[BC,add]
    rw[if_neg λhh=>hh.1 h0] at tm1
    exact ih (i+1) v H (by omega) (by omega) (by rw[tm1];exact hh)
   ·have hln:=(A8A xs i (by omega)).2.1
    have f2:∀K:AV→Am,AH 2 (.ptr r 0 0) K=K (.ptr r 2 0):= λK=>id rfl
    have l2:∀K,Ap A3 (.ptr r 2 0) H K=K v:= λK=>AW (p:=2) rfl hh.hr (by simp)
    rw[decide_eq_true (by simpa using h0)]
    simp only[gT,BN,Un,f2,l2,B3K (t:=A3) rfl hh.sl]
    have e5:(AV.v (.int .i64 5))=I ((5:Nat):Int):=rfl
    rw[e5]
    by_cases h5:(IS xs i).length<5
    ·rw[FR (by omega),BN,Do]
     rw[if_pos ⟨h0,h5⟩] at tm1
     have hof:∀H K,Ah (rt (L+20) (n+40)) E4 [I (pk (xs.getD i 0) 17-8),.v (.int .i64 4)] H K=K (.tup [.agg (qa (pk (xs.getD i 0) 17-8)),I 0]):=B2t (by omega) (by omega)
     rw[hof,CJ,CI,Ba (cs:=[zS,zS]) rfl]
     have hn0:=A0 (H:=H) (x:= .cells true AA [zS,zS]) (by simp)
     have w1:=BP (x:= .cells true AA [zS,zS]) hh.wf
     rw[B0 (vs:=qa (pk (xs.getD i 0) 17-8)) hn0 rfl rfl rfl]
     have hr1:=A8 (q:=true) (e:=AA) (cs:=qa (pk (xs.getD i 0) 17-8)) hn0
     have kp:∀s x,Aw H s=some x→Aw (upd ((A7 H,Row.cells true AA [zS,zS])::H) (A7 H) (.cells true AA (qa (pk (xs.getD i 0) 17-8)))) s=some x:= λs x hs=>by
      have:=hh.wf.lt hs
      rw[As (by omega)];exact Bn this hs
     have w2:=C7 (r:=A7 H) (y:= .cells true AA (qa (pk (xs.getD i 0) 17-8))) w1
     generalize upd ((A7 H,Row.cells true AA [zS,zS])::H) (A7 H) (.cells true AA (qa (pk (xs.getD i 0) 17-8)))=H1 at hr1 kp w2
     generalize A7 H=r1 at hr1
     have l3:∀K,Ap A3 (.ptr r 2 0) H1 K=K v:= λK=>AW (p:=2) rfl (kp _ _ hh.hr) (by simp)
     have l4:∀K,Ap Ao (.ptr r1 0 0) H1 K=K (.agg (qa (pk (xs.getD i 0) 17-8))):= λK=>Bf rfl rfl hr1
     have ad1:∀{K:AV→Am},Go.Abs.Aj Ab .add (.v (.int .i64 1)) (I i) K=K (I (1+(i:Int))):= λ{K}=>by rw[Co,Ca (by omega) (by omega)]
     have bd:∀{K:AV→Am},Bg BF [(0,1,I (1+(i:Int))),(1,2,.agg (qa (pk (xs.getD i 0) 17-8)))] K=K (.agg (Mv (1+(i:Int),pk (xs.getD i 0) 17-8))):= λ{K}=>id rfl
     rw[l3,ad1,l4,bd]
     have sl1:B3 H1 AN 3 v (IS xs i).length ((IS xs i).flatMap Mv):=by
      rcases hh.sl with hs|⟨r2,q,h2,h3,h4⟩
      ·exact .inl hs
      ·exact .inr ⟨r2,q,h2,kp _ _ h3,h4⟩
     obtain⟨v',H',a1,a2,a3,a4,a5,a6⟩:=C5C (ie:=BF) (i2:=A3) (λK=>C5w (t:=(1+(i:Int),pk (xs.getD i 0) 17-8)) (H:=H1) (K:=K)) sl1 w2 rfl rfl (by decide) rfl (λ_=>rfl) (by show _*40≤_;omega) (by omega)
     have hr':Aw H' r=some (C40 ca cb ra rb v):=a5 _ _ (kp _ _ hh.hr) hh.nr
     rw[a1,E9 hr' (by simp) rfl (B3.cell a2) (B3.one a2),add]
     obtain⟨cs,hcs,hcz⟩:=hh.hz
     have new:∀{s x},Aw H s=some x→¬Bh v' s:= λ{s x} hs hv=>by
      have h1:=w2.lt (kp _ _ hs)
      have h2:=a6 _ hv
      omega
     refine ih (i+1) v' _ (by omega) (by omega) ⟨?_,A8 hr',⟨cs,hcs,?_⟩,?_,?_,new hh.hb,new hh.hr,new hcz,C7 a3⟩
     ·rw[As hbr];exact a5 _ _ (kp _ _ hh.hb) hh.nb
     ·rw[As hzr];exact a5 _ _ (kp _ _ hcz) hh.nz
     ·rw[tm1,F5,l2g]
      have:(List.flatMap Mv [(1+(i:Int),pk (xs.getD i 0) 17-8)])=Mv (1+(i:Int),pk (xs.getD i 0) 17-8):=by simp
      rw[this]
      rcases a2 with hs|⟨r2,q,h2,h3,h4⟩
      ·exact .inl hs
      ·refine .inr ⟨r2,q,h2,?_,h4⟩
       rw[As (λe=>new hh.hr (by rw[h2,←e];exact⟨_,_,_,rfl⟩))]
       exact h3
     ·rw[tm1];intro hc;simp at hc
    ·rw[FT (by omega),BN,BC,add]
     rw[if_neg λhh=>h5 hh.2] at tm1
     exact ih (i+1) v H (by omega) (by omega) (by rw[tm1];exact hh)
  ·have:i=6:=by omega
   subst this
   rw[FT (by omega),BC]
   exact hfin v H hh
theorem A2H (l:List Int):(D3 l).all AV.one=true:=by
 rw[GW];intro a ha
 obtain⟨z,_,rfl⟩:=l2a.1 ha;rfl
theorem B2x (hL:100<L) (hc:IM c) (hr:IM e) (hx:xs.length=6) (hi:∀c∈xs,IM c):CS (rt (L+20) (n+41)) NO [I c,I e,.agg (D3 xs)] (.agg [S (qn (pk c 161-80)),S (qd (pk c 161-80)),EY (IS xs 6),S (qn (pk e 9)),S (qd (pk e 9))]):=by
 intro K hK
 rw[A0o]
 unfold RF Aq
 have p1:=DI (c:=c) (n:=161) (by decide)
 have p2:=DI (c:=e) (n:=9) (by decide)
 have k1:∀H K,Ah (rt (L+20) (n+40)) GI [I c,.v (.int .i64 161)] H K=K (I (pk c 161)):=A0c (n:=n+39) hc (by decide) (by decide)
 have k2:∀H K,Ah (rt (L+20) (n+40)) GI [I e,.v (.int .i64 9)] H K=K (I (pk e 9)):=A0c (n:=n+39) hr (by decide) (by decide)
 have o1:∀H K,Ah (rt (L+20) (n+40)) E4 [I (pk c 161-80),.v (.int .i64 4)] H K=K (.tup [.agg (qa (pk c 161-80)),I 0]):=B2t (by omega) (by omega)
 have o2:∀H K,Ah (rt (L+20) (n+40)) E4 [I (pk e 9),.v (.int .i64 4)] H K=K (.tup [.agg (qa (pk e 9)),I 0]):=B2t (by omega) (by omega)
 rw[EG (A2H xs)]
 have hb:=A0 (H:=[]) (x:= .cells true Gx (D3 xs)) (by simp)
 have w0:=BP (x:= .cells true Gx (D3 xs)) Fw
 generalize ((A7 [],Row.cells true Gx (D3 xs))::([]:Hp))=H0 at hb w0
 generalize A7 []=b at hb
 rw[Ba (cs:=[zS,zS,AP,zS,zS]) rfl]
 have hz:=A0 (H:=H0) (x:= .cells true Db [zS,zS,AP,zS,zS]) (by simp)
 have b1:=Bn (x:= .cells true Db [zS,zS,AP,zS,zS]) (w0.lt hb) hb
 have nb:=w0.lt hb
 have w1:=BP (x:= .cells true Db [zS,zS,AP,zS,zS]) w0
 generalize ((A7 H0,Row.cells true Db [zS,zS,AP,zS,zS])::H0)=H1 at hz w1 b1
 generalize A7 H0=z at hz nb
 have bd:∀{K:AV→Am},Bg DD [] K=K (.agg [zS,zS,AP,zS,zS]):= λ{K}=>id rfl
 rw[bd,Ba (cs:=[zS,zS,AP,zS,zS]) rfl]
 obtain⟨H2,e2,r2,w2,kp⟩:=DZ (e:=Db) (zs:=[zS,zS,AP,zS,zS]) (vs:=[zS,zS,AP,zS,zS]) w1 rfl
 rw[B0 (vs:=[zS,zS,AP,zS,zS]) (A0 (by simp)) rfl rfl rfl,←e2]
 obtain⟨b2,nbr⟩:=kp _ _ b1
 obtain⟨z2,nzr⟩:=kp _ _ hz
 generalize A7 H1=r at r2 nbr nzr
 have f0:∀K:AV→Am,AH 0 (.ptr r 0 0) K=K (.ptr r 0 0):= λK=>id rfl
 have f3:∀K:AV→Am,AH 3 (.ptr r 0 0) K=K (.ptr r 3 0):= λK=>id rfl
 rw[k1,GN,Ca (by omega) (by omega),o1,CJ,CI,f0,X6 (vs:=qa (pk c 161-80)) r2 (show 0+2≤5 by decide) rfl rfl]
 have r3:=A8 (q:=true) (e:=Db) (cs:=splice [zS,zS,AP,zS,zS] 0 (qa (pk c 161-80))) r2
 have b3:=b2;have z3:=z2
 rw[←As (H:=H2) (r:=r) (y:= .cells true Db (splice [zS,zS,AP,zS,zS] 0 (qa (pk c 161-80)))) nbr] at b3
 rw[←As (H:=H2) (r:=r) (y:= .cells true Db (splice [zS,zS,AP,zS,zS] 0 (qa (pk c 161-80)))) nzr] at z3
 have w3:=C7 (r:=r) (y:= .cells true Db (splice [zS,zS,AP,zS,zS] 0 (qa (pk c 161-80)))) w2
 generalize upd H2 r (.cells true Db (splice [zS,zS,AP,zS,zS] 0 (qa (pk c 161-80))))=H3 at r3 b3 z3 w3
 rw[k2,o2,CJ,CI,f3,X6 (vs:=qa (pk e 9)) r3 (show 3+2≤5 by decide) rfl rfl]
 simp only[Cm]
 refine C3Z (n:=n) (b:=b) (r:=r) (z:=z) (ca:=qn (pk c 161-80)) (cb:=qd (pk c 161-80)) (ra:=qn (pk e 9)) (rb:=qd (pk e 9)) hL nbr nzr hx hi ?_ (L+20) 0 AP _ (by omega) (by omega) ⟨?_,A8 r3,⟨[zS,zS,AP,zS,zS],rfl,?_⟩,.inl ⟨rfl,rfl,rfl⟩,λ_=>rfl,?_,?_,?_,C7 w3⟩
 ·intro v H hh
  obtain⟨cs,hcs,hcz⟩:=hh.hz
  have o:[S (qn (pk c 161-80)),S (qd (pk c 161-80)),v,S (qn (pk e 9)),S (qd (pk e 9))].all AV.one=true:=by
   show(true&&(true&&(AV.one v&&(true&&(true&&true)))))=true
   rw[B3.one hh.sl];rfl
  rw[Bf rfl rfl hh.hr,B0 hcz (by rw[hcs];rfl) (by rw[hcs];rfl) o,Bf rfl rfl (A8 hcz)]
  refine hK _ _ (λq=> ?_)
  have sl1:B3 (upd H z (.cells true Db [S (qn (pk c 161-80)),S (qd (pk c 161-80)),v,S (qn (pk e 9)),S (qd (pk e 9))])) AN 3 v (IS xs 6).length ((IS xs 6).flatMap Mv):=by
   rcases hh.sl with hs|⟨r2,q,h2,h3,h4⟩
   ·exact .inl hs
   ·refine .inr ⟨r2,q,h2,?_,h4⟩
    rw[As (λe=>hh.nz (by rw[h2,←e];exact⟨_,_,_,rfl⟩))]
    exact h3
  obtain⟨q',hq⟩:=C18 (D:=depth-2) (b:=q) sl1 hh.nl
  exact⟨_,OH (D:=depth-1) (Ay (q:=false) E1 (Ay (q:=false) E1 (Ay hq (Ay (q:=false) E1 (Ay (q:=false) E1 Bl)))))⟩
 ·rw[As nbr];exact b3
 ·rw[As nzr];exact z3
 all_goals (rintro⟨_,_,_,h⟩;cases h)
end
end
section
variable {L n:Nat}
theorem HW {α:Type} {F:α} {G:α→Am} {x:Am} (h:∀k,k=F→G k=x):jn F G=x:=by rw[Cm];exact h F rfl
theorem B3.kp {H H':Hp} {e sz n:Nat} {v:AV} {cs:List AV} (h:B3 H e sz v n cs) (k:∀s x,Bh v s→Aw H s=some x→Aw H' s=some x):B3 H' e sz v n cs:=by
 rcases h with h|⟨r,q,h1,h2,h3⟩
 ·exact .inl h
 ·exact .inr ⟨r,q,h1,k r _ ⟨_,_,_,h1⟩ h2,h3⟩
theorem C54 (l:List Nd):∃vs:List Value,l.flatMap ndC=vs.map λx=> .v x:=by
 induction l with
 |nil=>exact⟨[],rfl⟩
 |cons x l ih=>
  obtain⟨vs,h⟩:=ih
  refine⟨[.int .i64 x.op,.string ⟨⟨x.vn⟩⟩,.string ⟨⟨x.vd⟩⟩,.int .i64 x.u.p0,.int .i64 x.u.q0,.int .i64 x.u.p1,.int .i64 x.u.q1,.int .i64 x.u.p2,.int .i64 x.u.q2,.int .i64 x.u.p3,.int .i64 x.u.q3,.int .i64 x.u.p4,.int .i64 x.u.q4,.int .i64 x.u.p5,.int .i64 x.u.q5,.int .i64 x.u.p6,.int .i64 x.u.q6,
   .string ⟨⟨x.u.fn⟩⟩,.string ⟨⟨x.u.fd⟩⟩,.string ⟨⟨x.u.on⟩⟩,.string ⟨⟨x.u.od⟩⟩,.int .i64 x.u.kd,.int .i64 x.u.sc,.int .i64 x.n,.int .i64 x.l,.int .i64 x.r]++vs,?_⟩
  rw[l00,h,l01];rfl
def ndL (l:List Nd):AV:=match l with
 |[]=>AP
 |x::l=> .list (x::l).length ((x::l).flatMap ndC)
theorem B3l {D:Nat} {b:Bool} {H:Hp} {v:AV} {l:List Nd} (h:B3 H AF 26 v l.length (l.flatMap ndC)) (h0:l=[]→v=AP):∃q,Fx b (D+1) v (ndL l) H q:=by
 rcases h with⟨rfl,h2,_⟩|⟨r,q,rfl,h2,h3⟩
 ·cases l with
  |nil=>exact⟨false,E1⟩
  |cons a l=>simp at h2
 ·cases l with
  |nil=>have:=h0 rfl;cases this
  |cons a l=>
   refine⟨true,?_⟩
   show Fx b (D+1) _ (.list (a::l).length ((a::l).flatMap ndC)) H true
   obtain⟨vs,e⟩:=C54 (a::l)
   rw[e] at h2 h3⊢
   exact VZ (q':=false) h2 h3 (J6 _root_.id _)
theorem C4h {y:Nd} {H:Hp} {K:KV}:Fp AF 26 AE 1 [(0,26,.agg y.cs)] H K=K (.sl 26 (A7 H) 0 1) ((A7 H,.cells false AF (ndC y))::H):=by
 have e:Fp AF 26 AE 1 [(0,26,.agg y.cs)] H K=Ij H (λs=>K (.sl 26 s 0 1) ((s,.cells false AF (ndC y))::H)):=_root_.id rfl
 rw[e,Cg]
structure Md (b r z:Nat) (ins:List Int) (id:Int) (ks:List Nat) (xs:List Nd) (us:List Nat) (v w u:AV) (H:Hp):Prop where
 hb:Aw H b=some (.cells true Q8 (D3 ins))
 hr:Aw H r=some (Gj id v w u0)
 hz:∃cs,cs.length=23∧Aw H z=some (.cells true B4 cs)
 sv:B3 H Av 20 v ks.length (ks.flatMap FE)
 nv:ks=[]→v=AP
 sw:B3 H AF 26 w xs.length (xs.flatMap ndC)
 nw:xs=[]→w=AP
 su:B3 H Av 20 u us.length (us.flatMap FE)
 nu:us=[]→u=AP
 br:b≠r
 zr:z≠r
 av:∀s,Bh v s→s≠b∧s≠r∧s≠z∧¬Bh w s∧¬Bh u s
 aw:∀s,Bh w s→s≠b∧s≠r∧s≠z∧¬Bh v s∧¬Bh u s
 au:∀s,Bh u s→s≠b∧s≠r∧s≠z∧¬Bh v s∧¬Bh w s
 wf:Wf H
section
variable {K:KV} {x:Am} {ins:List Int} {id:Int} {ks us:List Nat} {xs:List Nd} {v w u:AV} {b r z m:Nat} {H H':Hp}
theorem Md.grow (h:Md b r z ins id ks xs us v w u H) (wf:Wf H') (kp:∀s x,Aw H s=some x→Aw H' s=some x):Md b r z ins id ks xs us v w u H':=by
 obtain⟨cs,c1,c2⟩:=h.hz
 exact⟨kp _ _ h.hb,kp _ _ h.hr,⟨cs,c1,kp _ _ c2⟩,h.sv.kp λs x _=>kp s x,h.nv,h.sw.kp λs x _=>kp s x,h.nw,h.su.kp λs x _=>kp s x,h.nu,h.br,h.zr,h.av,h.aw,h.au,wf⟩
structure Oth (b r z:Nat) (v w u:AV) (m:Nat):Prop where
 b:m≠b
 r:m≠r
 z:m≠z
 v:¬Bh v m
 w:¬Bh w m
 u:¬Bh u m
theorem Md.oth (h:Md b r z ins id ks xs us v w u H):Oth b r z v w u (A7 H):=by
 obtain⟨cs,c1,c2⟩:=h.hz
 have h1:=h.wf.lt h.hb
 have h2:=h.wf.lt h.hr
 have h3:=h.wf.lt c2
 exact⟨by omega,by omega,by omega,λe=>by have:=h.sv.lt h.wf e;omega,λe=>by have:=h.sw.lt h.wf e;omega,λe=>by have:=h.su.lt h.wf e;omega⟩
theorem Md.upd (h:Md b r z ins id ks xs us v w u H) (o:Oth b r z v w u m) (y:Row):Md b r z ins id ks xs us v w u (upd H m y):=by
 obtain⟨cs,c1,c2⟩:=h.hz
 have kp:∀s x,s≠m→Aw H s=some x→Aw (Go.Abs.upd H m y) s=some x:= λs x hs hl=>by rw[As hs];exact hl
 exact⟨kp _ _ (Ne.symm o.b) h.hb,kp _ _ (Ne.symm o.r) h.hr,⟨cs,c1,kp _ _ (Ne.symm o.z) c2⟩,h.sv.kp λs x hs=>kp s x (λe=>o.v (e▸hs)),h.nv,h.sw.kp λs x hs=>kp s x (λe=>o.w (e▸hs)),h.nw,h.su.kp λs x hs=>kp s x (λe=>o.u (e▸hs)),h.nu,h.br,h.zr,h.av,h.aw,h.au,C7 h.wf⟩
theorem X1 {α β:Type} (f:α→List β) (l:List α) (a:α):(l++[a]).flatMap f=l.flatMap f++f a:=by simp
theorem Md.v1 (h:Md b r z ins id ks xs us v w u H) (k:Nat) (hl:ks.length<100):∃v' H',(∀K:KV,Ea Av 20 Ag Al v (.sl 20 (A7 H) 0 1) ((A7 H,.cells false Av (FE k))::H) K=K v' H')∧
 (∀K:Hp→Am,Cb Al (.ptr r 1 0) v' H' K=K (Go.Abs.upd H' r (Gj id v' w u0)))∧Md b r z ins id (ks++[k]) xs us v' w u (Go.Abs.upd H' r (Gj id v' w u0)):=by
 obtain⟨v',H',a1,a2,a3,a4,a5,a6⟩:=A68 (ie:=Ag) (i2:=Al) (ys:=FE k) h.sv h.wf rfl rfl (by decide) rfl (λ_=>rfl) (by show(_+1)*192≤_;omega) (by omega)
 obtain⟨cs,c1,c2⟩:=h.hz
 have h1:=h.wf.lt h.hb
 have h2:=h.wf.lt h.hr
 have h3:=h.wf.lt c2
 have hr':=a5 _ _ h.hr λe=>(h.av _ e).2.1 rfl
 have kp:∀s x,s≠r→¬Bh v s→Aw H s=some x→Aw (Go.Abs.upd H' r (Gj id v' w u0)) s=some x:= λs x hs hn hl=>by rw[As hs];exact a5 s x hl hn
 refine⟨v',H',a1,λK=>E9 hr' (show 1<23 by decide) rfl (B3.cell a2) (B3.one a2),kp _ _ h.br (λe=>(h.av _ e).1 rfl) h.hb,A8 hr',⟨cs,c1,kp _ _ h.zr (λe=>(h.av _ e).2.2.1 rfl) c2⟩,?_,λe=>by simp at e,
  h.sw.kp λs x hs=>kp s x (h.aw s hs).2.1 (h.aw s hs).2.2.2.1,h.nw,h.su.kp λs x hs=>kp s x (h.au s hs).2.1 (h.au s hs).2.2.2.1,h.nu,h.br,h.zr,λs hs=> ?_,λs hs=> ?_,λs hs=> ?_,C7 a3⟩
 ·rw[F5,X1]
  refine B3.kp a2 λs x hs hl=> ?_
  have:=a6 s hs
  rw[As (by omega)];exact hl
 ·have:=a6 s hs
  exact⟨by omega,by omega,by omega,λe=>by have:=h.sw.lt h.wf e;omega,λe=>by have:=h.su.lt h.wf e;omega⟩
 ·obtain⟨q1,q2,q3,q4,q5⟩:=h.aw s hs
  exact⟨q1,q2,q3,λe=>by have:=a6 s e;have:=h.sw.lt h.wf hs;omega,q5⟩
 ·obtain⟨q1,q2,q3,q4,q5⟩:=h.au s hs
  exact⟨q1,q2,q3,λe=>by have:=a6 s e;have:=h.su.lt h.wf hs;omega,q5⟩
theorem Md.w1 (h:Md b r z ins id ks xs us v w u H) (y:Nd) (hl:xs.length<100):∃w' H',(∀K:KV,Ea AF 26 AE Ax w (.sl 26 (A7 H) 0 1) ((A7 H,.cells false AF (ndC y))::H) K=K w' H')∧
 (∀K:Hp→Am,Cb Ax (.ptr r 2 0) w' H' K=K (Go.Abs.upd H' r (Gj id v w' u0)))∧Md b r z ins id ks (xs++[y]) us v w' u (Go.Abs.upd H' r (Gj id v w' u0))∧(∀s x,s≠r→¬Bh w s→Aw H s=some x→Aw (Go.Abs.upd H' r (Gj id v w' u0)) s=some x):=by
 obtain⟨w',H',a1,a2,a3,a4,a5,a6⟩:=A68 (ie:=AE) (i2:=Ax) (ys:=ndC y) h.sw h.wf rfl rfl (by decide) rfl (λ_=>rfl) (by show(_+1)*256≤_;omega) (by omega)
 obtain⟨cs,c1,c2⟩:=h.hz
 have h1:=h.wf.lt h.hb
 have h2:=h.wf.lt h.hr
 have h3:=h.wf.lt c2
 have hr':=a5 _ _ h.hr λe=>(h.aw _ e).2.1 rfl
 have kp:∀s x,s≠r→¬Bh w s→Aw H s=some x→Aw (Go.Abs.upd H' r (Gj id v w' u0)) s=some x:= λs x hs hn hl=>by rw[As hs];exact a5 s x hl hn
 refine⟨w',H',a1,λK=>E9 hr' (show 2<23 by decide) rfl (B3.cell a2) (B3.one a2),⟨kp _ _ h.br (λe=>(h.aw _ e).1 rfl) h.hb,A8 hr',⟨cs,c1,kp _ _ h.zr (λe=>(h.aw _ e).2.2.1 rfl) c2⟩,
  h.sv.kp λs x hs=>kp s x (h.av s hs).2.1 (h.av s hs).2.2.2.1,h.nv,?_,λe=>by simp at e,h.su.kp λs x hs=>kp s x (h.au s hs).2.1 (h.au s hs).2.2.2.2,h.nu,h.br,h.zr,λs hs=> ?_,λs hs=> ?_,λs hs=> ?_,C7 a3⟩,kp⟩
 ·rw[F5,X1]
  refine B3.kp a2 λs x hs hl=> ?_
  have:=a6 s hs
  rw[As (by omega)];exact hl
 ·obtain⟨q1,q2,q3,q4,q5⟩:=h.av s hs
  exact⟨q1,q2,q3,λe=>by have:=a6 s e;have:=h.sv.lt h.wf hs;omega,q5⟩
 ·have:=a6 s hs
  exact⟨by omega,by omega,by omega,λe=>by have:=h.sv.lt h.wf e;omega,λe=>by have:=h.su.lt h.wf e;omega⟩
 ·obtain⟨q1,q2,q3,q4,q5⟩:=h.au s hs
  exact⟨q1,q2,q3,q4,λe=>by have:=a6 s e;have:=h.su.lt h.wf hs;omega⟩
theorem Md.u1 (h:Md b r z ins id ks xs us v w u H) (k:Nat) (hl:us.length<100):∃u' H',(∀K:KV,Ea Av 20 Ag Al u (.sl 20 (A7 H) 0 1) ((A7 H,.cells false Av (FE k))::H) K=K u' H')∧Md b r z ins id ks xs (us++[k]) v w u' H':=by
 obtain⟨u',H',a1,a2,a3,a4,a5,a6⟩:=A68 (ie:=Ag) (i2:=Al) (ys:=FE k) h.su h.wf rfl rfl (by decide) rfl (λ_=>rfl) (by show(_+1)*192≤_;omega) (by omega)
 obtain⟨cs,c1,c2⟩:=h.hz
 have h1:=h.wf.lt h.hb
 have h2:=h.wf.lt h.hr
 have h3:=h.wf.lt c2
 refine⟨u',H',a1,a5 _ _ h.hb (λe=>(h.au _ e).1 rfl),a5 _ _ h.hr (λe=>(h.au _ e).2.1 rfl),⟨cs,c1,a5 _ _ c2 (λe=>(h.au _ e).2.2.1 rfl)⟩,
  h.sv.kp λs x hs hl=>a5 s x hl (h.av s hs).2.2.2.2,h.nv,h.sw.kp λs x hs hl=>a5 s x hl (h.aw s hs).2.2.2.2,h.nw,?_,λe=>by simp at e,h.br,h.zr,λs hs=> ?_,λs hs=> ?_,λs hs=> ?_,a3⟩
 ·rw[F5,X1]
  exact a2
 ·obtain⟨q1,q2,q3,q4,q5⟩:=h.av s hs
  exact⟨q1,q2,q3,q4,λe=>by have:=a6 s e;have:=h.sv.lt h.wf hs;omega⟩
 ·obtain⟨q1,q2,q3,q4,q5⟩:=h.aw s hs
  exact⟨q1,q2,q3,q4,λe=>by have:=a6 s e;have:=h.sw.lt h.wf hs;omega⟩
 ·have:=a6 s hs
  exact⟨by omega,by omega,by omega,λe=>by have:=h.sv.lt h.wf e;omega,λe=>by have:=h.sw.lt h.wf e;omega⟩
theorem Ux {s j:Nat} {K:AV→Am}:AH j (.ptr s 0 0) K=K (.ptr s j 0):=by rw[fA,Le]
theorem Md.ld1 (h:Md b r z ins id ks xs us v w u H) {K:AV→Am}:Ap Al (.ptr r 1 0) H K=K v:=AW (p:=1) rfl h.hr (show 1<23 by decide)
theorem Md.ld2 (h:Md b r z ins id ks xs us v w u H) {K:AV→Am}:Ap Ax (.ptr r 2 0) H K=K w:=AW (p:=2) rfl h.hr (show 2<23 by decide)
def ksM (ins:List Int) (i:Nat):List Nat:=(ins.take i).map λc=>(pk c 7).toNat
theorem B6o {i:Nat} (h:i<ins.length):ksM ins (i+1)=ksM ins i++[(pk ins[i] 7).toNat]:=by
 unfold ksM
 rw[l04 h,l01];rfl
theorem C35 {count:Int} {xl ex d0 d1 d2:AV} {k259:AV→AV→AV→AV→AV→AV→AV→AV→Hp→Am} (hL:100<L) (hi:ins.length=3) (hi64:∀c∈ins,IM c) (hc:IM count)
 (hfin:∀v H,Md b r z ins id (ksM ins ((pk count 3).toNat+1)) [] [] v AP AP H→k259 (I count) xl ex (.ptr b 0 0) (.ptr z 0 0) (.ptr r 0 0) (I (((pk count 3).toNat+1:Nat):Int)) d2 H=x):
 ∀(f i:Nat) (v:AV) (H:Hp),i≤(pk count 3).toNat+1→(pk count 3).toNat+1-i<f→Md b r z ins id (ksM ins i) [] [] v AP AP H→
 MA (L+20) (rt (L+20) (n+42)) K k259 f (I count) xl ex (.ptr b 0 0) (.ptr z 0 0) (.ptr r 0 0) (I i) d0 d1 d2 H=x:=by
 have pr:=DI (c:=count) (n:=3) (by decide)
 intro f
 induction f with
 |zero=>intro i v H _ h;omega
 |succ f ih=>
  intro i v H hi' hf hh
  rw[Yn]
  unfold PG Aq
  have hpk:∀H K,Ah (rt (L+20) (n+42)) BH [I count,.v (.int .i64 3)] H K=K (I (pk count 3)):=JJ (n:=n+41) hc (by decide) (by decide)
  rw[hpk,QY]
  by_cases h:i≤(pk count 3).toNat
  ·have hlt:i<ins.length:=by omega
   have hb:=hh.hb
   have ld:∀{K},Ap Ab (.ptr b i 0) H K=K (I ins[i]):= λ{K}=>by rw[AW (p:=i) rfl hh.hb (by simp[D3];omega),OD hlt]
   have ia:∀{K:AV→Am},B1 Od (.ptr b 0 0) (I i) K=K (.ptr b i 0):= λ{K}=>Dx i rfl rfl (by omega)
   have un:∀{H K},Ah (rt (L+20) (n+42)) E3 [I ins[i]] H K=K (.agg (BW (uu (pk ins[i] 7).toNat))):= λ{H K}=>A79 (n:=n) (hi64 _ (Qu hlt)) H K
   have hlen:(ksM ins i).length<100:=by simp[ksM];omega
   obtain⟨v',H',a1,a2,a3⟩:=hh.v1 (pk ins[i] 7).toNat hlen
   have ok:YS v v=true:=A4P hh.sv
   have l1:∀{K},Ap Al (.ptr r 1 0) ((A7 H,Row.cells false Av (FE (pk ins[i] 7).toNat))::H) K=K v:= λ{K}=>AW (p:=1) rfl (Bn (hh.wf.lt hh.hr) hh.hr) (show 1<23 by decide)
   rw[decide_eq_true (by omega),Do]
   simp only[Ux,BK,hh.ld1,ia,ld,un,B11,BN,a1,a2,l1]
   rw[B2V ok,DH (by omega)]
   rw[←B6o hlt] at a3
   exact ih (i+1) v' _ (by omega) (by omega) a3
  ·have:i=(pk count 3).toNat+1:=by omega
   subst this
   rw[decide_eq_false (by omega),BC]
   exact hfin v H hh
theorem C36 {a1 a2 a3 i4 d0:AV} {k214:AV→AV→AV→AV→AV→AV→AV→AV→AV→Hp→Am} (hL:100<L) (hb:ks.length≤3)
 (hfin:∀w u H,Md b r z ins id ks (JL ks) ks v w u H→k214 a1 a2 a3 (.ptr b 0 0) (.ptr z 0 0) (.ptr r 0 0) i4 u (I ks.length) H=x):
 ∀(f j:Nat) (w u:AV) (H:Hp),j≤ks.length→ks.length-j<f→Md b r z ins id ks ((List.range j).map Uj) (ks.take j) v w u H→
 MB (L+20) (rt (L+20) (n+42)) K k214 f a1 a2 a3 (.ptr b 0 0) (.ptr z 0 0) (.ptr r 0 0) i4 u (I j) d0 H=x:=by
 intro f
 induction f with
 |zero=>intro j w u H _ h;omega
 |succ f ih=>
  intro j w u H hi' hf hh
  rw[Yo]
  unfold PH Aq
  rw[Ux,hh.ld1,IJ (t:=Al) rfl hh.sv]
  by_cases h:j<ks.length
  ·have bd:∀{K:AV→Am},Bg AE [(0,1,.v (.int .i64 2)),(23,1,I j)] K=K (.agg (Uj j).cs):= λ{K}=>_root_.id rfl
   obtain⟨w',H',b1,b2,b3, -⟩:=hh.w1 (Uj j) (by simp;omega)
   obtain⟨a,g1,g2⟩:=A8y b3.sv h
   obtain⟨u',H2,e1,e2⟩:=b3.u1 ks[j] (by simp;omega)
   rw[FR (by omega),Do,Ux,hh.ld2,bd,C4h,b1,Ux,b2,Ux,b3.ld1,g1,g2,B11,e1,DH (by omega)]
   refine ih (j+1) w' u' H2 (by omega) (by omega) ?_
   rw[List.range_succ,l01,l04 h]
   exact e2
  ·have:j=ks.length:=by omega
   subst this
   rw[FT (by omega),BC]
   rw[l06] at hh
   exact hfin w u H hh
end
end
end Go.Abs
end
