import Derived.Test.YtlbhdmbfdcohhaaGreatDoorP17
import Derived.Test.YtlbhdmbfdcohhaaGreatDoorP31
import Derived.Test.YtlbhdmbfdcohhaaGreatDoorP43
set_option linter.all false
set_option maxHeartbeats 100000000
noncomputable section
namespace Go.Abs
open Go.RowKit Go.Proofs
set_option maxRecDepth 100000
section
variable {L n:Nat}
section
variable {c:Cd}
theorem A8b (hL:40000<L) (h:c.Ok) (hn:c.ps.Nodup):CS (rt (L+20) (n+64)) Gb [.agg c.cs] (S c.id):=by
 refine C4W (n:=n+1) hL J9 Cc XX (Wv h) ?_
 match c,h,hn with
 | .re b u,⟨hb,hu⟩,_=>
  have st:=B07 (L:=L) (n:=n+1) (o:=u0) hb.m (XA1 b.ts) (A3z (L:=L) (n:=n+21)).o (B2o (L:=L) (n:=n+21)).o (Ox L (n+21) u (by omega)).o (A09 (L:=L) (n:=n+19) hb.c1 hb.c2 hb.r1 hb.r2 (by omega) hb.ts).ls
  exact A7d (n:=n+1) (XA1 _) (KN []) (.inl rfl) (.inl rfl) (Wv (c:= .re b u) ⟨hb,hu⟩) st (A7c (n:=n) (ps:=[]) (vd:=0) (kd:=1) (by omega) hb.m (.inl rfl) hb.ts (.inl rfl) (.inl rfl) (by simp) (by simp) (by have:=EA u;omega) (by simp) (.inl rfl) A3B (by decide) hb.cl (QB L (n+21) u (by omega)) (C2R (L:=L) (n:=n+21)).ls)
 | .co b p ps none,⟨hb,hp,h1,h2,h3⟩,hn=>
  have k1:=hp.k1
  have k3:=hp.k3
  have hps:FQ ps=Ls ps:=Tb (by omega)
  have hpa:=(A2z (L:=L) (n:=n+60) (ps:=ps) hn (by omega) (by omega) h2).ls
  rw[←hps,h1] at hpa
  have st:=B06 (L:=L) (n:=n+1) hb.m (XA1 b.ts) (A3z (L:=L) (n:=n+21)).o ⟨_,_,hps⟩ ⟨_,_,rfl⟩ hpa (A5a (L:=L) (n:=n+17) (by omega) hp).ls (Ox L (n+21) p.out (Hn hp)).o (A09 (L:=L) (n:=n+19) hb.c1 hb.c2 hb.r1 hb.r2 (by omega) hb.ts).ls
  exact A7d (n:=n+1) (XA1 _) (KN ps) (.inr ⟨_,_,rfl⟩) (.inr ⟨_,_,rfl⟩) (Wv (c:= .co b p ps none) ⟨hb,hp,h1,h2,h3⟩) st (A7c (n:=n) (ps:=ps) (vd:=0) (kd:=2) (by omega) hb.m (.inr (.inl rfl)) hb.ts (.inr ⟨_,_,rfl⟩) (.inr ⟨_,_,rfl⟩) (by omega) (λs hs=>by rw[h2 s hs];decide) (by have:=EA p.out;omega) (Xg hp) (.inl rfl) A3B (by decide) hb.cl (QB L (n+21) _ (Hn hp)) (B7j (L:=L) (n:=n+16) (by omega) hp).ls)
 | .co b p ps (some (k,vd)),⟨hb,hp,h1,h2,h3,h4,h5⟩,hn=>
  have k1:=hp.k1
  have k3:=hp.k3
  have hps:FQ ps=Ls ps:=Tb (by omega)
  have hpa:=(A2z (L:=L) (n:=n+60) (ps:=ps) hn (by omega) (by omega) h2).ls
  rw[←hps,h1] at hpa
  have st:=B05 (L:=L) (n:=n+1) hb.m (XA1 b.ts) (B2q (L:=L) (n:=n+21) h3).o h4 h5 ⟨_,_,hps⟩ ⟨_,_,rfl⟩ hpa (A5a (L:=L) (n:=n+17) (by omega) hp).ls (Ox L (n+21) p.out (Hn hp)).o (A09 (L:=L) (n:=n+19) hb.c1 hb.c2 hb.r1 hb.r2 (by omega) hb.ts).ls
  exact A7d (n:=n+1) (XA1 _) (KN ps) (.inr ⟨_,_,rfl⟩) (.inr ⟨_,_,rfl⟩) (Wv (c:= .co b p ps (some (k,vd))) ⟨hb,hp,h1,h2,h3,h4,h5⟩) st (A7c (n:=n) (ps:=ps) (vd:=vd) (kd:=3) (by omega) hb.m (.inr (.inr rfl)) hb.ts (.inr ⟨_,_,rfl⟩) (.inr ⟨_,_,rfl⟩) (by omega) (λs hs=>by rw[h2 s hs];decide) (by have:=EA p.out;omega) (Xg hp) (C2K h3) (A77 h3) (by omega) hb.cl (QB L (n+21) _ (Hn hp)) (B7j (L:=L) (n:=n+16) (by omega) hp).ls)
theorem B6Y (hL:40000<L) (h:c.Ok) (hn:¬c.ps.Nodup):CS (rt (L+20) (n+64)) Gb [.agg c.cs] (S []):=by
 refine C2S (n:=n+1) J9 Cc XX ?_
 match c,h,hn with
 | .re b u,_,hn=>exact absurd List.nodup_nil hn
 | .co b p ps none,⟨hb,hp,h1,h2,h3⟩,hn=>
  have k1:=hp.k1
  have k3:=hp.k3
  have hps:FQ ps=Ls ps:=Tb (by omega)
  have hpa:=(A06 (L:=L) (n:=n+60) (ps:=ps) hn (by omega) h2).ls
  rw[←hps,h1] at hpa
  have st:=A7b (L:=L) (n:=n+1) hb.m (XA1 b.ts) (A3z (L:=L) (n:=n+21)).o ⟨_,_,hps⟩ ⟨_,_,rfl⟩ hpa (A5a (L:=L) (n:=n+17) (by omega) hp).ls (Ox L (n+21) p.out (Hn hp)).o (A09 (L:=L) (n:=n+19) hb.c1 hb.c2 hb.r1 hb.r2 (by omega) hb.ts).ls
  exact A8I (n:=n+1) (XA1 _) (KN ps) (.inr ⟨_,_,rfl⟩) (.inr ⟨_,_,rfl⟩) st
 | .co b p ps (some (k,vd)),⟨hb,hp,h1,h2,h3,h4,h5⟩,hn=>
  have k1:=hp.k1
  have k3:=hp.k3
  have hps:FQ ps=Ls ps:=Tb (by omega)
  have hpa:=(A06 (L:=L) (n:=n+60) (ps:=ps) hn (by omega) h2).ls
  rw[←hps,h1] at hpa
  have st:=A7a (L:=L) (n:=n+1) hb.m (XA1 b.ts) (B2q (L:=L) (n:=n+21) h3).o h4 h5 ⟨_,_,hps⟩ ⟨_,_,rfl⟩ hpa (A5a (L:=L) (n:=n+17) (by omega) hp).ls (Ox L (n+21) p.out (Hn hp)).o (A09 (L:=L) (n:=n+19) hb.c1 hb.c2 hb.r1 hb.r2 (by omega) hb.ts).ls
  exact A8I (n:=n+1) (XA1 _) (KN ps) (.inr ⟨_,_,rfl⟩) (.inr ⟨_,_,rfl⟩) st
end
end
structure Ce (κ:Type) where
 real:Bool
 ps:List κ
section
variable {κ:Type} [DecidableEq κ] {g:List (κ×Ce κ)}
def Ml {α:Type}:List (κ×α)→κ→Option α
 |[],_=>none
 |e::g,x=>if e.1=x then some e.2 else Ml g x
def rz (g:List (κ×Ce κ)):Nat→κ→Bool
 |0,_=>false
 |n+1,x=>match Ml g x with
  |none=>false
  |some c=>(c.real|| !c.ps.isEmpty)&&c.ps.all (rz g n)
def Rz (g:List (κ×Ce κ)) (x:κ):Prop:=∃n,rz g n x=true
theorem LL {n:Nat} {x:κ}:rz g (n+1) x=true↔∃c,Ml g x=some c∧(c.real=true∨c.ps≠[])∧∀p∈c.ps,rz g n p=true:=by
 rw[show rz g (n+1) x=(match Ml g x with
  |none=>false
  |some c=>(c.real|| !c.ps.isEmpty)&&c.ps.all (rz g n)) from rfl]
 cases Ml g x with
 |none=>simp
 |some c=>simp[GW]
theorem V4:∀(n:Nat) (x:κ),rz g n x=true→rz g (n+1) x=true:=by
 intro n
 induction n with
 |zero=>intro x h;cases h
 |succ n ih=>
  intro x h
  obtain⟨c,h1,h2,h3⟩:=LL.1 h
  exact LL.2 ⟨c,h1,h2,λp hp=>ih p (h3 p hp)⟩
theorem A3t {n m:Nat} {x:κ} (h:n≤m) (h1:rz g n x=true):rz g m x=true:=by
 induction h with
 |refl=>exact h1
 |step _ ih=>exact V4 _ _ ih
theorem C1D {l:List κ} (h:∀p∈l,Rz g p):∃n,∀p∈l,rz g n p=true:=by
 induction l with
 |nil=>exact⟨0,by simp⟩
 |cons a l ih=>
  obtain⟨n,hn⟩:=ih λp hp=>h p (by simp[hp])
  obtain⟨m,hm⟩:=h a (by simp)
  refine⟨max n m,λp hp=> ?_⟩
  rcases XQ.1 hp with rfl|hp
  ·exact A3t (by omega) hm
  ·exact A3t (by omega) (hn p hp)
theorem A8p {x:κ}:Rz g x↔∃c,Ml g x=some c∧(c.real=true∨c.ps≠[])∧∀p∈c.ps,Rz g p:=by
 constructor
 ·rintro⟨n,h⟩
  cases n with
  |zero=>cases h
  |succ n=>
   obtain⟨c,h1,h2,h3⟩:=LL.1 h
   exact⟨c,h1,h2,λp hp=>⟨n,h3 p hp⟩⟩
 ·rintro⟨c,h1,h2,h3⟩
  obtain⟨n,hn⟩:=C1D h3
  exact⟨n+1,LL.2 ⟨c,h1,h2,hn⟩⟩
theorem Wb {α:Type} {x:κ} {c:α}:∀{g:List (κ×α)},Ml g x=some c→(x,c)∈g:=by
 intro g
 induction g with
 |nil=>intro h;cases h
 |cons e g ih=>
  intro h
  unfold Ml at h
  split at h
  ·rename_i e1;cases h;subst e1;simp
  ·simp[ih h]
def rzN (g:List (κ×Ce κ)) (n:Nat):Nat:=(g.filter λe=>rz g n e.1).length
theorem A2M {α:Type} {p q:α→Bool} {l:List α} (h:∀a∈l,p a=true→q a=true) {a:α} (ha:a∈l) (h1:q a=true) (h2:p a=false):(l.filter p).length<(l.filter q).length:=by
 induction l with
 |nil=>cases ha
 |cons b l ih=>
  have mono:∀l:List α,(∀a∈l,p a=true→q a=true)→(l.filter p).length≤(l.filter q).length:=by
   intro l
   induction l with
   |nil=>intro _;simp
   |cons c l ih=>
    intro h
    have:=ih λa ha=>h a (by simp[ha])
    rw[l2h,l2h]
    have h3:=h c (by simp)
    cases hp:p c<;>cases hq:q c<;>simp_all<;>omega
  have h4:=mono l λa ha=>h a (by simp[ha])
  rw[l2h,l2h]
  rcases XQ.1 ha with rfl|ha
  ·rw[h1,h2];simp;omega
  ·have:=ih (λa ha=>h a (by simp[ha])) ha
   have h3:=h b (by simp)
   cases hp:p b<;>cases hq:q b<;>simp_all<;>omega
theorem B5y (n:Nat):(∀m x,rz g m x=true→rz g n x=true)∨n≤rzN g n:=by
 induction n with
 |zero=>exact .inr (l1c _)
 |succ n ih=>
  rcases ih with ih|ih
  ·exact .inl λm x h=>V4 _ _ (ih m x h)
  ·by_cases hs:∀x,rz g (n+1) x=true→rz g n x=true
   ·left
    have:∀m x,rz g m x=true→rz g n x=true:=by
     intro m
     induction m with
     |zero=>intro x h;cases h
     |succ m ihm=>
      intro x h
      obtain⟨c,h1,h2,h3⟩:=LL.1 h
      exact hs x (LL.2 ⟨c,h1,h2,λp hp=>ihm p (h3 p hp)⟩)
    exact λm x h=>V4 _ _ (this m x h)
   ·right
    have⟨x,hx⟩:∃x,rz g (n+1) x=true∧¬rz g n x=true:=Classical.byContradiction λhc=>hs λx hx=>Classical.byContradiction λhn=>hc ⟨x,hx,hn⟩
    obtain⟨c,h1,_,_⟩:=LL.1 hx.1
    have:=A2M (p:= λe=>rz g n e.1) (q:= λe=>rz g (n+1) e.1) (l:=g) (λa _ h=>V4 _ _ h) (Wb h1) hx.1 (by simpa using hx.2)
    show n+1≤(g.filter λe=>rz g (n+1) e.1).length
    have:n≤(g.filter λe=>rz g n e.1).length:=ih
    omega
theorem B4l {x:κ}:Rz g x↔rz g g.length x=true:=by
 constructor
 ·rintro⟨m,h⟩
  rcases B5y (g:=g) g.length with hs|hs
  ·exact hs m x h
  ·have:∀e∈g,rz g g.length e.1=true:=by
    have h1:(g.filter λe=>rz g g.length e.1).length=g.length:=Nat.le_antisymm (List.length_filter_le _ _) hs
    exact List.length_filter_eq_length_iff.1 h1
   cases m with
   |zero=>cases h
   |succ m=>
    obtain⟨c,h1,_,_⟩:=LL.1 h
    exact this _ (Wb h1)
 ·exact λh=>⟨_,h⟩
inductive Rc (g:List (κ×Ce κ)):κ→κ→Prop
 |one {x y:κ} {c:Ce κ}:Ml g x=some c→y∈c.ps→Rc g x y
 |more {x y z:κ}:Rc g x y→Rc g y z→Rc g x z
theorem Rc.rz {x y:κ} (h:Rc g x y):∀n,rz g n x=true→∃m,m<n∧rz g m y=true:=by
 induction h with
 |one h1 h2=>
  intro n h
  cases n with
  |zero=>cases h
  |succ n=>
   obtain⟨c,e,_,h3⟩:=LL.1 h
   rw[h1] at e;cases e
   exact⟨n,Nat.lt_succ_self n,h3 _ h2⟩
 |more _ _ i1 i2=>
  intro n h
  obtain⟨m,h1,h2⟩:=i1 n h
  obtain⟨k,h3,h4⟩:=i2 m h2
  exact⟨k,by omega,h4⟩
theorem Rc.no {x:κ} (h:Rc g x x):¬Rz g x:=by
 rintro⟨n,hn⟩
 induction n using Nat.strongRecOn with
 |_ n ih=>
  obtain⟨m,h1,h2⟩:=h.rz n hn
  exact ih m h1 h2
def K4 {α:Type} (b:List (κ×α)) (x:κ) (v:α):List (κ×α):=match b with
 |[]=>[(x,v)]
 |e::b=>if e.1=x then(e.1,v)::b else e::K4 b x v
theorem Hv {α:Type} {b:List (κ×α)} {x y:κ} {v:α}:Ml (K4 b x v) y=if x=y then some v else Ml b y:=by
 induction b with
 |nil=>rfl
 |cons e b ih=>
  unfold K4
  by_cases h:e.1=x
  ·rw[if_pos h]
   simp only[Ml]
   subst h
   by_cases h1:e.1=y<;>simp[h1]
  ·rw[if_neg h]
   simp only[Ml,ih]
   by_cases h1:x=y
   ·subst h1;simp[h]
   ·simp[h1]
def A61 (f:κ→List (κ×Bool)→Option (Bool×List (κ×Bool))):List κ→Bool→List (κ×Bool)→Option (Bool×List (κ×Bool))
 |[],good,b=>some (good,b)
 |p::ps,good,b=>if good then(match f p b with|none=>none|some (v,b')=>A61 f ps v b') else A61 f ps good b
def dfs (g:List (κ×Ce κ)):Nat→κ→List (κ×Bool)→Option (Bool×List (κ×Bool))
 |0,_,_=>none
 |n+1,x,b=>match Ml b x with
  |some v=>some (v,b)
  |none=>match Ml g x with
   |none=>some (false,K4 (K4 b x false) x false)
   |some c=>match A61 (dfs g n) c.ps (c.real|| !c.ps.isEmpty) (K4 b x false) with
    |none=>none
    |some (v,b')=>some (v,K4 b' x v)
def VQ (g:List (κ×Ce κ)) (b:List (κ×Bool)):Nat:=(g.filter λe=>(Ml b e.1).isNone).length
structure InvD (g:List (κ×Ce κ)) (st:List κ) (b:List (κ×Bool)):Prop where
 t:∀y,Ml b y=some true→Rz g y
 f:∀y,Ml b y=some false→y∈st∨¬Rz g y
def B1e (b b':List (κ×Bool)):Prop:=∀y,Ml b y≠none→Ml b' y≠none
theorem A7A {b b':List (κ×Bool)} (h:B1e b b'):VQ g b'≤VQ g b:=by
 unfold VQ
 induction g with
 |nil=>simp
 |cons e g ih=>
  rw[l2h,l2h]
  have:=h e.1
  cases h1:Ml b e.1<;>cases h2:Ml b' e.1<;>simp_all<;>omega
theorem B6U {f:κ→List (κ×Bool)→Option (Bool×List (κ×Bool))} {st:List κ} {k:Nat}
 (hf:∀p b,InvD g st b→(∀s∈st,Rc g s p)→VQ g b<k→∃v b',f p b=some (v,b')∧(v=true↔Rz g p)∧InvD g st b'∧B1e b b'):
 ∀(ps:List κ) (good:Bool) (b:List (κ×Bool)),InvD g st b→(∀p∈ps,∀s∈st,Rc g s p)→VQ g b<k→
  ∃v b',A61 f ps good b=some (v,b')∧(v=true↔good=true∧∀p∈ps,Rz g p)∧InvD g st b'∧B1e b b':=by
 intro ps
 induction ps with
 |nil=>intro good b hi _ _;exact⟨good,b,rfl,by simp,hi,λ_ h=>h⟩
 |cons p ps ih=>
  intro good b hi hs hk
  unfold A61
  cases good with
  |false=>
   obtain⟨v,b',h1,h2,h3,h4⟩:=ih false b hi (λq hq=>hs q (by simp[hq])) hk
   exact⟨v,b',h1,by rw[h2];simp,h3,h4⟩
  |true=>
   obtain⟨v,b',h1,h2,h3,h4⟩:=hf p b hi (hs p (by simp)) hk
   obtain⟨w,b'',h5,h6,h7,h8⟩:=ih v b' h3 (λq hq=>hs q (by simp[hq])) (Nat.lt_of_le_of_lt (A7A h4) hk)
   refine⟨w,b'',?_,?_,h7,λy hy=>h8 y (h4 y hy)⟩
   ·simp only[h1,if_true];exact h5
   ·rw[h6,h2];simp
theorem C1u:∀(n:Nat) (st:List κ) (x:κ) (b:List (κ×Bool)),InvD g st b→(∀s∈st,Rc g s x)→VQ g b<n→
 ∃v b',dfs g (n+1) x b=some (v,b')∧(v=true↔Rz g x)∧InvD g st b'∧B1e b b':=by
 intro n
 induction n with
 |zero=>intro st x b _ _ h;omega
 |succ n ih=>
  intro st x b hi hs hk
  unfold dfs
  cases hl:Ml b x with
  |some v=>
   refine⟨v,b,rfl,?_,hi,λ_ h=>h⟩
   cases v with
   |true=>simp[hi.t x hl]
   |false=>
    simp only[l0z,false_iff]
    rcases hi.f x hl with h|h
    ·exact(hs x h).no
    ·exact h
  |none=>
   have hext:∀{b':List (κ×Bool)} {v:Bool},B1e (K4 b x false) b'→B1e b (K4 b' x v):=by
    intro b' v h y hy
    rw[Hv]
    split
    ·simp
    ·have:=h y;rw[Hv] at this;split at this
     ·exact this (by simp)
     ·exact this hy
   cases hg:Ml g x with
   |none=>
    have hn:¬Rz g x:= λh=>by obtain⟨c,h1,_⟩:=A8p.1 h;rw[hg] at h1;cases h1
    refine⟨false,_,rfl,by simp[hn],⟨λy h=> ?_,λy h=> ?_⟩,hext λ_ h=>h⟩
    ·rw[Hv] at h;split at h
     ·cases h
     ·rw[Hv] at h;split at h
      ·cases h
      ·exact hi.t y h
    ·rw[Hv] at h;split at h
     ·rename_i e;subst e;exact .inr hn
     ·rw[Hv] at h;split at h
      ·rename_i e;subst e;exact .inr hn
      ·exact hi.f y h
   |some c=>
    have hmem:(x,c)∈g:=Wb hg
    have hlt:VQ g (K4 b x false)<n:=by
     have:VQ g (K4 b x false)<VQ g b:=by
      refine A2M (a:=(x,c)) ?_ hmem ?_ ?_
      ·intro a _ h
       rw[Hv] at h
       split at h
       ·cases h
       ·exact h
      ·simp[hl]
      ·simp[Hv]
     omega
    have hinv:InvD g (x::st) (K4 b x false):=by
     refine⟨λy h=> ?_,λy h=> ?_⟩
     ·rw[Hv] at h;split at h
      ·cases h
      ·exact hi.t y h
     ·rw[Hv] at h;split at h
      ·rename_i e;subst e;exact .inl (by simp)
      ·rcases hi.f y h with h|h
       ·exact .inl (by simp[h])
       ·exact .inr h
    obtain⟨v,b',h1,h2,h3,h4⟩:=B6U (f:=dfs g (n+1)) (k:=n) (st:=x::st) (λp b hb hp hk=>ih (x::st) p b hb hp hk) c.ps (c.real|| !c.ps.isEmpty) (K4 b x false) hinv (λp hp s hs'=>by
     rcases XQ.1 hs' with rfl|hs'
     ·exact .one hg hp
     ·exact .more (hs s hs') (.one hg hp)) hlt
    have hv:v=true↔Rz g x:=by
     rw[h2,A8p]
     constructor
     ·rintro⟨h5,h6⟩;exact⟨c,hg,by simpa using h5,h6⟩
     ·rintro⟨c',h5,h6,h7⟩;rw[hg] at h5;cases h5;exact⟨by simpa using h6,h7⟩
    refine⟨v,K4 b' x v,?_,hv,⟨λy h=> ?_,λy h=> ?_⟩,hext h4⟩
    ·simp only[h1]
    ·rw[Hv] at h;split at h
     ·rename_i e;subst e;exact hv.1 (by cases h;rfl)
     ·exact h3.t y h
    ·rw[Hv] at h;split at h
     ·rename_i e;subst e
      exact .inr λhr=>by have:=hv.2 hr;rw[this] at h;cases h
     ·rcases h3.f y h with h5|h5
      ·rcases XQ.1 h5 with rfl|h5
       ·contradiction
       ·exact .inl h5
      ·exact .inr h5
theorem B6T (x:κ):∃b',dfs g (g.length+2) x []=some (rz g g.length x,b'):=by
 obtain⟨v,b',h1,h2,_,_⟩:=C1u (g:=g) (g.length+1) [] x [] ⟨λy h=>(by cases h),λy h=>(by cases h)⟩ (by simp) (Nat.lt_succ_of_le (List.length_filter_le _ _))
 refine⟨b',?_⟩
 rw[h1]
 have:v=rz g g.length x:=by rw[YK,h2,B4l]
 rw[this]
theorem C08 {g g':List (κ×Ce κ)} (h:∀x c,Ml g x=some c→Ml g' x=some c):∀(n:Nat) (x:κ),rz g n x=true→rz g' n x=true:=by
 intro n
 induction n with
 |zero=>intro x h;cases h
 |succ n ih=>
  intro x hx
  obtain⟨c,h1,h2,h3⟩:=LL.1 hx
  exact LL.2 ⟨c,h x c h1,h2,λp hp=>ih p (h3 p hp)⟩
theorem B6J {α:Type} {g g':List (κ×α)} {x:κ} {c:α} (h:Ml g x=some c):Ml (g++g') x=some c:=by
 induction g with
 |nil=>cases h
 |cons e g ih=>
  unfold Ml at h
  rw[List.cons_append]
  unfold Ml
  split at h
  ·rename_i e1;rw[if_pos e1];exact h
  ·rename_i e1;rw[if_neg e1];exact ih h
def trc (g:List (κ×Ce κ)) (w:Nat→Ce κ→Nat):Nat→Nat→κ→Bool
 |0,_,_=>false
 |n+1,i,x=>match Ml g x with
  |none=>false
  |some c=>if c.real then true else match c.ps[w i c]? with
   |none=>false
   |some p=>trc g w n (i+1) p
theorem B8q {w:Nat→Ce κ→Nat} (hw:∀i c,c.ps≠[]→w i c<c.ps.length):∀(n m i:Nat) (x:κ),rz g n x=true→n≤m→trc g w m i x=true:=by
 intro n
 induction n with
 |zero=>intro m i x h;cases h
 |succ n ih=>
  intro m i x h hm
  obtain⟨c,h1,h2,h3⟩:=LL.1 h
  cases m with
  |zero=>omega
  |succ m=>
   unfold trc
   rw[h1]
   show(if c.real then true else _)=true
   split
   ·rfl
   ·rename_i hr
    have hp:c.ps≠[]:=h2.resolve_left hr
    have:=hw i c hp
    rw[Jw this]
    exact ih m (i+1) _ (h3 _ (Qu this)) (by omega)
end
abbrev SV (s:List UInt8):Value:= .string ⟨⟨s⟩⟩
section
variable {α:Type} {f:α→AV} {b:List (List UInt8×α)} {x:List UInt8} {H:Hp}
abbrev Uo (f:α→AV) (b:List (List UInt8×α)):List (Value×AV):=b.map λe=>(SV e.1,f e.2)
def A0X (x:List UInt8):List (List UInt8×α)→Nat→Option (Nat×α)
 |[],_=>none
 |e::b,i=>if e.1=x then some (i,e.2) else A0X x b (i+1)
theorem X2 {e:List UInt8×α} {i:Nat}:A0X x (e::b) i=if e.1=x then some (i,e.2) else A0X x b (i+1):=rfl
theorem C3t {s u:List UInt8}:keq (SV s) (SV u)=some (decide (u=s)):=by
 show some (Go.Abs.eqB s u)=_
 rw[OR]
 by_cases h:s=u
 ·subst h;simp
 ·simp[h,Ne.symm h]
theorem B3a:∀(b:List (List UInt8×α)) (i:Nat),VR (SV x) (Uo f b) i=some ((A0X x b i).map λp=>(p.1,f p.2)):=by
 intro b
 induction b with
 |nil=>intro i;rfl
 |cons e b ih=>
  intro i
  show VR (SV x) ((SV e.1,f e.2)::Uo f b) i=_
  rw[UT,C3t,ih,X2]
  by_cases h:e.1=x
  ·simp[h]
  ·simp[h]
theorem B3u:∀(b:List (List UInt8×α)) (i:Nat),(A0X x b i).map (·.2)=Ml b x:=by
 intro b
 induction b with
 |nil=>intro i;rfl
 |cons e b ih=>
  intro i
  rw[X2]
  unfold Ml
  by_cases h:e.1=x
  ·simp[h]
  ·simp[h,ih]
theorem B3t (v:α):∀(b:List (List UInt8×α)) (i:Nat),(match A0X x b i with|none=>b++[(x,v)]|some (j,_)=>b.set (j-i) (x,v))=K4 b x v∧(∀j w,A0X x b i=some (j,w)→i≤j):=by
 intro b
 induction b with
 |nil=>intro i;exact⟨rfl,λj w h=>by cases h⟩
 |cons e b ih=>
  intro i
  rw[X2]
  unfold K4
  by_cases h:e.1=x
  ·refine⟨?_,λj w hj=> ?_⟩
   ·simp[h]
   ·simp[h] at hj;omega
  ·obtain⟨h1,h2⟩:=ih (i+1)
   refine⟨?_,λj w hj=> ?_⟩
   ·rw[if_neg h,if_neg h,←h1]
    cases hf:A0X x b (i+1) with
    |none=>rfl
    |some p=>
     obtain⟨j,w⟩:=p
     have:=h2 j w hf
     have e1:j-i=(j-(i+1))+1:=by omega
     simp only[e1,List.set_cons_succ]
   ·rw[if_neg h] at hj
    have:=h2 j w hj;omega
theorem TU {r:Nat} {es:List (Value×AV)} {bo:Option (List Nat×Nat)} {K:List (Value×AV)→Am} (h:Aw H r=some (.map false es bo)):B0A (.mp r) H K=K es:=by
 show Lf H r _=_
 rw[C6 h];rfl
theorem kfK {K:Option (Nat×AV)→Am}:Qe (SV x) (Uo f b) K=K ((A0X x b 0).map λp=>(p.1,f p.2)):=by
 unfold Qe
 rw[B3a]
theorem T6 {ie:TI} {m:AV} {K:AV→Am} (h:∀K,B0A m H K=K (Uo f b)):Zg ie true m (SV x) H K=match Ml b x with
 |some v=>K (.tup [f v,Bo true])
 |none=>K (.tup [ie.zero,Bo false]):=by
 unfold Zg
 rw[h,kfK,←B3u b 0]
 cases A0X x b 0<;>rfl
theorem Wo {r:Nat} {v:α} {K:Hp→Am} (h:Aw H r=some (.map false (Uo f b) none)):Wp (.mp r) (SV x) (f v) H K=K (upd H r (.map false (Uo f (K4 b x v)) none)):=by
 have e:Wp (.mp r) (SV x) (f v) H K=Lf H r λy=>A5n y λes bo=>Qe (SV x) es λq=>match q with
  |none=>Qf H r (.map false (es++[(SV x,f v)]) (B45 bo)) K
  |some (i,_)=>Qf H r (.map false (es.set i (SV x,f v)) bo) K:=rfl
 rw[e,C6 h]
 show Qe (SV x) (Uo f b) _=_
 rw[kfK]
 obtain⟨h1,h2⟩:=B3t (x:=x) v b 0
 cases hf:A0X x b 0 with
 |none=>
  rw[hf] at h1
  show Qf H r (.map false (Uo f b++[(SV x,f v)]) none) K=_
  rw[Ez,←h1,Uo,Uo,l01];rfl
 |some p=>
  obtain⟨j,w⟩:=p
  rw[hf] at h1
  show Qf H r (.map false ((Uo f b).set j (SV x,f v)) none) K=_
  rw[Ez,←h1,Uo,Uo,List.map_set,Nat.sub_zero]
end
section
variable {L n:Nat}
theorem B5m (s:List UInt8):(sha s).length=32:=Tg _ 8
theorem A49 (c:Cd):c.id.length=32:=B5m _
theorem XD (c:Cd):c.id≠[]:= λh=>by have:=A49 c;rw[h] at this;cases this
def LA (gs:List Cd) (a:AV):Prop:=a= .list gs.length (gs.flatMap Cd.cs)∨(gs=[]∧a=AP)
section
variable {gs:List Cd} {a:AV} {c:Cd} {K:AV→Am} {i:Nat} {H:Hp}
theorem LA.len (h:LA gs a):AM AG a K=K (I gs.length):=by
 rcases h with rfl|⟨rfl,rfl⟩<;>exact id rfl
theorem LA.ia (h:LA gs a) (hi:i<gs.length):B1 AG a (I i) K=K (.iptr gs[i].cs):=by
 rcases h with rfl|⟨rfl,rfl⟩
 ·exact A18 (f:=Cd.cs) rfl (λ_=>Cc) hi
 ·simp at hi
theorem A17:Ap Ac (.iptr c.cs) H K=K (.agg c.cs):=by
 match c with
 | .re b u=>exact id rfl
 | .co b p ps none=>exact id rfl
 | .co b p ps (some (k,vd))=>exact id rfl
abbrev B8:List AV:=Dy 0 ⟨0,0,0,0,0⟩ u0 [] [] AP [] [] AP 0 AP AP u0 r0 0
abbrev B7J (c:Cd):Row:= .cells true Ak c.cs
def gE (gs:List Cd):List (List UInt8×Cd):=gs.map λc=>(c.id,c)
theorem A5H {α:Type} {b:List (List UInt8×α)} {x:List UInt8} (h:x∉b.map (·.1)):Ml b x=none:=by
 induction b with
 |nil=>rfl
 |cons e b ih=>
  simp only[l1i,XQ,not_or] at h
  unfold Ml
  rw[if_neg (Ne.symm h.1)]
  exact ih h.2
theorem B0a {α:Type} {b:List (List UInt8×α)} {x:List UInt8} {v:α} (h:x∉b.map (·.1)):K4 b x v=b++[(x,v)]:=by
 induction b with
 |nil=>rfl
 |cons e b ih=>
  simp only[l1i,XQ,not_or] at h
  unfold K4
  rw[if_neg (Ne.symm h.1),ih h.2];rfl
theorem B3k (gs:List Cd):(gE gs).map (·.1)=gs.map Cd.id:=by simp[gE]
end
structure GOk (gs:List Cd):Prop where
 ok:∀c∈gs,c.Ok
 nd:∀c∈gs,c.ps.Nodup
 ids:(gs.map Cd.id).Nodup
 len:gs.length≤8
section
variable {K:KV} {x:Am} {gs:List Cd} {a:AV}
abbrev cA' (c:Cd):AV:= .agg c.cs
theorem C2Z {k12:AV→AV→Hp→Am} {r:Nat} {w:AV} (hg:GOk gs) (hL:40000<L) (ha:LA gs a)
 (hx:∀H,Aw H r=some (.map false (Uo cA' (gE gs)) none)→k12 w (.mp r) H=x):∀(f i:Nat) (H:Hp),i≤gs.length→gs.length-i<f→Aw H r=some (.map false (Uo cA' (gE (gs.take i))) none)→Wf H→
 MT (L+20) (rt (L+20) (n+63)) K k12 f w (.mp r) a (I gs.length) (I i) H=x:=by
 intro f
 induction f with
 |zero=>intro i H _ h;omega
 |succ f ih=>
  intro i H hi hf hl wf
  rw[Qg]
  unfold MU Bu Aq DW Cz
  by_cases h:i<gs.length
  ·have hm:=Qu h
   have hid:=B40 (L:=L) (n:=n) hL (hg.ok _ hm) (hg.nd _ hm)
   have hnew:gs[i].id∉(gE (gs.take i)).map (·.1):= λhc=>by
    rw[B3k] at hc
    have hp:=hg.ids
    rw[←List.take_append_drop i gs,l01,List.nodup_append] at hp
    have hd:gs[i].id∈(gs.drop i).map Cd.id:=l2a.2 ⟨_,by rw[l11 h];exact List.mem_cons_self,rfl⟩
    exact hp.2.2 _ hc _ hd rfl
   rw[FR (by omega),Do,ha.ia h,A17,Ba (cs:=B8) rfl,B0 (cs:=B8) (vs:=gs[i].cs) (A0 (by simp)) Cc rfl J9]
   obtain⟨H1,e1,hc1,w1,k1⟩:=DZ (e:=Ak) (zs:=B8) (vs:=gs[i].cs) wf Cc
   rw[←e1,Bf rfl Cc.symm hc1,AZ hid (XX H1)]
   have hl1:=(k1 _ _ hl).1
   have ek:∀(F:Value→Am),NL (S gs[i].id) F=F (SV gs[i].id):= λF=>id rfl
   rw[ek,T6 (f:=cA') (b:=gE (gs.take i)) (λK=>TU hl1),A5H hnew]
   simp only[]
   rw[CJ,CI,Ba (cs:=B8) rfl]
   rw[show(Ac.zero:AV)= .agg B8 from rfl,B0 (cs:=B8) (vs:=B8) (A0 (by simp)) rfl rfl rfl]
   obtain⟨H2,e2,hc2,w2,k2⟩:=DZ (e:=Ak) (zs:=B8) (vs:=B8) w1 rfl
   rw[←e2]
   have hl2:=(k2 _ _ hl1).1
   have hc3:=(k2 _ _ hc1).1
   have q1:∀{K},Go.Abs.Aj Ad .eql (S gs[i].id) (S []) K=K (Bo false):= λ{K}=>by rw[Kz,decide_eq_false (XD _)]
   simp only[gT,BN,q1,QC]
   rw[BC,Bf rfl Cc.symm hc3,ek,Wo (f:=cA') (v:=gs[i]) hl2,B0a hnew,DH (by have:=hg.len;omega)]
   have e3:gE (gs.take i)++[(gs[i].id,gs[i])]=gE (gs.take (i+1)):=by
    rw[l04 h,gE,gE,l01];rfl
   rw[e3]
   exact ih (i+1) _ (by omega) (by omega) ((FJ hl2).trans rfl) (C7 w2)
  ·rw[FT (by omega),BC]
   have:i=gs.length:=by omega
   subst this
   rw[l06] at hl
   exact hx H hl
abbrev gV (gs:List Cd):AV:= .imap (Uo cA' (gE gs))
theorem A1d {D:Nat} {m:ND} {u o:UD} {ca cb ra rb:List UInt8} {T P ins nds:AV} {kd id vd:Int} {r:RD} {H:Hp} (hT:Sl T) (hP:Sl P) (hI:Sl ins) (hN:Sl nds):Fx true (D+3) (.agg (Dy kd m u ca cb T ra rb P id ins nds o r vd)) (.agg (Dy kd m u ca cb T ra rb P id ins nds o r vd)) H false:=by
 rcases hT with rfl|⟨_,_,rfl⟩<;>rcases hP with rfl|⟨_,_,rfl⟩<;>rcases hI with rfl|⟨_,_,rfl⟩<;>rcases hN with rfl|⟨_,_,rfl⟩<;>exact λK=>by kernel_rfl
theorem A4a {D:Nat} {c:Cd} {H:Hp}:Fx true (D+3) (.agg c.cs) (.agg c.cs) H false:=by
 match c with
 | .re b u=>exact A1d (XA1 _) (KN _) (.inl rfl) (.inl rfl)
 | .co b p ps none=>exact A1d (XA1 _) (KN _) (.inr ⟨_,_,rfl⟩) (.inr ⟨_,_,rfl⟩)
 | .co b p ps (some (k,vd))=>exact A1d (XA1 _) (KN _) (.inr ⟨_,_,rfl⟩) (.inr ⟨_,_,rfl⟩)
theorem B7E {D r:Nat} {H:Hp} {es:List (List UInt8×Cd)} (h:Aw H r=some (.map false (Uo cA' es) none)):Fx true (D+4) (.mp r) (.imap (Uo cA' es)) H true:=by
 intro K
 show Lf H r (λx=>B6f x λes=>XP (I8 true H (D+3)) es λ_ es'=>K true (.imap es'))=_
 rw[C6 h]
 show XP (I8 true H (D+3)) (Uo cA' es) _=_
 have e:∀(es:List (List UInt8×Cd)) (F:Bool→List (Value×AV)→Am),XP (I8 true H (D+3)) (Uo cA' es) F=F false (Uo cA' es):=by
  intro es
  induction es with
  |nil=>intro F;rfl
  |cons a es ih=>
   intro F
   show I8 true H (D+3) (.agg a.2.cs) (λq a'=>XP (I8 true H (D+3)) (Uo cA' es) λq' l'=>F (@Bool.rec (λ_=>Bool) q' true q) ((SV a.1,a')::l'))=_
   rw[A4a,ih];rfl
 rw[e]
theorem B89 (hg:GOk gs) (hL:40000<L) (ha:LA gs a) (K:KV) (hK:∀v0 H0,(∃q,Fx true depth v0 (.tup [gV gs,Bo true]) H0 q)→K v0 H0=some (.tup [gV gs,Bo true],[])):(rt (L+20) (n+64)).call E7 [a] [] K=some (.tup [gV gs,Bo true],[]):=by
 rw[VL]
 unfold RK Aq DW Cz
 have em:∀(H:Hp) (K:KV),Nf Ac H K=K (.mp (A7 H)) ((A7 H,.map false [] none)::H):= λH K=>by
  show Ij H (λs=>K (.mp s) ((s,.map false [] (A3I Ac.d))::H))=_
  rw[Cg];rfl
 rw[em]
 simp only[Cm]
 have e0:(AV.v (.int .i64 0))=I ((0:Nat):Int):=rfl
 rw[ha.len,e0]
 refine C2Z hg hL ha (λH hl=> ?_) (L+20) 0 _ (by omega) (by have:=hg.len;omega) (A0 (by simp)) (BP Fw)
 rw[ha.len,DQ,decide_eq_false (by have:=hg.len;omega),BC]
 exact hK _ _ ⟨_,UW (D:=depth-1) (Ay (B7E (D:=depth-5) hl) (Ay (q:=false) E1 Bl))⟩
end
end
section
variable {L n:Nat}
def cE (c:Cd):Ce (List UInt8):=⟨decide (c.kd=1),c.ps⟩
def gr (gs:List Cd):List (List UInt8×Ce (List UInt8)):=gs.map λc=>(c.id,cE c)
theorem B3o {gs:List Cd} {s:List UInt8}:Ml (gr gs) s=(Ml (gE gs) s).map cE:=by
 unfold gr gE
 induction gs with
 |nil=>rfl
 |cons c gs ih=>
  simp only[l1i]
  unfold Ml
  by_cases h:c.id=s
  ·simp[h]
  ·simp[h,ih]
abbrev clR (x y z:Nat):AV:= .fn (.func BZ) [] [.ptr x 0 0,.ptr y 0 0,.ptr z 0 0]
abbrev bA (v:Bool):AV:=Bo v
theorem gU {q:Bool} {y:Bool→Am}:gdV q (.v undef) y=y false:=by cases q<;>exact id rfl
structure Rl (gs:List Cd) (y m x z:Nat) (b:List (List UInt8×Bool)) (H:Hp):Prop where
 g:Aw H y=some (.cells true D0 [gV gs])
 mm:Aw H m=some (.map false (Uo bA b) none)
 c:Aw H x=some (.cells true IC [.mp m])
 f:Aw H z=some (.cells true HJ [clR x y z])
 wf:Wf H
 ne:m≠y∧m≠x∧m≠z
section
variable {gs:List Cd} {y m x z:Nat} {b:List (List UInt8×Bool)} {H H':Hp} {K:KV}
theorem Rl.up (h:Rl gs y m x z b H) (b':List (List UInt8×Bool)):Rl gs y m x z b' (upd H m (.map false (Uo bA b') none)):=
 ⟨by rw[As h.ne.1.symm];exact h.g,(FJ h.mm).trans rfl,by rw[As h.ne.2.1.symm];exact h.c,by rw[As h.ne.2.2.symm];exact h.f,C7 h.wf,h.ne⟩
theorem Rl.kp (h:Rl gs y m x z b H) (w:Wf H') (k:∀s r,Aw H s=some r→Aw H' s=some r∧s≠A7 H):Rl gs y m x z b H':=
 ⟨(k _ _ h.g).1,(k _ _ h.mm).1,(k _ _ h.c).1,(k _ _ h.f).1,w,h.ne⟩
theorem B7b {N:Nat} {s:List UInt8}:Em (E (L+20)) (rt (L+20) N) (clR x y z) [S s] H K=(rt (L+20) N).call BZ [S s,.ptr x 0 0,.ptr y 0 0,.ptr z 0 0] H K:=by
 show Wd [S s] [.ptr x 0 0,.ptr y 0 0,.ptr z 0 0] (λas'=>Wd [] as' λall=>B6M ((E (L+20)).ne BZ) all H K (@Bool.rec (λ_=>Am) (Ah (rt (L+20) N) BZ all H λv=>K v H) ((rt (L+20) N).call BZ all H K) ((E (L+20)).imp BZ)))=_
 rw[MW,MW,show(E (L+20)).ne BZ=false from rfl,show(E (L+20)).imp BZ=true from rfl]
 rfl
def RlC (L N n:Nat) (gs:List Cd) (y m x z:Nat):Prop:=∀(s:List UInt8) (b b':List (List UInt8×Bool)) (v:Bool) (H:Hp),Rl gs y m x z b H→dfs (gr gs) N s b=some (v,b')→
 ∃H',Rl gs y m x z b' H'∧∀K:KV,(rt (L+20) (n+N)).call BZ [S s,.ptr x 0 0,.ptr y 0 0,.ptr z 0 0] H K=K (Bo v) H'
theorem C2M {N:Nat} {a0 a1:AV} {ps:List (List UInt8)} {v:Bool} {b':List (List UInt8×Bool)} (hb:ps.length<100) (hc:RlC L N n gs y m x z):
 ∀(f i:Nat) (good:Bool) (b:List (List UInt8×Bool)) (H:Hp),i≤ps.length→ps.length-i<f→Rl gs y m x z b H→A61 (dfs (gr gs) N) (ps.drop i) good b=some (v,b')→
 ∃H',Rl gs y m x z b' H'∧∀(K:KV) (k50:AV→AV→AV→Hp→Am),De (L+20) (rt (L+20) (n+N)) K k50 f a0 a1 (.ptr z 0 0) (Bo good) (FQ ps) (I ps.length) (I i) H=k50 a0 a1 (Bo v) H':=by
 intro f
 induction f with
 |zero=>intro i good b H _ h;omega
 |succ f ih=>
  intro i good b H hi hf hr hd
  by_cases h:i<ps.length
  ·have hps:FQ ps=Ls ps:=Tb (by omega)
   rw[l11 h] at hd
   unfold A61 at hd
   cases good with
   |false=>
    obtain⟨H2,hr2,h2⟩:=ih (i+1) false b H (by omega) (by omega) hr hd
    refine⟨H2,hr2,λK k50=> ?_⟩
    rw[Ft]
    unfold Df AR Aq Cz
    rw[FR (by omega),Do,hps,Nw h,F3,←hps]
    simp only[gTF,BN,QC]
    rw[DH (by omega)]
    exact h2 K k50
   |true=>
    simp only[if_true] at hd
    cases hq:dfs (gr gs) N ps[i] b with
    |none=>rw[hq] at hd;cases hd
    |some p=>
     obtain⟨w,b2⟩:=p
     rw[hq] at hd
     obtain⟨H2,hr2,hc2⟩:=hc ps[i] b b2 w H hr hq
     have lf:∀{K},Ap Aa (.ptr z 0 0) H K=K (clR x y z):= λ{K}=>AW (p:=0) rfl hr.f (show 0<1 by decide)
     obtain⟨H3,hr3,h3⟩:=ih (i+1) w b2 H2 (by omega) (by omega) hr2 hd
     refine⟨H3,hr3,λK k50=> ?_⟩
     rw[Ft]
     unfold Df AR Aq Cz
     rw[FR (by omega),Do,hps,Nw h,F3,←hps]
     simp only[gT,BN,lf,B7b,hc2,Un]
     rw[DH (by omega)]
     exact h3 K k50
  ·have:i=ps.length:=by omega
   subst this
   rw[List.drop_length] at hd
   cases hd
   refine⟨H,hr,λK k50=> ?_⟩
   rw[Ft]
   unfold Df AR Aq Cz
   rw[FT (by omega),BC]
theorem B7O {c:Cd} {r:Nat} (h:Aw H r=some (B7J c)) {K:AV→Am}:Ap Ab (.ptr r 0 0) H K=K (I c.kd):=by
 match c with
 | .re b u=>exact AW (p:=0) rfl h (show 0<68 by decide)
 | .co b p ps none=>exact AW (p:=0) rfl h (show 0<68 by decide)
 | .co b p ps (some (k,vd))=>exact AW (p:=0) rfl h (show 0<68 by decide)
theorem B7N {c:Cd} {r:Nat} (h:Aw H r=some (B7J c)) {K:AV→Am}:Ap Ae (.ptr r 31 0) H K=K (FQ c.ps):=by
 match c with
 | .re b u=>exact AW (p:=31) rfl h (show 31<68 by decide)
 | .co b p ps none=>exact AW (p:=31) rfl h (show 31<68 by decide)
 | .co b p ps (some (k,vd))=>exact AW (p:=31) rfl h (show 31<68 by decide)
theorem B3p {gs:List Cd} {s:List UInt8} {c:Cd} (h:Ml (gE gs) s=some c):c∈gs∧c.id=s:=by
 have:=Wb h
 obtain⟨c',h1,h2⟩:=l2a.1 this
 cases h2
 exact⟨h1,rfl⟩
theorem B5E (hL:100<L) (hps:∀c∈gs,c.ps.length<100):∀N,RlC L N n gs y m x z:=by
 intro N
 induction N with
 |zero=>intro s b b' v H _ h;cases h
 |succ N ihN=>
  intro s b b' v H hr hd
  have lc:∀{K},Ap Cl (.ptr x 0 0) H K=K (.mp m):= λ{K}=>AW (p:=0) rfl hr.c (show 0<1 by decide)
  have ek:∀(F:Value→Am),NL (S s) F=F (SV s):= λF=>id rfl
  unfold dfs at hd
  cases hf:Ml b s with
  |some w=>
   rw[hf] at hd
   cases hd
   refine⟨H,hr,λK=> ?_⟩
   rw[←WC,HT]
   unfold Fl AR Bu Aq DW Cz
   rw[lc,ek,T6 (f:=bA) (b:=b) (λK=>TU hr.mm),hf]
   simp only[]
   rw[CJ,CI,Do]
  |none=>
   rw[hf] at hd
   simp only[] at hd
   have hr1:=hr.up (K4 b s false)
   have up1:∀{F:Hp→Am},Wp (.mp m) (SV s) (.v (.bool false)) H F=F (upd H m (.map false (Uo bA (K4 b s false)) none)):= λ{F}=>Wo (f:=bA) (v:=false) hr.mm
   generalize upd H m (.map false (Uo bA (K4 b s false)) none)=H1 at hr1 up1
   have lg:∀{K},Ap Bv (.ptr y 0 0) H1 K=K (gV gs):= λ{K}=>AW (p:=0) rfl hr1.g (show 0<1 by decide)
   have f0:∀{s j:Nat} {K:AV→Am},AH j (.ptr s 0 0) K=K (.ptr s j 0):= λ{s j K}=>by rw[fA,Le]
   rw[B3o] at hd
   cases hg:Ml (gE gs) s with
   |none=>
    rw[hg] at hd
    cases hd
    obtain⟨H2,e2,hc2,w2,k2⟩:=DZ (e:=Ak) (zs:=B8) (vs:=B8) hr1.wf rfl
    have hr2:=hr1.kp w2 k2
    refine⟨_,hr2.up _,λK=> ?_⟩
    rw[←WC,HT]
    unfold Fl AR Bu Aq DW Cz
    rw[lc,ek,T6 (f:=bA) (b:=b) (λK=>TU hr.mm),hf]
    simp only[]
    rw[CJ,CI,BC,lc,ek,up1,lg,ek,T6 (f:=cA') (b:=gE gs) (λK=>id rfl),hg]
    simp only[]
    rw[CJ,CI,Ba (cs:=B8) rfl,show(Ac.zero:AV)= .agg B8 from rfl,B0 (cs:=B8) (vs:=B8) (A0 (by simp)) rfl rfl rfl,←e2]
    have lp:∀{K},Ap Ae (.ptr (A7 H1) 31 0) H2 K=K AP:= λ{K}=>AW (p:=31) rfl hc2 (show 31<68 by decide)
    have ln:∀{K:AV→Am},AM Ae AP K=K (I 0):=id rfl
    simp only[gTF,gU,BN,QC,Cm,f0,lp,ln]
    have e5:∀(k:AV→AV→AV→Hp→Am),De (L+20) (rt (L+20) (n+N)) K k (L+20)=Df (L+20) (rt (L+20) (n+N)) K k (De (L+20) (rt (L+20) (n+N)) K k (L+19)):= λk=>Ft _ _ _ _ _
    rw[e5]
    unfold Df AR Aq Cz
    have lc2:∀{K},Ap Cl (.ptr x 0 0) H2 K=K (.mp m):= λ{K}=>AW (p:=0) rfl hr2.c (show 0<1 by decide)
    rw[FT (by omega),BC]
    show Ap Cl (.ptr x 0 0) H2 _=_
    rw[lc2,ek,Wo (f:=bA) (v:=false) hr2.mm]
   |some c=>
    rw[hg] at hd
    obtain⟨hcm,hcid⟩:=B3p hg
    simp only[l0x] at hd
    obtain⟨H2,e2,hc2,w2,k2⟩:=DZ (e:=Ak) (zs:=B8) (vs:=c.cs) hr1.wf Cc
    have hr2:=hr1.kp w2 k2
    cases hq:A61 (dfs (gr gs) N) (cE c).ps ((cE c).real|| !(cE c).ps.isEmpty) (K4 b s false) with
    |none=>rw[hq] at hd;cases hd
    |some p=>
     obtain⟨w,b2⟩:=p
     rw[hq] at hd
     cases hd
     obtain⟨H3,hr3,h3⟩:=C2M (L:=L) (n:=n) (N:=N) (a0:=S s) (a1:= .ptr x 0 0) (ps:=c.ps) (hps c hcm) ihN (L+20) 0 _ _ H2 (by omega) (by have:=hps c hcm;omega) hr2 (by rw[l1n];exact hq)
     refine⟨_,hr3.up _,λK=> ?_⟩
     rw[←WC,HT]
     unfold Fl AR Bu Aq DW Cz
     rw[lc,ek,T6 (f:=bA) (b:=b) (λK=>TU hr.mm),hf]
     simp only[]
     rw[CJ,CI,BC,lc,ek,up1,lg,ek,T6 (f:=cA') (b:=gE gs) (λK=>id rfl),hg]
     simp only[]
     rw[CJ,CI,Ba (cs:=B8) rfl,B0 (cs:=B8) (vs:=c.cs) (A0 (by simp)) Cc rfl J9,←e2]
     have lp:∀{K},Ap Ae (.ptr (A7 H1) 31 0) H2 K=K (FQ c.ps):= λ{K}=>B7N hc2
     have lk:∀{K},Ap Ab (.ptr (A7 H1) 0 0) H2 K=K (I c.kd):= λ{K}=>B7O hc2
     have e1:∀{K},Go.Abs.Aj Ab .eql (I c.kd) (.v (.int .i64 1)) K=K (Bo (decide (c.kd=1))):= λ{K}=>by rw[CG]
     have g0:∀{K},Go.Abs.Aj Ab .gtr (I (c.ps.length:Int)) (.v (.int .i64 0)) K=K (Bo (!c.ps.isEmpty)):= λ{K}=>by
      rw[DQ]
      cases hp:c.ps<;>simp
     have lc3:∀{K},Ap Cl (.ptr x 0 0) H3 K=K (.mp m):= λ{K}=>AW (p:=0) rfl hr3.c (show 0<1 by decide)
     simp only[gT,BN,f0,lk,e1]
     have fin:∀good:Bool,((cE c).real|| !(cE c).ps.isEmpty)=good→(De (L+20) (rt (L+20) (n+N)) K (λv51 v52 v53 H54=>Ap Cl v52 H54 λv43=>NL v51 λq44=>Wp v43 q44 v53 H54 λH45=>K v53 H45) (L+20) (S s) (.ptr x 0 0) (.ptr z 0 0) (Bo good) (FQ c.ps) (I c.ps.length) (I ((0:Nat):Int)) H2)=K (Bo v) (upd H3 m (.map false (Uo bA (K4 b2 s v)) none)):= λgood hgd=>by
      rw[←hgd,h3]
      rw[lc3,ek,Wo (f:=bA) (v:=v) hr3.mm]
     by_cases hk:c.kd=1
     ·simp only[hk,decide_true,gFT,BN,Un,Cm,f0,lp,QU]
      exact fin true (by simp[cE,hk])
     ·simp only[hk,decide_false,gT,BN,QC,Un,Cm,f0,lp,QU,g0]
      exact fin _ (by simp[cE,hk])
theorem UB {a:AV} {s:List UInt8} (hg:GOk gs) (hL:40000<L) (hp:∀c∈gs,c.ps.length<100) (ha:LA gs a):CS (rt (L+20) (n+80)) Bz [a,S s] (Bo (rz (gr gs) gs.length s)):=by
 intro K hK
 rw[UP]
 unfold LW
 have hfx:Py true depth [a] [a] [] false:=by rcases ha with rfl|⟨_,rfl⟩<;>exact λK=>by kernel_rfl
 have of:∀{K:AV→Am},Ah (rt (L+20) (n+79)) E7 [a] [] K=K (.tup [gV gs,Bo true]):= λ{K}=>IN (λK hK=>B89 (n:=n+15) hg hL ha K hK) hfx
 rw[of,CJ,CI]
 have hr:Rl gs 0 1 2 3 [] [(3,.cells true HJ [clR 2 0 3]),(2,.cells true IC [.mp 1]),(1,.map false [] none),(0,.cells true D0 [gV gs])]:=
  ⟨rfl,rfl,rfl,rfl,λk hk=>by simp at hk;show k<4;omega,by decide⟩
 have go:Em (E (L+20)) (rt (L+20) (n+79)) (clR 2 0 3) [S s] [(3,.cells true HJ [clR 2 0 3]),(2,.cells true IC [.mp 1]),(1,.map false [] none),(0,.cells true D0 [gV gs])] K=some (Bo (rz (gr gs) gs.length s),[]):=by
  rw[B7b]
  have hlen:(gr gs).length=gs.length:=by simp[gr]
  obtain⟨b',hd⟩:=B6T (g:=gr gs) s
  rw[hlen] at hd
  obtain⟨H',_,h⟩:=B5E (L:=L) (n:=n+77-gs.length) (by omega) hp (gs.length+2) s [] b' _ _ hr hd
  have e:n+79=n+77-gs.length+(gs.length+2):=by have:=hg.len;omega
  rw[e,h]
  exact hK _ _ (λb=>⟨false,λK=>by kernel_rfl⟩)
 exact go
end
end
end Go.Abs
end
noncomputable section
end
noncomputable section
namespace Go.Abs
open Go.RowKit Go.Proofs
set_option maxRecDepth 100000
section
variable {L n:Nat}
def SA (l:List (List UInt8)) (a:AV):Prop:=a=Ls l∨(l=[]∧a=AP)
theorem Gp (l:List (List UInt8)):SA l (FQ l):=by cases l with|nil=>exact .inr ⟨rfl,rfl⟩|cons p l=>exact .inl rfl
section
variable {l:List (List UInt8)} {a:AV} {i:Nat} {K:AV→Am} {s:List UInt8}
theorem SA.len (h:SA l a):AM Ae a K=K (I l.length):=by
 rcases h with rfl|⟨rfl,rfl⟩
 ·exact ML
 ·exact id rfl
theorem SA.ia (h:SA l a) (hi:i<l.length):B1 Ae a (I i) K=K (.iptr [S l[i]]):=by
 rcases h with rfl|⟨rfl,rfl⟩
 ·exact Nw hi
 ·simp at hi
theorem SA.fx (h:SA l a) (H:Hp):Fx true depth a a H false:=by
 rcases h with rfl|⟨rfl,rfl⟩<;>exact λK=>by kernel_rfl
def VX (s:List UInt8):List (List UInt8)→Nat→AV
 |[],_=> .tup [Bo false,I (-1)]
 |a::l,i=>if a=s then .tup [Bo true,I i] else VX s l (i+1)
theorem VW:∀(l:List (List UInt8)) (i:Nat),s∉l→VX s l i= .tup [Bo false,I (-1)]:=by
 intro l
 induction l with
 |nil=>intro i _;rfl
 |cons a l ih=>
  intro i h
  simp only[XQ,not_or] at h
  unfold VX
  rw[if_neg (Ne.symm h.1)]
  exact ih _ h.2
theorem A0I:∀(l:List (List UInt8)) (i:Nat),s∈l→∃k,∃h:k<l.length,l[k]=s∧(∀m (hm:m<k),l[m]≠s)∧VX s l i= .tup [Bo true,I ((i+k:Nat):Int)]:=by
 intro l
 induction l with
 |nil=>intro i h;cases h
 |cons a l ih=>
  intro i h
  unfold VX
  by_cases e:a=s
  ·exact⟨0,by simp,e,λm hm=>by omega,by rw[if_pos e];rfl⟩
  ·obtain⟨k,hk,h1,h2,h3⟩:=ih (i+1) ((XQ.1 h).resolve_left (Ne.symm e))
   refine⟨k+1,by simp;omega,by simpa using h1,λm hm=> ?_,by rw[if_neg e,h3];congr 4;omega⟩
   cases m with
   |zero=>exact e
   |succ m=>exact h2 m (by omega)
end
section
variable {K:KV} {x:Am} {l:List (List UInt8)} {a:AV} {s:List UInt8} {gs:List Cd}
theorem C13 {k3:Hp→Am} {H:Hp} (ha:SA l a) (hb:l.length<1000) {v:AV} (hv:K v H=x) (hk:v= .tup [Bo false,I (-1)]→k3 H=x):∀(f i:Nat),i≤l.length→l.length-i<f→VX s (l.drop i) i=v→
 N9 (L+20) (rt (L+20) n) K k3 f a (S s) (I i) H=x:=by
 intro f
 induction f with
 |zero=>intro i _ h;omega
 |succ f ih=>
  intro i hi hf hd
  rw[ZS]
  unfold Rq Aq DW
  rw[ha.len]
  by_cases h:i<l.length
  ·rw[l11 h] at hd
   unfold VX at hd
   rw[FR (by omega),Do,ha.ia h,F3,Kz]
   by_cases e:l[i]=s
   ·rw[if_pos e] at hd
    rw[decide_eq_true e,Do,hd]
    exact hv
   ·rw[if_neg e] at hd
    rw[decide_eq_false e,BC,DH (by omega)]
    exact ih (i+1) (by omega) (by omega) hd
  ·rw[FT (by omega),BC]
   have:i=l.length:=by omega
   subst this
   rw[List.drop_length] at hd
   exact hk hd.symm
theorem B2A (ha:SA l a) (hb:l.length<1000) (hL:2000<L):CS (rt (L+20) (n+1)) HD [a,S s] (VX s l 0):=by
 intro K hK
 have fin:∀H,K (VX s l 0) H=some (VX s l 0,[]):= λH=>hK _ _ (λb=>⟨false,by
  by_cases h:s∈l
  ·obtain⟨k,_,_,_,e⟩:=A0I l 0 h
   rw[e];exact λK=>by kernel_rfl
  ·rw[VW l 0 h];exact λK=>by kernel_rfl⟩)
 rw[A1Q]
 unfold Tl Aq Cz
 simp only[Cm]
 have e0:(AV.v (.int .i64 0))=I ((0:Nat):Int):=rfl
 rw[e0]
 refine C13 ha hb (fin []) (λe=> ?_) (L+20) 0 (by omega) (by omega) (by rw[l1n])
 have:=fin []
 rw[e] at this
 rw[e]
 exact this
theorem C11 {k4:AV→Hp→Am} (hg:∀c∈gs,c.Ok∧c.ps.Nodup) (hb:gs.length<100) (hL:40000<L) (ha:LA gs a)
 (hx:∀v H,B3 H AL 1 v gs.length (BB (gs.map Cd.id))→(gs=[]→v=AP)→k4 v H=x):∀(f i:Nat) (v:AV) (H:Hp),i≤gs.length→gs.length-i<f→B3 H AL 1 v (gs.take i).length (BB ((gs.take i).map Cd.id))→(gs.take i=[]→v=AP)→Wf H→
 N8 (L+20) (rt (L+20) (n+64)) K k4 f a v (I i) H=x:=by
 intro f
 induction f with
 |zero=>intro i v H _ h;omega
 |succ f ih=>
  intro i v H hi hf hs h0 w
  rw[ZR]
  unfold Rp Aq
  rw[ha.len]
  by_cases h:i<gs.length
  ·obtain⟨h1,h2⟩:=hg _ (Qu h)
   have e1:(gs.take i).length=((gs.take i).map Cd.id).length:=by simp
   rw[e1] at hs
   obtain⟨v',H',h3,h4,h5,h6, -⟩:=B7S gs[i].id hs w (by simp;omega)
   rw[FR (by omega),Do,ha.ia h,A17,AZ (A8b (n:=n) hL h1 h2) (XX H),h3,DH (by omega)]
   have e2:(gs.take i).map Cd.id++[gs[i].id]=(gs.take (i+1)).map Cd.id:=by rw[l04 h,l01];rfl
   rw[e2] at h4
   exact ih (i+1) v' H' (by omega) (by omega) (by rw[l1u] at h4;exact h4) (λe=>by have:=congrArg List.length e;rw[l0g,N2] at this;omega) h5
  ·rw[FT (by omega),BC]
   have:i=gs.length:=by omega
   subst this
   rw[l06] at hs h0
   exact hx v H hs h0
theorem A8H (hg:∀c∈gs,c.Ok∧c.ps.Nodup) (hb:gs.length<100) (hL:40000<L) (ha:LA gs a):CS (rt (L+20) (n+65)) GG [a] (FQ (gs.map Cd.id)):=by
 intro K hK
 rw[A1P]
 unfold Tk Aq
 simp only[Cm]
 have e0:(AV.v (.int .i64 0))=I ((0:Nat):Int):=rfl
 rw[e0]
 refine C11 hg hb hL ha (λv H hs h0=> ?_) (L+20) 0 _ [] (by omega) (by omega) (.inl ⟨rfl,rfl,rfl⟩) (λ_=>rfl) Fw
 refine hK _ _ (λb=> ?_)
 by_cases hn:gs=[]
 ·subst hn
  rw[h0 rfl]
  exact⟨false,E1⟩
 ·have hl:(gs.map Cd.id)≠[]:=by simpa using hn
  have e:FQ (gs.map Cd.id)= .list gs.length (BB (gs.map Cd.id)):=by rw[Tb (by cases hq:gs.map Cd.id with|nil=>exact absurd hq hl|cons _ _=>simp),Ls];simp
  rw[e]
  exact⟨true,A0U hs (by cases gs with|nil=>exact absurd rfl hn|cons _ _=>simp) (λs=>Value.string ⟨⟨s⟩⟩) (gs.map Cd.id) rfl⟩
theorem A2T {t:TI} {e w m i:Nat} {cs:List AV} {K:AV→Am} (hd:t.d= .slice e w) (h:i≤m):Ei t (.list m cs) none (some (I (i:Int))) none K=K (.list i (cs.take (i*w))):=by
 obtain⟨s,b,d,z⟩:=t
 simp only at hd
 subst hd
 have e1:Ei ⟨s,b,.slice e w,z⟩ (.list m cs) none (some (I (i:Int))) none K=QW none 0 λl=>iN (i:Int) λh=>fN m λx=>ck ((true||true)&&(Nat.ble l h&&(Nat.ble h x&&Nat.ble x m))) (fN (Nat.sub h l) λn=>QQ (Nat.mul n w) (Da (Nat.mul l w) cs) λc=>K (.list n c)):=rfl
 have e2:∀F:Nat→Am,QW none 0 F=F 0:= λF=>rfl
 rw[e1,e2,JM,DX]
 have c:((true||true)&&(Nat.ble 0 i&&(Nat.ble i m&&Nat.ble m m)))=true:=by simp only[Bool.true_or,l16,Iv,Xu];omega
 rw[c]
 show fN (Nat.sub i 0) (λn=>QQ (Nat.mul n w) (Da (Nat.mul 0 w) cs) λc=>K (.list n c))=_
 rw[DX,Lh,Ct]
 show K (.list (i-0) ((cs.drop (0*w)).take ((i-0)*w)))=_
 rw[Nat.zero_mul,Nat.sub_zero,l1n]
theorem B3j {k7:AV→Hp→Am} {ids:List (List UInt8)} {b:AV} {H:Hp} (hn:ids.Nodup) (he:∀s∈ids,s≠[]) (hlen:ids.length=gs.length) (hb:gs.length<100) (hL:40000<L) (ha:LA gs a) (hi:SA ids b) (hx:k7 b H=x):∀(f i:Nat),i≤gs.length→gs.length-i<f→
 K9 (L+20) (rt (L+20) (n+1)) K k7 f a b (I i) H=x:=by
 intro f
 induction f with
 |zero=>intro i _ h;omega
 |succ f ih=>
  intro i hi' hf
  rw[WO]
  unfold Oi Bu Aq DW Cz
  rw[ha.len]
  by_cases h:i<gs.length
  ·have hlt:i<ids.length:=by omega
   obtain rfl:b=Ls ids:=by
    rcases hi with h|⟨h,_⟩
    ·exact h
    ·rw[h] at hlt;simp at hlt
   have es:∀{K:AV→Am},Ei Ae (Ls ids) none (some (I (i:Int))) none K=K (Ls (ids.take i)):= λ{K}=>by
    rw[Ls,A2T (w:=1) rfl (by omega),Ls]
    have e1:(ids.take i).length=i:=by rw[l0g];omega
    have e2:(BB ids).take (i*1)=BB (ids.take i):=by rw[l28];simp[BB,List.map_take]
    rw[e1,e2]
   have hnot:ids[i]∉ids.take i:= λhc=>by
    obtain⟨k,hk,e⟩:=List.getElem_of_mem hc
    have hk':k<i:=by have:=List.length_take_le i ids;omega
    rw[List.getElem_take] at e
    have:=(List.getElem_inj (h₀:=by omega) (h₁:=hlt) hn).1 e
    omega
   have hh:∀{K:AV→Am},Ah (rt (L+20) (n+1)) HD [Ls (ids.take i),S ids[i]] H K=K (.tup [Bo false,I (-1)]):= λ{K}=>by
    have:=AZ (K:=K) (H:=H) (q:=false) (B2A (L:=L) (n:=n) (s:=ids[i]) (.inl rfl:SA (ids.take i) _) (by rw[l0g];omega) (by omega)) (show Py true depth [Ls (ids.take i),S ids[i]] [Ls (ids.take i),S ids[i]] H false from λK=>by kernel_rfl)
    rwa[VW _ _ hnot] at this
   have q1:∀{K},Go.Abs.Aj Ad .eql (S ids[i]) (S []) K=K (Bo false):= λ{K}=>by rw[Kz,decide_eq_false (he _ (Qu hlt))]
   rw[FR (by omega),Do]
   simp only[es,BK,Nw hlt,F3,hh,CJ,CI,q1,gT,BN,QC]
   rw[BC,DH (by omega)]
   exact ih (i+1) (by omega) (by omega)
  ·rw[FT (by omega),BC]
   exact hx
end
end
end Go.Abs
end
