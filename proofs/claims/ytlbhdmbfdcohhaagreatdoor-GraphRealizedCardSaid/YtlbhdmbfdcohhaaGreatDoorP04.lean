import Derived.OrdersIn
import Derived.Test.YtlbhdmbfdcohhaaGreatDoorP03
set_option linter.all false
set_option maxHeartbeats 100000000
noncomputable section
namespace Go.Abs
open Go.RowKit
def Wz (ops:List Oper) (i j:Nat):Bool:=
 match ops[i]? with
 |some o=>o.after.toList.any λe=>Region.binds .any e&&Nat.beq e.on j
 |none=>false
def Ld (ops:List Oper) (o:Oper):List Tmp:=
 (o.op.operands.toList.filterMap λ| .tmp t=>some t|_=>none)++
 (match o.guard with
  |some (g,_)=>((ops[g]?).bind (·.dst)).toList
  |none=>[])
def ZM (ops:List Oper) (x y:Oper):Bool:=
 (match x.dst with|some d=>(Ld ops y).elem d||y.dst==some d|none=>false)||(match y.dst with|some d=>(Ld ops x).elem d|none=>false)
inductive Rch (ops:List Oper):Nat→Nat→Prop
 |one {i j:Nat} (h:Wz ops i j=true):Rch ops i j
 |more {i k j:Nat} (h:Wz ops i k=true) (h':Rch ops k j):Rch ops i j
theorem Wy {ops:List Oper} {i j:Nat}:Wz ops i j=true↔∃o,ops[i]?=some o∧∃e∈o.after.toList,Region.binds .any e=true∧e.on=j:=by
 unfold Wz
 cases ops[i]? with
 |none=>simp
 |some o=>simp only[List.any_eq_true,Iv,Zb,l0y,exists_eq_left']
theorem Rch.mem {ops:List Oper} {L:Nat→Bool} (hcl:∀i j,L i=true→Wz ops i j=true→L j=true) {i j:Nat} (h:Rch ops i j):L i=true→L j=true:=by
 induction h with
 |one h=>intro hi;exact hcl _ _ hi h
 |more h _ ih=>intro hi;exact ih (hcl _ _ hi h)
theorem Rch.mem' {ops:List Oper} {L:Nat→Bool} (hcl:∀i j,L i=true→Wz ops i j=true→L j=true) {i:Nat} (hr:∀j,Wz ops i j=true→L j=true) {j:Nat} (h:Rch ops i j):L j=true:=by
 cases h with
 |one h=>exact hr _ h
 |more h h'=>exact h'.mem hcl (hr _ h)
def C3b (acc:List Nat) (es:List Edge):Nat:=es.foldl (λm e=>if Region.binds .any e then Nat.lor m (Nat.lor (Nat.pow 2 e.on) (acc.getD e.on 0)) else m) 0
def Xs:List Nat→List Oper→List Nat
 |acc,[]=>acc
 |acc,o::l=>Xs (acc++[C3b acc o.after.toList]) l
def Po (ops:List Oper):List Nat:=Xs [] ops
theorem A7w {acc:List Nat} {ops:List Oper} {i:Nat} {o:Oper} (ho:ops[i]?=some o) (hacc:∀k j,(acc.getD k 0).testBit j=true→Rch ops k j):
 ∀(es:List Edge),(∀e∈es,e∈o.after.toList)→∀m:Nat,(∀j,m.testBit j=true→Rch ops i j)→∀j,(es.foldl (λm e=>if Region.binds .any e then Nat.lor m (Nat.lor (Nat.pow 2 e.on) (acc.getD e.on 0)) else m) m).testBit j=true→Rch ops i j:=by
 intro es
 induction es with
 |nil=>intro _ m hm j hj;exact hm j hj
 |cons e es ih=>
  intro hes m hm
  refine ih (λe' he'=>hes e' (by simp[he'])) _ ?_
  intro j hj
  simp only at hj
  split at hj
  ·rename_i hb
   have ha:Wz ops i e.on=true:=Wy.2 ⟨o,ho,e,hes e (by simp),hb,rfl⟩
   have e1:∀a b:Nat,Nat.lor a b=a|||b:= λ_ _=>rfl
   have e2:∀a b:Nat,Nat.pow a b=a^b:= λ_ _=>rfl
   rw[e1,e1,e2,Nat.testBit_or,Nat.testBit_or,Nat.testBit_two_pow] at hj
   simp only[l1d,decide_eq_true_eq] at hj
   rcases hj with hj|hj|hj
   ·exact hm j hj
   ·subst hj;exact .one ha
   ·exact .more ha (hacc _ _ hj)
  ·exact hm j hj
theorem A0y {ops:List Oper}:∀(l:List Oper) (acc:List Nat),ops.drop acc.length=l→acc.length≤ops.length→(∀k j,(acc.getD k 0).testBit j=true→Rch ops k j)→∀k j,((Xs acc l).getD k 0).testBit j=true→Rch ops k j:=by
 intro l
 induction l with
 |nil=>intro acc _ _ h;exact h
 |cons o l ih=>
  intro acc hd hle hacc
  have ho:ops[acc.length]?=some o:=by
   have:=congrArg (λl=>l[0]?) hd
   simpa using this
  have hlt:acc.length<ops.length:=(l0j.1 ho).1
  refine ih _ ?_ (by simp;omega) ?_
  ·rw[F5,List.length_singleton]
   have:=congrArg (List.drop 1) hd
   simpa [Nat.add_comm] using this
  ·intro k j hj
   rcases Nat.lt_trichotomy k acc.length with hk|hk|hk
   ·rw[Tw,l0l hk,←Tw] at hj
    exact hacc k j hj
   ·subst hk
    rw[Tw,l0n (NV _)] at hj
    simp at hj
    exact A7w ho hacc _ (λ_ h=>h) 0 (by simp) j hj
   ·rw[Tw,l0n (by omega),l1e (by simp;omega)] at hj
    simp at hj
theorem Ma {ops:List Oper} {k j:Nat} (h:((Po ops).getD k 0).testBit j=true):Rch ops k j:=
 A0y ops [] rfl (l1c _) (λk j h=>by simp at h) k j h
def tb (m j:Nat):Bool:=Nat.beq (Nat.land (Nat.shiftRight m j) 1) 1
theorem A2o (m j:Nat):tb m j=m.testBit j:=by
 unfold tb Nat.testBit
 have e:Nat.land (Nat.shiftRight m j) 1=(m>>>j)&&&1:=rfl
 rw[e,Nat.and_comm,Nat.one_and_eq_mod_two]
 rcases Nat.mod_two_eq_zero_or_one (m>>>j) with h|h<;>rw[h]<;>rfl
def XC (ms:List Nat):List Nat→Bool
 |[]=>true
 |[_]=>true
 |a::b::l=>Nat.blt a b&&tb (ms.getD b 0) a&&XC ms (b::l)
def A9s:Nat→List Oper→Bool
 |_,[]=>true
 |i,o::l=>o.after.toList.all (λe=> !Region.binds .any e||Nat.blt e.on i)&&A9s (i+1) l
def YX (ops:List Oper) (m:Nat) (o:Oper):Nat→List Oper→Bool
 |_,[]=>true
 |j,p::l=>(!ZM ops p o||tb m j)&&YX ops m o (j+1) l
def B6b (ops:List Oper) (ms:List Nat):Nat→List Oper→Bool
 |_,[]=>true
 |i,o::l=>YX ops (ms.getD i 0) o 0 (ops.take i)&&B6b ops ms (i+1) l
def A2y (ops:List Oper) (efs:List Nat):Bool:=
 A9s 0 ops&&B6b ops (Po ops) 0 ops&&XC (Po ops) efs&&efs.all λe=>Nat.blt e ops.length
structure RegOk (ops:List Oper) (efs:List Nat):Prop where
 back:∀(i j:Nat),Wz ops i j=true→j<i
 ord:∀(i j:Nat) (o p:Oper),j<i→ops[i]?=some o→ops[j]?=some p→(∃d,p.dst=some d∧(d∈Ld ops o∨o.dst=some d))∨(∃d,o.dst=some d∧d∈Ld ops p)→Rch ops i j
 chain:∀(a e e':Nat),efs[a]?=some e→efs[a+1]?=some e'→Rch ops e' e
 inj:∀(a a' e:Nat),efs[a]?=some e→efs[a']?=some e→a=a'
 lt:∀(a e:Nat),efs[a]?=some e→e<ops.length
theorem A30 {ms:List Nat}:∀{l:List Nat},XC ms l=true→∀(a a' e e':Nat),a<a'→l[a]?=some e→l[a']?=some e'→e<e':=by
 intro l
 induction l with
 |nil=>intro _ a a' e e' _ h;simp at h
 |cons x l ih=>
  intro h a a' e e' hlt h1 h2
  cases l with
  |nil=>
   cases a' with
   |zero=>omega
   |succ a'=>simp at h2
  |cons y l=>
   simp only[XC,Iv,TS] at h
   cases a' with
   |zero=>omega
   |succ a'=>
    cases a with
    |zero=>
     simp at h1
     subst h1
     cases a' with
     |zero=>simp at h2;subst h2;exact h.1.1
     |succ a'=>exact Nat.lt_trans h.1.1 (ih h.2 0 (a'+1) y e' (by omega) (by simp) (by simpa using h2))
    |succ a=>exact ih h.2 a a' e e' (by omega) (by simpa using h1) (by simpa using h2)
theorem A8a {ops:List Oper}:∀{l:List Nat},XC (Po ops) l=true→∀(a e e':Nat),l[a]?=some e→l[a+1]?=some e'→Rch ops e' e:=by
 intro l
 induction l with
 |nil=>intro _ a e e' h;simp at h
 |cons x l ih=>
  intro h a e e' h1 h2
  cases l with
  |nil=>simp at h2
  |cons y l=>
   simp only[XC,Iv,A2o] at h
   cases a with
   |zero=>simp at h1 h2;subst h1 h2;exact Ma h.1.2
   |succ a=>exact ih h.2 a e e' (by simpa using h1) (by simpa using h2)
theorem A8f:∀(l:List Oper) (i:Nat),A9s i l=true→∀(k:Nat) (o:Oper),l[k]?=some o→∀e∈o.after.toList,Region.binds .any e=true→e.on<i+k:=by
 intro l
 induction l with
 |nil=>intro i _ k o h;simp at h
 |cons p l ih=>
  intro i h k o ho e he hb
  simp only[A9s,Iv,GW] at h
  cases k with
  |zero=>
   simp at ho;subst ho
   have:=h.1 e he
   simpa [hb,TS] using this
  |succ k=>
   have:=ih (i+1) h.2 k o (by simpa using ho) e he hb
   omega
theorem A3p {ops:List Oper} {m:Nat} {o:Oper}:∀(l:List Oper) (j:Nat),YX ops m o j l=true→∀(k:Nat) (p:Oper),l[k]?=some p→ZM ops p o=true→m.testBit (j+k)=true:=by
 intro l
 induction l with
 |nil=>intro j _ k p h;simp at h
 |cons q l ih=>
  intro j h k p hp hs
  simp only[YX,Iv,l1d,l14,A2o] at h
  cases k with
  |zero=>
   simp at hp;subst hp
   rcases h.1 with h1|h1
   ·rw[hs] at h1;cases h1
   ·exact h1
  |succ k=>
   have:=ih (j+1) h.2 k p (by simpa using hp) hs
   rw[show j+(k+1)=j+1+k from by omega];exact this
theorem B0h {ops:List Oper}:∀(l:List Oper) (i:Nat),B6b ops (Po ops) i l=true→∀(k:Nat) (o:Oper),l[k]?=some o→∀(j:Nat) (p:Oper),j<i+k→ops[j]?=some p→ZM ops p o=true→Rch ops (i+k) j:=by
 intro l
 induction l with
 |nil=>intro i _ k o h;simp at h
 |cons q l ih=>
  intro i h k o ho j p hj hp hs
  simp only[B6b,Iv] at h
  cases k with
  |zero=>
   simp at ho;subst ho
   have:=A3p _ 0 h.1 j p (by rw[l0m,if_pos (by simpa using hj)];exact hp) hs
   rw[Le] at this
   exact Ma this
  |succ k=>
   have:=ih (i+1) h.2 k o (by simpa using ho) j p (by omega) hp hs
   rw[show i+(k+1)=i+1+k from by omega];exact this
theorem ZP {ops:List Oper} {efs:List Nat} (h:A2y ops efs=true):RegOk ops efs:=by
 simp only[A2y,Iv,GW] at h
 obtain⟨⟨⟨h0,h1⟩,h2⟩,h3⟩:=h
 refine⟨λi j ha=> ?_,λi j o p hji ho hp hs=> ?_,A8a h2,λa a' e ha ha'=> ?_,λa e ha=> ?_⟩
 ·obtain⟨o,ho,e,he,hb,rfl⟩:=Wy.1 ha
  have:=A8f ops 0 h0 i o ho e he hb
  omega
 ·have hsh:ZM ops p o=true:=by
   unfold ZM
   rcases hs with⟨d,hd,hl⟩|⟨d,hd,hl⟩
   ·rw[hd]
    rcases hl with hl|hl
    ·simp[hl]
    ·simp[hl]
   ·rw[hd]
    simp[hl]
  have:=B0h ops 0 h1 i o ho j p (by omega) hp hsh
  rwa[Le] at this
 ·rcases Nat.lt_trichotomy a a' with hlt|hlt|hlt
  ·exact absurd (A30 h2 a a' e e hlt ha ha') (l1g _)
  ·exact hlt
  ·exact absurd (A30 h2 a' a e e hlt ha' ha) (l1g _)
 ·have:=h3 e (l1h ha)
  simpa [TS] using this
def FP (ops:List Oper) (val:Nat→AV) (t:Tm) (L:Nat→Bool):Nat→Tm
 |0=>t
 |j+1=>match L j,ops[j]? with
  |true,some o=>Oe (FP ops val t L j) o.dst (val j)
  |_,_=>FP ops val t L j
theorem Q7 {t:Tm} {d:Option Tmp} {v:AV} {u:Nat}:Fy (Oe t d v) u=if d=some u then v else Fy t u:=by
 cases d with
 |none=>simp[Oe]
 |some d=>
  simp only[Oe,Fy]
  by_cases h:u=d
  ·simp[h]
  ·rw[if_neg h,if_neg (λe=>h (by injection e with e;exact e.symm))]
section
variable {ops:List Oper} {efs:List Nat} {val:Nat→AV} {t:Tm} {L:Nat→Bool}
theorem A6Y (hk:RegOk ops efs) (hcl:∀i j,L i=true→Wz ops i j=true→L j=true) {i:Nat} {o:Oper} (ho:ops[i]?=some o) (hr:∀j,Wz ops i j=true→L j=true) (hi:L i=false) {u:Nat} (hu:u∈Ld ops o) (n:Nat) (hn:i≤n):
 Fy (FP ops val t L n) u=Fy (FP ops val t (λ_=>true) i) u:=by
 have h1:∀j,j≤i→Fy (FP ops val t L j) u=Fy (FP ops val t (λ_=>true) j) u:=by
  intro j
  induction j with
  |zero=>intro _;rfl
  |succ j ih=>
   intro hj
   have:=ih (by omega)
   simp only[FP]
   cases hp:ops[j]? with
   |none=>cases L j<;>simpa [hp] using this
   |some p=>
    by_cases hd:p.dst=some u
    ·have ha:=hk.ord i j o p (by omega) ho hp (.inl ⟨u,hd,.inl hu⟩)
     rw[ha.mem' hcl hr]
     simp only[Q7,if_pos hd]
    ·cases hL:L j
     ·simp only[Q7,if_neg hd];exact this
     ·simp only[Q7,if_neg hd];exact this
 have h2:∀j,i≤j→Fy (FP ops val t L j) u=Fy (FP ops val t L i) u:=by
  intro j
  induction j with
  |zero=>
   intro h
   have:i=0:=by omega
   subst this;rfl
  |succ j ih=>
   intro hj
   by_cases hji:i=j+1
   ·subst hji;rfl
   ·have:=ih (by omega)
    simp only[FP]
    cases hp:ops[j]? with
    |none=>cases L j<;>simpa [hp] using this
    |some p=>
     cases hL:L j
     ·simpa using this
     ·simp only[Q7]
      by_cases hd:p.dst=some u
      ·exfalso
       by_cases hij:i=j
       ·subst hij;rw[hL] at hi;cases hi
       ·have ha:=hk.ord j i p o (by omega) hp ho (.inr ⟨u,hd,hu⟩)
        rw[ha.mem hcl hL] at hi;cases hi
      ·rw[if_neg hd];exact this
 rw[h2 n hn,h1 i (NV _)]
theorem B1P (hk:RegOk ops efs) (hcl:∀i j,L i=true→Wz ops i j=true→L j=true) {i:Nat} {o:Oper} (ho:ops[i]?=some o) (hi:L i=false) (u:Nat) (n:Nat) (hn:i<n):
 Fy (Oe (FP ops val t L n) o.dst (val i)) u=Fy (FP ops val t (λk=>if k=i then true else L k) n) u:=by
 have h1:∀j,j≤i→FP ops val t (λk=>if k=i then true else L k) j=FP ops val t L j:=by
  intro j
  induction j with
  |zero=>intro _;rfl
  |succ j ih=>
   intro hj
   have hne:j≠i:=by omega
   simp only[FP,if_neg hne,ih (by omega)]
 have h2:∀j,i<j→Fy (Oe (FP ops val t L j) o.dst (val i)) u=Fy (FP ops val t (λk=>if k=i then true else L k) j) u:=by
  intro j
  induction j with
  |zero=>intro h;omega
  |succ j ih=>
   intro hj
   by_cases hij:i=j
   ·subst hij
    simp only[FP,hi,if_true,ho,h1 i (NV _)]
   ·have:=ih (by omega)
    have hne:j≠i:= λe=>hij e.symm
    simp only[FP,if_neg hne]
    cases hp:ops[j]? with
    |none=>cases L j<;>simpa [hp] using this
    |some p=>
     cases hL:L j
     ·simpa using this
     ·simp only[Q7] at this⊢
      by_cases hd:p.dst=some u
      ·have hod:o.dst≠some u:= λh=>by
        have ha:=hk.ord j i p o (by omega) hp ho (.inl ⟨u,h,.inr hd⟩)
        rw[ha.mem hcl hL] at hi;cases hi
       rw[if_neg hod,if_pos hd,if_pos hd]
      ·rw[if_neg hd,if_neg hd];exact this
 exact h2 n hn
end
def FW (ops:List Oper) (o:Oper) (t:Tm):Tm:=(Ld ops o).map λu=>(u,Fy t u)
theorem A6V {ops:List Oper} {o:Oper} {t:Tm} (u:Nat):Fy (FW ops o t) u= .dk∨(u∈Ld ops o∧Fy (FW ops o t) u=Fy t u):=by
 unfold FW
 induction Ld ops o with
 |nil=>exact .inl rfl
 |cons x l ih=>
  simp only[l1i,Fy]
  by_cases h:u=x
  ·subst h;rw[if_pos rfl];exact .inr ⟨by simp,rfl⟩
  ·rw[if_neg h]
   rcases ih with ih|⟨h1,h2⟩
   ·exact .inl ih
   ·exact .inr ⟨List.mem_cons_of_mem _ h1,h2⟩
def C2X (ops:List Oper) (efs:List Nat) (i m:Nat):Prop:=(∀(a e:Nat),efs[a]?=some e→Rch ops i e→a<m)∧(∀(a e:Nat),efs[a]?=some e→Rch ops e i→m≤a)
def B7a (P:Program) (G:Gl) (ro:Option Nat) (N:Nat) (ops:List Oper) (o:Oper) (t:Tm) (H:Hp) (v:AV) (H':Hp):Prop:=
 ((EV ops t o= .run∨EV ops t o= .dep true)∧Rg P G ro N o t H (λv' H''=>v'=v∧H''=H'))∨((EV ops t o= .skip∨EV ops t o= .dep false)∧v= .v undef∧H'=H)
section
variable {P:Program} {G:Gl} {ro:Option Nat} {m N:Nat} {Q:Exit→Tm→Hp→Prop} {t:Tm}
theorem St.congr {w0:Base} {s0:Nat} {C:Ctx} {t':Tm} {H:Hp} {a:Act} {w:World} (s:St G w0 s0 C N t H a w) (h:∀u,Fy t' u=Fy t u∨Fy t' u= .dk):St G w0 s0 C N t' H a w:=
 ⟨s.rel,s.size,λu=>by
  rcases h u with e|e
  ·rw[e];exact s.tmps u
  ·rw[e];exact .dk _,s.defers,s.le⟩
def Re (L:Nat→Bool):Nat→Nat
 |0=>0
 |j+1=>Re L j+(if L j then 0 else 1)
theorem B3Y {L:Nat→Bool} {i:Nat} (hi:L i=false):∀n,Re (λk=>if k=i then true else L k) n+(if i<n then 1 else 0)=Re L n:=by
 intro n
 induction n with
 |zero=>simp[Re]
 |succ n ih=>
  have e1:Re (λk=>if k=i then true else L k) (n+1)=Re (λk=>if k=i then true else L k) n+(if(if n=i then true else L n)=true then 0 else 1):=rfl
  have e2:Re L (n+1)=Re L n+(if L n=true then 0 else 1):=rfl
  rw[e1,e2]
  generalize Re (λk=>if k=i then true else L k) n=x at*
  generalize Re L n=y at*
  by_cases h:n=i
  ·subst h
   rw[if_neg (l1g _)] at ih
   rw[if_pos rfl,if_pos rfl,if_pos (Nat.lt_succ_self _),hi,if_neg (by simp)]
   omega
  ·rw[if_neg h]
   by_cases hlt:i<n
   ·rw[if_pos hlt] at ih
    rw[if_pos (by omega:i<n+1)];omega
   ·rw[if_neg hlt] at ih
    rw[if_neg (by omega:¬i<n+1)];omega
theorem A2Z {L:Nat→Bool}:∀{n:Nat},Re L n=0→∀i,i<n→L i=true:=by
 intro n
 induction n with
 |zero=>intro _ i h;omega
 |succ n ih=>
  intro h i hi
  simp only[Re] at h
  by_cases e:i=n
  ·subst e
   by_cases hl:L i=true
   ·exact hl
   ·simp[hl] at h
  ·exact ih (by omega) i (by omega)
theorem B3Z {L:Nat→Bool}:∀{n:Nat},0<Re L n→∃i,i<n∧L i=false∧∀j,j<i→L j=true:=by
 intro n
 induction n with
 |zero=>intro h;simp[Re] at h
 |succ n ih=>
  intro h
  by_cases hp:0<Re L n
  ·obtain⟨i,h1,h2,h3⟩:=ih hp
   exact⟨i,by omega,h2,h3⟩
  ·have h0:Re L n=0:=by omega
   simp only[Re,h0] at h
   refine⟨n,by omega,?_,λj hj=>A2Z h0 j hj⟩
   cases hl:L n
   ·rfl
   ·simp[hl] at h
theorem B1Q {ops:List Oper} {val:Nat→AV} {L:Nat→Bool}:∀{n:Nat},(∀i,i<n→L i=true)→FP ops val t L n=FP ops val t (λ_=>true) n:=by
 intro n
 induction n with
 |zero=>intro _;rfl
 |succ n ih=>
  intro h
  simp only[FP,h n (by omega),ih (λi hi=>h i (by omega))]
theorem A66 {id:Nat} {ops:List Oper} {efs:List Nat} {val:Nat→AV} {Hs:Nat→Hp} (hm:P.follows .mixedOrders=true) (hk:RegOk ops efs) (hd:∀o∈ops,dok N o.dst)
 (hop:∀(i:Nat) (o:Oper),ops[i]?=some o→(∀a:Nat,efs[a]?≠some i)→∀k,k≤efs.length→C2X ops efs i k→B7a P G ro N ops o (FW ops o (FP ops val t (λ_=>true) i)) (Hs k) (val i) (Hs k))
 (hef:∀(a i:Nat) (o:Oper),ops[i]?=some o→efs[a]?=some i→B7a P G ro N ops o (FW ops o (FP ops val t (λ_=>true) i)) (Hs a) (val i) (Hs (a+1)))
 (hq:Q .normal (FP ops val t (λ_=>true) ops.length) (Hs efs.length)):Pj P G ro m N (.region id ops.toArray true) Q t (Hs 0):=by
 intro w0 s0 C0 a w s
 refine wpIn_region_any hm ?_
 have key:∀(f:Nat) (Ls:Array Bool) (C:Ctx) (a:Act) (w1:World) (k:Nat),Ls.size=ops.length→Re (λi=>Ls.getD i false) ops.length=f→(∀i j,Ls.getD i false=true→Wz ops i j=true→Ls.getD j false=true)→
  k≤efs.length→(∀(b e:Nat),efs[b]?=some e→(Ls.getD e false=true↔b<k))→St G w0 s0 C N (FP ops val t (λi=>Ls.getD i false) ops.length) (Hs k) a w1→Frm m w0.own C0 w C w1→
  wpAnyIn (Fe ro) 0 P .any ops.toArray (JQ G w0 s0 m C0 N w Q) f Ls a w1:=by
  intro f
  induction f with
  |zero=>
   intro Ls C a w1 k hsz hc hcl hkl hpp hst hfr
   have hall:=A2Z hc
   have hke:k=efs.length:=by
    rcases Nat.lt_or_ge k efs.length with h|h
    ·exfalso
     have:=(hpp k _ (Jw h)).1 (hall _ (hk.lt k _ (Jw h)))
     omega
    ·omega
   refine⟨?_,⟨C,_,_,hst,hfr,?_⟩⟩
   ·unfold Region.ready
    rw[List.filter_eq_nil_iff]
    intro i hi
    simp only[List.size_toArray,Iw] at hi
    have h1:=hall i hi
    have:Ls.getD i true=true:=by
     simp only[l1j] at h1⊢
     rw[l1k (by omega)] at h1⊢
     exact h1
    simp[this]
   ·rw[hke,B1Q hall];exact hq
  |succ f ih=>
   intro Ls C a w1 k hsz hc hcl hkl hpp hst hfr
   have getT:∀i,i<ops.length→Ls.getD i true=Ls.getD i false:= λi hi=>by
    simp only[l1j]
    rw[l1k (by omega)];rfl
   refine⟨λhnil=> ?_,λi hi=> ?_⟩
   ·exfalso
    obtain⟨i,h1,h2,h3⟩:=B3Z (L:= λi=>Ls.getD i false) (n:=ops.length) (by omega)
    have:i∈Region.ready .any ops.toArray Ls:=by
     unfold Region.ready
     rw[List.mem_filter]
     refine⟨by simpa using h1,?_⟩
     simp only[getT i h1,h2,Bool.not_false,l16,l10,Jw h1,l0x,l1l]
     rw[Array.all_eq_true_iff_forall_mem]
     intro e he
     cases hb:Region.binds .any e
     ·rfl
     ·simp only[Bool.not_true,Bool.false_or]
      exact h3 e.on (hk.back i e.on (Wy.2 ⟨_,Jw h1,e,by simpa using he,hb,rfl⟩))
    rw[hnil] at this
    simp at this
   ·unfold Region.ready at hi
    rw[List.mem_filter] at hi
    obtain⟨hin,hrd⟩:=hi
    simp only[List.size_toArray,Iw] at hin
    have ho:ops[i]?=some ops[i]:=Jw hin
    generalize ops[i]=o at ho
    simp only[getT i hin,l10,ho,l0x,l1l,Iv,l14] at hrd
    obtain⟨hLi,hed⟩:=hrd
    rw[Array.all_eq_true_iff_forall_mem] at hed
    have hr:∀j,Wz ops i j=true→Ls.getD j false=true:= λj hj=>by
     obtain⟨o',ho',e,he,hb,rfl⟩:=Wy.1 hj
     rw[ho] at ho';injection ho' with ho';subst ho'
     have:=hed e (by simpa using he)
     simpa [hb] using this
    have hset':∀k,(Ls.setIfInBounds i true).getD k false=if k=i then true else Ls.getD k false:=by
     intro k
     simp only[l1j,Array.getElem?_setIfInBounds]
     by_cases h:i=k
     ·subst h;simp[hsz,hin]
     ·rw[if_neg h,if_neg (λe=>h e.symm)]
    have hset:(λk=>(Ls.setIfInBounds i true).getD k false)= λk=>if k=i then true else Ls.getD k false:=funext hset'
    have hstr:St G w0 s0 C N (FW ops o (FP ops val t (λ_=>true) i)) (Hs k) a w1:=hst.congr λu=>by
     rcases A6V (ops:=ops) (o:=o) (t:=FP ops val t (λ_=>true) i) u with h|⟨h1,h2⟩
     ·exact .inr h
     ·exact .inl (by rw[h2];exact(A6Y hk hcl ho hr hLi h1 ops.length (by omega)).symm)
    have hdo:=hd o (l1h ho)
    have next:∀(k':Nat) (C':Ctx) (y:Value) (w':World),(k'=k∧(∀b:Nat,efs[b]?≠some i)∨k'=k+1∧efs[k]?=some i)→VRel C' w' (val i) y→Rel G w0 C' (Hs k') w'→Ext w0.own C w1 C' w'→
     wpAnyIn (Fe ro) 0 P .any ops.toArray (JQ G w0 s0 m C0 N w Q) f (Ls.setIfInBounds i true) (a.put o.dst y) w':=by
     intro k' C' y w' hk' hv hrel e
     refine ih (Ls.setIfInBounds i true) C' _ w' k' (by simpa using hsz) ?_ ?_ ?_ ?_ ?_ (hfr.trans e.frm)
     ·rw[hset]
      have:=B3Y (L:= λk=>Ls.getD k false) hLi ops.length
      rw[if_pos hin] at this
      omega
     ·intro x y hx hxy
      rw[hset' x] at hx
      rw[hset' y]
      split
      ·rfl
      ·by_cases hxi:x=i
       ·subst hxi;exact hr y hxy
       ·rw[if_neg hxi] at hx;exact hcl x y hx hxy
     ·rcases hk' with⟨rfl,_⟩|⟨rfl,h⟩
      ·exact hkl
      ·exact(l0j.1 h).1
     ·intro b e' hb
      rw[hset' e']
      rcases hk' with⟨rfl,h⟩|⟨rfl,h⟩
      ·rw[if_neg (λe:e'=i=>h b (by rw[hb,e]))];exact hpp b e' hb
      ·by_cases hbi:e'=i
       ·subst hbi
        have:=hk.inj b k _ hb h
        simp[this]
       ·rw[if_neg hbi,hpp b e' hb]
        have:b≠k:= λe=>hbi (by rw[e,h] at hb;injection hb with hb;exact hb.symm)
        omega
     ·exact(A70 hst hrel e hv hdo).congr λu=> .inl (by rw[hset];exact(B1P hk hcl ho hLi u ops.length hin).symm)
    have fin:∀(k':Nat),(k'=k∧(∀b:Nat,efs[b]?≠some i)∨k'=k+1∧efs[k]?=some i)→B7a P G ro N ops o (FW ops o (FP ops val t (λ_=>true) i)) (Hs k) (val i) (Hs k')→
     wpOpIn (Fe ro) 0 P ops.toArray (JQ G w0 s0 m C0 N w Q) i (wpAnyIn (Fe ro) 0 P .any ops.toArray (JQ G w0 s0 m C0 N w Q) f (Ls.setIfInBounds i true)) a w1:=by
     intro k' hk' hG
     have hg:=A1i hstr.tmps ops o
     unfold wpOpIn
     simp only[l10,ho]
     rcases hG with⟨hgd,hA⟩|⟨hgd,hval,hH⟩
     ·have hw:Region.wanted o (yielded ops.toArray a.tmps)=true:=by
       rcases hgd with h|h
       ·exact hg.1 h
       ·exact hg.2.2 _ h
      rw[if_pos hw]
      refine Oz ?_ (hA w0 s0 C a w1 _ hstr)
      rintro a' w' ⟨v,y,C',H',rfl,⟨rfl,rfl⟩,hv,hrel,e⟩
      exact next k' C' y w' hk' hv hrel e
     ·have hw:Region.wanted o (yielded ops.toArray a.tmps)=false:=by
       rcases hgd with h|h
       ·exact hg.2.1 h
       ·exact hg.2.2 _ h
      rw[if_neg (by rw[hw];simp)]
      exact⟨λ_ _=>trivial,next k' C undef w1 hk' (by rw[hval];exact .v _) (by rw[hH];exact hst.rel) (.refl _ _ _)⟩
    by_cases hi:∃b:Nat,efs[b]?=some i
    ·obtain⟨b,hb⟩:=hi
     have hbk:b=k:=by
      have h1:¬b<k:= λh=>by
       have:=(hpp b i hb).2 h
       rw[hLi] at this;cases this
      rcases Nat.eq_zero_or_pos b with h0|h0
      ·omega
      ·have hlt:b-1<efs.length:=by have:=(l0j.1 hb).1;omega
       have hc':=hk.chain (b-1) _ i (Jw hlt) (by rw[Nat.sub_add_cancel h0];exact hb)
       have:=(hpp (b-1) _ (Jw hlt)).1 (hc'.mem' (L:= λi=>Ls.getD i false) hcl hr)
       omega
     subst hbk
     exact fin (b+1) (.inr ⟨rfl,hb⟩) (hef b i o ho hb)
    ·have hne:∀b:Nat,efs[b]?≠some i:= λb hb=>hi ⟨b,hb⟩
     refine fin k (.inl ⟨rfl,hne⟩) (hop i o ho hne k hkl ⟨λb e hb ha=>(hpp b e hb).1 (ha.mem' (L:= λi=>Ls.getD i false) hcl hr),λb e hb ha=> ?_⟩)
     rcases Nat.lt_or_ge b k with h|h
     ·have:=ha.mem (L:= λi=>Ls.getD i false) hcl ((hpp b e hb).2 h)
      simp only[hLi] at this;cases this
     ·exact h
 have hrep:(λi=>(Array.replicate ops.length false).getD i false)= λ_=>false:=by
  funext i
  simp only[l1j,Array.getElem?_replicate]
  split<;>rfl
 have hno:∀n,FP ops val t (λ_=>false) n=t:=by
  intro n
  induction n with
  |zero=>rfl
  |succ n ih=>simp only[FP];exact ih
 have hcnt:∀n,Re (λ_=>false) n=n:=by
  intro n
  induction n with
  |zero=>rfl
  |succ n ih=>simp[Re,ih]
 have hb:Below w.heap.size w {w with drawn:=w.drawn+1}:=A64 w _
 have e0:Ext w0.own C0 w C0 {w with drawn:=w.drawn+1}:=s.rel.ext_below hb
 have hz:∀i,(Array.replicate ops.length false).getD i false=false:= λi=>congrFun hrep i
 have:=key ops.length (Array.replicate ops.length false) C0 a {w with drawn:=w.drawn+1} 0 (by simp) (by rw[hrep];exact hcnt _) (λi j h=>by rw[hz] at h;cases h) (l1c _) (λb e _=>by rw[hz];simp) (by rw[hrep,hno];exact⟨s.rel.of_below hb,s.size,s.tmps.mono e0,s.defers.mono e0.B e0.keepB,l1m s.le e0.grow⟩) e0.frm
 simpa using this
end
def C2w:Unit:=()
def C2v:Unit:=C2w
def C2u:Unit:=C2v
def C2t:Unit:=C2u
def C2s:Unit:=C2t
def C2r:Unit:=C2s
def C2q:Unit:=C2r
def C2p:Unit:=C2q
def C2o:Unit:=C2p
def C2n:Unit:=C2o
def B9U:Unit:=C2n
def B9T:Unit:=B9U
def B9S:Unit:=B9T
def B9R:Unit:=B9S
def B9Q:Unit:=B9R
def B9P:Unit:=B9Q
def B9O:Unit:=B9P
def B9N:Unit:=B9O
def B9M:Unit:=B9N
def B9L:Unit:=B9M
def B9K:Unit:=B9L
def B9J:Unit:=B9K
def B9I:Unit:=B9J
def B9H:Unit:=B9I
def B9G:Unit:=B9H
def B9F:Unit:=B9G
def B9E:Unit:=B9F
def B9D:Unit:=B9E
def B9C:Unit:=B9D
def B9B:Unit:=B9C
def B9A:Unit:=B9B
def B9z:Unit:=B9A
def B9y:Unit:=B9z
def B9x:Unit:=B9y
def B9w:Unit:=B9x
def B9v:Unit:=B9w
def B9u:Unit:=B9v
def B9t:Unit:=B9u
def B9s:Unit:=B9t
def B9r:Unit:=B9s
def B9q:Unit:=B9r
def B9p:Unit:=B9q
def B9o:Unit:=B9p
def B9n:Unit:=B9o
def B9m:Unit:=B9n
def B9l:Unit:=B9m
def B9k:Unit:=B9l
def B9j:Unit:=B9k
def B9i:Unit:=B9j
def B9h:Unit:=B9i
def B9g:Unit:=B9h
def B9f:Unit:=B9g
def B9e:Unit:=B9f
def B9d:Unit:=B9e
def B9c:Unit:=B9d
def B9b:Unit:=B9c
def B9a:Unit:=B9b
def B99:Unit:=B9a
def B98:Unit:=B99
def B97:Unit:=B98
def B96:Unit:=B97
def B95:Unit:=B96
def B94:Unit:=B95
def B93:Unit:=B94
def B92:Unit:=B93
def B91:Unit:=B92
def B90:Unit:=B91
def B8Z:Unit:=B90
def B8Y:Unit:=B8Z
def B8X:Unit:=B8Y
def B8W:Unit:=B8X
def B8V:Unit:=B8W
def B8U:Unit:=B8V
def B8T:Unit:=B8U
def B8S:Unit:=B8T
def B8R:Unit:=B8S
def B8Q:Unit:=B8R
def B8P:Unit:=B8Q
def B8O:Unit:=B8P
def B8N:Unit:=B8O
def B8M:Unit:=B8N
def B8L:Unit:=B8M
def B8K:Unit:=B8L
def B8J:Unit:=B8K
def B8I:Unit:=B8J
def B8H:Unit:=B8I
def B8G:Unit:=B8H
def B8F:Unit:=B8G
def B8E:Unit:=B8F
def B8D:Unit:=B8E
def B8C:Unit:=B8D
def B8B:Unit:=B8C
def B8A:Unit:=B8B
def B8z:Unit:=B8A
def B8y:Unit:=B8z
def B8x:Unit:=B8y
def B8w:Unit:=B8x
def B8v:Unit:=B8w
def B8u:Unit:=B8v
def B8t:Unit:=B8u
def B5k:Unit:=B8t
def B5j:Unit:=B5k
def B5i:Unit:=B5j
def B5h:Unit:=B5i
def B5g:Unit:=B5h
def B5f:Unit:=B5g
def B5e:Unit:=B5f
def B5d:Unit:=B5e
def B5c:Unit:=B5d
def B5b:Unit:=B5c
def B5a:Unit:=B5b
def B59:Unit:=B5a
def B58:Unit:=B59
def B57:Unit:=B58
def B56:Unit:=B57
def B55:Unit:=B56
def B54:Unit:=B55
def B53:Unit:=B54
def B52:Unit:=B53
def B51:Unit:=B52
def FV:Unit:=B51
abbrev Am:=Option (AV×Hp)
abbrev KV:=AV→Hp→Am
abbrev B4p:=Nat→List AV→Hp→KV→Am
inductive BT (α:Type) where
 |leaf
 |node (k:Nat) (v:α) (l r:BT α)
def BT.get {α:Type}:BT α→Nat→Option α
 | .leaf,_=>none
 | .node k v l r,i=>match Nat.beq i k with
  |true=>some v
  |false=>match Nat.blt i k with
   |true=>l.get i
   |false=>r.get i
def BT.getK {α:Type} (b:BT α):Nat→(α→Am)→Am:=
 (λ(_:Unit)=>@BT.rec α (λ_=>Nat→(α→Am)→Am) (λ_ _=>none)
  (λk v _ _ ihl ihr i K=>@Bool.rec (λ_=>Am) (@Bool.rec (λ_=>Am) (ihr i K) (ihl i K) (Nat.blt i k)) (K v) (Nat.beq i k)) b) FV
theorem BT.getK_eq {α:Type} (b:BT α) (i:Nat) (K:α→Am):b.getK i K=match b.get i with|some v=>K v|none=>none:=by
 induction b with
 |leaf=>rfl
 |node k v l r ihl ihr=>
  simp only[BT.getK,BT.get]
  cases Nat.beq i k
  ·cases Nat.blt i k
   ·exact ihr
   ·exact ihl
  ·rfl
structure Cf where
 b:Bool
 lv:List Nat
 fz:Bool
 n:Nat
 rc:List (Nat×List (Nat×Nat))
structure XFn where
 n:Nat
 rs:List ResultVar
 c:Code
 lv:List Nat
 fz:Bool
 rc:List (Nat×List (Nat×Nat))
inductive LK where
 |int (k:IntKind)|str|bool
abbrev Lie:=Nat×Nat×Nat×Nat
structure XE where
 ft:BT XFn
 ty:BT TI
 gl:BT (List AV)
 imp:Nat→Bool
 lf:Nat
 eqt:BT (List LK)
 lie:List Lie
 up:Nat
 ne:Nat→Bool
def fN (n:Nat) (K:Nat→Am):Am:=@Nat.rec (λ_=>Am) (K 0) (λm _=>K (Nat.succ m)) n
def fI (z:Int) (K:Int→Am):Am:=@Int.rec (λ_=>Am) (λn=>fN n λn=>K (.ofNat n)) (λn=>fN n λn=>K (.negSucc n)) z
def ck (b:Bool) (K:Am):Am:=@Bool.rec (λ_=>Am) none K b
theorem DX (n:Nat) (K:Nat→Am):fN n K=K n:=by cases n<;>rfl
theorem QT (z:Int) (K:Int→Am):fI z K=K z:=by cases z<;>simp[fI,DX]
def ckS (b:Bool) (K:Am):Am:=(λ(_:Unit)=>@Bool.rec (λ_=>Am) none K b) FV
def fNS (n:Nat) (K:Nat→Am):Am:=(λ(_:Unit)=>@Nat.rec (λ_=>Am) (K 0) (λm _=>K (Nat.succ m)) n) FV
def Wd {α:Type} (a:List α):List α→(List α→Am)→Am:=
 (λ(_:Unit)=>@List.rec α (λ_=>List α→(List α→Am)→Am) (λl K=>K l) (λx _ ih l K=>ih l λy=>K (x::y)) a) FV
def A9d {α:Type} (l:List α):Nat→(Nat→Am)→Am:=(λ(_:Unit)=>@List.rec α (λ_=>Nat→(Nat→Am)→Am) (λn K=>K n) (λ_ _ ih n K=>ih (Nat.succ n) K) l) FV
theorem B3x (n:Nat) (K:Nat→Am):fNS n K=K n:=DX n K
theorem MW {α:Type} (a l:List α):∀K:List α→Am,Wd a l K=K (a++l):=by
 induction a with
 |nil=>intro K;rfl
 |cons x a ih=>intro K;exact ih _
theorem B3q {α:Type} (l:List α):∀(n:Nat) (K:Nat→Am),A9d l n K=K (n+l.length):=by
 induction l with
 |nil=>intro n K;rfl
 |cons a l ih=>
  intro n K
  have:A9d (a::l) n K=A9d l (Nat.succ n) K:=rfl
  rw[this,ih]
  congr 1
  simp;omega
theorem Bm {b:Bool} {K:Am} {r:AV×Hp} (h:ck b K=some r):b=true∧K=some r:=by cases b;cases h;exact⟨rfl,h⟩
theorem Ji {b:Bool} {K:Am} {r:AV×Hp} (h:ckS b K=some r):b=true∧K=some r:=Bm h
def gtm (t:Tm):Nat→(AV→Am)→Am:=
 (λ(_:Unit)=>@List.rec (Nat×AV) (λ_=>Nat→(AV→Am)→Am) (λ_ K=>K .dk)
  (λp _ ih=>@Prod.rec Nat AV (λ_=>Nat→(AV→Am)→Am) (λk v i K=>@Bool.rec (λ_=>Am) (ih i K) (K v) (Nat.beq i k)) p) t) FV
theorem RX (t:Tm) (i:Nat) (K:AV→Am):gtm t i K=K (Fy t i):=by
 induction t with
 |nil=>rfl
 |cons p t ih=>
  obtain⟨k,v⟩:=p
  simp only[gtm,Fy]
  cases h:Nat.beq i k
  ·rw[if_neg (λe=>by rw[e,l29] at h;cases h)];exact ih
  ·rw[if_pos (Uq h)]
def Lf (H:Hp):Nat→(Row→Am)→Am:=
 @List.rec (Nat×Row) (λ_=>Nat→(Row→Am)→Am) (λ_ _=>none)
  (λp _ ih=>@Prod.rec Nat Row (λ_=>Nat→(Row→Am)→Am) (λk v i K=>@Bool.rec (λ_=>Am) (ih i K) (K v) (Nat.beq i k)) p) H
theorem GC {H:Hp} {i:Nat} {K:Row→Am} {r:AV×Hp} (hg:K .gone=none) (h:Lf H i K=some r):∃x,Aw H i=some x∧K x=some r:=by
 induction H with
 |nil=>cases h
 |cons p H ih=>
  obtain⟨k,v⟩:=p
  simp only[Lf] at h
  simp only[Aw]
  cases hb:Nat.beq i k
  ·rw[hb] at h
   rw[if_neg (λe=>by rw[e,l29] at hb;cases hb)]
   exact ih h
  ·rw[hb] at h
   rw[if_pos (Uq hb)]
   cases v with
   |gone=>exact absurd (hg▸h) (by simp)
   |_=>exact⟨_,rfl,h⟩
def Qf (H:Hp):Nat→Row→(Hp→Am)→Am:=
 @List.rec (Nat×Row) (λ_=>Nat→Row→(Hp→Am)→Am) (λ_ _ K=>K [])
  (λp l ih=>@Prod.rec Nat Row (λ_=>Nat→Row→(Hp→Am)→Am) (λk x r y K=>@Bool.rec (λ_=>Am) (ih r y λl'=>K ((k,x)::l')) (K ((k,y)::l)) (Nat.beq r k)) p) H
theorem Ez (H:Hp) (r:Nat) (y:Row):∀K:Hp→Am,Qf H r y K=K (upd H r y):=by
 induction H with
 |nil=>intro K;rfl
 |cons p H ih=>
  intro K
  obtain⟨k,x⟩:=p
  simp only[Qf,upd]
  cases hb:Nat.beq r k
  ·rw[if_neg (λe=>by rw[e,l29] at hb;cases hb)]
   exact ih _
  ·rw[if_pos (Uq hb)]
def Ij (H:Hp) (K:Nat→Am):Am:=
 @List.rec (Nat×Row) (λ_=>Am) (K 0) (λp _ _=>@Prod.rec Nat Row (λ_=>Am) (λk _=>fN (Nat.succ k) K) p) H
theorem Cg (H:Hp) (K:Nat→Am):Ij H K=K (A7 H):=by
 cases H with
 |nil=>rfl
 |cons p H=>obtain⟨k,x⟩:=p;exact DX (k+1) K
def UZ {α:Type} (a:List α):List α→(List α→Am)→Am:=
 @List.rec α (λ_=>List α→(List α→Am)→Am) (λl K=>K l) (λx _ ih l K=>ih l λy=>K (x::y)) a
theorem Ll {α:Type} (a l:List α):∀K:List α→Am,UZ a l K=K (a++l):=by
 induction a with
 |nil=>intro K;rfl
 |cons x a ih=>intro K;exact ih _
def Da {α:Type} (n:Nat):List α→List α:=
 @Nat.rec (λ_=>List α→List α) (λl=>l) (λ_ ih l=>@List.rec α (λ_=>List α) [] (λ_ l _=>ih l) l) n
theorem Ct {α:Type} (n:Nat):∀l:List α,Da n l=l.drop n:=by
 induction n with
 |zero=>intro l;rfl
 |succ n ih=>
  intro l
  cases l with
  |nil=>rfl
  |cons a l=>exact ih l
def QQ {α:Type} (n:Nat):List α→(List α→Am)→Am:=
 @Nat.rec (λ_=>List α→(List α→Am)→Am) (λ_ K=>K []) (λ_ ih l K=>@List.rec α (λ_=>Am) (K []) (λa l _=>ih l λl'=>K (a::l')) l) n
theorem Lh {α:Type} (n:Nat):∀(l:List α) (K:List α→Am),QQ n l K=K (l.take n):=by
 induction n with
 |zero=>intro l K;rfl
 |succ n ih=>
  intro l K
  cases l with
  |nil=>rfl
  |cons a l=>exact ih l _
def Hw {α:Type} (l:List α):Nat→(Nat→Am)→Am:=@List.rec α (λ_=>Nat→(Nat→Am)→Am) (λn K=>K n) (λ_ _ ih n K=>fN (Nat.succ n) λm=>ih m K) l
theorem C4 {α:Type} (l:List α):∀(n:Nat) (K:Nat→Am),Hw l n K=K (n+l.length):=by
 induction l with
 |nil=>intro n K;rfl
 |cons a l ih=>
  intro n K
  have:Hw (a::l) n K=fN (Nat.succ n) λm=>Hw l m K:=rfl
  rw[this,DX,ih]
  congr 1
  simp;omega
def B6F (vs:List AV):List AV→(List AV→Am)→Am:=
 @List.rec AV (λ_=>List AV→(List AV→Am)→Am) (λl K=>K l) (λv _ ih l K=>@List.rec AV (λ_=>Am) none (λ_ l _=>ih l λl'=>K (v::l')) l) vs
theorem B0w (vs:List AV):∀(l:List AV) (K:List AV→Am) (r:AV×Hp),B6F vs l K=some r→vs.length≤l.length∧K (vs++l.drop vs.length)=some r:=by
 induction vs with
 |nil=>intro l K r h;exact⟨l1c _,h⟩
 |cons v vs ih=>
  intro l K r h
  cases l with
  |nil=>cases h
  |cons a l=>
   obtain⟨h1,h2⟩:=ih l _ r h
   exact⟨by simpa using h1,h2⟩
theorem B6E (vs:List AV):∀(l:List AV) (K:List AV→Am),vs.length≤l.length→B6F vs l K=K (vs++l.drop vs.length):=by
 induction vs with
 |nil=>intro l K h;rfl
 |cons v vs ih=>
  intro l K h
  cases l with
  |nil=>simp at h
  |cons a l=>exact ih l _ (by simpa using h)
def EH (n:Nat):List AV→List AV→(List AV→Am)→Am:=
 @Nat.rec (λ_=>List AV→List AV→(List AV→Am)→Am) (λvs l K=>B6F vs l K) (λ_ ih vs l K=>@List.rec AV (λ_=>Am) none (λa l _=>ih vs l λl'=>K (a::l')) l) n
theorem Li (n:Nat):∀(vs l:List AV) (K:List AV→Am) (r:AV×Hp),EH n vs l K=some r→n+vs.length≤l.length∧K (splice l n vs)=some r:=by
 induction n with
 |zero=>
  intro vs l K r h
  obtain⟨h1,h2⟩:=B0w vs l K r h
  exact⟨by omega,by simpa [splice] using h2⟩
 |succ n ih=>
  intro vs l K r h
  cases l with
  |nil=>cases h
  |cons a l=>
   obtain⟨h1,h2⟩:=ih vs l _ r h
   refine⟨by simp;omega,?_⟩
   have:splice (a::l) (n+1) vs=a::splice l n vs:=by simp[splice,Nat.add_right_comm]
   rw[this];exact h2
theorem Mk (n:Nat):∀(vs l:List AV) (K:List AV→Am),n+vs.length≤l.length→EH n vs l K=K (splice l n vs):=by
 induction n with
 |zero=>
  intro vs l K h
  have:=B6E vs l K (by omega)
  have e:EH 0 vs l K=B6F vs l K:=rfl
  rw[e,this]
  simp[splice]
 |succ n ih=>
  intro vs l K h
  cases l with
  |nil=>simp at h
  |cons a l=>
   have:splice (a::l) (n+1) vs=a::splice l n vs:=by simp[splice,Nat.add_right_comm]
   rw[this]
   exact ih vs l _ (by simp at h;omega)
def iN (z:Int) (K:Nat→Am):Am:=@Int.rec (λ_=>Am) (λn=>fN n K) (λ_=>none) z
theorem RW {z:Int} {K:Nat→Am} {r:AV×Hp} (h:iN z K=some r):∃n:Nat,z=n∧K n=some r:=by
 cases z with
 |ofNat n=>exact⟨n,rfl,by simpa [iN,DX] using h⟩
 |negSucc n=>cases h
theorem JM (n:Nat) (K:Nat→Am):iN n K=K n:=DX n K
def YL (a b:Int):Bool:=@Int.rec (λ_=>Bool) (λm=>@Int.rec (λ_=>Bool) (λn=>Nat.ble m n) (λ_=>false) b) (λm=>@Int.rec (λ_=>Bool) (λ_=>true) (λn=>Nat.ble n m) b) a
def ieq (a b:Int):Bool:=@Int.rec (λ_=>Bool) (λm=>@Int.rec (λ_=>Bool) (λn=>Nat.beq m n) (λ_=>false) b) (λm=>@Int.rec (λ_=>Bool) (λ_=>false) (λn=>Nat.beq m n) b) a
theorem Jc (a b:Int):YL a b=decide (a≤b):=by
 cases a<;>cases b<;>simp only[YL]
 ·rw[YK];simp[Xu]
 ·rw[YK];simp;omega
 ·rw[YK];simp;omega
 ·rw[YK];simp[Xu];omega
theorem Ns (a b:Int):ieq a b=decide (a=b):=by
 cases a<;>cases b<;>simp only[ieq]
 ·rw[YK];simp[Zb,Int.ofNat_inj]
 ·rw[YK];simp
 ·rw[YK];simp
 ·rw[YK];simp[Zb]
def bB (b:Bool) (K:AV→Am):Am:=@Bool.rec (λ_=>Am) (K (.v (.bool false))) (K (.v (.bool true))) b
theorem Lz (b:Bool) (K:AV→Am):bB b K=K (.v (.bool b)):=by cases b<;>rfl
def F2 {α:Type} (n:Nat):List α→(List α→Am)→Am:=
 @Nat.rec (λ_=>List α→(List α→Am)→Am) (λ_ K=>K []) (λ_ ih l K=>@List.rec α (λ_=>Am) none (λa l _=>ih l λl'=>K (a::l')) l) n
theorem MV {α:Type} (n:Nat):∀(l:List α) (K:List α→Am) (r:AV×Hp),F2 n l K=some r→n≤l.length∧K (l.take n)=some r:=by
 induction n with
 |zero=>intro l K r h;exact⟨l1c _,h⟩
 |succ n ih=>
  intro l K r h
  cases l with
  |nil=>cases h
  |cons a l=>
   obtain⟨h1,h2⟩:=ih l _ r h
   exact⟨by simpa using h1,h2⟩
theorem Mj {α:Type} (n:Nat):∀(l:List α) (K:List α→Am),n≤l.length→F2 n l K=K (l.take n):=by
 induction n with
 |zero=>intro l K _;rfl
 |succ n ih=>
  intro l K h
  cases l with
  |nil=>simp at h
  |cons a l=>exact ih l _ (by simpa using h)
def hdK (l:List AV) (K:AV→Am):Am:=@List.rec AV (λ_=>Am) none (λa _ _=>K a) l
theorem A5C {l:List AV} {K:AV→Am} {r:AV×Hp} (h:hdK l K=some r):∃a l',l=a::l'∧K a=some r:=by
 cases l with
 |nil=>cases h
 |cons a l=>exact⟨a,l,rfl,h⟩
def L2 (x:Row) (K:TypeId→List AV→Am):Am:=match x with| .cells _ e cs=>K e cs|_=>none
def A1E (x:Row) (K:Bool→TypeId→List AV→Am):Am:=match x with| .cells q e cs=>K q e cs|_=>none
def A9o (v:AV) (H:Hp) (K:List AV→Am):Am:=
 match v with
 | .ptr r p k=>Lf H r λx=>L2 x λ_ cs=>K (Da (Nat.add p k) cs)
 | .iptr cs=>K cs
 |_=>none
section
variable {T:Ty} {H:Hp} {r:AV×Hp}
theorem IW {H:Hp} {i:Nat} {K:TypeId→List AV→Am} {r:AV×Hp} (h:(Lf H i λx=>L2 x K)=some r):∃q e cs,Aw H i=some (.cells q e cs)∧K e cs=some r:=by
 obtain⟨x,h1,h2⟩:=GC rfl h
 unfold L2 at h2
 split at h2
 ·exact⟨_,_,_,h1,h2⟩
 ·cases h2
theorem TM {H:Hp} {i:Nat} {K:Bool→TypeId→List AV→Am} {r:AV×Hp} (h:(Lf H i λx=>A1E x K)=some r):∃q e cs,Aw H i=some (.cells q e cs)∧K q e cs=some r:=by
 obtain⟨x,h1,h2⟩:=GC rfl h
 unfold A1E at h2
 split at h2
 ·exact⟨_,_,_,h1,h2⟩
 ·cases h2
def XW (i:TI) (cs:List AV) (K:AV→Am):Am:=@Bool.rec (λ_=>Am) (hdK cs K) (F2 i.size cs λc=>K (.agg c)) i.d.isAgg
theorem Sf {ty:TypeId} {i:TI} {cs:List AV} {K:AV→Am} (hT:T ty=some i) (h:XW i cs K=some r):∃v,K v=some r∧Tv T ty cs (λv'=>v'=v):=by
 unfold XW at h
 cases ha:i.d.isAgg
 ·rw[ha] at h
  obtain⟨a,l,rfl,h2⟩:=A5C h
  exact⟨a,h2,by simp[Tv,hT,ha]⟩
 ·rw[ha] at h
  obtain⟨h1,h2⟩:=MV _ _ _ _ h
  exact⟨_,h2,by simp[Tv,hT,ha,h1]⟩
def Ap (i:TI) (v:AV) (H:Hp) (K:AV→Am):Am:=A9o v H λcs=>XW i cs K
theorem A5W {ty:TypeId} {i:TI} {v:AV} {K:AV→Am} (hT:T ty=some i) (h:Ap i v H K=some r):∃u,K u=some r∧A4x T ty v H (λv'=>v'=u):=by
 unfold Ap A9o at h
 split at h
 ·obtain⟨q,e,cs,h1,h2⟩:=IW h
  rw[Ct] at h2
  obtain⟨u,h3,h4⟩:=Sf (T:=T) (ty:=ty) hT h2
  exact⟨u,h3,by simp only[A4x,h1];exact h4⟩
 ·obtain⟨u,h3,h4⟩:=Sf (T:=T) (ty:=ty) hT h
  exact⟨u,h3,h4⟩
 ·cases h
def PK (l:List AV):Bool:=@List.rec AV (λ_=>Bool) true (λa _ ih=>@Bool.rec (λ_=>Bool) false ih (AV.one a)) l
theorem G9 (l:List AV):PK l=l.all AV.one:=by
 induction l with
 |nil=>rfl
 |cons a l ih=>
  have e:PK (a::l)=@Bool.rec (λ_=>Bool) false (PK l) (AV.one a):=rfl
  rw[e,l2j,←ih]
  cases AV.one a<;>rfl
def Gv (a:AV) (K:List AV→Am):Am:=match a with| .agg cs=>K cs|a=>K [a]
theorem Dq (a:AV) (K:List AV→Am):Gv a K=K (B7 a):=by cases a<;>rfl
def Cb (i:TI) (p v:AV) (H:Hp) (K:Hp→Am):Am:=
 match p with
 | .ptr s p k=>Lf H s λx=>A1E x λq e cs=>Gv v λvs=>Hw vs 0 λn=>ck (Nat.beq n i.size) (ck (PK vs) (EH (Nat.add p k) vs cs λcs'=>Qf H s (.cells q e cs') K))
 |_=>none
theorem B3H {ty:TypeId} {i:TI} {p v:AV} {K:Hp→Am} (hT:T ty=some i) (h:Cb i p v H K=some r):∃H',K H'=some r∧Zr T ty p v H (λH''=>H''=H'):=by
 unfold Cb at h
 split at h
 ·obtain⟨q,e,cs,h1,h2⟩:=TM h
  rw[Dq,C4] at h2
  obtain⟨h3,h2⟩:=Bm h2
  obtain⟨h4,h2⟩:=Bm h2
  obtain⟨h5,h2⟩:=Li _ _ _ _ _ h2
  rw[Ez] at h2
  rw[G9] at h4
  refine⟨_,h2,?_⟩
  simp only[Zr,h1,hT]
  exact⟨by have:=Uq h3;omega,h4,h5,rfl⟩
 ·cases h
def AI (ty:TypeId) (i:TI) (H:Hp) (K:KV):Am:=Gv i.zero λcs=>Ij H λs=>K (.ptr s 0 0) ((s,.cells true ty cs)::H)
theorem A5Z {ty:TypeId} {i:TI} {K:KV} (hT:T ty=some i) (h:AI ty i H K=some r):∃v H',K v H'=some r∧Z0 T ty H (A7 H) (λv' H''=>v'=v∧H''=H'):=by
 rw[AI,Dq,Cg] at h
 exact⟨_,_,h,by simp[Z0,hT]⟩
def Dg (ty:TypeId) (v:AV) (H:Hp) (K:KV):Am:=Gv v λcs=>ck (PK cs) (Ij H λs=>K (.ptr s 0 0) ((s,.cells true ty cs)::H))
theorem B0T {ty:TypeId} {v:AV} {K:KV} (h:Dg ty v H K=some r):∃u H',K u H'=some r∧B7W ty v H (A7 H) (λv' H''=>v'=u∧H''=H'):=by
 rw[Dg,Dq] at h
 obtain⟨h1,h⟩:=Bm h
 rw[Cg] at h
 rw[G9] at h1
 exact⟨_,_,h,h1,rfl,rfl⟩
def UY (l:List (Nat×Nat×AV)):List AV→(List AV→Am)→Am:=
 @List.rec (Nat×Nat×AV) (λ_=>List AV→(List AV→Am)→Am) (λcs K=>K cs)
  (λp _ ih cs K=>Gv p.2.2 λvs=>Hw vs 0 λn=>ck (Nat.beq n p.2.1) (ck (PK vs) (EH p.1 vs cs λcs'=>ih cs' K))) l
theorem T2 {place:Nat→Option (Nat×Nat)}:∀(l:List (Nat×Nat×AV)) (ps:List (Nat×AV)) (cs:List AV) (K:List AV→Am),(ps.map λp=>(place p.1).map λq=>(q.1,q.2,p.2))=l.map some→UY l cs K=some r→∃cs',K cs'=some r∧OW place ps cs=some cs':=by
 intro l
 induction l with
 |nil=>
  intro ps cs K he h
  cases ps with
  |nil=>exact⟨cs,h,rfl⟩
  |cons p ps=>simp at he
 |cons x l ih=>
  intro ps cs K he h
  cases ps with
  |nil=>simp at he
  |cons p ps=>
   simp only[l1i,List.cons.injEq] at he
   obtain⟨he1,he2⟩:=he
   cases hq:place p.1 with
   |none=>rw[hq] at he1;simp at he1
   |some q=>
    rw[hq] at he1
    simp only[l0x,l0y] at he1
    have hx:UY (x::l) cs K=Gv x.2.2 λvs=>Hw vs 0 λn=>ck (Nat.beq n x.2.1) (ck (PK vs) (EH x.1 vs cs λcs'=>UY l cs' K)):=rfl
    rw[hx,Dq,C4] at h
    obtain⟨h3,h⟩:=Bm h
    obtain⟨h4,h⟩:=Bm h
    obtain⟨h5,h⟩:=Li _ _ _ _ _ h
    rw[G9] at h4
    obtain⟨cs',h6,h7⟩:=ih ps _ K he2 h
    refine⟨cs',h6,?_⟩
    obtain⟨i,a⟩:=p
    subst he1
    have h3:=Uq h3
    simp only[OW,hq]
    rw[if_pos ⟨by simpa using h3,h5,h4⟩]
    exact h7
def Bg (i:TI) (l:List (Nat×Nat×AV)) (K:AV→Am):Am:=Gv i.zero λz=>UY l z λcs=>K (.agg cs)
def XA6 (i:TI) (j:Nat):Option (Nat×Nat):=
 match i.d with
 | .struct fs=>(fs[j]?).map λf=>(f.1,f.2.1)
 | .array _ _ esz=>some (j*esz,esz)
 | .slice _ esz=>some (j*esz,esz)
 |_=>none
def A4c (i:TI):Bool:=
 match i.d with
 | .struct fs=>fs.all λf=>f.2.1 !=0
 | .array _ _ esz=>esz !=0
 |_=>false
theorem A5Y {ty:TypeId} {i:TI} {l:List (Nat×Nat×AV)} {ps:List (Nat×AV)} {K:AV→Am} (hT:T ty=some i) (hb:A4c i=true) (he:(ps.map λp=>(XA6 i p.1).map λq=>(q.1,q.2,p.2))=l.map some) (h:Bg i l K=some r):
 ∃v,K v=some r∧Zx T ty ps (λv'=>v'=v):=by
 rw[Bg,Dq] at h
 obtain⟨cs',h1,h2⟩:=T2 l ps _ _ he h
 refine⟨_,h1,?_⟩
 unfold Zx
 rw[hT]
 simp only
 unfold A4c at hb
 cases hd:i.d with
 |struct fs=>
  rw[hd] at hb
  simp only
  refine⟨hb,?_⟩
  have:XA6 i= λj=>(fs[j]?).map λf=>(f.1,f.2.1):=by funext j;simp[XA6,hd]
  rw[this] at h2
  rw[h2];rfl
 |array n e esz=>
  rw[hd] at hb
  simp only
  refine⟨by simpa using hb,?_⟩
  have:XA6 i= λj=>some (j*esz,esz):=by funext j;simp[XA6,hd]
  rw[this] at h2
  rw[h2];rfl
 |_=>rw[hd] at hb;cases hb
end
end Go.Abs
end
