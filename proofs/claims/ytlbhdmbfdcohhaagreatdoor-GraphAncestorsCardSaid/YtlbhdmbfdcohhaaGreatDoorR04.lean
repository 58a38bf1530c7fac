import Derived.OrdersIn
import Derived.Test.YtlbhdmbfdcohhaaGreatDoorR03
set_option linter.all false
set_option maxHeartbeats 100000000
noncomputable section
namespace Go.Abs
open Go.RowKit
def Xn (ops:List Oper) (i j:Nat):Bool:=
 match ops[i]? with
 |some o=>o.after.toList.any λe=>Region.binds .any e&&Nat.beq e.on j
 |none=>false
def LM (ops:List Oper) (o:Oper):List Tmp:=
 (o.op.operands.toList.filterMap λ| .tmp t=>some t|_=>none)++
 (match o.guard with
  |some (g,_)=>((ops[g]?).bind (·.dst)).toList
  |none=>[])
def A0E (ops:List Oper) (x y:Oper):Bool:=
 (match x.dst with|some d=>(LM ops y).elem d||y.dst==some d|none=>false)||(match y.dst with|some d=>(LM ops x).elem d|none=>false)
inductive Rch (ops:List Oper):Nat→Nat→Prop
 |one {i j:Nat} (h:Xn ops i j=true):Rch ops i j
 |more {i k j:Nat} (h:Xn ops i k=true) (h':Rch ops k j):Rch ops i j
theorem Xm {ops:List Oper} {i j:Nat}:Xn ops i j=true↔∃o,ops[i]?=some o∧∃e∈o.after.toList,Region.binds .any e=true∧e.on=j:=by
 unfold Xn
 cases ops[i]? with
 |none=>simp
 |some o=>simp only[List.any_eq_true,Jp,ZZ,l0y,exists_eq_left']
theorem Rch.mem {ops:List Oper} {L:Nat→Bool} (hcl:∀i j,L i=true→Xn ops i j=true→L j=true) {i j:Nat} (h:Rch ops i j):L i=true→L j=true:=by
 induction h with
 |one h=>intro hi;exact hcl _ _ hi h
 |more h _ ih=>intro hi;exact ih (hcl _ _ hi h)
theorem Rch.mem' {ops:List Oper} {L:Nat→Bool} (hcl:∀i j,L i=true→Xn ops i j=true→L j=true) {i:Nat} (hr:∀j,Xn ops i j=true→L j=true) {j:Nat} (h:Rch ops i j):L j=true:=by
 cases h with
 |one h=>exact hr _ h
 |more h h'=>exact h'.mem hcl (hr _ h)
def C4g (acc:List Nat) (es:List Edge):Nat:=es.foldl (λm e=>if Region.binds .any e then Nat.lor m (Nat.lor (Nat.pow 2 e.on) (acc.getD e.on 0)) else m) 0
def Ye:List Nat→List Oper→List Nat
 |acc,[]=>acc
 |acc,o::l=>Ye (acc++[C4g acc o.after.toList]) l
def Qr (ops:List Oper):List Nat:=Ye [] ops
theorem A8q {acc:List Nat} {ops:List Oper} {i:Nat} {o:Oper} (ho:ops[i]?=some o) (hacc:∀k j,(acc.getD k 0).testBit j=true→Rch ops k j):
 ∀(es:List Edge),(∀e∈es,e∈o.after.toList)→∀m:Nat,(∀j,m.testBit j=true→Rch ops i j)→∀j,(es.foldl (λm e=>if Region.binds .any e then Nat.lor m (Nat.lor (Nat.pow 2 e.on) (acc.getD e.on 0)) else m) m).testBit j=true→Rch ops i j:=by
 intro es
 induction es with
 |nil=>intro _ m hm j hj;exact hm j hj
 |cons e es ih=>
  intro hes m hm
  refine ih (λe' he'=>hes e' (by simp[he'])) _ ?_
  intro j hj
  simp only at hj
  split at hj
  ·rename_i hb
   have ha:Xn ops i e.on=true:=Xm.2 ⟨o,ho,e,hes e (by simp),hb,rfl⟩
   have e1:∀a b:Nat,Nat.lor a b=a|||b:= λ_ _=>rfl
   have e2:∀a b:Nat,Nat.pow a b=a^b:= λ_ _=>rfl
   rw[e1,e1,e2,Nat.testBit_or,Nat.testBit_or,Nat.testBit_two_pow] at hj
   simp only[l1d,decide_eq_true_eq] at hj
   rcases hj with hj|hj|hj
   ·exact hm j hj
   ·subst hj;exact .one ha
   ·exact .more ha (hacc _ _ hj)
  ·exact hm j hj
theorem A1n {ops:List Oper}:∀(l:List Oper) (acc:List Nat),ops.drop acc.length=l→acc.length≤ops.length→(∀k j,(acc.getD k 0).testBit j=true→Rch ops k j)→∀k j,((Ye acc l).getD k 0).testBit j=true→Rch ops k j:=by
 intro l
 induction l with
 |nil=>intro acc _ _ h;exact h
 |cons o l ih=>
  intro acc hd hle hacc
  have ho:ops[acc.length]?=some o:=by
   have:=congrArg (λl=>l[0]?) hd
   simpa using this
  have hlt:acc.length<ops.length:=(l0j.1 ho).1
  refine ih _ ?_ (by simp;omega) ?_
  ·rw[FA,List.length_singleton]
   have:=congrArg (List.drop 1) hd
   simpa [Nat.add_comm] using this
  ·intro k j hj
   rcases Nat.lt_trichotomy k acc.length with hk|hk|hk
   ·rw[Ul,l0l hk,←Ul] at hj
    exact hacc k j hj
   ·subst hk
    rw[Ul,l0n (O8 _)] at hj
    simp at hj
    exact A8q ho hacc _ (λ_ h=>h) 0 (by simp) j hj
   ·rw[Ul,l0n (by omega),l1e (by simp;omega)] at hj
    simp at hj
theorem ML {ops:List Oper} {k j:Nat} (h:((Qr ops).getD k 0).testBit j=true):Rch ops k j:=
 A1n ops [] rfl (l1c _) (λk j h=>by simp at h) k j h
def tb (m j:Nat):Bool:=Nat.beq (Nat.land (Nat.shiftRight m j) 1) 1
theorem A3d (m j:Nat):tb m j=m.testBit j:=by
 unfold tb Nat.testBit
 have e:Nat.land (Nat.shiftRight m j) 1=(m>>>j)&&&1:=rfl
 rw[e,Nat.and_comm,Nat.one_and_eq_mod_two]
 rcases Nat.mod_two_eq_zero_or_one (m>>>j) with h|h<;>rw[h]<;>rfl
def Y2 (ms:List Nat):List Nat→Bool
 |[]=>true
 |[_]=>true
 |a::b::l=>Nat.blt a b&&tb (ms.getD b 0) a&&Y2 ms (b::l)
def B0i:Nat→List Oper→Bool
 |_,[]=>true
 |i,o::l=>o.after.toList.all (λe=> !Region.binds .any e||Nat.blt e.on i)&&B0i (i+1) l
def ZU (ops:List Oper) (m:Nat) (o:Oper):Nat→List Oper→Bool
 |_,[]=>true
 |j,p::l=>(!A0E ops p o||tb m j)&&ZU ops m o (j+1) l
def B79 (ops:List Oper) (ms:List Nat):Nat→List Oper→Bool
 |_,[]=>true
 |i,o::l=>ZU ops (ms.getD i 0) o 0 (ops.take i)&&B79 ops ms (i+1) l
def A3l (ops:List Oper) (efs:List Nat):Bool:=
 B0i 0 ops&&B79 ops (Qr ops) 0 ops&&Y2 (Qr ops) efs&&efs.all λe=>Nat.blt e ops.length
structure RegOk (ops:List Oper) (efs:List Nat):Prop where
 back:∀(i j:Nat),Xn ops i j=true→j<i
 ord:∀(i j:Nat) (o p:Oper),j<i→ops[i]?=some o→ops[j]?=some p→(∃d,p.dst=some d∧(d∈LM ops o∨o.dst=some d))∨(∃d,o.dst=some d∧d∈LM ops p)→Rch ops i j
 chain:∀(a e e':Nat),efs[a]?=some e→efs[a+1]?=some e'→Rch ops e' e
 inj:∀(a a' e:Nat),efs[a]?=some e→efs[a']?=some e→a=a'
 lt:∀(a e:Nat),efs[a]?=some e→e<ops.length
theorem A3O {ms:List Nat}:∀{l:List Nat},Y2 ms l=true→∀(a a' e e':Nat),a<a'→l[a]?=some e→l[a']?=some e'→e<e':=by
 intro l
 induction l with
 |nil=>intro _ a a' e e' _ h;simp at h
 |cons x l ih=>
  intro h a a' e e' hlt h1 h2
  cases l with
  |nil=>
   cases a' with
   |zero=>omega
   |succ a'=>simp at h2
  |cons y l=>
   simp only[Y2,Jp,Uk] at h
   cases a' with
   |zero=>omega
   |succ a'=>
    cases a with
    |zero=>
     simp at h1
     subst h1
     cases a' with
     |zero=>simp at h2;subst h2;exact h.1.1
     |succ a'=>exact Nat.lt_trans h.1.1 (ih h.2 0 (a'+1) y e' (by omega) (by simp) (by simpa using h2))
    |succ a=>exact ih h.2 a a' e e' (by omega) (by simpa using h1) (by simpa using h2)
theorem A94 {ops:List Oper}:∀{l:List Nat},Y2 (Qr ops) l=true→∀(a e e':Nat),l[a]?=some e→l[a+1]?=some e'→Rch ops e' e:=by
 intro l
 induction l with
 |nil=>intro _ a e e' h;simp at h
 |cons x l ih=>
  intro h a e e' h1 h2
  cases l with
  |nil=>simp at h2
  |cons y l=>
   simp only[Y2,Jp,A3d] at h
   cases a with
   |zero=>simp at h1 h2;subst h1 h2;exact ML h.1.2
   |succ a=>exact ih h.2 a e e' (by simpa using h1) (by simpa using h2)
theorem A9a:∀(l:List Oper) (i:Nat),B0i i l=true→∀(k:Nat) (o:Oper),l[k]?=some o→∀e∈o.after.toList,Region.binds .any e=true→e.on<i+k:=by
 intro l
 induction l with
 |nil=>intro i _ k o h;simp at h
 |cons p l ih=>
  intro i h k o ho e he hb
  simp only[B0i,Jp,Hl] at h
  cases k with
  |zero=>
   simp at ho;subst ho
   have:=h.1 e he
   simpa [hb,Uk] using this
  |succ k=>
   have:=ih (i+1) h.2 k o (by simpa using ho) e he hb
   omega
theorem A4e {ops:List Oper} {m:Nat} {o:Oper}:∀(l:List Oper) (j:Nat),ZU ops m o j l=true→∀(k:Nat) (p:Oper),l[k]?=some p→A0E ops p o=true→m.testBit (j+k)=true:=by
 intro l
 induction l with
 |nil=>intro j _ k p h;simp at h
 |cons q l ih=>
  intro j h k p hp hs
  simp only[ZU,Jp,l1d,l14,A3d] at h
  cases k with
  |zero=>
   simp at hp;subst hp
   rcases h.1 with h1|h1
   ·rw[hs] at h1;cases h1
   ·exact h1
  |succ k=>
   have:=ih (j+1) h.2 k p (by simpa using hp) hs
   rw[show j+(k+1)=j+1+k from by omega];exact this
theorem B17 {ops:List Oper}:∀(l:List Oper) (i:Nat),B79 ops (Qr ops) i l=true→∀(k:Nat) (o:Oper),l[k]?=some o→∀(j:Nat) (p:Oper),j<i+k→ops[j]?=some p→A0E ops p o=true→Rch ops (i+k) j:=by
 intro l
 induction l with
 |nil=>intro i _ k o h;simp at h
 |cons q l ih=>
  intro i h k o ho j p hj hp hs
  simp only[B79,Jp] at h
  cases k with
  |zero=>
   simp at ho;subst ho
   have:=A4e _ 0 h.1 j p (by rw[l0m,if_pos (by simpa using hj)];exact hp) hs
   rw[Ln] at this
   exact ML this
  |succ k=>
   have:=ih (i+1) h.2 k o (by simpa using ho) j p (by omega) hp hs
   rw[show i+(k+1)=i+1+k from by omega];exact this
theorem A0H {ops:List Oper} {efs:List Nat} (h:A3l ops efs=true):RegOk ops efs:=by
 simp only[A3l,Jp,Hl] at h
 obtain⟨⟨⟨h0,h1⟩,h2⟩,h3⟩:=h
 refine⟨λi j ha=> ?_,λi j o p hji ho hp hs=> ?_,A94 h2,λa a' e ha ha'=> ?_,λa e ha=> ?_⟩
 ·obtain⟨o,ho,e,he,hb,rfl⟩:=Xm.1 ha
  have:=A9a ops 0 h0 i o ho e he hb
  omega
 ·have hsh:A0E ops p o=true:=by
   unfold A0E
   rcases hs with⟨d,hd,hl⟩|⟨d,hd,hl⟩
   ·rw[hd]
    rcases hl with hl|hl
    ·simp[hl]
    ·simp[hl]
   ·rw[hd]
    simp[hl]
  have:=B17 ops 0 h1 i o ho j p (by omega) hp hsh
  rwa[Ln] at this
 ·rcases Nat.lt_trichotomy a a' with hlt|hlt|hlt
  ·exact absurd (A3O h2 a a' e e hlt ha ha') (l1g _)
  ·exact hlt
  ·exact absurd (A3O h2 a' a e e hlt ha' ha) (l1g _)
 ·have:=h3 e (l1h ha)
  simpa [Uk] using this
def Gv (ops:List Oper) (val:Nat→AV) (t:Tm) (L:Nat→Bool):Nat→Tm
 |0=>t
 |j+1=>match L j,ops[j]? with
  |true,some o=>OU (Gv ops val t L j) o.dst (val j)
  |_,_=>Gv ops val t L j
theorem Rr {t:Tm} {d:Option Tmp} {v:AV} {u:Nat}:FO (OU t d v) u=if d=some u then v else FO t u:=by
 cases d with
 |none=>simp[OU]
 |some d=>
  simp only[OU,FO]
  by_cases h:u=d
  ·simp[h]
  ·rw[if_neg h,if_neg (λe=>h (by injection e with e;exact e.symm))]
section
variable {ops:List Oper} {efs:List Nat} {val:Nat→AV} {t:Tm} {L:Nat→Bool}
theorem A7T (hk:RegOk ops efs) (hcl:∀i j,L i=true→Xn ops i j=true→L j=true) {i:Nat} {o:Oper} (ho:ops[i]?=some o) (hr:∀j,Xn ops i j=true→L j=true) (hi:L i=false) {u:Nat} (hu:u∈LM ops o) (n:Nat) (hn:i≤n):
 FO (Gv ops val t L n) u=FO (Gv ops val t (λ_=>true) i) u:=by
 have h1:∀j,j≤i→FO (Gv ops val t L j) u=FO (Gv ops val t (λ_=>true) j) u:=by
  intro j
  induction j with
  |zero=>intro _;rfl
  |succ j ih=>
   intro hj
   have:=ih (by omega)
   simp only[Gv]
   cases hp:ops[j]? with
   |none=>cases L j<;>simpa [hp] using this
   |some p=>
    by_cases hd:p.dst=some u
    ·have ha:=hk.ord i j o p (by omega) ho hp (.inl ⟨u,hd,.inl hu⟩)
     rw[ha.mem' hcl hr]
     simp only[Rr,if_pos hd]
    ·cases hL:L j
     ·simp only[Rr,if_neg hd];exact this
     ·simp only[Rr,if_neg hd];exact this
 have h2:∀j,i≤j→FO (Gv ops val t L j) u=FO (Gv ops val t L i) u:=by
  intro j
  induction j with
  |zero=>
   intro h
   have:i=0:=by omega
   subst this;rfl
  |succ j ih=>
   intro hj
   by_cases hji:i=j+1
   ·subst hji;rfl
   ·have:=ih (by omega)
    simp only[Gv]
    cases hp:ops[j]? with
    |none=>cases L j<;>simpa [hp] using this
    |some p=>
     cases hL:L j
     ·simpa using this
     ·simp only[Rr]
      by_cases hd:p.dst=some u
      ·exfalso
       by_cases hij:i=j
       ·subst hij;rw[hL] at hi;cases hi
       ·have ha:=hk.ord j i p o (by omega) hp ho (.inr ⟨u,hd,hu⟩)
        rw[ha.mem hcl hL] at hi;cases hi
      ·rw[if_neg hd];exact this
 rw[h2 n hn,h1 i (O8 _)]
theorem B2G (hk:RegOk ops efs) (hcl:∀i j,L i=true→Xn ops i j=true→L j=true) {i:Nat} {o:Oper} (ho:ops[i]?=some o) (hi:L i=false) (u:Nat) (n:Nat) (hn:i<n):
 FO (OU (Gv ops val t L n) o.dst (val i)) u=FO (Gv ops val t (λk=>if k=i then true else L k) n) u:=by
 have h1:∀j,j≤i→Gv ops val t (λk=>if k=i then true else L k) j=Gv ops val t L j:=by
  intro j
  induction j with
  |zero=>intro _;rfl
  |succ j ih=>
   intro hj
   have hne:j≠i:=by omega
   simp only[Gv,if_neg hne,ih (by omega)]
 have h2:∀j,i<j→FO (OU (Gv ops val t L j) o.dst (val i)) u=FO (Gv ops val t (λk=>if k=i then true else L k) j) u:=by
  intro j
  induction j with
  |zero=>intro h;omega
  |succ j ih=>
   intro hj
   by_cases hij:i=j
   ·subst hij
    simp only[Gv,hi,if_true,ho,h1 i (O8 _)]
   ·have:=ih (by omega)
    have hne:j≠i:= λe=>hij e.symm
    simp only[Gv,if_neg hne]
    cases hp:ops[j]? with
    |none=>cases L j<;>simpa [hp] using this
    |some p=>
     cases hL:L j
     ·simpa using this
     ·simp only[Rr] at this⊢
      by_cases hd:p.dst=some u
      ·have hod:o.dst≠some u:= λh=>by
        have ha:=hk.ord j i p o (by omega) hp ho (.inl ⟨u,h,.inr hd⟩)
        rw[ha.mem hcl hL] at hi;cases hi
       rw[if_neg hod,if_pos hd,if_pos hd]
      ·rw[if_neg hd,if_neg hd];exact this
 exact h2 n hn
end
def Gy (ops:List Oper) (o:Oper) (t:Tm):Tm:=(LM ops o).map λu=>(u,FO t u)
theorem A7Q {ops:List Oper} {o:Oper} {t:Tm} (u:Nat):FO (Gy ops o t) u= .dk∨(u∈LM ops o∧FO (Gy ops o t) u=FO t u):=by
 unfold Gy
 induction LM ops o with
 |nil=>exact .inl rfl
 |cons x l ih=>
  simp only[ZY,FO]
  by_cases h:u=x
  ·subst h;rw[if_pos rfl];exact .inr ⟨by simp,rfl⟩
  ·rw[if_neg h]
   rcases ih with ih|⟨h1,h2⟩
   ·exact .inl ih
   ·exact .inr ⟨List.mem_cons_of_mem _ h1,h2⟩
def C42 (ops:List Oper) (efs:List Nat) (i m:Nat):Prop:=(∀(a e:Nat),efs[a]?=some e→Rch ops i e→a<m)∧(∀(a e:Nat),efs[a]?=some e→Rch ops e i→m≤a)
def B8g (P:Program) (G:Gl) (ro:Option Nat) (N:Nat) (ops:List Oper) (o:Oper) (t:Tm) (H:Hp) (v:AV) (H':Hp):Prop:=
 ((Fo ops t o= .run∨Fo ops t o= .dep true)∧RW P G ro N o t H (λv' H''=>v'=v∧H''=H'))∨((Fo ops t o= .skip∨Fo ops t o= .dep false)∧v= .v undef∧H'=H)
section
variable {P:Program} {G:Gl} {ro:Option Nat} {m N:Nat} {Q:Exit→Tm→Hp→Prop} {t:Tm}
theorem St.congr {w0:Base} {s0:Nat} {C:Ctx} {t':Tm} {H:Hp} {a:Act} {w:World} (s:St G w0 s0 C N t H a w) (h:∀u,FO t' u=FO t u∨FO t' u= .dk):St G w0 s0 C N t' H a w:=
 ⟨s.rel,s.size,λu=>by
  rcases h u with e|e
  ·rw[e];exact s.tmps u
  ·rw[e];exact .dk _,s.defers,s.le⟩
def RQ (L:Nat→Bool):Nat→Nat
 |0=>0
 |j+1=>RQ L j+(if L j then 0 else 1)
theorem B4N {L:Nat→Bool} {i:Nat} (hi:L i=false):∀n,RQ (λk=>if k=i then true else L k) n+(if i<n then 1 else 0)=RQ L n:=by
 intro n
 induction n with
 |zero=>simp[RQ]
 |succ n ih=>
  have e1:RQ (λk=>if k=i then true else L k) (n+1)=RQ (λk=>if k=i then true else L k) n+(if(if n=i then true else L n)=true then 0 else 1):=rfl
  have e2:RQ L (n+1)=RQ L n+(if L n=true then 0 else 1):=rfl
  rw[e1,e2]
  generalize RQ (λk=>if k=i then true else L k) n=x at*
  generalize RQ L n=y at*
  by_cases h:n=i
  ·subst h
   rw[if_neg (l1g _)] at ih
   rw[if_pos rfl,if_pos rfl,if_pos (Nat.lt_succ_self _),hi,if_neg (by simp)]
   omega
  ·rw[if_neg h]
   by_cases hlt:i<n
   ·rw[if_pos hlt] at ih
    rw[if_pos (by omega:i<n+1)];omega
   ·rw[if_neg hlt] at ih
    rw[if_neg (by omega:¬i<n+1)];omega
theorem A3N {L:Nat→Bool}:∀{n:Nat},RQ L n=0→∀i,i<n→L i=true:=by
 intro n
 induction n with
 |zero=>intro _ i h;omega
 |succ n ih=>
  intro h i hi
  simp only[RQ] at h
  by_cases e:i=n
  ·subst e
   by_cases hl:L i=true
   ·exact hl
   ·simp[hl] at h
  ·exact ih (by omega) i (by omega)
theorem B4O {L:Nat→Bool}:∀{n:Nat},0<RQ L n→∃i,i<n∧L i=false∧∀j,j<i→L j=true:=by
 intro n
 induction n with
 |zero=>intro h;simp[RQ] at h
 |succ n ih=>
  intro h
  by_cases hp:0<RQ L n
  ·obtain⟨i,h1,h2,h3⟩:=ih hp
   exact⟨i,by omega,h2,h3⟩
  ·have h0:RQ L n=0:=by omega
   simp only[RQ,h0] at h
   refine⟨n,by omega,?_,λj hj=>A3N h0 j hj⟩
   cases hl:L n
   ·rfl
   ·simp[hl] at h
theorem B2H {ops:List Oper} {val:Nat→AV} {L:Nat→Bool}:∀{n:Nat},(∀i,i<n→L i=true)→Gv ops val t L n=Gv ops val t (λ_=>true) n:=by
 intro n
 induction n with
 |zero=>intro _;rfl
 |succ n ih=>
  intro h
  simp only[Gv,h n (by omega),ih (λi hi=>h i (by omega))]
theorem A74 {id:Nat} {ops:List Oper} {efs:List Nat} {val:Nat→AV} {Hs:Nat→Hp} (hm:P.follows .mixedOrders=true) (hk:RegOk ops efs) (hd:∀o∈ops,dok N o.dst)
 (hop:∀(i:Nat) (o:Oper),ops[i]?=some o→(∀a:Nat,efs[a]?≠some i)→∀k,k≤efs.length→C42 ops efs i k→B8g P G ro N ops o (Gy ops o (Gv ops val t (λ_=>true) i)) (Hs k) (val i) (Hs k))
 (hef:∀(a i:Nat) (o:Oper),ops[i]?=some o→efs[a]?=some i→B8g P G ro N ops o (Gy ops o (Gv ops val t (λ_=>true) i)) (Hs a) (val i) (Hs (a+1)))
 (hq:Q .normal (Gv ops val t (λ_=>true) ops.length) (Hs efs.length)):Qn P G ro m N (.region id ops.toArray true) Q t (Hs 0):=by
 intro w0 s0 C0 a w s
 refine wpIn_region_any hm ?_
 have key:∀(f:Nat) (Ls:Array Bool) (C:Ctx) (a:Act) (w1:World) (k:Nat),Ls.size=ops.length→RQ (λi=>Ls.getD i false) ops.length=f→(∀i j,Ls.getD i false=true→Xn ops i j=true→Ls.getD j false=true)→
  k≤efs.length→(∀(b e:Nat),efs[b]?=some e→(Ls.getD e false=true↔b<k))→St G w0 s0 C N (Gv ops val t (λi=>Ls.getD i false) ops.length) (Hs k) a w1→Frm m w0.own C0 w C w1→
  wpAnyIn (Fe ro) 0 P .any ops.toArray (Ky G w0 s0 m C0 N w Q) f Ls a w1:=by
  intro f
  induction f with
  |zero=>
   intro Ls C a w1 k hsz hc hcl hkl hpp hst hfr
   have hall:=A3N hc
   have hke:k=efs.length:=by
    rcases Nat.lt_or_ge k efs.length with h|h
    ·exfalso
     have:=(hpp k _ (JV h)).1 (hall _ (hk.lt k _ (JV h)))
     omega
    ·omega
   refine⟨?_,⟨C,_,_,hst,hfr,?_⟩⟩
   ·unfold Region.ready
    rw[List.filter_eq_nil_iff]
    intro i hi
    simp only[List.size_toArray,IV] at hi
    have h1:=hall i hi
    have:Ls.getD i true=true:=by
     simp only[YK] at h1⊢
     rw[l1k (by omega)] at h1⊢
     exact h1
    simp[this]
   ·rw[hke,B2H hall];exact hq
  |succ f ih=>
   intro Ls C a w1 k hsz hc hcl hkl hpp hst hfr
   have getT:∀i,i<ops.length→Ls.getD i true=Ls.getD i false:= λi hi=>by
    simp only[YK]
    rw[l1k (by omega)];rfl
   refine⟨λhnil=> ?_,λi hi=> ?_⟩
   ·exfalso
    obtain⟨i,h1,h2,h3⟩:=B4O (L:= λi=>Ls.getD i false) (n:=ops.length) (by omega)
    have:i∈Region.ready .any ops.toArray Ls:=by
     unfold Region.ready
     rw[List.mem_filter]
     refine⟨by simpa using h1,?_⟩
     simp only[getT i h1,h2,Bool.not_false,l16,l10,JV h1,l0x,l1l]
     rw[Array.all_eq_true_iff_forall_mem]
     intro e he
     cases hb:Region.binds .any e
     ·rfl
     ·simp only[Bool.not_true,Bool.false_or]
      exact h3 e.on (hk.back i e.on (Xm.2 ⟨_,JV h1,e,by simpa using he,hb,rfl⟩))
    rw[hnil] at this
    simp at this
   ·unfold Region.ready at hi
    rw[List.mem_filter] at hi
    obtain⟨hin,hrd⟩:=hi
    simp only[List.size_toArray,IV] at hin
    have ho:ops[i]?=some ops[i]:=JV hin
    generalize ops[i]=o at ho
    simp only[getT i hin,l10,ho,l0x,l1l,Jp,l14] at hrd
    obtain⟨hLi,hed⟩:=hrd
    rw[Array.all_eq_true_iff_forall_mem] at hed
    have hr:∀j,Xn ops i j=true→Ls.getD j false=true:= λj hj=>by
     obtain⟨o',ho',e,he,hb,rfl⟩:=Xm.1 hj
     rw[ho] at ho';injection ho' with ho';subst ho'
     have:=hed e (by simpa using he)
     simpa [hb] using this
    have hset':∀k,(Ls.setIfInBounds i true).getD k false=if k=i then true else Ls.getD k false:=by
     intro k
     simp only[YK,Array.getElem?_setIfInBounds]
     by_cases h:i=k
     ·subst h;simp[hsz,hin]
     ·rw[if_neg h,if_neg (λe=>h e.symm)]
    have hset:(λk=>(Ls.setIfInBounds i true).getD k false)= λk=>if k=i then true else Ls.getD k false:=funext hset'
    have hstr:St G w0 s0 C N (Gy ops o (Gv ops val t (λ_=>true) i)) (Hs k) a w1:=hst.congr λu=>by
     rcases A7Q (ops:=ops) (o:=o) (t:=Gv ops val t (λ_=>true) i) u with h|⟨h1,h2⟩
     ·exact .inr h
     ·exact .inl (by rw[h2];exact(A7T hk hcl ho hr hLi h1 ops.length (by omega)).symm)
    have hdo:=hd o (l1h ho)
    have next:∀(k':Nat) (C':Ctx) (y:Value) (w':World),(k'=k∧(∀b:Nat,efs[b]?≠some i)∨k'=k+1∧efs[k]?=some i)→VRel C' w' (val i) y→Rel G w0 C' (Hs k') w'→Ext w0.own C w1 C' w'→
     wpAnyIn (Fe ro) 0 P .any ops.toArray (Ky G w0 s0 m C0 N w Q) f (Ls.setIfInBounds i true) (a.put o.dst y) w':=by
     intro k' C' y w' hk' hv hrel e
     refine ih (Ls.setIfInBounds i true) C' _ w' k' (by simpa using hsz) ?_ ?_ ?_ ?_ ?_ (hfr.trans e.frm)
     ·rw[hset]
      have:=B4N (L:= λk=>Ls.getD k false) hLi ops.length
      rw[if_pos hin] at this
      omega
     ·intro x y hx hxy
      rw[hset' x] at hx
      rw[hset' y]
      split
      ·rfl
      ·by_cases hxi:x=i
       ·subst hxi;exact hr y hxy
       ·rw[if_neg hxi] at hx;exact hcl x y hx hxy
     ·rcases hk' with⟨rfl,_⟩|⟨rfl,h⟩
      ·exact hkl
      ·exact(l0j.1 h).1
     ·intro b e' hb
      rw[hset' e']
      rcases hk' with⟨rfl,h⟩|⟨rfl,h⟩
      ·rw[if_neg (λe:e'=i=>h b (by rw[hb,e]))];exact hpp b e' hb
      ·by_cases hbi:e'=i
       ·subst hbi
        have:=hk.inj b k _ hb h
        simp[this]
       ·rw[if_neg hbi,hpp b e' hb]
        have:b≠k:= λe=>hbi (by rw[e,h] at hb;injection hb with hb;exact hb.symm)
        omega
     ·exact(A7V hst hrel e hv hdo).congr λu=> .inl (by rw[hset];exact(B2G hk hcl ho hLi u ops.length hin).symm)
    have fin:∀(k':Nat),(k'=k∧(∀b:Nat,efs[b]?≠some i)∨k'=k+1∧efs[k]?=some i)→B8g P G ro N ops o (Gy ops o (Gv ops val t (λ_=>true) i)) (Hs k) (val i) (Hs k')→
     wpOpIn (Fe ro) 0 P ops.toArray (Ky G w0 s0 m C0 N w Q) i (wpAnyIn (Fe ro) 0 P .any ops.toArray (Ky G w0 s0 m C0 N w Q) f (Ls.setIfInBounds i true)) a w1:=by
     intro k' hk' hG
     have hg:=A2c hstr.tmps ops o
     unfold wpOpIn
     simp only[l10,ho]
     rcases hG with⟨hgd,hA⟩|⟨hgd,hval,hH⟩
     ·have hw:Region.wanted o (yielded ops.toArray a.tmps)=true:=by
       rcases hgd with h|h
       ·exact hg.1 h
       ·exact hg.2.2 _ h
      rw[if_pos hw]
      refine Po ?_ (hA w0 s0 C a w1 _ hstr)
      rintro a' w' ⟨v,y,C',H',rfl,⟨rfl,rfl⟩,hv,hrel,e⟩
      exact next k' C' y w' hk' hv hrel e
     ·have hw:Region.wanted o (yielded ops.toArray a.tmps)=false:=by
       rcases hgd with h|h
       ·exact hg.2.1 h
       ·exact hg.2.2 _ h
      rw[if_neg (by rw[hw];simp)]
      exact⟨λ_ _=>trivial,next k' C undef w1 hk' (by rw[hval];exact .v _) (by rw[hH];exact hst.rel) (.refl _ _ _)⟩
    by_cases hi:∃b:Nat,efs[b]?=some i
    ·obtain⟨b,hb⟩:=hi
     have hbk:b=k:=by
      have h1:¬b<k:= λh=>by
       have:=(hpp b i hb).2 h
       rw[hLi] at this;cases this
      rcases Nat.eq_zero_or_pos b with h0|h0
      ·omega
      ·have hlt:b-1<efs.length:=by have:=(l0j.1 hb).1;omega
       have hc':=hk.chain (b-1) _ i (JV hlt) (by rw[Nat.sub_add_cancel h0];exact hb)
       have:=(hpp (b-1) _ (JV hlt)).1 (hc'.mem' (L:= λi=>Ls.getD i false) hcl hr)
       omega
     subst hbk
     exact fin (b+1) (.inr ⟨rfl,hb⟩) (hef b i o ho hb)
    ·have hne:∀b:Nat,efs[b]?≠some i:= λb hb=>hi ⟨b,hb⟩
     refine fin k (.inl ⟨rfl,hne⟩) (hop i o ho hne k hkl ⟨λb e hb ha=>(hpp b e hb).1 (ha.mem' (L:= λi=>Ls.getD i false) hcl hr),λb e hb ha=> ?_⟩)
     rcases Nat.lt_or_ge b k with h|h
     ·have:=ha.mem (L:= λi=>Ls.getD i false) hcl ((hpp b e hb).2 h)
      simp only[hLi] at this;cases this
     ·exact h
 have hrep:(λi=>(Array.replicate ops.length false).getD i false)= λ_=>false:=by
  funext i
  simp only[YK,Array.getElem?_replicate]
  split<;>rfl
 have hno:∀n,Gv ops val t (λ_=>false) n=t:=by
  intro n
  induction n with
  |zero=>rfl
  |succ n ih=>simp only[Gv];exact ih
 have hcnt:∀n,RQ (λ_=>false) n=n:=by
  intro n
  induction n with
  |zero=>rfl
  |succ n ih=>simp[RQ,ih]
 have hb:Below w.heap.size w {w with drawn:=w.drawn+1}:=A72 w _
 have e0:Ext w0.own C0 w C0 {w with drawn:=w.drawn+1}:=s.rel.ext_below hb
 have hz:∀i,(Array.replicate ops.length false).getD i false=false:= λi=>congrFun hrep i
 have:=key ops.length (Array.replicate ops.length false) C0 a {w with drawn:=w.drawn+1} 0 (by simp) (by rw[hrep];exact hcnt _) (λi j h=>by rw[hz] at h;cases h) (l1c _) (λb e _=>by rw[hz];simp) (by rw[hrep,hno];exact⟨s.rel.of_below hb,s.size,s.tmps.mono e0,s.defers.mono e0.B e0.keepB,l1m s.le e0.grow⟩) e0.frm
 simpa using this
end
def C3B:Unit:=()
def C3A:Unit:=C3B
def C3z:Unit:=C3A
def C3y:Unit:=C3z
def C3x:Unit:=C3y
def C3w:Unit:=C3x
def C3v:Unit:=C3w
def C3u:Unit:=C3v
def C3t:Unit:=C3u
def C3s:Unit:=C3t
def C0W:Unit:=C3s
def C0V:Unit:=C0W
def C0U:Unit:=C0V
def C0T:Unit:=C0U
def C0S:Unit:=C0T
def C0R:Unit:=C0S
def C0Q:Unit:=C0R
def C0P:Unit:=C0Q
def C0O:Unit:=C0P
def C0N:Unit:=C0O
def C0M:Unit:=C0N
def C0L:Unit:=C0M
def C0K:Unit:=C0L
def C0J:Unit:=C0K
def C0I:Unit:=C0J
def C0H:Unit:=C0I
def C0G:Unit:=C0H
def C0F:Unit:=C0G
def C0E:Unit:=C0F
def C0D:Unit:=C0E
def C0C:Unit:=C0D
def C0B:Unit:=C0C
def C0A:Unit:=C0B
def C0z:Unit:=C0A
def C0y:Unit:=C0z
def C0x:Unit:=C0y
def C0w:Unit:=C0x
def C0v:Unit:=C0w
def C0u:Unit:=C0v
def C0t:Unit:=C0u
def C0s:Unit:=C0t
def C0r:Unit:=C0s
def C0q:Unit:=C0r
def C0p:Unit:=C0q
def C0o:Unit:=C0p
def C0n:Unit:=C0o
def C0m:Unit:=C0n
def C0l:Unit:=C0m
def C0k:Unit:=C0l
def C0j:Unit:=C0k
def C0i:Unit:=C0j
def C0h:Unit:=C0i
def C0g:Unit:=C0h
def C0f:Unit:=C0g
def C0e:Unit:=C0f
def C0d:Unit:=C0e
def C0c:Unit:=C0d
def C0b:Unit:=C0c
def C0a:Unit:=C0b
def C09:Unit:=C0a
def C08:Unit:=C09
def C07:Unit:=C08
def C06:Unit:=C07
def C05:Unit:=C06
def C04:Unit:=C05
def C03:Unit:=C04
def C02:Unit:=C03
def C01:Unit:=C02
def C00:Unit:=C01
def B9Z:Unit:=C00
def B9Y:Unit:=B9Z
def B9X:Unit:=B9Y
def B9W:Unit:=B9X
def B9V:Unit:=B9W
def B9U:Unit:=B9V
def B9T:Unit:=B9U
def B9S:Unit:=B9T
def B9R:Unit:=B9S
def B9Q:Unit:=B9R
def B9P:Unit:=B9Q
def B9O:Unit:=B9P
def B9N:Unit:=B9O
def B9M:Unit:=B9N
def B9L:Unit:=B9M
def B9K:Unit:=B9L
def B9J:Unit:=B9K
def B9I:Unit:=B9J
def B9H:Unit:=B9I
def B9G:Unit:=B9H
def B9F:Unit:=B9G
def B9E:Unit:=B9F
def B9D:Unit:=B9E
def B9C:Unit:=B9D
def B9B:Unit:=B9C
def B9A:Unit:=B9B
def B9z:Unit:=B9A
def B9y:Unit:=B9z
def B9x:Unit:=B9y
def B9w:Unit:=B9x
def B9v:Unit:=B9w
def B6g:Unit:=B9v
def B6f:Unit:=B6g
def B6e:Unit:=B6f
def B6d:Unit:=B6e
def B6c:Unit:=B6d
def B6b:Unit:=B6c
def B6a:Unit:=B6b
def B69:Unit:=B6a
def B68:Unit:=B69
def B67:Unit:=B68
def B66:Unit:=B67
def B65:Unit:=B66
def B64:Unit:=B65
def B63:Unit:=B64
def B62:Unit:=B63
def B61:Unit:=B62
def B60:Unit:=B61
def B5Z:Unit:=B60
def B5Y:Unit:=B5Z
def B5X:Unit:=B5Y
def Gx:Unit:=B5X
abbrev Al:=Option (AV×Hp)
abbrev KV:=AV→Hp→Al
abbrev B5g:=Nat→List AV→Hp→KV→Al
inductive BT (α:Type) where
 |leaf
 |node (k:Nat) (v:α) (l r:BT α)
def BT.get {α:Type}:BT α→Nat→Option α
 | .leaf,_=>none
 | .node k v l r,i=>match Nat.beq i k with
  |true=>some v
  |false=>match Nat.blt i k with
   |true=>l.get i
   |false=>r.get i
def BT.getK {α:Type} (b:BT α):Nat→(α→Al)→Al:=
 (λ(_:Unit)=>@BT.rec α (λ_=>Nat→(α→Al)→Al) (λ_ _=>none)
  (λk v _ _ ihl ihr i K=>@Bool.rec (λ_=>Al) (@Bool.rec (λ_=>Al) (ihr i K) (ihl i K) (Nat.blt i k)) (K v) (Nat.beq i k)) b) Gx
theorem BT.getK_eq {α:Type} (b:BT α) (i:Nat) (K:α→Al):b.getK i K=match b.get i with|some v=>K v|none=>none:=by
 induction b with
 |leaf=>rfl
 |node k v l r ihl ihr=>
  simp only[BT.getK,BT.get]
  cases Nat.beq i k
  ·cases Nat.blt i k
   ·exact ihr
   ·exact ihl
  ·rfl
structure Cf where
 b:Bool
 lv:List Nat
 fz:Bool
 n:Nat
 rc:List (Nat×List (Nat×Nat))
structure XFn where
 n:Nat
 rs:List ResultVar
 c:Code
 lv:List Nat
 fz:Bool
 rc:List (Nat×List (Nat×Nat))
inductive LK where
 |int (k:IntKind)|str|bool
abbrev Lie:=Nat×Nat×Nat×Nat
structure XE where
 ft:BT XFn
 ty:BT TI
 gl:BT (List AV)
 imp:Nat→Bool
 lf:Nat
 eqt:BT (List LK)
 lie:List Lie
 up:Nat
 ne:Nat→Bool
def fN (n:Nat) (K:Nat→Al):Al:=@Nat.rec (λ_=>Al) (K 0) (λm _=>K (Nat.succ m)) n
def fI (z:Int) (K:Int→Al):Al:=@Int.rec (λ_=>Al) (λn=>fN n λn=>K (.ofNat n)) (λn=>fN n λn=>K (.negSucc n)) z
def ck (b:Bool) (K:Al):Al:=@Bool.rec (λ_=>Al) none K b
theorem DI (n:Nat) (K:Nat→Al):fN n K=K n:=by cases n<;>rfl
theorem RJ (z:Int) (K:Int→Al):fI z K=K z:=by cases z<;>simp[fI,DI]
def ckS (b:Bool) (K:Al):Al:=(λ(_:Unit)=>@Bool.rec (λ_=>Al) none K b) Gx
def fNS (n:Nat) (K:Nat→Al):Al:=(λ(_:Unit)=>@Nat.rec (λ_=>Al) (K 0) (λm _=>K (Nat.succ m)) n) Gx
def WR {α:Type} (a:List α):List α→(List α→Al)→Al:=
 (λ(_:Unit)=>@List.rec α (λ_=>List α→(List α→Al)→Al) (λl K=>K l) (λx _ ih l K=>ih l λy=>K (x::y)) a) Gx
def B03 {α:Type} (l:List α):Nat→(Nat→Al)→Al:=(λ(_:Unit)=>@List.rec α (λ_=>Nat→(Nat→Al)→Al) (λn K=>K n) (λ_ _ ih n K=>ih (Nat.succ n) K) l) Gx
theorem B4k (n:Nat) (K:Nat→Al):fNS n K=K n:=DI n K
theorem NJ {α:Type} (a l:List α):∀K:List α→Al,WR a l K=K (a++l):=by
 induction a with
 |nil=>intro K;rfl
 |cons x a ih=>intro K;exact ih _
theorem B4e {α:Type} (l:List α):∀(n:Nat) (K:Nat→Al),B03 l n K=K (n+l.length):=by
 induction l with
 |nil=>intro n K;rfl
 |cons a l ih=>
  intro n K
  have:B03 (a::l) n K=B03 l (Nat.succ n) K:=rfl
  rw[this,ih]
  congr 1
  simp;omega
theorem Br {b:Bool} {K:Al} {r:AV×Hp} (h:ck b K=some r):b=true∧K=some r:=by cases b;cases h;exact⟨rfl,h⟩
theorem JD {b:Bool} {K:Al} {r:AV×Hp} (h:ckS b K=some r):b=true∧K=some r:=Br h
def gtm (t:Tm):Nat→(AV→Al)→Al:=
 (λ(_:Unit)=>@List.rec (Nat×AV) (λ_=>Nat→(AV→Al)→Al) (λ_ K=>K .dk)
  (λp _ ih=>@Prod.rec Nat AV (λ_=>Nat→(AV→Al)→Al) (λk v i K=>@Bool.rec (λ_=>Al) (ih i K) (K v) (Nat.beq i k)) p) t) Gx
theorem SP (t:Tm) (i:Nat) (K:AV→Al):gtm t i K=K (FO t i):=by
 induction t with
 |nil=>rfl
 |cons p t ih=>
  obtain⟨k,v⟩:=p
  simp only[gtm,FO]
  cases h:Nat.beq i k
  ·rw[if_neg (λe=>by rw[e,l29] at h;cases h)];exact ih
  ·rw[if_pos (Vm h)]
def Kj (H:Hp):Nat→(Row→Al)→Al:=
 @List.rec (Nat×Row) (λ_=>Nat→(Row→Al)→Al) (λ_ _=>none)
  (λp _ ih=>@Prod.rec Nat Row (λ_=>Nat→(Row→Al)→Al) (λk v i K=>@Bool.rec (λ_=>Al) (ih i K) (K v) (Nat.beq i k)) p) H
theorem G9 {H:Hp} {i:Nat} {K:Row→Al} {r:AV×Hp} (hg:K .gone=none) (h:Kj H i K=some r):∃x,Ax H i=some x∧K x=some r:=by
 induction H with
 |nil=>cases h
 |cons p H ih=>
  obtain⟨k,v⟩:=p
  simp only[Kj] at h
  simp only[Ax]
  cases hb:Nat.beq i k
  ·rw[hb] at h
   rw[if_neg (λe=>by rw[e,l29] at hb;cases hb)]
   exact ih h
  ·rw[hb] at h
   rw[if_pos (Vm hb)]
   cases v with
   |gone=>exact absurd (hg▸h) (by simp)
   |_=>exact⟨_,rfl,h⟩
def Og (H:Hp):Nat→Row→(Hp→Al)→Al:=
 @List.rec (Nat×Row) (λ_=>Nat→Row→(Hp→Al)→Al) (λ_ _ K=>K [])
  (λp l ih=>@Prod.rec Nat Row (λ_=>Nat→Row→(Hp→Al)→Al) (λk x r y K=>@Bool.rec (λ_=>Al) (ih r y λl'=>K ((k,x)::l')) (K ((k,y)::l)) (Nat.beq r k)) p) H
theorem D8 (H:Hp) (r:Nat) (y:Row):∀K:Hp→Al,Og H r y K=K (upd H r y):=by
 induction H with
 |nil=>intro K;rfl
 |cons p H ih=>
  intro K
  obtain⟨k,x⟩:=p
  simp only[Og,upd]
  cases hb:Nat.beq r k
  ·rw[if_neg (λe=>by rw[e,l29] at hb;cases hb)]
   exact ih _
  ·rw[if_pos (Vm hb)]
def HE (H:Hp) (K:Nat→Al):Al:=
 @List.rec (Nat×Row) (λ_=>Al) (K 0) (λp _ _=>@Prod.rec Nat Row (λ_=>Al) (λk _=>fN (Nat.succ k) K) p) H
theorem BX (H:Hp) (K:Nat→Al):HE H K=K (A6 H):=by
 cases H with
 |nil=>rfl
 |cons p H=>obtain⟨k,x⟩:=p;exact DI (k+1) K
def Ur {α:Type} (a:List α):List α→(List α→Al)→Al:=
 @List.rec α (λ_=>List α→(List α→Al)→Al) (λl K=>K l) (λx _ ih l K=>ih l λy=>K (x::y)) a
theorem K4 {α:Type} (a l:List α):∀K:List α→Al,Ur a l K=K (a++l):=by
 induction a with
 |nil=>intro K;rfl
 |cons x a ih=>intro K;exact ih _
def Dp {α:Type} (n:Nat):List α→List α:=
 @Nat.rec (λ_=>List α→List α) (λl=>l) (λ_ ih l=>@List.rec α (λ_=>List α) [] (λ_ l _=>ih l) l) n
theorem C8 {α:Type} (n:Nat):∀l:List α,Dp n l=l.drop n:=by
 induction n with
 |zero=>intro l;rfl
 |succ n ih=>
  intro l
  cases l with
  |nil=>rfl
  |cons a l=>exact ih l
def Ti {α:Type} (n:Nat):List α→(List α→Al)→Al:=
 @Nat.rec (λ_=>List α→(List α→Al)→Al) (λ_ K=>K []) (λ_ ih l K=>@List.rec α (λ_=>Al) (K []) (λa l _=>ih l λl'=>K (a::l')) l) n
theorem NH {α:Type} (n:Nat):∀(l:List α) (K:List α→Al),Ti n l K=K (l.take n):=by
 induction n with
 |zero=>intro l K;rfl
 |succ n ih=>
  intro l K
  cases l with
  |nil=>rfl
  |cons a l=>exact ih l _
def HJ {α:Type} (l:List α):Nat→(Nat→Al)→Al:=@List.rec α (λ_=>Nat→(Nat→Al)→Al) (λn K=>K n) (λ_ _ ih n K=>fN (Nat.succ n) λm=>ih m K) l
theorem Cw {α:Type} (l:List α):∀(n:Nat) (K:Nat→Al),HJ l n K=K (n+l.length):=by
 induction l with
 |nil=>intro n K;rfl
 |cons a l ih=>
  intro n K
  have:HJ (a::l) n K=fN (Nat.succ n) λm=>HJ l m K:=rfl
  rw[this,DI,ih]
  congr 1
  simp;omega
def B7F (vs:List AV):List AV→(List AV→Al)→Al:=
 @List.rec AV (λ_=>List AV→(List AV→Al)→Al) (λl K=>K l) (λv _ ih l K=>@List.rec AV (λ_=>Al) none (λ_ l _=>ih l λl'=>K (v::l')) l) vs
theorem B1l (vs:List AV):∀(l:List AV) (K:List AV→Al) (r:AV×Hp),B7F vs l K=some r→vs.length≤l.length∧K (vs++l.drop vs.length)=some r:=by
 induction vs with
 |nil=>intro l K r h;exact⟨l1c _,h⟩
 |cons v vs ih=>
  intro l K r h
  cases l with
  |nil=>cases h
  |cons a l=>
   obtain⟨h1,h2⟩:=ih l _ r h
   exact⟨by simpa using h1,h2⟩
theorem B7E (vs:List AV):∀(l:List AV) (K:List AV→Al),vs.length≤l.length→B7F vs l K=K (vs++l.drop vs.length):=by
 induction vs with
 |nil=>intro l K h;rfl
 |cons v vs ih=>
  intro l K h
  cases l with
  |nil=>simp at h
  |cons a l=>exact ih l _ (by simpa using h)
def EG (n:Nat):List AV→List AV→(List AV→Al)→Al:=
 @Nat.rec (λ_=>List AV→List AV→(List AV→Al)→Al) (λvs l K=>B7F vs l K) (λ_ ih vs l K=>@List.rec AV (λ_=>Al) none (λa l _=>ih vs l λl'=>K (a::l')) l) n
theorem LO (n:Nat):∀(vs l:List AV) (K:List AV→Al) (r:AV×Hp),EG n vs l K=some r→n+vs.length≤l.length∧K (splice l n vs)=some r:=by
 induction n with
 |zero=>
  intro vs l K r h
  obtain⟨h1,h2⟩:=B1l vs l K r h
  exact⟨by omega,by simpa [splice] using h2⟩
 |succ n ih=>
  intro vs l K r h
  cases l with
  |nil=>cases h
  |cons a l=>
   obtain⟨h1,h2⟩:=ih vs l _ r h
   refine⟨by simp;omega,?_⟩
   have:splice (a::l) (n+1) vs=a::splice l n vs:=by simp[splice,Nat.add_right_comm]
   rw[this];exact h2
theorem KS (n:Nat):∀(vs l:List AV) (K:List AV→Al),n+vs.length≤l.length→EG n vs l K=K (splice l n vs):=by
 induction n with
 |zero=>
  intro vs l K h
  have:=B7E vs l K (by omega)
  have e:EG 0 vs l K=B7F vs l K:=rfl
  rw[e,this]
  simp[splice]
 |succ n ih=>
  intro vs l K h
  cases l with
  |nil=>simp at h
  |cons a l=>
   have:splice (a::l) (n+1) vs=a::splice l n vs:=by simp[splice,Nat.add_right_comm]
   rw[this]
   exact ih vs l _ (by simp at h;omega)
def iN (z:Int) (K:Nat→Al):Al:=@Int.rec (λ_=>Al) (λn=>fN n K) (λ_=>none) z
theorem SO {z:Int} {K:Nat→Al} {r:AV×Hp} (h:iN z K=some r):∃n:Nat,z=n∧K n=some r:=by
 cases z with
 |ofNat n=>exact⟨n,rfl,by simpa [iN,DI] using h⟩
 |negSucc n=>cases h
theorem JW (n:Nat) (K:Nat→Al):iN n K=K n:=DI n K
def ZH (a b:Int):Bool:=@Int.rec (λ_=>Bool) (λm=>@Int.rec (λ_=>Bool) (λn=>Nat.ble m n) (λ_=>false) b) (λm=>@Int.rec (λ_=>Bool) (λ_=>true) (λn=>Nat.ble n m) b) a
def ieq (a b:Int):Bool:=@Int.rec (λ_=>Bool) (λm=>@Int.rec (λ_=>Bool) (λn=>Nat.beq m n) (λ_=>false) b) (λm=>@Int.rec (λ_=>Bool) (λ_=>false) (λn=>Nat.beq m n) b) a
theorem J7 (a b:Int):ZH a b=decide (a≤b):=by
 cases a<;>cases b<;>simp only[ZH]
 ·rw[Yg];simp[Yf]
 ·rw[Yg];simp;omega
 ·rw[Yg];simp;omega
 ·rw[Yg];simp[Yf];omega
theorem Of (a b:Int):ieq a b=decide (a=b):=by
 cases a<;>cases b<;>simp only[ieq]
 ·rw[Yg];simp[ZZ,Int.ofNat_inj]
 ·rw[Yg];simp
 ·rw[Yg];simp
 ·rw[Yg];simp[ZZ]
def bB (b:Bool) (K:AV→Al):Al:=@Bool.rec (λ_=>Al) (K (.v (.bool false))) (K (.v (.bool true))) b
theorem Ld (b:Bool) (K:AV→Al):bB b K=K (.v (.bool b)):=by cases b<;>rfl
def FT {α:Type} (n:Nat):List α→(List α→Al)→Al:=
 @Nat.rec (λ_=>List α→(List α→Al)→Al) (λ_ K=>K []) (λ_ ih l K=>@List.rec α (λ_=>Al) none (λa l _=>ih l λl'=>K (a::l')) l) n
theorem NI {α:Type} (n:Nat):∀(l:List α) (K:List α→Al) (r:AV×Hp),FT n l K=some r→n≤l.length∧K (l.take n)=some r:=by
 induction n with
 |zero=>intro l K r h;exact⟨l1c _,h⟩
 |succ n ih=>
  intro l K r h
  cases l with
  |nil=>cases h
  |cons a l=>
   obtain⟨h1,h2⟩:=ih l _ r h
   exact⟨by simpa using h1,h2⟩
theorem MS {α:Type} (n:Nat):∀(l:List α) (K:List α→Al),n≤l.length→FT n l K=K (l.take n):=by
 induction n with
 |zero=>intro l K _;rfl
 |succ n ih=>
  intro l K h
  cases l with
  |nil=>simp at h
  |cons a l=>exact ih l _ (by simpa using h)
def hdK (l:List AV) (K:AV→Al):Al:=@List.rec AV (λ_=>Al) none (λa _ _=>K a) l
theorem A6x {l:List AV} {K:AV→Al} {r:AV×Hp} (h:hdK l K=some r):∃a l',l=a::l'∧K a=some r:=by
 cases l with
 |nil=>cases h
 |cons a l=>exact⟨a,l,rfl,h⟩
def KF (x:Row) (K:TypeId→List AV→Al):Al:=match x with| .cells _ e cs=>K e cs|_=>none
def A2x (x:Row) (K:Bool→TypeId→List AV→Al):Al:=match x with| .cells q e cs=>K q e cs|_=>none
def B0e (v:AV) (H:Hp) (K:List AV→Al):Al:=
 match v with
 | .ptr r p k=>Kj H r λx=>KF x λ_ cs=>K (Dp (Nat.add p k) cs)
 | .iptr cs=>K cs
 |_=>none
section
variable {T:Ty} {H:Hp} {r:AV×Hp}
theorem J1 {H:Hp} {i:Nat} {K:TypeId→List AV→Al} {r:AV×Hp} (h:(Kj H i λx=>KF x K)=some r):∃q e cs,Ax H i=some (.cells q e cs)∧K e cs=some r:=by
 obtain⟨x,h1,h2⟩:=G9 rfl h
 unfold KF at h2
 split at h2
 ·exact⟨_,_,_,h1,h2⟩
 ·cases h2
theorem UI {H:Hp} {i:Nat} {K:Bool→TypeId→List AV→Al} {r:AV×Hp} (h:(Kj H i λx=>A2x x K)=some r):∃q e cs,Ax H i=some (.cells q e cs)∧K q e cs=some r:=by
 obtain⟨x,h1,h2⟩:=G9 rfl h
 unfold A2x at h2
 split at h2
 ·exact⟨_,_,_,h1,h2⟩
 ·cases h2
def YQ (i:TI) (cs:List AV) (K:AV→Al):Al:=@Bool.rec (λ_=>Al) (hdK cs K) (FT i.size cs λc=>K (.agg c)) i.d.isAgg
theorem SY {ty:TypeId} {i:TI} {cs:List AV} {K:AV→Al} (hT:T ty=some i) (h:YQ i cs K=some r):∃v,K v=some r∧Uj T ty cs (λv'=>v'=v):=by
 unfold YQ at h
 cases ha:i.d.isAgg
 ·rw[ha] at h
  obtain⟨a,l,rfl,h2⟩:=A6x h
  exact⟨a,h2,by simp[Uj,hT,ha]⟩
 ·rw[ha] at h
  obtain⟨h1,h2⟩:=NI _ _ _ _ h
  exact⟨_,h2,by simp[Uj,hT,ha,h1]⟩
def Aq (i:TI) (v:AV) (H:Hp) (K:AV→Al):Al:=B0e v H λcs=>YQ i cs K
theorem A6T {ty:TypeId} {i:TI} {v:AV} {K:AV→Al} (hT:T ty=some i) (h:Aq i v H K=some r):∃u,K u=some r∧A5v T ty v H (λv'=>v'=u):=by
 unfold Aq B0e at h
 split at h
 ·obtain⟨q,e,cs,h1,h2⟩:=J1 h
  rw[C8] at h2
  obtain⟨u,h3,h4⟩:=SY (T:=T) (ty:=ty) hT h2
  exact⟨u,h3,by simp only[A5v,h1];exact h4⟩
 ·obtain⟨u,h3,h4⟩:=SY (T:=T) (ty:=ty) hT h
  exact⟨u,h3,h4⟩
 ·cases h
def Qa (l:List AV):Bool:=@List.rec AV (λ_=>Bool) true (λa _ ih=>@Bool.rec (λ_=>Bool) false ih (AV.one a)) l
theorem Gc (l:List AV):Qa l=l.all AV.one:=by
 induction l with
 |nil=>rfl
 |cons a l ih=>
  have e:Qa (a::l)=@Bool.rec (λ_=>Bool) false (Qa l) (AV.one a):=rfl
  rw[e,l2j,←ih]
  cases AV.one a<;>rfl
def GU (a:AV) (K:List AV→Al):Al:=match a with| .agg cs=>K cs|a=>K [a]
theorem Dc (a:AV) (K:List AV→Al):GU a K=K (B6 a):=by cases a<;>rfl
def Cq (i:TI) (p v:AV) (H:Hp) (K:Hp→Al):Al:=
 match p with
 | .ptr s p k=>Kj H s λx=>A2x x λq e cs=>GU v λvs=>HJ vs 0 λn=>ck (Nat.beq n i.size) (ck (Qa vs) (EG (Nat.add p k) vs cs λcs'=>Og H s (.cells q e cs') K))
 |_=>none
theorem B4u {ty:TypeId} {i:TI} {p v:AV} {K:Hp→Al} (hT:T ty=some i) (h:Cq i p v H K=some r):∃H',K H'=some r∧A0g T ty p v H (λH''=>H''=H'):=by
 unfold Cq at h
 split at h
 ·obtain⟨q,e,cs,h1,h2⟩:=UI h
  rw[Dc,Cw] at h2
  obtain⟨h3,h2⟩:=Br h2
  obtain⟨h4,h2⟩:=Br h2
  obtain⟨h5,h2⟩:=LO _ _ _ _ _ h2
  rw[D8] at h2
  rw[Gc] at h4
  refine⟨_,h2,?_⟩
  simp only[A0g,h1,hT]
  exact⟨by have:=Vm h3;omega,h4,h5,rfl⟩
 ·cases h
def AK (ty:TypeId) (i:TI) (H:Hp) (K:KV):Al:=GU i.zero λcs=>HE H λs=>K (.ptr s 0 0) ((s,.cells true ty cs)::H)
theorem A6X {ty:TypeId} {i:TI} {K:KV} (hT:T ty=some i) (h:AK ty i H K=some r):∃v H',K v H'=some r∧A0p T ty H (A6 H) (λv' H''=>v'=v∧H''=H'):=by
 rw[AK,Dc,BX] at h
 exact⟨_,_,h,by simp[A0p,hT]⟩
def Dh (ty:TypeId) (v:AV) (H:Hp) (K:KV):Al:=GU v λcs=>ck (Qa cs) (HE H λs=>K (.ptr s 0 0) ((s,.cells true ty cs)::H))
theorem B1F {ty:TypeId} {v:AV} {K:KV} (h:Dh ty v H K=some r):∃u H',K u H'=some r∧B8W ty v H (A6 H) (λv' H''=>v'=u∧H''=H'):=by
 rw[Dh,Dc] at h
 obtain⟨h1,h⟩:=Br h
 rw[BX] at h
 rw[Gc] at h1
 exact⟨_,_,h,h1,rfl,rfl⟩
def VJ (l:List (Nat×Nat×AV)):List AV→(List AV→Al)→Al:=
 @List.rec (Nat×Nat×AV) (λ_=>List AV→(List AV→Al)→Al) (λcs K=>K cs)
  (λp _ ih cs K=>GU p.2.2 λvs=>HJ vs 0 λn=>ck (Nat.beq n p.2.1) (ck (Qa vs) (EG p.1 vs cs λcs'=>ih cs' K))) l
theorem Up {place:Nat→Option (Nat×Nat)}:∀(l:List (Nat×Nat×AV)) (ps:List (Nat×AV)) (cs:List AV) (K:List AV→Al),(ps.map λp=>(place p.1).map λq=>(q.1,q.2,p.2))=l.map some→VJ l cs K=some r→∃cs',K cs'=some r∧PX place ps cs=some cs':=by
 intro l
 induction l with
 |nil=>
  intro ps cs K he h
  cases ps with
  |nil=>exact⟨cs,h,rfl⟩
  |cons p ps=>simp at he
 |cons x l ih=>
  intro ps cs K he h
  cases ps with
  |nil=>simp at he
  |cons p ps=>
   simp only[ZY,List.cons.injEq] at he
   obtain⟨he1,he2⟩:=he
   cases hq:place p.1 with
   |none=>rw[hq] at he1;simp at he1
   |some q=>
    rw[hq] at he1
    simp only[l0x,l0y] at he1
    have hx:VJ (x::l) cs K=GU x.2.2 λvs=>HJ vs 0 λn=>ck (Nat.beq n x.2.1) (ck (Qa vs) (EG x.1 vs cs λcs'=>VJ l cs' K)):=rfl
    rw[hx,Dc,Cw] at h
    obtain⟨h3,h⟩:=Br h
    obtain⟨h4,h⟩:=Br h
    obtain⟨h5,h⟩:=LO _ _ _ _ _ h
    rw[Gc] at h4
    obtain⟨cs',h6,h7⟩:=ih ps _ K he2 h
    refine⟨cs',h6,?_⟩
    obtain⟨i,a⟩:=p
    subst he1
    have h3:=Vm h3
    simp only[PX,hq]
    rw[if_pos ⟨by simpa using h3,h5,h4⟩]
    exact h7
def Bk (i:TI) (l:List (Nat×Nat×AV)) (K:AV→Al):Al:=GU i.zero λz=>VJ l z λcs=>K (.agg cs)
def O2 (i:TI) (j:Nat):Option (Nat×Nat):=
 match i.d with
 | .struct fs=>(fs[j]?).map λf=>(f.1,f.2.1)
 | .array _ _ esz=>some (j*esz,esz)
 | .slice _ esz=>some (j*esz,esz)
 |_=>none
def A56 (i:TI):Bool:=
 match i.d with
 | .struct fs=>fs.all λf=>f.2.1 !=0
 | .array _ _ esz=>esz !=0
 |_=>false
theorem A6W {ty:TypeId} {i:TI} {l:List (Nat×Nat×AV)} {ps:List (Nat×AV)} {K:AV→Al} (hT:T ty=some i) (hb:A56 i=true) (he:(ps.map λp=>(O2 i p.1).map λq=>(q.1,q.2,p.2))=l.map some) (h:Bk i l K=some r):
 ∃v,K v=some r∧A0m T ty ps (λv'=>v'=v):=by
 rw[Bk,Dc] at h
 obtain⟨cs',h1,h2⟩:=Up l ps _ _ he h
 refine⟨_,h1,?_⟩
 unfold A0m
 rw[hT]
 simp only
 unfold A56 at hb
 cases hd:i.d with
 |struct fs=>
  rw[hd] at hb
  simp only
  refine⟨hb,?_⟩
  have:O2 i= λj=>(fs[j]?).map λf=>(f.1,f.2.1):=by funext j;simp[O2,hd]
  rw[this] at h2
  rw[h2];rfl
 |array n e esz=>
  rw[hd] at hb
  simp only
  refine⟨by simpa using hb,?_⟩
  have:O2 i= λj=>some (j*esz,esz):=by funext j;simp[O2,hd]
  rw[this] at h2
  rw[h2];rfl
 |_=>rw[hd] at hb;cases hb
end
end Go.Abs
end
