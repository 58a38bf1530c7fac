import Derived.Lib.UnsafeStr
import Derived.Lib.Builder
import Derived.Test.YtlbhdmbfdcohhaaGreatDoorS06
set_option linter.all false
set_option maxHeartbeats 100000000
noncomputable section
namespace Go.Abs
open Go.RowKit
def WG:Value→Value→Bool
 | .string a,.string b=>eqbL a.data.toList b.data.toList
 | .int k a,.int k' b=>decide (k=k')&&decide (a=b)
 | .bool a,.bool b=>a==b
 | .slice none 0 0,.slice none 0 0=>true
 | .pointer none,.pointer none=>true
 | .map none,.map none=>true
 | .nilFunc,.nilFunc=>true
 |_,_=>false
where eqbL:List UInt8→List UInt8→Bool
 |[],[]=>true
 |a::l,b::m=>Nat.beq a.toNat b.toNat&&eqbL l m
 |_,_=>false
def A2v (f:AV→AV→Bool):List AV→List AV→Bool
 |[],[]=>true
 |a::l,b::m=>f a b&&A2v f l m
 |_,_=>false
def fnB:AV→AV→Bool
 | .fn (.func f) [] [],.fn (.func g) [] []=>Nat.beq f g
 |_,_=>false
theorem C2L {a b:AV} (h:fnB a b=true):a=b:=by
 unfold fnB at h
 split at h
 ·rw[VC h]
 ·cases h
def B2h (f:AV→AV→Bool):List (Value×AV)→List (Value×AV)→Bool
 |[],[]=>true
 |a::l,b::m=>WG a.1 b.1&&(f a.2 b.2&&B2h f l m)
 |_,_=>false
def Zr:Nat→AV→AV→Bool
 |_,.v x,.v y=>WG x y
 |d+1,.list n cs,.list m es=>Nat.beq n m&&A2v (Zr d) cs es
 |d+1,.agg cs,.agg es=>A2v (Zr d) cs es
 |d+1,.tup cs,.tup es=>A2v (Zr d) cs es
 |d+1,.imap es,.imap gs=>B2h (Zr d) es gs
 |_+1,.fn f fs cs,.fn g gs ds=>fnB (.fn f fs cs) (.fn g gs ds)
 |_,_,_=>false
def Zc (a b:Aj):Aj:=
 match a with
 |some (v,[])=>(match b with
  |some (u,[])=>(match Zr 6 v u with|true=>some (v,[])|false=>none)
  |_=>none)
 |_=>none
def OH (F:Value×AV→List (Value×AV)→Aj) (l:List (Value×AV)):List (Value×AV)→Aj:=
 @List.rec (Value×AV) (λ_=>List (Value×AV)→Aj) (λ_=>none)
  (λe rest ih pre=>@List.rec (Value×AV) (λ_=>Aj) (F e pre) (λ_ _ _=>Zc (F e (pre++rest)) (ih (pre++[e]))) rest) l
def B0f (x:Row) (K:List (Value×AV)→Aj):Aj:=match x with| .iter l _=>K l|_=>none
def A07 (m:AV) (H:Hp) (K:KV):Aj:=
 match m with
 | .imap es=>XA3 H λs=>K (.it s) ((s,.iter es none)::H)
 | .v (.map none)=>XA3 H λs=>K (.it s) ((s,.iter [] none)::H)
 | .mp s=>JL H s λx=>A1N x λes _=>ck (es.all λp=>cl0 3 p.2) (LL H s .gone λH1=>XA3 H1 λt=>K (.it t) ((t,.iter es none)::H1))
 |_=>none
def A08 (it:AV) (H:Hp) (K:KV):Aj:=
 match it with
 | .it s=>JL H s λx=>B0f x λl=>@List.rec (Value×AV) (λ_=>Aj) (K (.tup [.v (.bool false)]) H)
  (λ_ _ _=>OH (λe rest=>LL H s (.iter rest (some e)) λH'=>K (.tup [.v (.bool true),ofV e.1,e.2]) H') l []) l
 |_=>none
def B4k (x:Row) (K:Value×AV→Aj):Aj:=match x with| .iter _ (some p)=>K p|_=>none
def A3k (it:AV) (H:Hp) (K:AV→Aj):Aj:=
 match it with
 | .it s=>JL H s λx=>B4k x λp=>K (.tup [ofV p.1,p.2])
 |_=>none
theorem B8h:∀{a b:List UInt8},WG.eqbL a b=true→a=b:=by
 intro a
 induction a with
 |nil=>intro b h;cases b<;>simp[WG.eqbL] at h;rfl
 |cons x a ih=>
  intro b h
  cases b with
  |nil=>simp[WG.eqbL] at h
  |cons y b=>
   simp only[WG.eqbL,Jm] at h
   rw[ih h.2,UInt8.toNat_inj.1 (VC h.1)]
theorem A0h {a b:Value} (h:WG a b=true):a=b:=by
 unfold WG at h
 split at h
 ·rename_i x y
  obtain⟨⟨x⟩⟩:=x
  obtain⟨⟨y⟩⟩:=y
  have:=B8h h
  simp at this
  rw[this]
 ·simp only[Jm,decide_eq_true_eq] at h;rw[h.1,h.2]
 ·rw[eq_of_beq h]
 ·rfl
 ·rfl
 ·rfl
 ·rfl
 ·cases h
theorem A0A {f:AV→AV→Bool} (hf:∀a b,f a b=true→a=b):∀{l m:List AV},A2v f l m=true→l=m:=by
 intro l
 induction l with
 |nil=>intro m h;cases m<;>simp[A2v] at h;rfl
 |cons a l ih=>
  intro m h
  cases m with
  |nil=>simp[A2v] at h
  |cons b m=>
   simp only[A2v,Jm] at h
   rw[hf a b h.1,ih h.2]
theorem B8J {f:AV→AV→Bool} (hf:∀a b,f a b=true→a=b):∀{l m:List (Value×AV)},B2h f l m=true→l=m:=by
 intro l
 induction l with
 |nil=>intro m h;cases m<;>simp[B2h] at h;rfl
 |cons a l ih=>
  intro m h
  cases m with
  |nil=>simp[B2h] at h
  |cons b m=>
   simp only[B2h,Jm] at h
   rw[show a=b from Prod.ext (A0h h.1) (hf _ _ h.2.1),ih h.2.2]
theorem A9z:∀(d:Nat) (a b:AV),Zr d a b=true→a=b:=by
 intro d
 induction d with
 |zero=>
  intro a b h
  cases a<;>cases b<;>simp[Zr] at h
  rw[A0h h]
 |succ d ih=>
  intro a b h
  cases a<;>cases b<;>simp only[Zr] at h<;>first|(cases h;done)|skip
  ·rw[A0h h]
  ·simp only[Jm] at h;rw[VC h.1,A0A ih h.2]
  ·exact C2L h
  ·rw[A0A ih h]
  ·rw[A0A ih h]
  ·rw[B8J ih h]
theorem A8m {a b:Aj} {r:AV×Hp} (h:Zc a b=some r):a=some r∧b=some r:=by
 unfold Zc at h
 split at h
 ·split at h
  ·split at h
   ·rename_i hq
    rw[←A9z _ _ _ hq]
    exact⟨h,h⟩
   ·cases h
  ·cases h
 ·cases h
section
variable {r:AV×Hp}
theorem Zf (F:Value×AV→List (Value×AV)→Aj) (e e':Value×AV) (l pre:List (Value×AV)):OH F (e::e'::l) pre=Zc (F e (pre++e'::l)) (OH F (e'::l) (pre++[e])):=rfl
theorem A1u (F:Value×AV→List (Value×AV)→Aj) (e:Value×AV) (pre:List (Value×AV)):OH F [e] pre=F e pre:=rfl
theorem A6B {F:Value×AV→List (Value×AV)→Aj}:∀(l pre:List (Value×AV)),OH F l pre=some r→∀(j:Nat) (e:Value×AV),l[j]?=some e→F e (pre++l.eraseIdx j)=some r:=by
 intro l
 induction l with
 |nil=>intro pre h;cases h
 |cons e l ih=>
  intro pre h j e1 he
  cases l with
  |nil=>
   rw[A1u] at h
   cases j with
   |zero=>simp at he;subst he;simpa using h
   |succ j=>simp at he
  |cons e' l=>
   rw[Zf] at h
   obtain⟨h1,h2⟩:=A8m h
   cases j with
   |zero=>simp at he;subst he;simpa using h1
   |succ j=>
    have:=ih _ h2 j e1 (by simpa using he)
    simpa using this
variable {P:Program} {G:Gl} {w0:Base} {C:Ctx} {H:Hp} {w:World}
theorem Ext.weak {C':Ctx} {w':World} {O:Nat→Prop} (h:Ext (λ_=>False) C w C' w'):Ext O C w C' w':=
 ⟨h.π,h.F,h.keep,h.B,h.keepB,h.size,λb i hf=>(h.new b i hf).imp id False.elim,λb hf=>(h.newB b hf).imp id False.elim,h.grow⟩
theorem Zp {mt kt et:TypeId} {es:List (Value×AV)} {ym:Value} {K:KV} (hu:P.underlying mt=some (.map kt et)) (hr:Rel G w0 C H w) (hm:VRel C w (.imap es) ym) (h:(XA3 H λs=>K (.it s) ((s,.iter es none)::H))=some r):
 ∃v H' y C' w',K v H'=some r∧(Instr.range mt ym).run P w= .ok y w'∧J9 G w0 C w v H' y C' w':=by
 rw[BZ] at h
 cases hm with
 |@imap _ _ _ b clock ms hB hb hl hk hn hc hv=>
  have hal:=LD w (.mapIter (some b) clock #[] clock)
  refine⟨_,_,.pointer (some ⟨w.heap.size,0,none⟩),_,w.alloc (.mapIter (some b) clock #[] clock),h,run_range_map w mt kt et b ms clock hu hb,.it (C.put_n _ _),hr.new_row hal ⟨w.heap.size,some b,clock,#[],clock,C.put_n _ _,World.alloc_heap_new _ _,.inr ⟨b,ms,clock,rfl,rfl,rfl,hB,(hal.block b (hr.finB b hB)).trans hb,?_,?_,trivial⟩⟩,hr.new_ext hal⟩
  ·refine⟨?_,λm hm=> ?_⟩
   ·rw[l20]
    intro i j hi hj hij
    have:=hn i j hij (by simpa using hj)
    have hi':i<ms.size:=by simpa using hi
    have hj':j<ms.size:=by simpa using hj
    simpa [Zk,hi',hj'] using this
   ·obtain⟨i,hi,rfl⟩:=List.mem_iff_getElem.1 hm
    have hi':i<ms.size:=by simpa using hi
    have:=hc i hi'
    simpa [Zk,hi'] using this
  ·have e1:(ms.toList.filter λe=> !(#[]:Array Nat).contains e.born)=ms.toList:=by simp
   rw[e1]
   refine⟨by simpa using hl,λi p hp=> ?_⟩
   obtain⟨hi,rfl⟩:=l0j.1 hp
   have hi':i<ms.size:=by omega
   have e2:(ms.getD i default)=ms[i]:=by simp[Zk,hi']
   refine⟨ms[i],by simp[hi'],?_,?_⟩
   ·have:=hk i hi;rwa[e2] at this
   ·have:=hv i hi
    rw[e2] at this
    exact(this.mono (hr.new_ext (O:= λ_=>True) hal).bare)
def Ctx.fixM (C:Ctx) (b:Nat):Ctx:={C with B:= λk=>C.B k∨k=b}
theorem Rel.freezeM {s b:Nat} {q:Bool} {es:List (Value×AV)} {bo:Option (List Nat×Nat)} (h:Rel G w0 C H w) (hl:Aq H s=some (.map q es bo)) (hp:C.π s=some (some (b,0))):Rel G w0 (C.fixM b) (cut H s) w∧Ext w0.own C w (C.fixM b) w:=by
 have hown:=h.own s _ b 0 hl hp
 have e:Ext w0.own C w (C.fixM b) w:=⟨λ_ _=>rfl,λ_ _ h=>h,λ_ _ _=>rfl,λ_ h=> .inl h,λ_ _=>rfl,λ_ a _ f h=>⟨a,f,h,rfl⟩,λ_ _ h=> .inl h,λk h=>by rcases h with h|h;exact .inl h;exact .inr (h▸hown.1),OV _⟩
 have hsub:∀t x,Aq (cut H s) t=some x→t≠s∧Aq H t=some x:= λt x hx=>by
  by_cases ht:t=s
  ·subst ht;rw[KO] at hx;cases hx
  ·rw[Ol ht] at hx;exact⟨ht,hx⟩
 refine⟨⟨h.glob.mono e,h.below,λt x hx=>h.lt t x (hsub t x hx).2,λt x hx=>(h.rows t x (hsub t x hx).2).mono e (λ_ _ _=>rfl),?_,?_,h.fin,?_,?_⟩,e⟩
 ·intro t x k o' hx hpk
  have hk:=h.own t x k o' (hsub t x hx).2 hpk
  refine⟨hk.1,hk.2.1,λhB=> ?_⟩
  rcases hB with hB|hB
  ·exact hk.2.2 hB
  ·subst hB
   exact(hsub t x hx).1 (h.sep t s x _ _ _ _ (hsub t x hx).2 hl hpk hp)
 ·intro t t' x x' k o1 o2 hx hx' hpk hpk'
  exact h.sep t t' x x' k o1 o2 (hsub t x hx).2 (hsub t' x' hx').2 hpk hpk'
 ·intro k hB
  rcases hB with hB|hB
  ·exact h.finB k hB
  ·subst hB
   exact(h.rows s _ hl).block (λe=>by cases e) hp
 ·intro k hk
  rw[cut,BY] at hk
  exact h.nx k hk
theorem A98 {mt kt et:TypeId} {m:AV} {ym:Value} {K:KV} (hu:P.underlying mt=some (.map kt et)) (hr:Rel G w0 C H w) (hm:VRel C w m ym) (h:A07 m H K=some r):
 ∃v H' y C' w',K v H'=some r∧(Instr.range mt ym).run P w= .ok y w'∧J9 G w0 C w v H' y C' w':=by
 unfold A07 at h
 split at h
 ·exact Zp hu hr hm h
 ·rw[BZ] at h
  have hym:=AI.1 hm
  subst hym
  have hal:=LD w (.mapIter none 0 #[] 0)
  exact⟨_,_,.pointer (some ⟨w.heap.size,0,none⟩),_,w.alloc (.mapIter none 0 #[] 0),h,run_range_nilMap w mt kt et hu,.it (C.put_n _ _),hr.new_row hal ⟨w.heap.size,none,0,#[],0,C.put_n _ _,World.alloc_heap_new _ _,.inl ⟨rfl,rfl,rfl⟩⟩,hr.new_ext hal⟩
 ·rename_i s
  obtain⟨x,hl,h1⟩:=Hd rfl h
  obtain⟨es,bo,rfl,h2⟩:=Px h1
  obtain⟨hc,h3⟩:=Bw h2
  obtain⟨b,ms,clock,rfl,hp,hb,hok,he, -⟩:=Y6 hr hl hm
  rw[Dm] at h3
  obtain⟨hr',e'⟩:=hr.freezeM hl hp
  have hme:VRel (C.fixM b) w (.imap es) (.map (some b)):=by
   refine .imap ms (.inr rfl) hb (by rw[←he.1];simp) (λi hi=> ?_) (λi j hij hj=> ?_) (λi hi=> ?_) (λi hi=> ?_)
   ·obtain⟨m,h4,h5, -⟩:=he.2 i _ (Kq hi)
    have h4':ms[i]?=some m:=by simpa using h4
    simp[Zk,h4',h5]
   ·have hj':j<ms.size:=by have:=he.1;simp at this;omega
    have hi':i<ms.size:=by omega
    have:=(l20.1 hok.born) i j (by simpa using hi') (by simpa using hj') hij
    simpa [Zk,hi',hj'] using this
   ·have hi':i<ms.size:=by have:=he.1;simp at this;omega
    have:=hok.lt ms[i] (by simp)
    simpa [Zk,hi'] using this
   ·obtain⟨m,h4, -,h6⟩:=he.2 i _ (Kq hi)
    have h4':ms[i]?=some m:=by simpa using h4
    have h7:(ms.getD i default)=m:=by simp[Zk,h4']
    rw[h7]
    have h8:=VRel.down (C:=C) (C':=C.bare) rfl rfl 3 _ _ (HB.1 hc _ (QE hi)) h6
    exact h8.mono e'.bare
  obtain⟨v,H',y,C',w',g1,g2,g3⟩:=Zp hu hr' hme h3
  exact⟨v,H',y,C',w',g1,g2,g3.1,g3.2.1,e'.trans g3.2.2⟩
 ·cases h
theorem B1E {l:List MapEntry} (h:l.Pairwise λa b=>a.born≠b.born):∀(j:Nat) (e:MapEntry),l[j]?=some e→l.filter (λx=>decide (x.born≠e.born))=l.eraseIdx j:=by
 induction l with
 |nil=>intro j e he;simp at he
 |cons a l ih=>
  intro j e he
  rw[l2k] at h
  cases j with
  |zero=>
   simp at he
   subst he
   rw[l2h,if_neg (by simp),List.eraseIdx_cons_zero,List.filter_eq_self]
   intro x hx
   have:=h.1 x hx
   simpa using λe=>this e.symm
  |succ j=>
   have he:l[j]?=some e:=by simpa using he
   rw[l2h,if_pos (by have:=h.1 e (l1h he);simpa using this),List.eraseIdx_cons_succ,ih h.2 j e he]
theorem A6j (w:World) (n:Nat) (hn:0<n):∃(j:Nat) (w1:World),j<n∧w1.heap=w.heap∧w1.os=w.os∧w1.tape=w.tape∧w1.output=w.output∧(choose (.mapNext n)).run P w= .ok j w1:=by
 by_cases hf:n≤1
 ·exact⟨0,w,hn,rfl,rfl,rfl,rfl,by simp[choose,Sem.run,Question.forced,hf]⟩
 ·exact⟨_,w.drew,Nat.mod_lt _ hn,rfl,rfl,rfl,rfl,by
   simp only[choose,Sem.run,Question.forced,decide_eq_true_eq,hf,if_false,Question.cut]
   rfl⟩
theorem Below.of_heap {w w1:World} (h:w1.heap=w.heap) (ho:w1.os=w.os) (ht:w1.tape=w.tape) (hp:w1.output=w.output):Below w.heap.size w w1:=
 ⟨ho,ht,hp,by rw[h];exact OV _,λ_ _=>by rw[h]⟩
theorem A9a {ty:TypeId} {it:AV} {y:Value} {K:KV} (hr:Rel G w0 C H w) (hv:VRel C w it y) (h:A08 it H K=some r):
 ∃v H' z w',K v H'=some r∧(Instr.next y false ty).run P w= .ok z w'∧J9 G w0 C w v H' z C w':=by
 unfold A08 at h
 split at h
 ·rename_i s
  obtain⟨x,hl,h1⟩:=Hd rfl h
  clear h
  unfold B0f at h1
  split at h1
  ·rename_i l lst0
   cases hv with
   |@it _ _ _ b base hp=>
    obtain⟨b',mo,since,seen,last,g1,g2,g3⟩:=hr.rows s _ hl
    have e':=g1.symm.trans hp
    injection e' with e';injection e' with e';injection e' with e1 e2;subst e1 e2
    have hget:(getObj b').run P w= .ok (.mapIter mo since seen last) w:=by simp[getObj,Sem.run,g2]
    rcases g3 with⟨rfl,rfl,_⟩|⟨m,ms,clock,e4,e5,e6,hB,hm,hok,he,hlast⟩
    ·have h1:K (.tup [.v (.bool false)]) H=some r:=h1
     refine⟨_,_,.tuple #[.bool false],w,h1,?_,DI.2 ⟨[.bool false],rfl,.cons (.v _) .nil⟩,hr,.refl _ _ _⟩
     simp only[Instr.next]
     rw[CI,hget]
     rfl
    ·have e5:=e5.symm
     have e6:=e6.symm
     subst e4
     subst e5
     subst e6
     have hgm:(getObj m).run P w= .ok (.map ms clock) w:=l2l hm
     have hold:∀x∈ms.toList,x.born<clock:=hok.lt
     have htest:=next_test_false seen ms clock clock hold (OV _)
     have hf1:((ms.filter λe=> !seen.contains e.born).filter λx=>decide (x.born<clock))=ms.filter λe=> !seen.contains e.born:=by
      rw[Array.filter_eq_self]
      intro x hx
      have:=hold x (by simp at hx⊢;exact hx.1)
      simpa using this
     have hf2:((ms.filter λe=> !seen.contains e.born).filter λx=>decide (x.born≥clock))= #[]:=by
      rw[Array.filter_eq_empty_iff]
      intro x hx
      have:=hold x (by simp at hx⊢;exact hx.1)
      simp
      omega
     obtain⟨L,hL⟩:∃L,L=ms.filter λe=> !seen.contains e.born:=⟨_,rfl⟩
     rw[←hL] at hf1 hf2
     have hLl:L.toList=ms.toList.filter λe=> !seen.contains e.born:=by rw[hL,Array.toList_filter]
     rw[←hLl] at he
     have hpre:∀(res:Result Value),(do
      let x←choose (.mapNext ((if L.isEmpty then #[none] else #[])++L.map some).size)
      match((if L.isEmpty then #[none] else #[])++L.map some)[x]? with
      |some (some e)=>do
       setObj b' (.mapIter (some m) clock (seen.push e.born) clock)
       pure (.tuple #[.bool true,e.key,e.val])
      |some none=>pure (.tuple #[.bool false])
      |none=>stuck "Next: no such candidate" :Sem Value).run P w=res→(Instr.next (.pointer (some ⟨b',0,none⟩)) false ty).run P w=res:=by
      intro res hres
      unfold Instr.next
      simp only
      rw[CI,hget]
      simp only[EO]
      rw[CI,hgm]
      simp only[EO,htest,l0z,if_false,←hL,hf1,hf2,Array.append_empty]
      exact hres
     cases l with
     |nil=>
      have h1:K (.tup [.v (.bool false)]) H=some r:=h1
      have hLe:L= #[]:=by
       have:=he.nil_inv
       exact Array.toList_inj.1 (by simpa using this)
      refine⟨_,_,.tuple #[.bool false],w,h1,hpre _ ?_,DI.2 ⟨[.bool false],rfl,.cons (.v _) .nil⟩,hr,.refl _ _ _⟩
      subst hLe
      simp[choose,Sem.run,Question.forced]
     |cons e0 l0=>
      have h1:OH (λe rest=>LL H s (.iter rest (some e)) λH'=>K (.tup [.v (.bool true),ofV e.1,e.2]) H') (e0::l0) []=some r:=h1
      have hlen:L.size=(e0::l0).length:=by have:=he.1;simpa using this
      have hne:L.isEmpty=false:=by simp[Array.isEmpty,hlen]
      obtain⟨j,w1,hj,a1,a2,a3,a4,hch⟩:=A6j (P:=P) w L.size (by rw[hlen];simp)
      have hjl:j<(e0::l0).length:=by rw[←hlen];exact hj
      have hpick:=A6B _ _ h1 j _ (Kq hjl)
      simp only[List.nil_append,Dm] at hpick
      obtain⟨me,hme,hkey,hval⟩:=he.2 j _ (Kq hjl)
      have hLj:L[j]?=some me:=by simpa using hme
      have hb1:w1.heap[b']?=some (.mapIter (some m) clock seen clock):=by rw[a1];exact g2
      have hlt:b'<w1.heap.size:=(l1q.1 hb1).1
      have hbel:=Below.of_heap a1 a2 a3 a4
      have hr1:=hr.of_below hbel
      have ex1:Ext w0.own C w C w1:=hr.ext_below hbel
      have hso:SameObj w1 (w1.putObj b' (.mapIter (some m) clock (seen.push me.born) clock)) b' (.mapIter (some m) clock (seen.push me.born) clock):=SameObj.putObj hlt _
      have hmb:m≠b':= λe=>by subst e;rw[hm] at g2;cases g2
      have hfl:(ms.toList.filter λx=> !(seen.push me.born).contains x.born)=L.toList.eraseIdx j:=by
       rw[←B1E (l:=L.toList) (by rw[hLl];exact hok.born.filter _) j me hme,hLl,List.filter_filter]
       apply List.filter_congr
       intro x _
       rw[Array.contains_push]
       by_cases hx:x.born=me.born<;>simp[hx]
      obtain⟨hr2,ex2⟩:=hr1.set_obj (O:=w0.own) (y:= .iter ((e0::l0).eraseIdx j) (some (e0::l0)[j])) hl hp hso (λarr T fz hc=>by rw[hb1] at hc;cases hc) (λex=>by
       refine⟨b',some m,clock,seen.push me.born,clock,hp,hso.here,.inr ⟨m,ms,clock,rfl,rfl,rfl,hB,(hso.others m hmb).trans (by rw[a1];exact hm),hok,?_,?_⟩⟩
       ·rw[hfl]
        exact(he.mono (ex1.trans ex.weak).bare).eraseIdx j
       ·refine⟨me,?_,Array.back?_push,hkey,hval.mono (ex1.trans ex.weak).bare⟩
        have:=l1h hme
        rw[hLl] at this
        exact(List.mem_filter.1 this).1)
      refine⟨_,_,.tuple #[.bool true,me.key,me.val],_,hpick,hpre _ ?_,DI.2 ⟨[.bool true,me.key,me.val],rfl,.cons (.v _) (.cons ?_ (.cons ?_ .nil))⟩,hr2,ex1.trans ex2⟩
      ·rw[hne]
       simp only[l0z,if_false,Array.empty_append,Array.size_map]
       rw[CI,hch]
       simp only[EO,Array.getElem?_map,hLj,l0x]
       rw[CI]
       have:(setObj b' (.mapIter (some m) clock (seen.push me.born) clock)).run P w1= .ok () (w1.putObj b' (.mapIter (some m) clock (seen.push me.born) clock)):=by simp[setObj,Sem.run,hb1,World.putObj]
       rw[this]
       rfl
      ·rw[hkey];exact WY _
      ·exact((hval.up rfl rfl).mono (ex1.trans ex2))
  ·cases h1
 ·cases h
theorem A9e {it:AV} {y:Value} {K:AV→Aj} (hr:Rel G w0 C H w) (hv:VRel C w it y) (h:A3k it H K=some r):
 ∃v z,K v=some r∧(Instr.entry y).run P w= .ok z w∧VRel C w v z:=by
 unfold A3k at h
 split at h
 ·rename_i s
  obtain⟨x,hl,h1⟩:=Hd rfl h
  clear h
  unfold B4k at h1
  split at h1
  ·rename_i left p
   cases hv with
   |@it _ _ _ b base hp=>
    obtain⟨b',mo,since,seen,last,g1,g2,g3⟩:=hr.rows s _ hl
    have e':=g1.symm.trans hp
    injection e' with e';injection e' with e';injection e' with e1 e2;subst e1 e2
    have hget:(getObj b').run P w= .ok (.mapIter mo since seen last) w:=by simp[getObj,Sem.run,g2]
    rcases g3 with⟨_,_,e9⟩|⟨m,ms,clock,e4,e5,e6,hB,hm,hok,he,me,k1,k2,k3,k4⟩
    ·cases e9
    ·subst e4
     have hgm:(getObj m).run P w= .ok (.map ms clock) w:=l2l hm
     have hf:ms.find? (·.born==me.born)=some me:=by
      rw[←Array.find?_toList]
      exact find_born me ms.toList (by rw[List.nodup_iff_pairwise_ne,List.pairwise_map];exact hok.born) k1
     refine⟨_,.tuple #[me.key,me.val],h1,?_,DI.2 ⟨[me.key,me.val],rfl,.cons (by rw[k3];exact WY _) (.cons (k4.up rfl rfl) .nil)⟩⟩
     simp only[Instr.entry]
     rw[CI,hget]
     simp only[EO,k2]
     rw[CI,hgm]
     simp[e6,hf]
  ·cases h1
 ·cases h
end
section
variable {P:Program} {G:Gl} {w0:Base} {C:Ctx} {H:Hp} {w:World} {r:AV×Hp}
theorem Rel.set_row (h:Rel G w0 C H w) {s:Nat} {x y:Row} (hl:Aq H s=some x) (hy:QA C w s y):Rel G w0 C (upd H s y) w:=by
 have key:∀t z,Aq (upd H s y) t=some z→(t=s∧z=y)∨(t≠s∧Aq H t=some z):= λt z hz=>by
  by_cases hts:t=s
  ·subst hts
   rw[Ed hl] at hz
   exact .inl ⟨rfl,(Xi hz).1.symm⟩
  ·rw[Ap hts] at hz;exact .inr ⟨hts,hz⟩
 have old:∀t z,Aq (upd H s y) t=some z→∃z',Aq H t=some z':= λt z hz=>by
  rcases key t z hz with⟨rfl,_⟩|⟨_,h⟩
  ·exact⟨x,hl⟩
  ·exact⟨z,h⟩
 refine⟨h.glob,h.below,?_,?_,?_,?_,h.fin,h.finB,λk hk=>h.nx k (by rw[BY] at hk;exact hk)⟩
 ·intro t z hz
  obtain⟨z',hz'⟩:=old t z hz
  exact h.lt t z' hz'
 ·intro t z hz
  rcases key t z hz with⟨rfl,rfl⟩|⟨_,hz⟩
  ·exact hy
  ·exact h.rows t z hz
 ·intro t z k o1 hz hk
  obtain⟨z',hz'⟩:=old t z hz
  exact h.own t z' k o1 hz' hk
 ·intro t t' z z' k o1 o2 hz hz' hk hk'
  obtain⟨u,hu⟩:=old t z hz
  obtain⟨u',hu'⟩:=old t' z' hz'
  exact h.sep t t' u u' k o1 o2 hu hu' hk hk'
theorem Laid.take {s:Nat} {q:Bool} {T:TypeId} {cs:List AV} {b base:Nat} {arr:Array Value} {fz:Nat×Nat} (h:Laid C w s q T cs b base arr fz) (n:Nat):Laid C w s false T (cs.take n) b base arr fz:=
 ⟨h.at_,h.block,h.free,by have:=h.fits;rw[l0g];omega,by
  have:=h.vals.unsel.take n
  rw[List.take_take] at this
  rw[l0g]
  exact this,λh=>by cases h⟩
theorem QA.take {s:Nat} {q:Bool} {T:TypeId} {cs:List AV} (h:QA C w s (.cells q T cs)) (n:Nat):QA C w s (.cells false T (cs.take n)):=by
 rcases h with⟨rfl,h⟩|⟨b,base,arr,fz,h⟩
 ·exact .inl ⟨by simp,h⟩
 ·exact .inr ⟨b,base,arr,fz,h.take n⟩
def B2X (s:AV) (H:Hp) (K:Hp→Aj):Aj:=
 match s with
 | .sl sz r o n=>JL H r λx=>Ky x λE cs=>GP cs 0 λcl=>@Bool.rec (λ_=>Aj) (Ot (Nat.add o (Nat.mul n sz)) cs λcs'=>LL H r (.cells false E cs') K) (K H) (Nat.beq (Nat.add o (Nat.mul n sz)) cl)
 |_=>K H
theorem A8a {s:AV} {K:Hp→Aj} (h:B2X s H K=some r):∃H1,K H1=some r∧A2 H1=A2 H∧∀{G:Gl} {w0:Base} {C:Ctx} {w:World},Rel G w0 C H w→Rel G w0 C H1 w:=by
 unfold B2X at h
 split at h
 ·rename_i sz r1 o n
  obtain⟨q,E,cs,hl,h1⟩:=JT h
  rw[Co,KF] at h1
  cases hb:Nat.beq (Nat.add o (Nat.mul n sz)) cs.length
  ·rw[hb] at h1
   simp only[KR,Dm] at h1
   exact⟨_,h1,BY _ _ _,λhr=>hr.set_row hl ((hr.rows _ _ hl).take _)⟩
  ·rw[hb] at h1
   exact⟨H,h1,rfl,λhr=>hr⟩
 ·exact⟨H,h,rfl,λhr=>hr⟩
def DN (e:TypeId) (esz:Nat) (ie i2:TI) (s x:AV) (H:Hp) (K:KV):Aj:=B2X s H λH1=>TR e esz ie i2 s x H1 K
def B1Y (esz:Nat) (dst src:AV) (H:Hp) (K:KV):Aj:=
 UV H src λm ys=>GP ys 0 λk=>match dst with
  | .sl sz r o n=>ck (Nat.beq k (Nat.mul m esz)&&(Nat.beq sz esz&&(Nat.blt 0 n&&(Nat.ble m n&&(PZ ys&&Uh esz src))))) (JL H r λx=>A1a x λq E cs=>E8 o ys cs λcs'=>LL H r (.cells q E cs') λH'=>K (.v (.int .i64 (.ofNat m))) H')
  |_=>none
def A7l (esz:Nat) (ie:TI) (dst:AV) (H:Hp) (K:Hp→Aj):Aj:=
 match dst with
 | .v (.slice none 0 0)=>K H
 | .sl _ _ _ 0=>K H
 | .sl sz r o n=>Hi ie.zero λz=>GP z 0 λk=>ck (Nat.beq k esz&&(Nat.beq sz esz&&PZ z)) (UQ n z λys=>JL H r λx=>A1a x λq E cs=>E8 o ys cs λcs'=>LL H r (.cells q E cs') K)
 |_=>none
def A7b (n esz:Nat) (x:AV) (lo hi:Option AV) (H:Hp) (K:AV→Aj):Aj:=
 match x with
 | .ptr s p k=>JL H s λy=>Ky y λ_ cs=>GP cs 0 λcl=>ck (Nat.ble (Nat.add (Nat.add p k) (Nat.mul n esz)) cl)
  (Sj lo 0 λl=>Sj hi n λh=>ck (Nat.ble l h&&Nat.ble h n) (fN (Nat.add (Nat.add p k) (Nat.mul l esz)) λo'=>fN (Nat.sub h l) λm=>K (.sl esz s o' m)))
 |_=>none
def UY (ks:List LK) (op:BinOp) (a b:AV) (K:AV→Aj):Aj:=
 match a,b with
 | .agg aZ,.agg bs=>Zm aZ λxs=>Zm bs λys=>ck (fits ks xs) (match Ve xs ys,op with
  |some q,.eql=>bB q K
  |some q,.neq=>bB (!q) K
  |_,_=>none)
 |_,_=>none
def A09 (i ie:TI) (op:BinOp) (a b:AV) (K:AV→Aj):Aj:=
 match a,b with
 | .ptr r p k,.ptr r' p' k'=>ck (Nat.beq r r'&&(Nat.beq (Nat.add p k) (Nat.add p' k')&& !Nat.beq ie.size 0)) (match op with| .eql=>K (.v (.bool true))| .neq=>K (.v (.bool false))|_=>none)
 |a,b=>Ak i op a b K
theorem A3z {s o:Nat} {q:Bool} {E:TypeId} {cs ys:List AV} {b base:Nat} {arr:Array Value} {fz:Nat×Nat} {vs:List Value} (hr:Rel G w0 C H w) (hl:Aq H s=some (.cells q E cs)) (hd:Laid C w s q E cs b base arr fz) (hfit:o+ys.length≤cs.length) (hv:Cj C w ys vs) (hone:ys.all AV.one=true):
 ∃w',(storeCells ⟨b,base+o,none⟩ vs 0).run P w= .ok () w'∧Rel G w0 C (upd H s (.cells q E (splice cs o ys))) w'∧Ext w0.own C w C w':=by
 have hf:=hd.fits
 have hlen:vs.length=ys.length:=hv.1
 obtain⟨w',hrun,hs⟩:=Lm (P:=P) vs w arr (base+o) 0 hd.block hd.free (by omega) (A6L hv hone)
 have:=hr.store (O:=w0.own) hl hd hfit hv (by simpa using hs)
 exact⟨w',hrun,this.1,this.2⟩
theorem A8k {sz s o n:Nat} {y:Value} {q:Bool} {E:TypeId} {cs:List AV} (hr:Rel G w0 C H w) (hl:Aq H s=some (.cells q E cs)) (hv:VRel C w (.sl sz s o n) y) (hn:n≠0):∃b base arr fz cap,y= .slice (some ⟨b,base+o,none⟩) n cap∧n≤cap∧Laid C w s q E cs b base arr fz∧base+o+cap*sz≤arr.size:=by
 cases hv with
 |slz=>exact absurd rfl hn
 |@sl _ _ _ _ _ _ b base cap arr T fz hp hcap hb hsz=>
  rcases hr.rows s _ hl with⟨_,h6⟩|⟨b',base',arr',fz',hd⟩
  ·rw[h6] at hp;cases hp
  ·have e':=hd.at_.symm.trans hp
   injection e' with e';injection e' with e';injection e' with e1 e2;subst e1 e2
   have e3:=hd.block.symm.trans hb
   injection e3 with e3;injection e3 with e4 e5 e6
   subst e4 e5 e6
   exact⟨b',base',arr',fz',cap,rfl,hcap,hd,hsz⟩
theorem A9f {T:Ty} (hT:XT P T) {dt ty e:TypeId} {esz:Nat} {i:TI} {ts:Array TypeId} {dst src:AV} {y z:Value} {K:KV} (hts:ts[0]?=some dt) (hi:T dt=some i) (hd:i.d= .slice e esz) (hne:esz≠0) (hr:Rel G w0 C H w) (hv:VRel C w dst y) (hs:VRel C w src z) (h:B1Y esz dst src H K=some r):
 ∃v H' u w',K v H'=some r∧(Builtin.copy_ ts ty #[y,z]).run P w= .ok u w'∧J9 G w0 C w v H' u C w':=by
 unfold B1Y at h
 obtain⟨m,ys,q0,hsrc,h1⟩:=YQ h
 rw[Co,KF] at h1
 split at h1
 ·rename_i sz s o n
  obtain⟨hc,h2⟩:=Bw h1
  simp only[Jm,l13,UK,XQ,Gg] at hc
  obtain⟨c1,c2,c3,c4,c5,c6⟩:=hc
  obtain⟨q,E,cs,hl,h3⟩:=Vm h2
  obtain⟨hfit,h4⟩:=ME _ _ _ _ _ h3
  rw[Dm] at h4
  obtain⟨b,base,arr,fz,cap,rfl,hcap,hd',hsz⟩:=A8k hr hl hv (by omega)
  obtain⟨hlen,vs,hvs,hfirst⟩:=Wr (P:=P) (esz:=esz) hr hs hsrc c1 (λq hq=>by subst hq;exact VC c6)
  obtain⟨w',hrun,hrel,hex⟩:=A3z (P:=P) hr hl hd' hfit hvs c5
  obtain⟨hu,hce⟩:=(hT dt i hi).elem_slice hd
  have hsize:(sizeOf e).run P w= .ok esz w:=by rw[←hce];exact BF w (by rw[hce];exact hne)
  refine⟨_,_,goInt m,w',h4,?_,.v _,hrel,hex⟩
  unfold Builtin.copy_
  simp only[hts,l10,l1w,l0q]
  rw[CI,run_underlying hu w]
  simp only[EO]
  rw[CI,hlen]
  simp only[EO]
  rw[CI,hsize]
  simp only[EO]
  have hmin:Nat.min m n=m:=l1x c4
  rw[CI,hmin,hfirst w (λ_ _=>rfl)]
  simp only[EO]
  rw[CI,hrun]
  rfl
 ·cases h1
theorem A9h {T:Ty} (hT:XT P T) {dt ty e:TypeId} {esz:Nat} {i ie:TI} {ts:Array TypeId} {dst:AV} {y:Value} {K:Hp→Aj} (hts:ts[0]?=some dt) (hi:T dt=some i) (hd:i.d= .slice e esz) (hie:T e=some ie) (hr:Rel G w0 C H w) (hv:VRel C w dst y) (h:A7l esz ie dst H K=some r):
 ∃H' w',K H'=some r∧(Builtin.clear_ ts ty #[y]).run P w= .ok (.tuple #[]) w'∧Rel G w0 C H' w'∧Ext w0.own C w C w':=by
 obtain⟨hu,hce⟩:=(hT dt i hi).elem_slice hd
 have hz:∀{a:Option Addr} {c:Nat},(Builtin.clear_ ts ty #[.slice a 0 c]).run P w= .ok (.tuple #[]) w:=by
  intro a c
  unfold Builtin.clear_
  simp only[hts,l10,l1w]
  rw[CI,run_underlying hu w]
  simp only[EO]
  cases a<;>rfl
 unfold A7l at h
 split at h
 ·obtain rfl:=AI.1 hv
  exact⟨H,w,h,hz,hr,.refl _ _ _⟩
 ·cases hv with
  |slz=>exact⟨H,w,h,hz,hr,.refl _ _ _⟩
  |sl=>exact⟨H,w,h,hz,hr,.refl _ _ _⟩
 ·rename_i sz s o n hn0
  rw[CQ,Co,KF] at h
  obtain⟨hc,h2⟩:=Bw h
  simp only[Jm,l13,Gg] at hc
  obtain⟨c1,c2,c3⟩:=hc
  rw[UP] at h2
  obtain⟨q,E,cs,hl,h3⟩:=Vm h2
  obtain⟨hfit,h4⟩:=ME _ _ _ _ _ h3
  rw[Dm] at h4
  have hn:n≠0:= λe=>hn0 e
  obtain⟨b,base,arr,fz,cap,rfl,hcap,hd',hsz⟩:=A8k hr hl hv hn
  obtain⟨z,hzv,ez⟩:=(hT e ie hie).run_zero w
  have hz0:Cj C w (B8 ie.zero) z.cells.toList:=Nh (t:=e) ez
  have hzz:Cj C w (Uk n (B8 ie.zero)) ((List.range n).flatMap λ_=>z.cells.toList):=by rw[XA9];exact Vs hz0 n
  have hone:(Uk n (B8 ie.zero)).all AV.one=true:=by
   rw[XA9,List.all_flatMap]
   simp[c3]
  obtain⟨w',hrun,hrel,hex⟩:=A3z (P:=P) hr hl hd' hfit hzz hone
  refine⟨_,w',h4,?_,hrel,hex⟩
  obtain⟨n,rfl⟩:∃k,n=k+1:=⟨n-1,by omega⟩
  unfold Builtin.clear_
  simp only[hts,l10,l1w]
  rw[CI,run_underlying hu w]
  simp only[EO]
  have hzc:(Builtin.zeroCells z.cells (n+1)).toList=(List.range (n+1)).flatMap λ_=>z.cells.toList:=congrArg Array.toList (Wz z.cells (n+1))
  rw[CI,hzv]
  simp only[EO,hzc]
  rw[CI,hrun]
  rfl
 ·cases h
theorem A95 {T:Ty} (hT:XT P T) {ty e:TypeId} {n esz:Nat} {i:TI} {x:AV} {lo hi:Option AV} {y:Value} {yl yh:Option Value} {K:AV→Aj} (hi':T ty=some i) (hd:i.d= .array n e esz) (hne:esz≠0) (hr:Rel G w0 C H w) (hv:VRel C w x y) (hlo:A5A C w lo yl) (hhi:A5A C w hi yh) (h:A7b n esz x lo hi H K=some r):
 ∃v u,K v=some r∧(Instr.sliceAt ty y yl yh none).run P w= .ok u w∧VRel C w v u:=by
 unfold A7b at h
 split at h
 ·rename_i s p k
  obtain⟨q,E,cs,hl,h1⟩:=JT h
  rw[Co,KF] at h1
  obtain⟨hc,h2⟩:=Bw h1
  obtain⟨l,hbl,h3⟩:=HG h2
  obtain⟨m,hbm,h4⟩:=HG h3
  obtain⟨hb,h5⟩:=Bw h4
  rw[Di,Di] at h5
  simp only[Jm,XQ] at hb
  rw[XQ] at hc
  have hc:p+k+n*esz≤cs.length:=hc
  obtain⟨hu,hce⟩:=(hT ty i hi').elem_array hd
  have hsize:(sizeOf e).run P w= .ok esz w:=by rw[←hce];exact BF w (by rw[hce];exact hne)
  have hbr:=Q7 (P:=P) (isS:=false) hlo hhi (mx:=none) (ym:=none) trivial (OV n) hbl hbm (x:=n) (by simp[Vx]) (by omega) (by simp)
  cases hv with
  |@ptr _ _ _ _ _ b base hp=>
   rcases hr.rows s _ hl with⟨_,h6⟩|⟨b',base',arr',fz',hd'⟩
   ·have:=h6.symm.trans hp;cases this
   ·have e':=hd'.at_.symm.trans hp
    injection e' with e';injection e' with e';injection e' with e1 e2;subst e1 e2
    have hf:=hd'.fits
    have hrun:(Instr.sliceAt ty (.pointer (some ⟨b',base'+(p+k),none⟩)) yl yh none).run P w= .ok (.slice (some (if n=l then⟨b',base'+(p+k),none⟩ else⟨b',base'+(p+k)+l*esz,none⟩)) (m-l) (n-l)) w:=by
     unfold Instr.sliceAt
     rw[CI,run_underlying hu w]
     simp only[EO,Instr.sureAddr]
     rw[CI,Y9]
     simp only[EO]
     rw[CI,hbr]
     simp only[EO,XP]
     rw[CI,hsize]
     simp only[EO,Y9,I7]
    refine⟨_,_,h5,hrun,?_⟩
    by_cases hnl:n=l
    ·have hml:m-l=0:=by omega
     have hnl':n-l=0:=by omega
     rw[if_pos hnl,hml,hnl']
     have:Nat.sub m l=0:=hml
     rw[this]
     exact .slz (by rw[hp];simp)
    ·rw[if_neg hnl]
     have e4:base'+(p+k)+l*esz=base'+(Nat.add (Nat.add p k) (Nat.mul l esz)):=by show _=base'+(p+k+l*esz);omega
     rw[e4]
     refine .sl hp (Nat.sub_le_sub_right hb.2 l) hd'.block ?_
     show base'+(p+k+l*esz)+(n-l)*esz≤arr'.size
     have:l*esz+(n-l)*esz=n*esz:=by rw[←l19];congr 1;omega
     omega
 ·cases h
theorem A9d {t:TypeId} {ks:List LK} {op:BinOp} {a b:AV} {y z:Value} {K:AV→Aj} (x1 x2:Operand) (hf:EqFlat P t ks) (ha:VRel C w a y) (hb:VRel C w b z) (h:UY ks op a b K=some r):
 ∃v u,K v=some r∧(do eqGuard op t x1 x2 y z;binOp op t y z).run P w= .ok u w∧VRel C w v u:=by
 unfold UY at h
 split at h
 ·rename_i aZ bs
  obtain⟨xs,rfl,h1⟩:=Wl _ _ h
  obtain⟨ys,rfl,h2⟩:=Wl _ _ h1
  obtain⟨hx,h3⟩:=Bw h2
  have hy:=A0U ha
  have hz:=A0U hb
  subst hy hz
  have hg:=run_eqGuard_agg (P:=P) w op t x1 x2 xs.toArray ys.toArray hf.guard
  split at h3
  ·rename_i q hq
   rw[MT] at h3
   obtain⟨e1,e2⟩:=Sq hq
   refine⟨_,.bool q,h3,?_,.v _⟩
   rw[CI,hg]
   simp only[EO]
   rw[run_eql_struct]
   have:=hf.equal hx (e2 ks hx) w
   have e3:decide (xs=ys)=q:=by rw[l0w,e1];simp
   rw[e3] at this
   have e4:(Op.equalIn 10000 t (.agg xs.toArray) (.agg ys.toArray)).run P w= .ok q w:=this
   rw[e4];rfl
  ·rename_i q hq
   rw[MT] at h3
   obtain⟨e1,e2⟩:=Sq hq
   refine⟨_,.bool (!q),h3,?_,.v _⟩
   rw[CI,hg]
   simp only[EO]
   rw[run_neq_struct]
   have:=hf.equal hx (e2 ks hx) w
   have e3:decide (xs=ys)=q:=by rw[l0w,e1];simp
   rw[e3] at this
   have e4:(Op.equalIn 10000 t (.agg xs.toArray) (.agg ys.toArray)).run P w= .ok q w:=this
   rw[e4];rfl
  ·cases h3
 ·cases h
theorem A9c {T:Ty} (hT:XT P T) {ty e:TypeId} {i ie:TI} {op:BinOp} {a b:AV} {y z:Value} {K:AV→Aj} (x1 x2:Operand) (hi:T ty=some i) (hd:i.d= .pointer e) (hie:T e=some ie) (ha:VRel C w a y) (hb:VRel C w b z) (h:A09 i ie op a b K=some r):
 ∃v u,K v=some r∧(do eqGuard op ty x1 x2 y z;binOp op ty y z).run P w= .ok u w∧VRel C w v u:=by
 unfold A09 at h
 split at h
 ·rename_i s p k s' p' k'
  obtain⟨hc,h1⟩:=Bw h
  simp only[Jm,l13,l14] at hc
  obtain⟨c1,c2,c3⟩:=hc
  subst c1
  have c2:p+k=p'+k':=c2
  have hyz:y=z∧∃ad,y= .pointer (some ad):=by
   cases ha with
   |ptr hp=>
    cases hb with
    |ptr hp'=>
     have e':=hp.symm.trans hp'
     injection e' with e';injection e' with e';injection e' with e1 e2;subst e1 e2
     exact⟨by rw[c2],_,rfl⟩
  obtain⟨rfl,ad,rfl⟩:=hyz
  obtain⟨u,hu,e1⟩:=(hT ty i hi).under
  rw[hd] at e1
  have hu':u= .pointer e:=by cases u<;>simp[td] at e1;rw[e1]
  subst hu'
  obtain⟨x,z0,hx,hs,_⟩:=(hT e ie hie).info
  have heq:(Op.equal ty (.pointer (some ad)) (.pointer (some ad))).run P w= .ok true w:=by
   show(Op.equalIn (9999+1) ty _ _).run P w=_
   unfold Op.equalIn
   rw[CI,run_underlying hu w]
   simp[sizeOf,typeInfo,hx,sameAddr]
  have hg:=Zn (P:=P) (op:=op) (ty:=ty) (x:=x1) (y:=x2) (a:= .pointer (some ad)) (b:= .pointer (some ad)) w ⟨by simp,by simp⟩
  split at h1
  ·exact⟨_,.bool true,h1,by rw[CI,hg];simp[binOp,heq],.v _⟩
  ·exact⟨_,.bool false,h1,by rw[CI,hg];simp[binOp,heq],.v _⟩
  ·cases h1
 ·obtain⟨v,h1,h2⟩:=A45 (T:=T) (ty:=ty) hi h
  obtain⟨v',u,h3,h4,rfl⟩:=A0O hT x1 x2 ha hb h2
  exact⟨v',u,h1,h3,h4⟩
end
def B7K (l:List Lie) (e n o u:Nat):Bool:=@List.rec Lie (λ_=>Bool) false (λp _ ih=>@Bool.rec (λ_=>Bool) ih true (Nat.beq p.1 e&&(Nat.beq p.2.1 n&&(Nat.beq p.2.2.1 o&&Nat.beq p.2.2.2 u)))) l
def B1R (ie:TI) (v:AV) (H:Hp) (K:AV→Aj):Aj:=
 match v with
 | .ptr s p k=>JL H s λx=>Ky x λ_ cs=>GP cs 0 λcl=>ck (Nat.blt (Nat.add p k) cl&& !Nat.beq ie.size 0) (K (.ptr s p k))
 |_=>none
def B1K (l:List Lie) (u:TypeId) (v:AV) (H:Hp) (K:AV→Aj):Aj:=
 match v with
 | .ptr s p k=>JL H s λx=>A1a x λq E cs=>GP cs 0 λcl=>ck (q&&B7K l E cl (Nat.add p k) u) (K (.ptr s p k))
 |_=>none
def B4X (s:AV) (K:AV→Aj):Aj:=
 match s with
 | .sl sz r o n=>ck (Nat.beq sz 1&&Nat.blt 0 n) (K (.ptr r o 0))
 |_=>none
def B1J (e:TypeId) (p n:AV) (H:Hp) (K:KV):Aj:=
 match p with
 | .ptr s o k=>A57 n λz=>iN z λn=>JL H s λx=>Ky x λE cs=>ck (Nat.beq E e&&(Nat.blt 0 n&&Nat.blt n 9223372036854775807)) (Gs n (Dv (Nat.add o k) cs) λbs=>fu8 bs λl=>LL H s .gone λH'=>K (.v (.string ⟨⟨l⟩⟩)) H')
 |_=>none
theorem B4i {l:List Lie} {e n o u:Nat} (h:B7K l e n o u=true):(e,n,o,u)∈l:=by
 induction l with
 |nil=>cases h
 |cons p l ih=>
  have h:@Bool.rec (λ_=>Bool) (B7K l e n o u) true (Nat.beq p.1 e&&(Nat.beq p.2.1 n&&(Nat.beq p.2.2.1 o&&Nat.beq p.2.2.2 u)))=true:=h
  cases hq:(Nat.beq p.1 e&&(Nat.beq p.2.1 n&&(Nat.beq p.2.2.1 o&&Nat.beq p.2.2.2 u)))
  ·rw[hq] at h;exact List.mem_cons_of_mem _ (ih h)
  ·simp only[Jm,l13] at hq
   obtain⟨h1,h2,h3,h4⟩:=hq
   obtain⟨a,b,c,d⟩:=p
   simp only at h1 h2 h3 h4
   subst h1 h2 h3 h4
   exact List.mem_cons_self
section
variable {P:Program} {G:Gl} {w0:Base} {C:Ctx} {H:Hp} {w w':World} {r:AV×Hp}
theorem A99 {T:Ty} (hT:XT P T) {s d e:TypeId} {i ie:TI} {v:AV} {y:Value} {K:AV→Aj} (hi:T s=some i) (hd:i.d= .pointer e) (hie:T e=some ie) (hup:P.underlying d=some .unsafePointer) (hr:Rel G w0 C H w) (hv:VRel C w v y) (h:B1R ie v H K=some r):
 K v=some r∧(convert s d y).run P w= .ok y w:=by
 unfold B1R at h
 split at h
 ·rename_i t p k
  obtain⟨q,E,cs,hl,h1⟩:=JT h
  rw[Co,KF] at h1
  obtain⟨hc,h2⟩:=Bw h1
  simp only[Jm,UK,l14] at hc
  obtain⟨c1,c2⟩:=hc
  have c1:p+k<cs.length:=c1
  refine⟨h2,?_⟩
  cases hv with
  |@ptr _ _ _ _ _ b base hp=>
   rcases hr.rows t _ hl with⟨_,h6⟩|⟨b',base',arr',fz',hd'⟩
   ·have:=h6.symm.trans hp;cases this
   ·have e':=hd'.at_.symm.trans hp
    injection e' with e';injection e' with e';injection e' with e1 e2;subst e1 e2
    have hf:=hd'.fits
    obtain⟨u,hu,eu⟩:=(hT s i hi).under
    rw[hd] at eu
    have hu':u= .pointer e:=by cases u<;>simp[td] at eu;rw[eu]
    subst hu'
    obtain⟨x,z0,hx,hs,_⟩:=(hT e ie hie).info
    have hsz:x.size≠0:= λe0=>by rw[hs] at e0;rw[e0] at c2;simp at c2
    exact Lib.run_to_unsafe w ⟨b',base'+(p+k),none⟩ hu hup hx hsz (e:=E) (cells:=arr'.size) (by simp[World.shape?,hd'.block]) (by show base'+(p+k)<arr'.size;omega)
 ·cases h
theorem A93 {l:List Lie} (hlie:∀e n o u,(e,n,o,u)∈l→liesAt P P.depth e (n/P.cellsOf e) o u 1=true∧(P.info? u).isSome=true) {s d u:TypeId} {v:AV} {y:Value} {K:AV→Aj} (hup:P.underlying s=some .unsafePointer) (hd:P.underlying d=some (.pointer u)) (hr:Rel G w0 C H w) (hv:VRel C w v y) (h:B1K l u v H K=some r):
 K v=some r∧(convert s d y).run P w= .ok y w:=by
 unfold B1K at h
 split at h
 ·rename_i t p k
  obtain⟨q,E,cs,hl,h1⟩:=Vm h
  rw[Co,KF] at h1
  obtain⟨hc,h2⟩:=Bw h1
  simp only[Jm] at hc
  obtain⟨c1,c2⟩:=hc
  obtain⟨hlies,hsome⟩:=hlie _ _ _ _ (B4i c2)
  refine⟨h2,?_⟩
  cases hv with
  |@ptr _ _ _ _ _ b base hp=>
   rcases hr.rows t _ hl with⟨_,h6⟩|⟨b',base',arr',fz',hd'⟩
   ·have:=h6.symm.trans hp;cases this
   ·have e':=hd'.at_.symm.trans hp
    injection e' with e';injection e' with e';injection e' with e1 e2;subst e1 e2
    obtain⟨x1,x2⟩:=hd'.exact c1
    subst x1
    obtain⟨j,hj⟩:=Option.isSome_iff_exists.1 hsome
    refine Lib.run_from_unsafe w ⟨b',0+(p+k),none⟩ hup hd hj (e:=E) (cells:=arr'.size) (by simp[World.shape?,hd'.block]) ?_
    rw[x2,KF]
    exact hlies
 ·cases h
theorem Rel.change (h:Rel G w0 C H w) {s b base:Nat} {x:Row} (hl:Aq H s=some x) (hp:C.π s=some (some (b,base))) (ho:w'.os=w.os) (ht:w'.tape=w.tape) (hop:w'.output=w.output) (hsz:w'.heap.size=w.heap.size) (hoth:∀k,k≠b→w'.heap[k]?=w.heap[k]?)
 (hb:∀arr T fz,w.heap[b]?=some (.cells arr T fz)→∃arr' fz',w'.heap[b]?=some (.cells arr' T fz')∧arr'.size=arr.size):Rel G w0 C (cut H s) w'∧Ext w0.own C w C w':=by
 have hown:=h.own s x b base hl hp
 have e:Ext w0.own C w C w':=by
  refine⟨λ_ _=>rfl,λ_ _ h=>h,λk i h=> ?_,λ_ h=>h,λk h=>hoth k (λe=>hown.2.2 (e▸h)),λk a t f h=> ?_,λ_ _ h=> .inl h,λ_ h=> .inl h,Nat.le_of_eq hsz.symm⟩
  ·exact l0s (hoth k (λe=>hown.2.1 i (e▸h)))
  ·by_cases hk:k=b
   ·subst hk;exact hb a t f h
   ·exact⟨a,f,(hoth k hk).trans h,rfl⟩
 have hsub:∀t z,Aq (cut H s) t=some z→t≠s∧Aq H t=some z:= λt z hz=>by
  by_cases hts:t=s
  ·subst hts;rw[KO] at hz;cases hz
  ·rw[Ol hts] at hz;exact⟨hts,hz⟩
 refine⟨⟨h.glob.mono e,⟨ho.trans h.below.os,ht.trans h.below.tape,hop.trans h.below.output,by rw[hsz];exact h.below.size,λk hk hU=>(hoth k (λe=> ?_)).trans (h.below.block k hk hU)⟩,λt z hz=>h.lt t z (hsub t z hz).2,λt z hz=>(h.rows t z (hsub t z hz).2).mono e (λk base' hpk=>hoth k (λek=> ?_)),
  λt z k o hz=>h.own t z k o (hsub t z hz).2,λt t' z z' k o1 o2 hz hz'=>h.sep t t' z z' k o1 o2 (hsub t z hz).2 (hsub t' z' hz').2,λk i hF=>hsz▸h.fin k i hF,λk hB=>hsz▸h.finB k hB,λk hk=>h.nx k (by rw[cut,BY] at hk;exact hk)⟩,e⟩
 ·subst e
  rcases hown.1 with ho|ho
  ·omega
  ·exact hU ho
 ·subst ek
  exact(hsub t z hz).1 (h.sep t s z x _ _ _ (hsub t z hz).2 hl hpk hp)
theorem A3d {e:TypeId} (hc:P.cellsOf e=1) (count off n:Nat) (hn:off+n≤count):liesAt P P.depth e count off e n=true:=by
 have hd:P.depth=(2*(P.types.size+Made.depth)+1)+1:=rfl
 rw[hd]
 simp only[liesAt,l1d]
 left
 rw[hd]
 simp[rowAt,hc,hn,sameLayout,Nat.mod_one]
theorem A92 {T:Ty} (hT:XT P T) {e pt it ty:TypeId} {ipt ie:TI} {p n:AV} {y z:Value} {K:KV} (hpt:T pt=some ipt) (hd:ipt.d= .pointer e) (hie:T e=some ie) (h1c:ie.size=1) (hr:Rel G w0 C H w) (hv:VRel C w p y) (hn:VRel C w n z) (h:B1J e p n H K=some r):
 ∃v H' u w',K v H'=some r∧(Builtin.unsafeString_ #[pt,it] ty #[y,z]).run P w= .ok u w'∧J9 G w0 C w v H' u C w':=by
 unfold B1J at h
 split at h
 ·rename_i s o k
  obtain⟨kk,zz,rfl,h1⟩:=N9 h
  obtain⟨m,rfl,h2⟩:=Th h1
  obtain⟨q,E,cs,hl,h3⟩:=JT h2
  obtain⟨hc,h4⟩:=Bw h3
  simp only[Jm,l13,UK] at hc
  obtain⟨c1,c2,c3⟩:=hc
  subst c1
  obtain⟨hlen,h5⟩:=Oq _ _ _ _ h4
  rw[CE] at hlen h5
  obtain⟨ns,hns,h6⟩:=A6Y _ _ h5
  rw[Dm] at h6
  obtain rfl:=AI.1 hn
  have hok:o+k+m≤cs.length:=by
   have:m≤(cs.drop (o+k)).length:=hlen
   simp at this
   omega
  cases hv with
  |@ptr _ _ _ _ _ b base hp=>
   rcases hr.rows s _ hl with⟨_,h7⟩|⟨b',base',arr',fz',hd'⟩
   ·have:=h7.symm.trans hp;cases this
   ·have e':=hd'.at_.symm.trans hp
    injection e' with e';injection e' with e';injection e' with e1 e2;subst e1 e2
    have hf:=hd'.fits
    have hnl:ns.length=m:=by
     have:=congrArg List.length hns
     simp at this
     have:(cs.drop (o+k)).length=cs.length-(o+k):=by simp
     simp_all
    have hcell:∀j (hj:j<ns.length),w.cell? ⟨b',base'+(o+k)+j,none⟩=some (.int .u8 (ns[j]:Int)):= λj hj=>by
     have hcj:cs[o+k+j]?=some (.v (.int .u8 (ns[j]:Int))):=by
      have:=congrArg (λl=>l[j]?) hns
      simp only[l0m,l0d,l0a] at this
      rw[if_pos (by omega),Kq hj] at this
      simpa using this
     obtain⟨hi,hci⟩:=l0j.1 hcj
     obtain⟨y,hy,hvy⟩:=hd'.get _ hi
     rw[hci] at hvy
     rw[←AI.1 hvy]
     rw[←hy]
     congr 2
     omega
    obtain⟨hu,hcc⟩:P.underlying pt=some (.pointer E)∧P.cellsOf E=1:=by
     obtain⟨u,hu,eu⟩:=(hT pt ipt hpt).under
     rw[hd] at eu
     have hu':u= .pointer E:=by cases u<;>simp[td] at eu;rw[eu]
     subst hu'
     exact⟨hu,by rw[(hT E ie hie).cellsOf,h1c]⟩
    have hload:∀(ns:List Nat) (off:Nat) (acc:ByteArray),(∀j (hj:j<ns.length),w.cell? ⟨b',off+j,none⟩=some (.int .u8 (ns[j]:Int)))→
     (loadBytes ⟨b',off,none⟩ acc ns.length).run P w= .ok ⟨acc.data++(ns.map UInt8.ofNat).toArray⟩ w:=by
     intro ns
     induction ns with
     |nil=>intro off acc _;simp[loadBytes]
     |cons n ns ih=>
      intro off acc hc
      have h0:w.cell? ⟨b',off,none⟩=some (.int .u8 (n:Int)):=hc 0 (by simp)
      have ih':=ih (off+1) (acc.push (UInt8.ofNat n)) (λj hj=>by
       have:=hc (j+1) (by simpa using hj)
       simpa [Xk,Nat.add_comm 1 j] using this)
      have hx:((n:Int).toNat).toUInt8=UInt8.ofNat n:=by simp
      simp only[K9,loadBytes,CI,run_load,h0,Result.andThen,hx,I7]
      rw[ih']
      congr 1
      apply ByteArray.ext
      simp[ByteArray.push]
    have hlb:=hload ns (base'+(o+k)) .empty hcell
    rw[hnl] at hlb
    have hlies:liesAt P P.depth E (arr'.size/P.cellsOf E) (base'+(o+k)) E m=true:=A3d hcc _ _ _ (by rw[hcc,Nat.div_one];omega)
    have hch:=hr.change (w':=w.freeze ⟨b',base'+(o+k),none⟩ m) hl hp (by unfold World.freeze;split<;>rfl) (by unfold World.freeze;split<;>rfl) (by unfold World.freeze;split<;>rfl) (by unfold World.freeze;split<;>simp) (λk' hk'=>by
     unfold World.freeze
     split
     ·rfl
     ·simp only[l0r];rw[if_neg (λe=>hk' e.symm)]) (λarr T0 fz0 hb0=>by
     unfold World.freeze
     rw[if_neg (by omega)]
     simp only[l0r,if_true,hb0,l0x]
     exact⟨arr,_,rfl,rfl⟩)
    refine⟨_,_,.string ⟨⟨ns.map UInt8.ofNat⟩⟩,_,h6,?_,.v _,hch.1,hch.2⟩
    have hmax:IntKind.i64.max=9223372036854775807:=rfl
    have hdef:Builtin.unsafeString_ #[pt,it] ty #[.pointer (some ⟨b',base'+(o+k),none⟩),.int kk m]=
     (do
      let n←asInt (.int kk m)
      if n<0 then runtimePanic (.error "unsafe.String: len out of range")
      if n>IntKind.i64.max then unsupported (.unsafePointer "String: a length above the largest int")
      if n=0 then pure (.string .empty)
      else if←variablesAt ⟨b',base'+(o+k),none⟩ (←elemOf pt) n.toNat then do
       let s←loadBytes ⟨b',base'+(o+k),none⟩ .empty n.toNat
       freeze ⟨b',base'+(o+k),none⟩ n.toNat
       pure (.string s)
      else unsupported (.unsafePointer "String: not so many bytes at ptr")):=rfl
    rw[hdef]
    have hneg:¬(m:Int)<0:=by omega
    have hbig:¬(9223372036854775807:Int)<(m:Int):=by omega
    have hz:¬m=0:=by omega
    have hsh:w.shape? b'=some (E,arr'.size):=by simp[World.shape?,hd'.block]
    simp[asInt,asIntOf,hmax,hneg,hbig,hz,variablesAt,hsh,elemOf,run_underlying hu,hlies,hlb]
 ·cases h
theorem B8D {t:Tm} {N:Nat} {ro:Option Nat} {o:Oper} {c:Call} {f:FuncId} {fv:Operand} {first cap:List AV} {v:AV} {K:AV→Hp→Prop} (hf:XN P f) (ho:o.op= .call c) (hcal:c.callee= .value fv) (hfv:Kw G t fv= .fn (.func f) first cap) (ha:first++c.args.toList.map (Kw G t)++cap=[v]) (hK:K v H):Ss P G ro N o t H K:=by
 refine RB (λc hc=>by rw[ho] at hc;cases hc) λw0 s0 C N a w s=> ?_
 have hv:=AW s fv
 rw[hfv] at hv
 obtain⟨ys,zs,he,hys,hzs⟩:=HH.1 hv
 have hall:=(hys.append (A2s s c.args.toList)).append hzs
 rw[ha] at hall
 obtain⟨y,ys',e1,hvy,hl'⟩:=hall.cons_inv
 have e2:=hl'.nil_inv
 subst e2
 refine⟨v,H,y,C,w,hK,.inl ?_,hvy,s.rel,.refl _ _ _⟩
 have:(ys++c.args.toList.map a.eval++zs).toArray= #[y]:=by rw[e1]
 have hr:=hf y w
 simp only[execOp,ho,resolve,hcal,he,Deferred.ofValue,CI,Y9,EO,invoke]
 rw[←hr]
 congr 2
 rw[←this]
 apply l0c
 simp
end
end Go.Abs
end
